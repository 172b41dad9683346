/- Shown: copies, equality, marks that are held; what the law of Differ computes is true. -/
import Derived.Test.YtppenjoobcppjaaPDfx9
import Derived.Test.YtppenjoobcppjaaEv
namespace Go.Proofs.Ytppenjoobcppjaa.PDf
open Go.RowKit Go.Proofs.YtppenjoobcppjaaW.PrintWords Go.Proofs.YtppenjoobcppjaaW.PrintLast Go.Proofs.YtppenjoobcppjaaW.PrintMore Go.Proofs.Ytppenjoobcppjaa.Ev
set_option linter.unusedVariables false
set_option linter.unusedSimpArgs false

/-! ### sizes -/
theorem szShown_le (x : S127) (hx : x.f2.f2.size ≤ 9223372036854775807) (a : Int) (h0 : 0 ≤ a) (h1 : a ≤ 1048576) : ∃ r, laws_szShown.f x.f0 x.f1 x.f2.f0 x.f2.f1.f0 x.f2.f1.f1 x.f2.f1.f2 x.f2.f2 x.f3 a = some r ∧ -1 ≤ r ∧ r ≤ a := by
  unfold laws_szShown.f laws_szValue.f
  rw [wrap_id (by omega) (by omega)]
  split
  · exact ⟨-1, rfl, by omega, by omega⟩
  · rename_i hn
    simp only [Option.bind_some]
    rw [if_neg hn]
    exact ⟨_, rfl, by omega, by omega⟩
theorem szShownS_l0 (l : List S127) (hl : l.length ≤ 1048576) (hg : ∀ y ∈ l, y.f2.f2.size ≤ 9223372036854775807) : ∀ (d i : Nat) (a : Int), l.length - i = d → i ≤ l.length → 0 ≤ a → a ≤ 1048576 →
    ∃ r, Evt (fun k => laws_szShownS.l0 k l a (i : Int)) r ∧ -1 ≤ r ∧ r ≤ a := by
  intro d
  induction d with
  | zero =>
    intro i a hd hi h0 h1
    refine ⟨a, Evt.succ ?_, by omega, by omega⟩
    simp only [laws_szShownS.l0]
    exact Evt.neg (by omega) (Evt.ret _)
  | succ d ih =>
    intro i a hd hi h0 h1
    have hlt : i < l.length := by omega
    have hm : (rd_T127 l i).f2.f2.size ≤ 9223372036854775807 := by
      have : rd_T127 l i = l[i] := by simp only [rd_T127, Int.toNat_natCast]; exact getD_lt l i z127 hlt
      rw [this]
      exact hg _ (List.getElem_mem hlt)
    obtain ⟨r, hr, hr0, hr1⟩ := szShown_le (rd_T127 l i) hm a h0 h1
    have hw : wrap64 ((i : Int) + 1) = ((i + 1 : Nat) : Int) := by rw [wrap_id (by omega) (by omega)]; rfl
    by_cases hneg : r < 0
    · refine ⟨-1, Evt.succ ?_, by omega, by omega⟩
      simp only [laws_szShownS.l0, hw]
      exact Evt.pos (by omega) (Evt.pos (by omega) (Evt.bind (Evt.const hr) (Evt.pos hneg (Evt.ret _))))
    · obtain ⟨q, hq, hq0, hq1⟩ := ih (i + 1) r (by omega) (by omega) (by omega) (by omega)
      refine ⟨q, Evt.succ ?_, hq0, by omega⟩
      simp only [laws_szShownS.l0, hw]
      exact Evt.pos (by omega) (Evt.pos (by omega) (Evt.bind (Evt.const hr) (Evt.neg hneg hq)))
theorem szShownS_ev (l : List S127) (hl : l.length ≤ 9223372036854775807) (hg : ∀ y ∈ l, y.f2.f2.size ≤ 9223372036854775807) (a : Int) (h0 : 0 ≤ a) (h1 : a ≤ 1048576) :
    ∃ r, Evt (fun k => laws_szShownS.f k l a) r ∧ r ≤ a ∧ (0 ≤ r → l.length ≤ 1048576) := by
  unfold laws_szShownS.f
  rw [wrap_id (by omega) (by omega)]
  by_cases hneg : a - (l.length : Int) < 0
  · exact ⟨-1, Evt.pos hneg (Evt.ret _), by omega, by omega⟩
  · obtain ⟨r, hr, hr0, hr1⟩ := szShownS_l0 l (by omega) hg l.length 0 (a - (l.length : Int)) (by omega) (by omega) (by omega) (by omega)
    exact ⟨r, Evt.neg hneg hr, by omega, fun h => by omega⟩

/-! ### copies -/
def cvS (x : S127) : S133 := ⟨x.f0, x.f1, ⟨x.f2.f0, ⟨x.f2.f1.f0, x.f2.f1.f1, x.f2.f1.f2⟩, x.f2.f2⟩, x.f3⟩
theorem fill_step {α β : Type} (cv : α → β) (l : List α) (i : Nat) (z : α) (zb : β) (h : i < l.length) :
    (((l.take i).map cv) ++ List.replicate (l.length - i) zb).set i (cv (l.getD i z)) = ((l.take (i + 1)).map cv) ++ List.replicate (l.length - (i + 1)) zb := by
  have hlen : ((l.take i).map cv).length = i := by rw [List.length_map, List.length_take]; omega
  have := set_grow ((l.take i).map cv) (List.replicate (l.length - i) zb) (cv (l.getD i z)) (by rw [List.length_replicate]; omega)
  rw [hlen] at this
  rw [this, take_succ l i z h, List.map_append, List.drop_replicate]
  congr 2
theorem fill_length {α β : Type} (cv : α → β) (l : List α) (i : Nat) (zb : β) (h : i ≤ l.length) : (((l.take i).map cv) ++ List.replicate (l.length - i) zb).length = l.length := by
  rw [List.length_append, List.length_map, List.length_take, List.length_replicate]
  omega
theorem toShownS_l0 (l : List S127) (hl : l.length ≤ 1048576) : ∀ (d i : Nat), l.length - i = d → i ≤ l.length →
    Evt (fun k => laws_toShownS.l0 k l (((l.take i).map cvS) ++ List.replicate (l.length - i) z133) (i : Int)) (l.map cvS) := by
  intro d
  induction d with
  | zero =>
    intro i hd hi
    have : i = l.length := by omega
    subst this
    refine Evt.succ ?_
    simp only [laws_toShownS.l0]
    refine Evt.neg (by omega) ?_
    simp only [List.take_length, Nat.sub_self, List.replicate_zero, List.append_nil]
    exact Evt.ret _
  | succ d ih =>
    intro i hd hi
    have hlt : i < l.length := by omega
    have hw : wrap64 ((i : Int) + 1) = ((i + 1 : Nat) : Int) := by rw [wrap_id (by omega) (by omega)]; rfl
    refine Evt.succ ?_
    simp only [laws_toShownS.l0, laws_toShown.f, laws_toValue.f, laws_toDec.f, Option.bind_some, hw, fill_length cvS l i z133 hi, Int.toNat_natCast]
    refine Evt.pos (by omega) (Evt.pos (by omega) (Evt.pos (by omega) ?_))
    have := fill_step cvS l i z127 z133 hlt
    have e : (⟨(rd_T127 l i).f0, (rd_T127 l i).f1, ⟨(rd_T127 l i).f2.f0, ⟨(rd_T127 l i).f2.f1.f0, (rd_T127 l i).f2.f1.f1, (rd_T127 l i).f2.f1.f2⟩, (rd_T127 l i).f2.f2⟩, (rd_T127 l i).f3⟩ : S133) = cvS (l.getD i z127) := by simp [cvS, rd_T127]
    simp only [e]
    rw [this]
    exact ih (i + 1) (by omega) (by omega)
theorem toShownS_ev (l : List S127) (hl : l.length ≤ 1048576) : Evt (fun k => laws_toShownS.f k l) (l.map cvS) := by
  unfold laws_toShownS.f
  refine Evt.pos (by omega) (Evt.pos (by omega) ?_)
  rw [Int.toNat_natCast]
  simpa using toShownS_l0 l hl l.length 0 (by omega) (by omega)

/-! ### what is compared with itself -/
theorem eqShown_same (a b c : Int) (d : Bool) (e f : Int) (g : ByteArray) (h : Bool) : laws_eqShown.f a b c d e f g h a b c d e f g h = some true := by
  unfold laws_eqShown.f laws_eqValue.f laws_eqDec.f
  simp
theorem eqShownS_l0 (l : List S133) (hl : l.length ≤ 4194304) : ∀ (d i : Nat), l.length - i = d → i ≤ l.length → Evt (fun k => laws_eqShownS.l0 k l l (i : Int)) true := by
  intro d
  induction d with
  | zero =>
    intro i hd hi
    refine Evt.succ ?_
    simp only [laws_eqShownS.l0]
    exact Evt.neg (by omega) (Evt.ret _)
  | succ d ih =>
    intro i hd hi
    have hw : wrap64 ((i : Int) + 1) = ((i + 1 : Nat) : Int) := by rw [wrap_id (by omega) (by omega)]; rfl
    refine Evt.succ ?_
    simp only [laws_eqShownS.l0, hw, eqShown_same, Option.bind_some, if_true]
    exact Evt.pos (by omega) (Evt.pos (by omega) (Evt.pos (by omega) (ih (i + 1) (by omega) (by omega))))
theorem eqShownS_ev (l : List S133) (hl : l.length ≤ 4194304) : Evt (fun k => laws_eqShownS.f k l l) true := by
  unfold laws_eqShownS.f
  exact Evt.pos rfl (eqShownS_l0 l hl l.length 0 (by omega) (by omega))

/-! ### marks -/
theorem one_byte (x : Int) : (strOfNums [x]).size = 1 := by
  simp [strOfNums, ByteArray.size]
theorem markText_l0 : ∀ (d : Nat) (x : Int) (s : ByteArray), x ≤ d → x ≤ 4611686018427387904 → s.size + d ≤ 4611686018427387904 → ∃ r, Evt (fun k => laws_markText.l0 k x s) r := by
  intro d
  induction d using Nat.strongRecOn with
  | _ d ih =>
    intro x s hx hm hs
    by_cases h0 : x > 0
    · have hd : Int.tdiv x 10 = x / 10 := Int.tdiv_eq_ediv_of_nonneg (by omega)
      have hw : wrap64 (Int.tdiv x 10) = x / 10 := by rw [hd]; exact wrap_id (by omega) (by omega)
      obtain ⟨r, hr⟩ := ih (d - 1) (by omega) (x / 10) (strOfNums [(wrap64 (48 + (Int.tmod x 10))) % 256] ++ s) (by omega) (by omega) (by rw [ByteArray.size_append, one_byte]; omega)
      refine ⟨r, Evt.succ ?_⟩
      simp only [laws_markText.l0, hw]
      refine Evt.pos h0 ?_
      refine Evt.bind (Evt.ret _) (Evt.pos (by rw [one_byte]; omega) hr)
    · refine ⟨(⟨#[109]⟩ : ByteArray) ++ s, Evt.succ ?_⟩
      simp only [laws_markText.l0]
      exact Evt.neg h0 (Evt.pos (by omega) (Evt.ret _))
theorem markText_ev (x : Int) (hx : x ≤ 4611686018427387904) : ∃ r, Evt (fun k => laws_markText.f k x) r := by
  unfold laws_markText.f
  by_cases h0 : x ≤ 0
  · exact ⟨_, Evt.pos h0 (Evt.ret _)⟩
  · obtain ⟨r, hr⟩ := markText_l0 x.toNat x ⟨#[]⟩ (by omega) hx (by simp [ByteArray.size]; omega)
    exact ⟨r, Evt.neg h0 hr⟩
open Classical in
noncomputable def mtxt (x : Int) : ByteArray := if h : ∃ r, Evt (fun k => laws_markText.f k x) r then h.choose else ⟨#[]⟩
theorem mtxt_ev (x : Int) (hx : x ≤ 4611686018427387904) : Evt (fun k => laws_markText.f k x) (mtxt x) := by
  have h := markText_ev x hx
  unfold mtxt
  rw [dif_pos h]
  exact h.choose_spec

def mkT (a : Int) (t : ByteArray) : S133 := ⟨a, a + 1, ⟨a + 1 + 1, ⟨Int.tmod (a + 1 + 1 + 1) 3 == 0, a + 1 + 1 + 1 + 1, a + 1 + 1 + 1 + 1 + 1⟩, t⟩, Int.tmod (a + 1 + 1 + 1 + 1 + 1 + 1 + 1) 3 == 0⟩
theorem rd_set133 (l : List S133) (i : Nat) (x : S133) (h : i < l.length) : rd_T133 (l.set i x) (i : Int) = x := by
  unfold rd_T133
  rw [Int.toNat_natCast, getD_lt _ _ _ (by rw [List.length_set]; exact h)]
  simp
theorem mark_round (k : Nat) (l : List S133) (a : Int) (i : Nat) (h : i < l.length) (h0 : 0 ≤ a) (h1 : a ≤ 1000000000) (hi : i ≤ 4194304) : laws_markShownS.l0 (k + 1) l a (i : Int) = (laws_markText.f k (a + 1 + 1 + 1 + 1 + 1 + 1)).bind fun t => laws_markShownS.l0 k (l.set i (mkT a t)) (a + 8) ((i + 1 : Nat) : Int) := by
  have W : ∀ x : Int, 0 ≤ x → x ≤ 2000000000 → wrap64 x = x := fun x h0 h1 => wrap_id (by omega) (by omega)
  simp only [laws_markShownS.l0]
  rw [if_pos (by omega), if_pos (by omega)]
  rw [W (a + 1) (by omega) (by omega), W (a + 1 + 1) (by omega) (by omega), W (a + 1 + 1 + 1) (by omega) (by omega), W (a + 1 + 1 + 1 + 1) (by omega) (by omega), W (a + 1 + 1 + 1 + 1 + 1) (by omega) (by omega), W (a + 1 + 1 + 1 + 1 + 1 + 1) (by omega) (by omega), W (a + 1 + 1 + 1 + 1 + 1 + 1 + 1) (by omega) (by omega), W (a + 1 + 1 + 1 + 1 + 1 + 1 + 1 + 1) (by omega) (by omega), W ((i : Int) + 1) (by omega) (by omega)]
  simp only [Option.bind_some, Int.toNat_natCast, List.set_set, rd_set133 _ _ _ h]
  rw [show a + 1 + 1 + 1 + 1 + 1 + 1 + 1 + 1 = a + 8 by omega]
  rfl
noncomputable def mk8 (a : Int) : S133 := mkT a (mtxt (a + 1 + 1 + 1 + 1 + 1 + 1))
noncomputable def mrow8 (n : Nat) (a : Int) : List S133 := (List.range n).map fun (i : Nat) => mk8 (a + 8 * (i : Int))
theorem mrow8_length (n : Nat) (a : Int) : (mrow8 n a).length = n := by simp [mrow8]
theorem mrow8_at (n : Nat) (a : Int) (i : Nat) (h : i < n) : (mrow8 n a).getD i z133 = mk8 (a + 8 * (i : Int)) := by
  rw [getD_lt _ _ _ (by rw [mrow8_length]; exact h)]
  simp [mrow8]
theorem mark_l0 (n : Nat) (a : Int) (hl : n ≤ 4194304) (h0 : 0 ≤ a) (h1 : a ≤ 100000000) : ∀ (d i : Nat) (l : List S133), n - i = d → i ≤ n → l.length = n → (∀ j, j < i → l.getD j z133 = (mrow8 n a).getD j z133) →
    Evt (fun k => laws_markShownS.l0 k l (a + 8 * (i : Int)) (i : Int)) (a + 8 * (n : Int), mrow8 n a) := by
  intro d
  induction d with
  | zero =>
    intro i l hd hi hn hj
    have : i = n := by omega
    subst this
    have e : l = mrow8 i a := by
      apply List.ext_getElem
      · rw [hn, mrow8_length]
      · intro j h1 h2
        have := hj j (by omega)
        rwa [getD_lt _ _ _ h1, getD_lt _ _ _ h2] at this
    refine Evt.succ ?_
    simp only [laws_markShownS.l0]
    exact Evt.neg (by omega) ((Evt.ret _).cast (by rw [e]))
  | succ d ih =>
    intro i l hd hi hn hj
    have next := ih (i + 1) (l.set i (mk8 (a + 8 * (i : Int)))) (by omega) (by omega) (by rw [List.length_set]; exact hn) (fun j hji => by
      by_cases e : i = j
      · subst e
        rw [mrow8_at n a i (by omega), getD_lt _ _ _ (by rw [List.length_set]; omega)]
        simp
      · rw [← hj j (by omega)]
        simp [List.getD_eq_getElem?_getD, List.getElem?_set_ne e])
    obtain ⟨b, hb⟩ : ∃ b, b = a + 8 * (i : Int) := ⟨_, rfl⟩
    rw [show a + 8 * ((i + 1 : Nat) : Int) = b + 8 by omega, ← hb] at next
    rw [← hb]
    refine Evt.succ (Evt.congr (g := fun k => (laws_markText.f k (b + 1 + 1 + 1 + 1 + 1 + 1)).bind fun t => laws_markShownS.l0 k (l.set i (mkT b t)) (b + 8) ((i + 1 : Nat) : Int)) ?_ (fun k => mark_round k l b i (by omega) (by omega) (by omega) (by omega)))
    exact Evt.bind (mtxt_ev _ (by omega)) next
theorem mark_ev (l : List S133) (hl : l.length ≤ 4194304) (a : Int) (h0 : 0 ≤ a) (h1 : a ≤ 100000000) : Evt (fun k => laws_markShownS.f k l a) (a + 8 * (l.length : Int), mrow8 l.length a) := by
  have := mark_l0 l.length a hl h0 h1 l.length 0 l (by omega) (by omega) rfl (fun j hj => by omega)
  unfold laws_markShownS.f
  simpa using this
theorem held_l0 (n : Nat) (a : Int) (hl : n ≤ 4194304) (h0 : 0 ≤ a) (h1 : a ≤ 100000000) : ∀ (d i : Nat), n - i = d → i ≤ n → Evt (fun k => laws_heldShownS.l0 k (mrow8 n a) (a + 8 * (i : Int)) (i : Int)) (a + 8 * (n : Int)) := by
  intro d
  induction d with
  | zero =>
    intro i hd hi
    have : i = n := by omega
    subst this
    refine Evt.succ ?_
    simp only [laws_heldShownS.l0, mrow8_length]
    exact Evt.neg (by omega) (Evt.ret _)
  | succ d ih =>
    intro i hd hi
    have next := ih (i + 1) (by omega) (by omega)
    have hrd : rd_T133 (mrow8 n a) (i : Int) = mk8 (a + 8 * (i : Int)) := by
      unfold rd_T133
      rw [Int.toNat_natCast, mrow8_at n a i (by omega)]
    obtain ⟨b, hb⟩ : ∃ b, b = a + 8 * (i : Int) := ⟨_, rfl⟩
    rw [show a + 8 * ((i + 1 : Nat) : Int) = b + 8 by omega] at next
    rw [← hb] at hrd ⊢
    have hb0 : 0 ≤ b := by omega
    have hb1 : b ≤ 1000000000 := by omega
    refine Evt.succ (Evt.congr (g := fun k => (laws_markText.f k (b + 1 + 1 + 1 + 1 + 1 + 1)).bind fun t => if (mtxt (b + 1 + 1 + 1 + 1 + 1 + 1)).toList = t.toList then laws_heldShownS.l0 k (mrow8 n a) (b + 8) ((i + 1 : Nat) : Int) else some (-1)) ?_ (fun k => ?_))
    · exact Evt.bind (mtxt_ev _ (by omega)) (Evt.pos rfl next)
    · have W : ∀ x : Int, 0 ≤ x → x ≤ 2000000000 → wrap64 x = x := fun x h0 h1 => wrap_id (by omega) (by omega)
      simp only [laws_heldShownS.l0]
      rw [if_pos (by rw [mrow8_length]; omega), if_pos (by omega)]
      rw [W (b + 1) (by omega) (by omega), W (b + 1 + 1) (by omega) (by omega), W (b + 1 + 1 + 1) (by omega) (by omega), W (b + 1 + 1 + 1 + 1) (by omega) (by omega), W (b + 1 + 1 + 1 + 1 + 1) (by omega) (by omega), W (b + 1 + 1 + 1 + 1 + 1 + 1) (by omega) (by omega), W (b + 1 + 1 + 1 + 1 + 1 + 1 + 1) (by omega) (by omega), W (b + 1 + 1 + 1 + 1 + 1 + 1 + 1 + 1) (by omega) (by omega), W ((i : Int) + 1) (by omega) (by omega)]
      rw [hrd]
      simp only [mk8, mkT, if_true, bne_self_eq_false, Bool.false_eq_true, if_false]
      rw [show b + 1 + 1 + 1 + 1 + 1 + 1 + 1 + 1 = b + 8 by omega]
      rfl
theorem held_ev (n : Nat) (hl : n ≤ 4194304) : Evt (fun k => laws_heldShownS.f k (mrow8 n 1) 1) (1 + 8 * (n : Int)) := by
  have := held_l0 n 1 hl (by omega) (by omega) n 0 (by omega) (by omega)
  unfold laws_heldShownS.f
  simpa using this

/-! ### both Differ -/
theorem one_len (b : Bool) (x : S133) : (one b x).length ≤ 1 := by
  unfold one
  split <;> simp
theorem dif_len : ∀ (n : Nat) (a b : List S133), a.length + b.length = n → (dif a b).length ≤ a.length + b.length := by
  intro n
  induction n using Nat.strongRecOn with
  | _ n ih =>
    intro a b h
    match a, b with
    | [], [] => rw [dif]; simp
    | x :: xs, [] =>
      rw [dif, List.length_append]
      have := ih (xs.length + 0) (by simp at h; omega) xs [] (by simp)
      have h1 := one_len (eqS x (bl x)) (bl x)
      simp at this ⊢
      omega
    | [], y :: ys =>
      rw [dif, List.length_append]
      have := ih (0 + ys.length) (by simp at h; omega) [] ys (by simp)
      have h1 := one_len (eqS y (bl y)) y
      simp at this ⊢
      omega
    | x :: xs, y :: ys =>
      rw [dif]
      simp only [List.length_cons] at h ⊢
      split
      · have := ih (xs.length + (ys.length + 1)) (by omega) xs (y :: ys) (by simp)
        have h1 := one_len (eqS x (bl x)) (bl x)
        rw [List.length_append]
        simp only [List.length_cons] at this
        omega
      · split
        · have := ih (xs.length + 1 + ys.length) (by omega) (x :: xs) ys (by simp)
          have h1 := one_len (eqS y (bl y)) y
          rw [List.length_append]
          simp only [List.length_cons] at this
          omega
        · have := ih (xs.length + ys.length) (by omega) xs ys (by simp)
          have h1 := one_len (eqS x y) y
          rw [List.length_append]
          omega
theorem specRising_l0 (l : List S133) (hl : l.length ≤ 1048576) : ∀ (d i : Nat), l.length - i = d → 1 ≤ i → ∃ r, Evt (fun k => spec_l9Rising.l0 k l (i : Int)) r ∧ Evt (fun k => impl_rising.l0 k l (i : Int)) r := by
  intro d
  induction d with
  | zero =>
    intro i hd hi
    refine ⟨true, Evt.succ ?_, Evt.succ ?_⟩
    · simp only [spec_l9Rising.l0]
      exact Evt.neg (by omega) (Evt.ret _)
    · simp only [impl_rising.l0]
      exact Evt.neg (by omega) (Evt.ret _)
  | succ d ih =>
    intro i hd hi
    obtain ⟨r, h1, h2⟩ := ih (i + 1) (by omega) (by omega)
    by_cases hi2 : i ≤ 1048576
    · have hw : wrap64 ((i : Int) + 1) = ((i + 1 : Nat) : Int) := by rw [wrap_id (by omega) (by omega)]; rfl
      have hw2 : wrap64 ((i : Int) - 1) = (i : Int) - 1 := wrap_id (by omega) (by omega)
      cases hb : bef (rd_T133 l ((i : Int) - 1)) (rd_T133 l (i : Int)) with
      | true =>
        refine ⟨r, Evt.succ ?_, Evt.succ ?_⟩
        · simp only [spec_l9Rising.l0, hw, hw2, ahead_eq, hb, Option.bind_some, if_true]
          exact Evt.pos (by omega) (Evt.pos (by omega) (Evt.pos (by omega) (Evt.pos (by omega) h1)))
        · simp only [impl_rising.l0, hw, hw2, before_eq, hb, Option.bind_some, if_true]
          exact Evt.pos (by omega) (Evt.pos (by omega) (Evt.pos (by omega) (Evt.pos (by omega) h2)))
      | false =>
        refine ⟨false, Evt.succ ?_, Evt.succ ?_⟩
        · simp only [spec_l9Rising.l0, hw, hw2, ahead_eq, hb, Option.bind_some, Bool.false_eq_true, if_false]
          exact Evt.pos (by omega) (Evt.pos (by omega) (Evt.pos (by omega) (Evt.pos (by omega) (Evt.ret _))))
        · simp only [impl_rising.l0, hw, hw2, before_eq, hb, Option.bind_some, Bool.false_eq_true, if_false]
          exact Evt.pos (by omega) (Evt.pos (by omega) (Evt.pos (by omega) (Evt.pos (by omega) (Evt.ret _))))
    · omega
theorem rising_ev (l : List S133) (hl : l.length ≤ 1048576) : ∃ r, Evt (fun k => spec_l9Rising.f k l) r ∧ Evt (fun k => impl_rising.f k l) r := by
  unfold spec_l9Rising.f impl_rising.f
  exact specRising_l0 l hl _ 1 rfl (by omega)
theorem differ_ev (a b : List S133) (ha : a.length ≤ 1048576) (hb : b.length ≤ 1048576) : ∃ r : List S133, r.length ≤ 2097152 ∧ Evt (fun k => spec_Differ.f k a b) r ∧ Evt (fun k => impl_Differ.f k a b) r := by
  obtain ⟨ta, h1, h2⟩ := rising_ev a ha
  obtain ⟨tb, h3, h4⟩ := rising_ev b hb
  refine ⟨if (ta && tb) = true then dif a b else [], ?_, ?_, ?_⟩
  · split
    · have := dif_len _ a b rfl
      omega
    · simp
  · unfold spec_Differ.f
    exact Evt.bind h1 (Evt.bind h3 (Evt.pos ha (Evt.pos hb (Evt.ret _))))
  · unfold impl_Differ.f
    exact Evt.bind h2 (Evt.bind h4 (Evt.pos ha (Evt.pos hb (Evt.ret _))))
theorem FnExactDiffer_pureG (l0 l1 : List S127) (h0 : l0.length ≤ 9223372036854775807) (h1 : l1.length ≤ 9223372036854775807) (g0 : ∀ y ∈ l0, y.f2.f2.size ≤ 9223372036854775807) (g1 : ∀ y ∈ l1, y.f2.f2.size ≤ 9223372036854775807) : ∃ k, laws_FnExactDiffer.f k l0 l1 = some true := by
  refine Evt.get (g := fun k => laws_FnExactDiffer.f k l0 l1) ?_
  unfold laws_FnExactDiffer.f
  obtain ⟨r, hr, hra, hrl⟩ := szShownS_ev l0 h0 g0 1048576 (by omega) (by omega)
  refine Evt.bind hr ?_
  by_cases hneg : r < 0
  · exact Evt.pos hneg (Evt.ret _)
  refine Evt.neg hneg ?_
  obtain ⟨q, hq, hqa, hql⟩ := szShownS_ev l1 h1 g1 r (by omega) (by omega)
  refine Evt.bind hq ?_
  by_cases hneg2 : q < 0
  · exact Evt.pos hneg2 (Evt.ret _)
  refine Evt.neg hneg2 ?_
  have n0 := hrl (by omega)
  have n1 := hql (by omega)
  have t0 := toShownS_ev l0 n0
  have t1 := toShownS_ev l1 n1
  obtain ⟨R, hR, hs, hi⟩ := differ_ev (l0.map cvS) (l1.map cvS) (by rw [List.length_map]; exact n0) (by rw [List.length_map]; exact n1)
  have eR := eqShownS_ev R (by omega)
  have e0 := eqShownS_ev (l0.map cvS) (by rw [List.length_map]; omega)
  have e1 := eqShownS_ev (l1.map cvS) (by rw [List.length_map]; omega)
  have m0 := mark_ev (l0.map cvS) (by rw [List.length_map]; omega) 1 (by omega) (by omega)
  have m1 := mark_ev (l1.map cvS) (by rw [List.length_map]; omega) (1 + 8 * ((l0.map cvS).length : Int)) (by omega) (by rw [List.length_map]; omega)
  have mR := mark_ev R (by omega) 1 (by omega) (by omega)
  have hH := held_ev R.length (by omega)
  refine Evt.bind t0 (Evt.bind t1 (Evt.bind hs (Evt.bind t0 (Evt.bind t1 (Evt.bind hi (Evt.bind eR (Evt.pos rfl ?_)))))))
  refine Evt.bind t0 (Evt.bind e0 (Evt.pos rfl (Evt.bind t1 (Evt.bind e1 (Evt.pos rfl (Evt.bind m0 (Evt.bind m1 ?_)))))))
  refine Evt.neg (by omega) (Evt.bind eR ?_)
  refine Evt.succ ?_
  simp only [laws_FnExactDiffer.j0]
  have ee : ∀ f : Nat → Option Bool, ∀ b : Bool, Evt f b → Evt f b := fun f b h => h
  refine Evt.neg (by simp) (Evt.bind mR (Evt.bind hH (Evt.neg (by omega) (Evt.pos rfl ?_))))
  exact Evt.bind t0 (Evt.bind t1 (Evt.bind hi (Evt.bind eR (Evt.pos rfl (Evt.bind hH (Evt.neg (by omega) (Evt.pos rfl (Evt.ret _))))))))
def good123 (x : S123) : Prop := True ∧ (Lit.int .i64 x.f1).wf = true ∧ (Lit.int .i64 x.f2).wf = true
def good125 (x : S125) : Prop := (Lit.int .i64 x.f0).wf = true ∧ good123 x.f1 ∧ x.f2.size ≤ maxLen
def good127 (x : S127) : Prop := (Lit.int .i64 x.f0).wf = true ∧ (Lit.int .i64 x.f1).wf = true ∧ good125 x.f2 ∧ True
theorem FnExactDiffer_pure (l0 l1 : List S127) (h0 : l0.length ≤ maxLen ∧ ∀ y ∈ l0, good127 y) (h1 : l1.length ≤ maxLen ∧ ∀ y ∈ l1, good127 y) : ∃ k, laws_FnExactDiffer.f k l0 l1 = some true := by
  have m : maxLen ≤ 9223372036854775807 := by simp [maxLen]
  exact FnExactDiffer_pureG l0 l1 (Nat.le_trans h0.1 m) (Nat.le_trans h1.1 m) (fun y hy => Nat.le_trans (h0.2 y hy).2.2.1.2.2 m) (fun y hy => Nat.le_trans (h1.2 y hy).2.2.1.2.2 m)
end Go.Proofs.Ytppenjoobcppjaa.PDf
