/- Marks written into rows of texts, and rows that hold them. -/
import Derived.Test.YtppenjoobcppjaaRsPure
import Derived.Test.YtppenjoobcppjaaPRsx6
namespace Go.Proofs.Ytppenjoobcppjaa.PRs
open Go.RowKit Go.Proofs.YtppenjoobcppjaaW.PrintWords Go.Proofs.YtppenjoobcppjaaW.PrintLast Go.Proofs.YtppenjoobcppjaaW.PrintMore Go.Proofs.Ytppenjoobcppjaa.Ev
set_option linter.unusedVariables false
set_option linter.unusedSimpArgs false

/-! ### equal rows -/
theorem eqStringS_l0 (l : List ByteArray) (hl : l.length ≤ 20001) : ∀ (d i : Nat), l.length - i = d → i ≤ l.length → Evt (fun k => laws_eqStringS.l0 k l l (i : Int)) true := by
  intro d
  induction d with
  | zero =>
    intro i hd hi
    refine Evt.succ ?_
    simp only [laws_eqStringS.l0]
    exact Evt.neg (by omega) (Evt.ret _)
  | succ d ih =>
    intro i hd hi
    have hw : wrap64 ((i : Int) + 1) = ((i + 1 : Nat) : Int) := by rw [wrap_id (by omega) (by omega)]; rfl
    refine Evt.succ ?_
    simp only [laws_eqStringS.l0, hw]
    exact Evt.pos (by omega) (Evt.pos (by omega) (Evt.pos (by omega) (Evt.pos (by trivial) (ih (i + 1) (by omega) (by omega)))))
theorem eqStringS_ev (l : List ByteArray) (hl : l.length ≤ 20001) : Evt (fun k => laws_eqStringS.f k l l) true := by
  unfold laws_eqStringS.f
  exact Evt.pos rfl (eqStringS_l0 l hl l.length 0 (by omega) (by omega))
theorem eqSS_l0 (l : List (List ByteArray)) (hl : l.length ≤ 20001) (hc : ∀ i, i < l.length → (rd_L1 l i).length ≤ 20001) : ∀ (d i : Nat), l.length - i = d → i ≤ l.length → Evt (fun k => laws_eqStringSS.l0 k l l (i : Int)) true := by
  intro d
  induction d with
  | zero =>
    intro i hd hi
    refine Evt.succ ?_
    simp only [laws_eqStringSS.l0]
    exact Evt.neg (by omega) (Evt.ret _)
  | succ d ih =>
    intro i hd hi
    have hw : wrap64 ((i : Int) + 1) = ((i + 1 : Nat) : Int) := by rw [wrap_id (by omega) (by omega)]; rfl
    refine Evt.succ ?_
    simp only [laws_eqStringSS.l0, hw]
    exact Evt.pos (by omega) (Evt.pos (by omega) (Evt.pos (by omega) (Evt.bind (eqStringS_ev _ (hc i (by omega))) (Evt.pos rfl (ih (i + 1) (by omega) (by omega))))))
theorem eqRes_ev (a b : Int) (l : List (List ByteArray)) (hl : l.length ≤ 20001) (hc : ∀ i, i < l.length → (rd_L1 l i).length ≤ 20001) : Evt (fun k => laws_eqSeparatedRes.f k a b l a b l) true := by
  unfold laws_eqSeparatedRes.f
  refine Evt.pos rfl (Evt.pos rfl (Evt.bind ?_ (Evt.pos rfl (Evt.ret _))))
  unfold laws_eqStringSS.f
  exact Evt.pos rfl (eqSS_l0 l hl hc l.length 0 (by omega) (by omega))

/-! ### marks -/
theorem getD_set_self {α : Type} (l : List α) (i : Nat) (x z : α) (h : i < l.length) : (l.set i x).getD i z = x := by
  simp [List.getD_eq_getElem?_getD, h]
theorem getD_set_ne {α : Type} (l : List α) (i j : Nat) (x z : α) (h : i ≠ j) : (l.set i x).getD j z = l.getD j z := by
  simp [List.getD_eq_getElem?_getD, List.getElem?_set_ne h]
theorem one_byte (x : Int) : (strOfNums [x]).size = 1 := by
  simp [strOfNums, ByteArray.size]
theorem markText_l0 : ∀ (d : Nat) (x : Int) (s : ByteArray), x ≤ d → x ≤ 4611686018427387904 → s.size + d ≤ 4611686018427387904 → ∃ r, Evt (fun k => laws_markText.l0 k x s) r := by
  intro d
  induction d using Nat.strongRecOn with
  | _ d ih =>
    intro x s hx hm hs
    by_cases h0 : x > 0
    · have hd : Int.tdiv x 10 = x / 10 := Int.tdiv_eq_ediv_of_nonneg (by omega)
      have hw : wrap64 (Int.tdiv x 10) = x / 10 := by rw [hd]; exact wrap_id (by omega) (by omega)
      obtain ⟨r, hr⟩ := ih (d - 1) (by omega) (x / 10) (strOfNums [(wrap64 (48 + (Int.tmod x 10))) % 256] ++ s) (by omega) (by omega) (by rw [ByteArray.size_append, one_byte]; omega)
      refine ⟨r, Evt.succ ?_⟩
      simp only [laws_markText.l0, hw]
      refine Evt.pos h0 ?_
      refine Evt.bind (Evt.ret _) (Evt.pos (by rw [one_byte]; omega) hr)
    · refine ⟨(⟨#[109]⟩ : ByteArray) ++ s, Evt.succ ?_⟩
      simp only [laws_markText.l0]
      exact Evt.neg h0 (Evt.pos (by omega) (Evt.ret _))
theorem markText_ev (x : Int) (hx : x ≤ 4611686018427387904) : ∃ r, Evt (fun k => laws_markText.f k x) r := by
  unfold laws_markText.f
  by_cases h0 : x ≤ 0
  · exact ⟨_, Evt.pos h0 (Evt.ret _)⟩
  · obtain ⟨r, hr⟩ := markText_l0 x.toNat x ⟨#[]⟩ (by omega) hx (by simp [ByteArray.size]; omega)
    exact ⟨r, Evt.neg h0 hr⟩
open Classical in
noncomputable def mtxt (x : Int) : ByteArray := if h : ∃ r, Evt (fun k => laws_markText.f k x) r then h.choose else ⟨#[]⟩
theorem mtxt_ev (x : Int) (hx : x ≤ 4611686018427387904) : Evt (fun k => laws_markText.f k x) (mtxt x) := by
  have h := markText_ev x hx
  unfold mtxt
  rw [dif_pos h]
  exact h.choose_spec
/-- A row of n marks from a on. -/
noncomputable def mrow (n : Nat) (a : Int) : List ByteArray := (List.range n).map fun (i : Nat) => mtxt (a + (i : Int))
theorem mrow_length (n : Nat) (a : Int) : (mrow n a).length = n := by simp [mrow]
theorem mrow_at (n : Nat) (a : Int) (i : Nat) (h : i < n) : (mrow n a).getD i ByteArray.empty = mtxt (a + (i : Int)) := by
  rw [getD_lt _ _ _ (by rw [mrow_length]; exact h)]
  simp [mrow]
theorem markStringS_l0 (n : Nat) (a : Int) (hl : n ≤ 20001) (h0 : 0 ≤ a) (h1 : a ≤ 1000000000000) : ∀ (d i : Nat) (l : List ByteArray), n - i = d → i ≤ n → l.length = n → (∀ j, j < i → l.getD j ByteArray.empty = (mrow n a).getD j ByteArray.empty) →
    Evt (fun k => laws_markStringS.l0 k l (a + (i : Int)) (i : Int)) (a + (n : Int), mrow n a) := by
  intro d
  induction d with
  | zero =>
    intro i l hd hi hn hj
    have : i = n := by omega
    subst this
    have e : l = mrow i a := by
      apply List.ext_getElem
      · rw [hn, mrow_length]
      · intro j h1 h2
        have := hj j (by omega)
        rwa [getD_lt _ _ _ h1, getD_lt _ _ _ h2] at this
    refine Evt.succ ?_
    simp only [laws_markStringS.l0]
    exact Evt.neg (by omega) ((Evt.ret _).cast (by rw [e]))
  | succ d ih =>
    intro i l hd hi hn hj
    have hw : wrap64 ((i : Int) + 1) = ((i + 1 : Nat) : Int) := by rw [wrap_id (by omega) (by omega)]; rfl
    have HW2 := Aside0.mk (show wrap64 (a + (i : Int) + 1) = a + ((i + 1 : Nat) : Int) by clear hw; rw [wrap_id (by omega) (by omega)]; omega)
    have next := ih (i + 1) (l.set i (mtxt (a + (i : Int)))) (by omega) (by omega) (by rw [List.length_set]; exact hn) (fun j hji => by
      by_cases e : i = j
      · subst e
        rw [getD_set_self _ _ _ _ (by omega), mrow_at n a i (by omega)]
      · rw [getD_set_ne _ _ _ _ _ e]
        exact hj j (by omega))
    refine Evt.succ ?_
    simp only [laws_markStringS.l0, hw, HW2.out, Int.toNat_natCast]
    exact Evt.pos (by omega) (Evt.bind (mtxt_ev _ (by omega)) (Evt.pos (by omega) next))
theorem markStringS_ev (l : List ByteArray) (a : Int) (hl : l.length ≤ 20001) (h0 : 0 ≤ a) (h1 : a ≤ 1000000000000) : Evt (fun k => laws_markStringS.f k l a) (a + (l.length : Int), mrow l.length a) := by
  have := markStringS_l0 l.length a hl h0 h1 l.length 0 l (by omega) (by omega) rfl (fun j hj => by omega)
  unfold laws_markStringS.f
  simpa using this
theorem heldStringS_l0 (n : Nat) (a : Int) (hl : n ≤ 20001) (h0 : 0 ≤ a) (h1 : a ≤ 1000000000000) : ∀ (d i : Nat), n - i = d → i ≤ n → Evt (fun k => laws_heldStringS.l0 k (mrow n a) (a + (i : Int)) (i : Int)) (a + (n : Int)) := by
  intro d
  induction d with
  | zero =>
    intro i hd hi
    have : i = n := by omega
    subst this
    refine Evt.succ ?_
    simp only [laws_heldStringS.l0, mrow_length]
    exact Evt.neg (by omega) (Evt.ret _)
  | succ d ih =>
    intro i hd hi
    have hw : wrap64 ((i : Int) + 1) = ((i + 1 : Nat) : Int) := by rw [wrap_id (by omega) (by omega)]; rfl
    have HW2 := Aside0.mk (show wrap64 (a + (i : Int) + 1) = a + ((i + 1 : Nat) : Int) by clear hw; rw [wrap_id (by omega) (by omega)]; omega)
    have hrd : rdOf ByteArray.empty (mrow n a) (i : Int) = mtxt (a + (i : Int)) := by
      unfold rdOf
      rw [Int.toNat_natCast, mrow_at n a i (by omega)]
    refine Evt.succ ?_
    simp only [laws_heldStringS.l0, hw, HW2.out, mrow_length, hrd]
    exact Evt.pos (by omega) (Evt.pos (by omega) (Evt.bind (mtxt_ev _ (by omega)) (Evt.pos (by trivial) (ih (i + 1) (by omega) (by omega)))))
theorem heldStringS_ev (n : Nat) (a : Int) (hl : n ≤ 20001) (h0 : 0 ≤ a) (h1 : a ≤ 1000000000000) : Evt (fun k => laws_heldStringS.f k (mrow n a) a) (a + (n : Int)) := by
  have := heldStringS_l0 n a hl h0 h1 n 0 (by omega) (by omega)
  unfold laws_heldStringS.f
  simpa using this

/-- How many texts lie before a row. -/
def off (ls : List (List ByteArray)) : Nat → Nat
  | 0 => 0
  | j + 1 => off ls j + (rd_L1 ls (j : Int)).length
theorem off_le (ls : List (List ByteArray)) (hc : ∀ i, i < ls.length → (rd_L1 ls i).length ≤ 20001) : ∀ j, j ≤ ls.length → off ls j ≤ 20001 * j := by
  intro j
  induction j with
  | zero => intro _; exact Nat.zero_le _
  | succ j ih =>
    intro h
    have h1 := ih (by omega)
    have h2 := hc j (by omega)
    show off ls j + (rd_L1 ls (j : Int)).length ≤ _
    omega
def Marked (l ms : List (List ByteArray)) : Prop := ms.length = l.length ∧ ∀ i : Nat, i < l.length → rd_L1 ms (i : Int) = mrow (rd_L1 l (i : Int)).length (1 + (off l i : Int))
theorem heldSS_l0 (l ms : List (List ByteArray)) (hl : l.length ≤ 20001) (hc : ∀ i, i < l.length → (rd_L1 l i).length ≤ 20001) (hm : Marked l ms) : ∀ (d i : Nat), l.length - i = d → i ≤ l.length →
    Evt (fun k => laws_heldStringSS.l0 k ms (1 + (off l i : Int)) (i : Int)) (1 + (off l l.length : Int)) := by
  intro d
  induction d with
  | zero =>
    intro i hd hi
    have e : i = l.length := by omega
    subst e
    refine Evt.succ ?_
    simp only [laws_heldStringSS.l0]
    exact Evt.neg (by have := hm.1; omega) (Evt.ret _)
  | succ d ih =>
    intro i hd hi
    have hw : wrap64 ((i : Int) + 1) = ((i + 1 : Nat) : Int) := by rw [wrap_id (by omega) (by omega)]; rfl
    have ho := off_le l hc i hi
    have hci := hc i (by omega)
    have e : (1 + (off l i : Int)) + ((rd_L1 l (i : Int)).length : Int) = 1 + (off l (i + 1) : Int) := by
      show _ = 1 + ((off l i + (rd_L1 l (i : Int)).length : Nat) : Int)
      omega
    have hrow := heldStringS_ev (rd_L1 l (i : Int)).length (1 + (off l i : Int)) hci (by omega) (by omega)
    rw [e] at hrow
    refine Evt.succ ?_
    simp only [laws_heldStringSS.l0, hw, hm.2 i (by omega)]
    exact Evt.pos (by have := hm.1; omega) (Evt.pos (by omega) (Evt.bind hrow (Evt.neg (by omega) (ih (i + 1) (by omega) (by omega)))))
theorem heldRes_ev (a b : Int) (l ms : List (List ByteArray)) (hl : l.length ≤ 20001) (hc : ∀ i, i < l.length → (rd_L1 l i).length ≤ 20001) (hm : Marked l ms) : Evt (fun k => laws_heldSeparatedRes.f k a b ms 1) (1 + (off l l.length : Int)) := by
  unfold laws_heldSeparatedRes.f
  refine Evt.bind (x := 1 + (off l l.length : Int)) ?_ (Evt.neg (by omega) (Evt.ret _))
  unfold laws_heldStringSS.f
  have := heldSS_l0 l ms hl hc hm l.length 0 (by omega) (by omega)
  simpa [off] using this

set_option maxRecDepth 100000 in
set_option maxHeartbeats 1600000 in
theorem markSS_calls (P0 : Nat → Prop) (A : Option Addr) (c : Nat) (l0 : List (List ByteArray)) (w0 w : World) (hB : Below w0.heap.size w0 w) (ho : Kd.S (Kd.slice 9 Kd.string) 111 w w0.heap.size P0 (.slice A l0.length c) l0)
    (hl : l0.length ≤ 20001) (hc : ∀ i, i < l0.length → (rd_L1 l0 i).length ≤ 20001) :
    Calls Try.prog 87 #[.slice A l0.length c, .int .i64 1] w fun e w' => e = .returned (.int .i64 (1 + (off l0 l0.length : Int))) ∧ (∃ ms, Marked l0 ms ∧ Kd.S (Kd.slice 9 Kd.string) 111 w' w0.heap.size (fun k => P0 k ∨ w.heap.size ≤ k) (.slice A l0.length c) ms) ∧ Below w0.heap.size w0 w' ∧ Kept w w' P0 := by
  have HB := Aside0.mk hB
  have HO := Aside0.mk (Kd.S_mono (ok' := fun k => P0 k ∨ w.heap.size ≤ k) ho (fun k hk => .inl hk))
  have HK := Aside0.mk (Kept.refl w P0)
  have HC := Aside0.mk hc
  clear hB ho hc
  go_enter Try.func87, Try.ntmps87
  go_wp2
  go_loopg [1, 5] l0.length (fun d v1 v5 wr => ∃ (j : Nat) (k : Int) (xs : List (List ByteArray)), v1 = .int .i64 k ∧ v5 = .int .i64 j ∧ j + d = l0.length ∧ xs.length = l0.length ∧ Aside0 (k = 1 + (off l0 j : Int)) ∧
    Aside0 (∀ i : Nat, i < l0.length → if i < j then rd_L1 xs (i : Int) = mrow (rd_L1 l0 (i : Int)).length (1 + (off l0 i : Int)) else rd_L1 xs (i : Int) = rd_L1 l0 (i : Int)) ∧ Aside0 (Kd.S (Kd.slice 9 Kd.string) 111 wr w0.heap.size (fun k => P0 k ∨ w.heap.size ≤ k) (.slice A l0.length c) xs) ∧ Aside0 (Below w0.heap.size w0 wr) ∧ Aside0 (Kept w wr P0))
  case atStart => exact ⟨0, 1, l0, rfl, rfl, by omega, rfl, ⟨rfl⟩, ⟨fun i hi => by rw [if_neg (by omega)]⟩, HO, HB, HK⟩
  case round =>
    clear HO HB HK
    obtain ⟨j, k, xs, rfl, rfl, hjd, hxl, HJK, HX, HO, HB, HK⟩ := hrel
    by_cases hlt : j < l0.length
    · obtain ⟨g, cap, hv, hgb, hgl, _⟩ := Kd.S_form HO.out (by omega)
      obtain ⟨rfl, rfl⟩ : A = some ⟨g, 0, none⟩ ∧ c = cap := by
        injection hv with e1 _ e2
        exact ⟨e1, e2⟩
      clear hv
      have hokg : P0 g ∨ w.heap.size ≤ g := (Kd.S_R HO.out).1 g rfl
      obtain ⟨oki, ce, hcl, hM, hcc, hfr, hoki, hH⟩ := Kd.S_elem HO.out ([] : List ByteArray) (j : Int) (by omega) (by omega)
      obtain ⟨v1, rfl, hR1⟩ := hM
      have hx0 : wr.cell? ⟨g, j, none⟩ = some v1 := by
        have h0 := hcc 0 v1 rfl
        rw [Int.toNat_natCast, show j * (Kd.slice 9 Kd.string).sz + 0 = j by show j * 1 + 0 = j; omega] at h0
        exact h0
      have hrow : xs.getD (j : Int).toNat ([] : List ByteArray) = rd_L1 l0 (j : Int) := by
        have := HX.out j hlt
        rw [if_neg (by omega)] at this
        exact this
      rw [hrow] at hR1
      have hk := HJK.out
      have hol := off_le l0 HC.out j (by omega)
      have hcj := HC.out j hlt
      obtain ⟨kk, hkk⟩ := (markStringS_ev (rd_L1 l0 (j : Int)) k hcj (by omega) (by omega)).get
      have HCall := Aside0.mk (laws_markStringS.calls kk oki v1 (rd_L1 l0 (j : Int)) k _ _ w0 wr HB.out hR1 hkk)
      have HH1 := Aside0.mk (Kd.H_widen hH)
      have HO1 := Aside0.mk hoki
      have HXL := Aside0.mk hxl
      clear hcl hcc hfr hoki hH hR1 hkk hrow hk hol hcj hxl
      go_wp2_with (go_at_call 115; refine HCall.out.mono ?_; rintro e w5 ⟨rfl, hr5, hb5, hk5⟩)
      obtain ⟨d, rfl⟩ : ∃ d, gk = d + 1 := ⟨gk - 1, by omega⟩
      have hH5 := Kd.H_kept HH1.out hk5 (fun q _ hn hq => hn (.inl hq))
      have hS5 := Kd.H_back hH5 (x' := mrow (rd_L1 l0 (j : Int)).length k) ⟨v1, rfl, hr5⟩ (fun q hq => hq.elim (fun h => .inl h) (fun h => .inr ⟨.inr (Nat.le_trans HK.out.1 h), h⟩))
      have HS5 := Aside0.mk hS5
      have HB5 := Aside0.mk hb5
      have HK5 := Aside0.mk (Kept.then_ HK.out hk5 (fun q hq => (HO1.out q hq).1))
      have HL5 := Aside0.mk (show ∀ i : Nat, i < l0.length → if i < j + 1 then rd_L1 (xs.set (j : Int).toNat (mrow (rd_L1 l0 (j : Int)).length k)) (i : Int) = mrow (rd_L1 l0 (i : Int)).length (1 + (off l0 i : Int)) else rd_L1 (xs.set (j : Int).toNat (mrow (rd_L1 l0 (j : Int)).length k)) (i : Int) = rd_L1 l0 (i : Int) by
        intro i hi
        have hx := HX.out i hi
        rw [Int.toNat_natCast]
        simp only [rd_L1, Int.toNat_natCast] at hx ⊢
        by_cases e : j = i
        · subst e
          rw [if_pos (by omega), getD_set_self _ _ _ _ (by have := HXL.out; omega), HJK.out]
        · rw [getD_set_ne _ _ _ _ _ e]
          by_cases hij : i < j
          · rw [if_pos hij] at hx
            rw [if_pos (by omega)]
            exact hx
          · rw [if_neg hij] at hx
            rw [if_neg (by omega)]
            exact hx)
      have HX5 := Aside0.mk (show (xs.set (j : Int).toNat (mrow (rd_L1 l0 (j : Int)).length k)).length = l0.length by rw [List.length_set]; exact HXL.out)
      have HK1 := Aside0.mk (show k + ((rd_L1 l0 (j : Int)).length : Int) = 1 + (off l0 (j + 1) : Int) by
        have := HJK.out
        show _ = 1 + ((off l0 j + (rd_L1 l0 (j : Int)).length : Nat) : Int)
        omega)
      clear hH5 hS5 hr5 hb5 hk5 HH1
      go_roundg d
      case measure => omega
      case rel => exact ⟨j + 1, _, _, rfl, by go_num, by omega, HX5.out, HK1, HL5, HS5, HB5, HK5⟩
    · have hjl : j = l0.length := by omega
      subst hjl
      obtain rfl := HJK.out
      go_wp2
      go_ret
      exact ⟨rfl, ⟨xs, ⟨hxl, fun i hi => by have := HX.out i hi; rwa [if_pos hi] at this⟩, HO.out⟩, HB.out, HK.out⟩
end Go.Proofs.Ytppenjoobcppjaa.PRs
