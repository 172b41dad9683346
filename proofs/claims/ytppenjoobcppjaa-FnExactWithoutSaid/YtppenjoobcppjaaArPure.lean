/- Areas that are equal, marked, and held: the plain facts. -/
import Derived.Test.YtppenjoobcppjaaArBoth
import Derived.Test.YtppenjoobcppjaaPArx4
import Derived.Test.YtppenjoobcppjaaPArx5
import Derived.Test.YtppenjoobcppjaaPArx6
import Derived.Test.YtppenjoobcppjaaEv
namespace Go.Proofs.Ytppenjoobcppjaa.PAr
open Go.RowKit Go.Proofs.YtppenjoobcppjaaW.PrintWords Go.Proofs.YtppenjoobcppjaaW.PrintLast Go.Proofs.YtppenjoobcppjaaW.PrintMore Go.Proofs.Ytppenjoobcppjaa.Ev
set_option linter.unusedVariables false
set_option linter.unusedSimpArgs false

theorem eqRef_same (a b : Int) (c d : Bool) : laws_eqRef.f a b c d a b c d = some true := by
  unfold laws_eqRef.f
  rw [if_pos rfl, if_pos rfl, if_neg (by simp), if_neg (by simp)]
theorem eqArea_same (a b : Int) (c d : Bool) (e f : Int) (g h : Bool) : laws_eqArea.f a b c d e f g h a b c d e f g h = some true := by
  unfold laws_eqArea.f
  rw [eqRef_same, eqRef_same]
  rfl
theorem eqAreaS_l0 (l : List S40) (hl : l.length ≤ 1000) : ∀ (d i : Nat), l.length - i = d → i ≤ l.length → Evt (fun k => laws_eqAreaS.l0 k l l (i : Int)) true := by
  intro d
  induction d with
  | zero =>
    intro i hd hi
    refine Evt.succ ?_
    simp only [laws_eqAreaS.l0]
    exact Evt.neg (by omega) (Evt.ret _)
  | succ d ih =>
    intro i hd hi
    have hw : wrap64 ((i : Int) + 1) = ((i + 1 : Nat) : Int) := by rw [wrap_id (by omega) (by omega)]; rfl
    refine Evt.succ ?_
    simp only [laws_eqAreaS.l0, hw, eqArea_same, Option.bind_some, if_true]
    exact Evt.pos (by omega) (Evt.pos (by omega) (Evt.pos (by omega) (ih (i + 1) (by omega) (by omega))))
theorem eqAreaS_ev (l : List S40) (hl : l.length ≤ 1000) : Evt (fun k => laws_eqAreaS.f k l l) true := by
  unfold laws_eqAreaS.f
  exact Evt.pos rfl (eqAreaS_l0 l hl l.length 0 (by omega) (by omega))

def mk8 (a : Int) : S40 := ⟨⟨a, a + 1, Int.tmod (a + 1 + 1) 3 == 0, Int.tmod (a + 1 + 1 + 1) 3 == 0⟩, ⟨a + 1 + 1 + 1 + 1, a + 1 + 1 + 1 + 1 + 1, Int.tmod (a + 1 + 1 + 1 + 1 + 1 + 1) 3 == 0, Int.tmod (a + 1 + 1 + 1 + 1 + 1 + 1 + 1) 3 == 0⟩⟩
theorem rd_set40 (l : List S40) (i : Nat) (x : S40) (h : i < l.length) : rd_T40 (l.set i x) (i : Int) = x := by
  unfold rd_T40
  rw [Int.toNat_natCast, getD_lt _ _ _ (by rw [List.length_set]; exact h)]
  simp
theorem mark_round (k : Nat) (l : List S40) (a : Int) (i : Nat) (h : i < l.length) (h0 : 0 ≤ a) (h1 : a ≤ 1000000) (hi : i ≤ 1000) : laws_markAreaS.l0 (k + 1) l a (i : Int) = laws_markAreaS.l0 k (l.set i (mk8 a)) (a + 8) ((i + 1 : Nat) : Int) := by
  have W : ∀ x : Int, 0 ≤ x → x ≤ 2000000 → wrap64 x = x := fun x h0 h1 => wrap_id (by omega) (by omega)
  simp only [laws_markAreaS.l0]
  rw [if_pos (by omega), if_pos (by omega)]
  rw [W (a + 1) (by omega) (by omega), W (a + 1 + 1) (by omega) (by omega), W (a + 1 + 1 + 1) (by omega) (by omega), W (a + 1 + 1 + 1 + 1) (by omega) (by omega), W (a + 1 + 1 + 1 + 1 + 1) (by omega) (by omega), W (a + 1 + 1 + 1 + 1 + 1 + 1) (by omega) (by omega), W (a + 1 + 1 + 1 + 1 + 1 + 1 + 1) (by omega) (by omega), W (a + 1 + 1 + 1 + 1 + 1 + 1 + 1 + 1) (by omega) (by omega), W ((i : Int) + 1) (by omega) (by omega)]
  simp only [Option.bind_some, Int.toNat_natCast, List.set_set, rd_set40 _ _ _ h]
  rw [show a + 1 + 1 + 1 + 1 + 1 + 1 + 1 + 1 = a + 8 by omega]
  rfl
noncomputable def mrow8 (n : Nat) (a : Int) : List S40 := (List.range n).map fun (i : Nat) => mk8 (a + 8 * (i : Int))
theorem mrow8_length (n : Nat) (a : Int) : (mrow8 n a).length = n := by simp [mrow8]
theorem mrow8_at (n : Nat) (a : Int) (i : Nat) (h : i < n) : (mrow8 n a).getD i z40 = mk8 (a + 8 * (i : Int)) := by
  rw [getD_lt _ _ _ (by rw [mrow8_length]; exact h)]
  simp [mrow8]
theorem mark_l0 (n : Nat) (a : Int) (hl : n ≤ 1000) (h0 : 0 ≤ a) (h1 : a ≤ 100000) : ∀ (d i : Nat) (l : List S40), n - i = d → i ≤ n → l.length = n → (∀ j, j < i → l.getD j z40 = (mrow8 n a).getD j z40) →
    Evt (fun k => laws_markAreaS.l0 k l (a + 8 * (i : Int)) (i : Int)) (a + 8 * (n : Int), mrow8 n a) := by
  intro d
  induction d with
  | zero =>
    intro i l hd hi hn hj
    have : i = n := by omega
    subst this
    have e : l = mrow8 i a := by
      apply List.ext_getElem
      · rw [hn, mrow8_length]
      · intro j h1 h2
        have := hj j (by omega)
        rwa [getD_lt _ _ _ h1, getD_lt _ _ _ h2] at this
    refine Evt.succ ?_
    simp only [laws_markAreaS.l0]
    exact Evt.neg (by omega) ((Evt.ret _).cast (by rw [e]))
  | succ d ih =>
    intro i l hd hi hn hj
    have next := ih (i + 1) (l.set i (mk8 (a + 8 * (i : Int)))) (by omega) (by omega) (by rw [List.length_set]; exact hn) (fun j hji => by
      by_cases e : i = j
      · subst e
        rw [mrow8_at n a i (by omega), getD_lt _ _ _ (by rw [List.length_set]; omega)]
        simp
      · rw [← hj j (by omega)]
        simp [List.getD_eq_getElem?_getD, List.getElem?_set_ne e])
    refine Evt.succ (next.congr (fun k => ?_))
    rw [mark_round k l (a + 8 * (i : Int)) i (by omega) (by omega) (by omega) (by omega)]
    rw [show a + 8 * (i : Int) + 8 = a + 8 * ((i + 1 : Nat) : Int) by omega]
theorem mark_ev (l : List S40) (hl : l.length ≤ 1000) : Evt (fun k => laws_markAreaS.f k l 1) (1 + 8 * (l.length : Int), mrow8 l.length 1) := by
  have := mark_l0 l.length 1 hl (by omega) (by omega) l.length 0 l (by omega) (by omega) rfl (fun j hj => by omega)
  unfold laws_markAreaS.f
  simpa using this
theorem held_l0 (n : Nat) (a : Int) (hl : n ≤ 1000) (h0 : 0 ≤ a) (h1 : a ≤ 100000) : ∀ (d i : Nat), n - i = d → i ≤ n → Evt (fun k => laws_heldAreaS.l0 k (mrow8 n a) (a + 8 * (i : Int)) (i : Int)) (a + 8 * (n : Int)) := by
  intro d
  induction d with
  | zero =>
    intro i hd hi
    have : i = n := by omega
    subst this
    refine Evt.succ ?_
    simp only [laws_heldAreaS.l0, mrow8_length]
    exact Evt.neg (by omega) (Evt.ret _)
  | succ d ih =>
    intro i hd hi
    have next := ih (i + 1) (by omega) (by omega)
    have hrd : rd_T40 (mrow8 n a) (i : Int) = mk8 (a + 8 * (i : Int)) := by
      unfold rd_T40
      rw [Int.toNat_natCast, mrow8_at n a i (by omega)]
    obtain ⟨b, hb⟩ : ∃ b, b = a + 8 * (i : Int) := ⟨_, rfl⟩
    rw [show a + 8 * ((i + 1 : Nat) : Int) = b + 8 by omega] at next
    rw [← hb] at hrd ⊢
    have hb0 : 0 ≤ b := by omega
    have hb1 : b ≤ 1000000 := by omega
    refine Evt.succ (next.congr (fun k => ?_))
    have W : ∀ x : Int, 0 ≤ x → x ≤ 2000000 → wrap64 x = x := fun x h0 h1 => wrap_id (by omega) (by omega)
    simp only [laws_heldAreaS.l0]
    rw [if_pos (by rw [mrow8_length]; omega), if_pos (by omega)]
    rw [W (b + 1) (by omega) (by omega), W (b + 1 + 1) (by omega) (by omega), W (b + 1 + 1 + 1) (by omega) (by omega), W (b + 1 + 1 + 1 + 1) (by omega) (by omega), W (b + 1 + 1 + 1 + 1 + 1) (by omega) (by omega), W (b + 1 + 1 + 1 + 1 + 1 + 1) (by omega) (by omega), W (b + 1 + 1 + 1 + 1 + 1 + 1 + 1) (by omega) (by omega), W (b + 1 + 1 + 1 + 1 + 1 + 1 + 1 + 1) (by omega) (by omega), W ((i : Int) + 1) (by omega) (by omega)]
    rw [hrd]
    simp only [mk8, if_true, bne_self_eq_false, Bool.false_eq_true, if_false]
    rw [show b + 1 + 1 + 1 + 1 + 1 + 1 + 1 + 1 = b + 8 by omega]
    rfl
theorem held_ev (n : Nat) (hl : n ≤ 1000) : Evt (fun k => laws_heldAreaS.f k (mrow8 n 1) 1) (1 + 8 * (n : Int)) := by
  have := held_l0 n 1 hl (by omega) (by omega) n 0 (by omega) (by omega)
  unfold laws_heldAreaS.f
  simpa using this
theorem wo_len (a0 a1 : Int) (a2 a3 : Bool) (a4 a5 : Int) (a6 a7 : Bool) (b0 b1 : Int) (b2 b3 : Bool) (b4 b5 : Int) (b6 b7 : Bool) : (wo a0 a1 a2 a3 a4 a5 a6 a7 b0 b1 b2 b3 b4 b5 b6 b7).length ≤ 4 := by
  unfold wo pieces
  repeat' split
  · exact addO_len _ _ _ (addO_len _ _ _ (addO_len _ _ _ (addO_len _ _ _ (by simp : ([] : List S40).length ≤ 0))))
  · simp
  · simp
  · simp
end Go.Proofs.Ytppenjoobcppjaa.PAr
