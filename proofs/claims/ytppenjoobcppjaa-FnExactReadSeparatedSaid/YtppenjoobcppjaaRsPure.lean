/- The text with marks between its fields: the program reads what the specification reads. -/
import Derived.Test.YtppenjoobcppjaaPRsx5
import Derived.Test.YtppenjoobcppjaaPRsx2
import Derived.Test.YtppenjoobcppjaaEv
import Derived.Lib.Strings
import Derived.WideShapes
namespace Go.Proofs.Ytppenjoobcppjaa.PRs
open Go.RowKit Go.Proofs.YtppenjoobcppjaaW.PrintWords Go.Proofs.Ytppenjoobcppjaa.Ev
set_option linter.unusedVariables false
set_option linter.unusedSimpArgs false

theorem data_len (t : ByteArray) : t.data.toList.length = t.size := by rw [Array.length_toList]; rfl
theorem bt_nat (t : ByteArray) (i : Nat) : bt t i = ((t.data.toList.getD i 0).toNat : Int) := by
  unfold bt
  rw [Int.toNat_natCast]
  split
  · rename_i h
    have h' : i < t.data.toList.length := by rw [data_len]; exact h
    rw [getD_lt _ _ _ h', Array.getElem_toList]
    rfl
  · rename_i h
    have h' : t.data.toList.length ≤ i := by rw [data_len]; omega
    simp [List.getD_eq_getElem?_getD, List.getElem?_eq_none h']
/-- The numbers of the bytes from a up to b. -/
def seg (t : ByteArray) (a b : Nat) : List Int := ((t.data.toList.drop a).take (b - a)).map fun u => (u.toNat : Int)
theorem seg_nil (t : ByteArray) (a : Nat) : seg t a a = [] := by simp [seg]
theorem seg_step (t : ByteArray) (a b : Nat) (hab : a ≤ b) (hb : b < t.size) : seg t a b ++ [bt t b] = seg t a (b + 1) := by
  unfold seg
  have h1 : b - a < (t.data.toList.drop a).length := by rw [List.length_drop, data_len]; omega
  rw [show b + 1 - a = (b - a) + 1 by omega, take_succ _ _ 0 h1, List.map_append, List.map_cons, List.map_nil, bt_nat]
  congr 3
  rw [List.getD_eq_getElem?_getD, List.getD_eq_getElem?_getD, List.getElem?_drop]
  congr 3
  omega
theorem seg_length (t : ByteArray) (a b : Nat) : (seg t a b).length ≤ b - a := by
  unfold seg
  rw [List.length_map, List.length_take]
  omega
theorem str_seg (t : ByteArray) (a b : Nat) : strOfNums (seg t a b) = t.extract a b := by
  apply Go.WideShapes.bytes_inj
  rw [strOfNums_data, Lib.extract_data]
  unfold seg
  rw [List.map_map]
  conv => rhs; rw [← List.map_id ((t.data.toList.drop a).take (b - a))]
  apply List.map_congr_left
  intro u _
  simp

/-! ### ends of rows -/
def endAt (t : ByteArray) (i : Nat) : Nat := if i < t.size ∧ bt t i = 10 then 1 else if i + 1 < t.size ∧ bt t i = 13 ∧ bt t ((i + 1 : Nat) : Int) = 10 then 2 else 0
theorem endAt_le (t : ByteArray) (i : Nat) (hi : i ≤ t.size) : i + endAt t i ≤ t.size := by
  unfold endAt
  split
  · omega
  · split <;> omega
theorem specEnd_ev (t : ByteArray) (i : Nat) (hn : t.size ≤ 20000) (hi : i ≤ t.size) : Evt (fun k => spec_l14End.f k t (i : Int)) (endAt t i : Int) := by
  have hw : wrap64 ((i : Int) + 1) = ((i + 1 : Nat) : Int) := by rw [wrap_id (by omega) (by omega)]; rfl
  have key : ∀ b, b = decide (i < t.size ∧ bt t i = 10) → Evt (fun k => spec_l14End.j0 k t (i : Int) b) (endAt t i : Int) := by
    intro b hb
    refine Evt.succ ?_
    simp only [spec_l14End.j0, hw]
    by_cases h1 : i < t.size ∧ bt t i = 10
    · have e : endAt t i = 1 := by unfold endAt; rw [if_pos h1]
      rw [e]
      exact Evt.pos (by rw [hb]; exact decide_eq_true h1) (Evt.ret _)
    · refine Evt.neg (by rw [hb]; simpa using h1) ?_
      by_cases h2 : i + 1 < t.size
      · by_cases h3 : bt t i = 13
        · by_cases h4 : bt t ((i + 1 : Nat) : Int) = 10
          · have e : endAt t i = 2 := by unfold endAt; rw [if_neg h1, if_pos ⟨h2, h3, h4⟩]
            rw [e]
            exact Evt.pos (by omega) (Evt.pos (by omega) (Evt.pos (by omega) (Evt.pos h3 (Evt.pos (by omega) (Evt.pos h4 (Evt.ret _))))))
          · have e : endAt t i = 0 := by unfold endAt; rw [if_neg h1, if_neg (fun h => h4 h.2.2)]
            rw [e]
            exact Evt.pos (by omega) (Evt.pos (by omega) (Evt.pos (by omega) (Evt.pos h3 (Evt.pos (by omega) (Evt.neg h4 (Evt.ret _))))))
        · have e : endAt t i = 0 := by unfold endAt; rw [if_neg h1, if_neg (fun h => h3 h.2.1)]
          rw [e]
          exact Evt.pos (by omega) (Evt.pos (by omega) (Evt.pos (by omega) (Evt.neg h3 (Evt.ret _))))
      · have e : endAt t i = 0 := by unfold endAt; rw [if_neg h1, if_neg (fun h => h2 h.1)]
        rw [e]
        exact Evt.neg (by omega) (Evt.ret _)
  unfold spec_l14End.f
  by_cases h : i < t.size
  · refine Evt.pos (by omega) (Evt.pos (by omega) (key _ ?_))
    rw [Bool.eq_iff_iff]
    simp [h]
  · refine Evt.neg (by omega) (key _ ?_)
    rw [eq_comm, decide_eq_false_iff_not]
    omega
theorem pre_raw (s p : ByteArray) : strings_HasPrefix.f s p = some (Lib.hasPrefix s.data.toList p.data.toList) := by
  rw [← Lib.hasPrefix_raw]
  unfold strings_HasPrefix.f stringslite_HasPrefix.f
  by_cases h : p.size ≤ s.size
  · rw [if_pos (by omega), if_pos (by omega), if_pos (by omega), Int.toNat_natCast, decide_eq_true h, Bool.true_and]
    rfl
  · rw [if_neg (by omega), decide_eq_false h, Bool.false_and]
    rfl
theorem ext_drop (t : ByteArray) (i : Nat) (hi : i ≤ t.size) : (t.extract i t.size).data.toList = t.data.toList.drop i := by
  rw [Lib.extract_data]
  apply List.take_of_length_le
  rw [List.length_drop, data_len]
  exact Nat.le_refl _
theorem drop_at (t : ByteArray) (i : Nat) (h : i < t.size) : ∃ u : UInt8, t.data.toList.drop i = u :: t.data.toList.drop (i + 1) ∧ bt t i = (u.toNat : Int) := by
  have h' : i < t.data.toList.length := by rw [data_len]; exact h
  refine ⟨t.data.toList[i], List.drop_eq_getElem_cons h', ?_⟩
  rw [bt_nat, getD_lt _ _ _ h']
theorem drop_end (t : ByteArray) (i : Nat) (h : t.size ≤ i) : t.data.toList.drop i = [] := List.drop_eq_nil_of_le (by rw [data_len]; exact h)
theorem u_eq (u : UInt8) (n : Nat) (hn : n < 256) : ((u.toNat : Int) = (n : Int)) ↔ u = UInt8.ofNat n := by
  constructor
  · intro h
    apply UInt8.toNat.inj
    rw [UInt8.toNat_ofNat']
    omega
  · intro h
    rw [h, UInt8.toNat_ofNat']
    omega
theorem pre_one (t : ByteArray) (i : Nat) (hi : i ≤ t.size) : strings_HasPrefix.f (t.extract i t.size) (⟨#[10]⟩ : ByteArray) = some (decide (i < t.size ∧ bt t i = 10)) := by
  rw [pre_raw, ext_drop t i hi]
  congr 1
  by_cases h : i < t.size
  · obtain ⟨u, e, hb⟩ := drop_at t i h
    rw [e, hb, Bool.eq_iff_iff, decide_eq_true_iff]
    have := u_eq u 10 (by omega)
    simp only [Lib.hasPrefix, List.isPrefixOf, Bool.and_true, beq_iff_eq]
    constructor
    · intro q
      exact ⟨h, this.mpr q.symm⟩
    · intro q
      exact (this.mp q.2).symm
  · rw [drop_end t i (by omega), eq_comm]
    exact decide_eq_false (fun q => h q.1)
theorem pre_two (t : ByteArray) (i : Nat) (hi : i ≤ t.size) : strings_HasPrefix.f (t.extract i t.size) (⟨#[13, 10]⟩ : ByteArray) = some (decide (i + 1 < t.size ∧ bt t i = 13 ∧ bt t ((i + 1 : Nat) : Int) = 10)) := by
  rw [pre_raw, ext_drop t i hi]
  congr 1
  by_cases h : i < t.size
  · obtain ⟨u, e, hb⟩ := drop_at t i h
    have hu := u_eq u 13 (by omega)
    by_cases h1 : i + 1 < t.size
    · obtain ⟨v, e1, hb1⟩ := drop_at t (i + 1) h1
      have hv := u_eq v 10 (by omega)
      rw [e, e1, hb, hb1, Bool.eq_iff_iff, decide_eq_true_iff]
      simp only [Lib.hasPrefix, List.isPrefixOf, Bool.and_true, Bool.and_eq_true, beq_iff_eq]
      constructor
      · intro q
        exact ⟨h1, hu.mpr q.1.symm, hv.mpr q.2.symm⟩
      · intro q
        exact ⟨(hu.mp q.2.1).symm, (hv.mp q.2.2).symm⟩
    · rw [e, drop_end t (i + 1) (by omega), eq_comm, decide_eq_false (fun q => h1 q.1), eq_comm]
      simp [Lib.hasPrefix, List.isPrefixOf]
  · rw [drop_end t i (by omega), eq_comm]
    exact decide_eq_false (fun q => h (by omega))
theorem implEnd (t : ByteArray) (i : Nat) (hi : i ≤ t.size) : impl_rowEnd.f t (i : Int) = some (endAt t i : Int) := by
  unfold impl_rowEnd.f
  rw [if_pos (by omega), if_pos (by omega), Int.toNat_natCast, pre_one t i hi, pre_two t i hi]
  simp only [Option.bind_some]
  unfold endAt
  by_cases h1 : i < t.size ∧ bt t i = 10
  · rw [if_pos (decide_eq_true h1), if_pos h1]
    rfl
  · rw [if_neg (by simpa using h1), if_neg h1]
    by_cases h2 : i + 1 < t.size ∧ bt t i = 13 ∧ bt t ((i + 1 : Nat) : Int) = 10
    · rw [if_pos (decide_eq_true h2), if_pos h2]
      rfl
    · rw [if_neg (by simpa using h2), if_neg h2]
      rfl

attribute [local irreducible] endAt bt seg
/-! ### one field -/
abbrev Ans := Int × Int × List (List ByteArray)
/-- What follows a field: the mark and the next field, or the row's end. -/
def aft (k : Nat) (t mk : ByteArray) (x5 : List (List ByteArray)) (x6 : Int) (x7 : List ByteArray) (fld : ByteArray) : Option Ans :=
  if x7.length < 8796093022208 then ((some (x7 ++ [fld] : List ByteArray)).bind fun y110 => (if x6 < (t.size : Int) then (if 0 ≤ x6 then (if 0 < (mk.size : Int) then (if (bt t x6) = (bt mk 0) then (spec_ReadSeparated.l1 k t mk x5 (wrap64 (x6 + 1)) y110) else (if x5.length < 5864062014805 then ((spec_l14End.f k t x6).bind fun t116 => (spec_ReadSeparated.l0 k t mk (x5 ++ [y110]) (wrap64 (x6 + t116)))) else (none))) else (none)) else (none)) else (if x5.length < 5864062014805 then ((spec_l14End.f k t x6).bind fun t120 => (spec_ReadSeparated.l0 k t mk (x5 ++ [y110]) (wrap64 (x6 + t120)))) else (none)))) else (none)
def Cont (t mk : ByteArray) (rows : List (List ByteArray)) (row : List ByteArray) (fld : ByteArray) (nx : Nat) (err : Int) (R : Ans) : Prop :=
  if err = 0 then Evt (fun k => aft k t mk rows (nx : Int) row fld) R else R = (err, (nx : Int), [])
def Out (t mk : ByteArray) (i : Nat) (I : Nat → Option (ByteArray × Int × Int)) (S : List (List ByteArray) → List ByteArray → Nat → Option Ans) : Prop :=
  ∃ (nx : Nat) (err : Int) (fld : ByteArray), i ≤ nx ∧ nx ≤ t.size ∧ Evt I (fld, (nx : Int), err) ∧ (nx < t.size → err = 0 → bt t nx = bt mk 0 ∨ endAt t nx ≠ 0) ∧ ∀ rows row R, Cont t mk rows row fld nx err R → Evt (S rows row) R
theorem Cont.zero {t mk rows row fld nx R} (h : Cont t mk rows row fld nx 0 R) : Evt (fun k => aft k t mk rows (nx : Int) row fld) R := by
  unfold Cont at h
  rwa [if_pos rfl] at h
theorem Cont.err {t mk rows row fld nx err R} (h : Cont t mk rows row fld nx err R) (he : err ≠ 0) : R = (err, (nx : Int), []) := by
  unfold Cont at h
  rwa [if_neg he] at h
theorem stopI (t : ByteArray) (m : Int) (i0 i : Nat) (h0 : i0 ≤ i) (hi : i ≤ t.size) : Evt (fun k => impl_separatedField.j3 k t (i : Int) m (i0 : Int) false) (t.extract i0 i, (i : Int), 0) := by
  refine Evt.succ ?_
  simp only [impl_separatedField.j3]
  refine Evt.neg (by decide) (Evt.pos (by omega) (Evt.pos (by omega) (Evt.pos (by omega) ?_)))
  simp only [Int.toNat_natCast]
  exact Evt.ret _
theorem stopS (t mk : ByteArray) (i0 i : Nat) (rows : List (List ByteArray)) (row : List ByteArray) (R : Ans) (h : Cont t mk rows row (t.extract i0 i) i 0 R) : Evt (fun k => spec_ReadSeparated.j8 k t mk rows (i : Int) row (seg t i0 i) false) R := by
  refine Evt.succ ?_
  simp only [spec_ReadSeparated.j8]
  refine Evt.neg (by decide) ?_
  rw [str_seg]
  exact h.zero
theorem un (t mk : ByteArray) (hn : t.size ≤ 20000) (hm : 0 < (mk.size : Int)) (i0 : Nat) : ∀ d i : Nat, t.size - i = d → i0 ≤ i → i ≤ t.size →
    Out t mk i (fun k => impl_separatedField.l1 k t (i : Int) (bt mk 0) (i0 : Int)) (fun rows row k => spec_ReadSeparated.l3 k t mk rows (i : Int) row (seg t i0 i)) := by
  intro d
  induction d with
  | zero =>
    intro i hd h0 hi
    refine ⟨i, 0, t.extract i0 i, Nat.le_refl _, hi, ?_, fun h => by omega, ?_⟩
    · refine Evt.succ ?_
      simp only [impl_separatedField.l1]
      exact Evt.neg (by omega) (stopI t _ i0 i h0 hi)
    · intro rows row R h
      refine Evt.succ ?_
      simp only [spec_ReadSeparated.l3]
      exact Evt.neg (by omega) (stopS t mk i0 i rows row R h)
  | succ d ih =>
    intro i hd h0 hi
    have hw : wrap64 ((i : Int) + 1) = ((i + 1 : Nat) : Int) := by rw [wrap_id (by omega) (by omega)]; rfl
    by_cases hmk : bt t i = bt mk 0
    · refine ⟨i, 0, t.extract i0 i, Nat.le_refl _, hi, ?_, fun _ _ => .inl hmk, ?_⟩
      · refine Evt.succ ?_
        simp only [impl_separatedField.l1]
        exact Evt.pos (by omega) (Evt.pos (by omega) (Evt.pos hmk (stopI t _ i0 i h0 hi)))
      · intro rows row R h
        refine Evt.succ ?_
        simp only [spec_ReadSeparated.l3]
        exact Evt.pos (by omega) (Evt.pos (by omega) (Evt.pos hm (Evt.pos hmk (stopS t mk i0 i rows row R h))))
    · by_cases he : endAt t i = 0
      · by_cases hq : bt t i = 34
        · refine ⟨i, 2, ⟨#[]⟩, Nat.le_refl _, hi, ?_, fun _ h => by omega, ?_⟩
          · refine Evt.succ ?_
            simp only [impl_separatedField.l1]
            refine Evt.pos (by omega) (Evt.pos (by omega) (Evt.neg hmk (Evt.bind (Evt.const (implEnd t i hi)) ?_)))
            rw [he]
            refine Evt.succ ?_
            simp only [impl_separatedField.j3]
            exact Evt.pos (by rfl) (Evt.pos (by omega) (Evt.pos (by omega) (Evt.pos hq (Evt.ret _))))
          · intro rows row R h
            rw [h.err (by decide)]
            refine Evt.succ ?_
            simp only [spec_ReadSeparated.l3]
            refine Evt.pos (by omega) (Evt.pos (by omega) (Evt.pos hm (Evt.neg hmk (Evt.bind (specEnd_ev t i hn hi) ?_))))
            rw [he]
            refine Evt.succ ?_
            simp only [spec_ReadSeparated.j8]
            exact Evt.pos (by rfl) (Evt.pos (by omega) (Evt.pos (by omega) (Evt.pos hq (Evt.ret _))))
        · obtain ⟨nx, err, fld, h1, h2, h3, h4, h5⟩ := ih (i + 1) (by omega) (by omega) (by omega)
          refine ⟨nx, err, fld, by omega, h2, ?_, h4, ?_⟩
          · refine Evt.succ ?_
            simp only [impl_separatedField.l1]
            refine Evt.pos (by omega) (Evt.pos (by omega) (Evt.neg hmk (Evt.bind (Evt.const (implEnd t i hi)) ?_)))
            rw [he]
            refine Evt.succ ?_
            simp only [impl_separatedField.j3, hw]
            exact Evt.pos (by rfl) (Evt.pos (by omega) (Evt.pos (by omega) (Evt.neg hq h3)))
          · intro rows row R h
            have h6 := h5 rows row R h
            refine Evt.succ ?_
            simp only [spec_ReadSeparated.l3]
            refine Evt.pos (by omega) (Evt.pos (by omega) (Evt.pos hm (Evt.neg hmk (Evt.bind (specEnd_ev t i hn hi) ?_))))
            rw [he]
            refine Evt.succ ?_
            simp only [spec_ReadSeparated.j8, hw, seg_step t i0 i h0 (by omega)]
            exact Evt.pos (by rfl) (Evt.pos (by omega) (Evt.pos (by omega) (Evt.neg hq (Evt.pos (by have := seg_length t i0 i; omega) h6))))
      · have hf : (((endAt t i : Nat) : Int) == 0) = false := by
          rw [beq_eq_false_iff_ne]
          omega
        refine ⟨i, 0, t.extract i0 i, Nat.le_refl _, hi, ?_, fun _ _ => .inr he, ?_⟩
        · refine Evt.succ ?_
          simp only [impl_separatedField.l1]
          refine Evt.pos (by omega) (Evt.pos (by omega) (Evt.neg hmk (Evt.bind (Evt.const (implEnd t i hi)) ?_)))
          try dsimp only
          rw [hf]
          exact stopI t _ i0 i h0 hi
        · intro rows row R h
          refine Evt.succ ?_
          simp only [spec_ReadSeparated.l3]
          refine Evt.pos (by omega) (Evt.pos (by omega) (Evt.pos hm (Evt.neg hmk (Evt.bind (specEnd_ev t i hn hi) ?_))))
          try dsimp only
          rw [hf]
          exact stopS t mk i0 i rows row R h
theorem stopQ (t mk : ByteArray) (i : Nat) (xs : List Int) (rows : List (List ByteArray)) (row : List ByteArray) (R : Ans) (h : Cont t mk rows row (strOfNums xs) i 0 R) : Evt (fun k => spec_ReadSeparated.j6 k t mk rows (i : Int) row xs false) R := by
  refine Evt.succ ?_
  simp only [spec_ReadSeparated.j6]
  refine Evt.neg (by decide) ?_
  exact h.zero
theorem qu (t mk : ByteArray) (hn : t.size ≤ 20000) (hm : 0 < (mk.size : Int)) : ∀ (d i : Nat) (xs : List Int), t.size - i ≤ d → i ≤ t.size → xs.length ≤ i →
    Out t mk i (fun k => impl_separatedField.l0 k t (i : Int) (bt mk 0) xs) (fun rows row k => spec_ReadSeparated.l2 k t mk rows (i : Int) row xs) := by
  intro d
  induction d with
  | zero =>
    intro i xs hd hi hx
    have e : t.size = i := by omega
    refine ⟨i, 1, ⟨#[]⟩, Nat.le_refl _, hi, ?_, fun h => by omega, ?_⟩
    · refine Evt.succ ?_
      simp only [impl_separatedField.l0]
      refine Evt.pos (by omega) ?_
      rw [e]
      exact Evt.ret _
    · intro rows row R h
      rw [h.err (by decide)]
      refine Evt.succ ?_
      simp only [spec_ReadSeparated.l2]
      refine Evt.pos (by omega) ?_
      rw [e]
      exact Evt.ret _
  | succ d ih =>
    intro i xs hd hi hx
    by_cases hlt : i < t.size
    rotate_left
    · exact ih i xs (by omega) hi hx
    have hw : wrap64 ((i : Int) + 1) = ((i + 1 : Nat) : Int) := by rw [wrap_id (by omega) (by omega)]; rfl
    have hw2 : wrap64 (((i + 1 : Nat) : Int) + 1) = ((i + 2 : Nat) : Int) := by rw [wrap_id (by omega) (by omega)]; omega
    by_cases hq : bt t i = 34
    · by_cases h1 : i + 1 < t.size
      · by_cases hq1 : bt t ((i + 1 : Nat) : Int) = 34
        · obtain ⟨nx, err, fld, g1, g2, g3, g4, g5⟩ := ih (i + 2) (xs ++ [bt t ((i + 1 : Nat) : Int)]) (by omega) (by omega) (by rw [List.length_append, List.length_singleton]; omega)
          refine ⟨nx, err, fld, by omega, g2, ?_, g4, ?_⟩
          · refine Evt.succ ?_
            simp only [impl_separatedField.l0, hw, hw2]
            exact Evt.neg (by omega) (Evt.pos (by omega) (Evt.pos (by omega) (Evt.pos hq (Evt.pos (by omega) (Evt.pos (by omega) (Evt.pos hq1 (Evt.pos (by omega) g3)))))))
          · intro rows row R h
            refine Evt.succ ?_
            simp only [spec_ReadSeparated.l2, hw, hw2]
            exact Evt.neg (by omega) (Evt.pos (by omega) (Evt.pos (by omega) (Evt.pos hq (Evt.pos (by omega) (Evt.pos (by omega) (Evt.pos hq1 (Evt.pos (by omega) (g5 rows row R h))))))))
        · by_cases hmk : bt t ((i + 1 : Nat) : Int) = bt mk 0
          · refine ⟨i + 1, 0, strOfNums xs, by omega, by omega, ?_, fun _ _ => .inl hmk, ?_⟩
            · refine Evt.succ ?_
              simp only [impl_separatedField.l0, hw, hw2]
              exact Evt.neg (by omega) (Evt.pos (by omega) (Evt.pos (by omega) (Evt.pos hq (Evt.pos (by omega) (Evt.pos (by omega) (Evt.neg hq1 (Evt.pos hmk (Evt.ret _))))))))
            · intro rows row R h
              refine Evt.succ ?_
              simp only [spec_ReadSeparated.l2, hw, hw2]
              refine Evt.neg (by omega) (Evt.pos (by omega) (Evt.pos (by omega) (Evt.pos hq (Evt.pos (by omega) (Evt.pos (by omega) (Evt.neg hq1 ?_))))))
              refine Evt.succ ?_
              simp only [spec_ReadSeparated.j5, hw]
              exact Evt.pos (by omega) (Evt.pos (by omega) (Evt.pos hm (Evt.pos hmk (stopQ t mk (i + 1) xs rows row R h))))
          · by_cases he : endAt t (i + 1) = 0
            · refine ⟨i + 1, 2, ⟨#[]⟩, by omega, by omega, ?_, fun _ h => by omega, ?_⟩
              · refine Evt.succ ?_
                simp only [impl_separatedField.l0, hw, hw2]
                refine Evt.neg (by omega) (Evt.pos (by omega) (Evt.pos (by omega) (Evt.pos hq (Evt.pos (by omega) (Evt.pos (by omega) (Evt.neg hq1 (Evt.neg hmk (Evt.bind (Evt.const (implEnd t (i + 1) (by omega))) ?_))))))))
                exact Evt.pos (by omega) (Evt.ret _)
              · intro rows row R h
                rw [h.err (by decide)]
                refine Evt.succ ?_
                simp only [spec_ReadSeparated.l2, hw, hw2]
                refine Evt.neg (by omega) (Evt.pos (by omega) (Evt.pos (by omega) (Evt.pos hq (Evt.pos (by omega) (Evt.pos (by omega) (Evt.neg hq1 ?_))))))
                refine Evt.succ ?_
                simp only [spec_ReadSeparated.j5, hw]
                refine Evt.pos (by omega) (Evt.pos (by omega) (Evt.pos hm (Evt.neg hmk (Evt.bind (specEnd_ev t (i + 1) hn (by omega)) ?_))))
                rw [he]
                refine Evt.succ ?_
                simp only [spec_ReadSeparated.j6]
                exact Evt.pos (by rfl) (Evt.ret _)
            · have hf : (((endAt t (i + 1) : Nat) : Int) == 0) = false := by
                rw [beq_eq_false_iff_ne]
                omega
              refine ⟨i + 1, 0, strOfNums xs, by omega, by omega, ?_, fun _ _ => .inr he, ?_⟩
              · refine Evt.succ ?_
                simp only [impl_separatedField.l0, hw, hw2]
                refine Evt.neg (by omega) (Evt.pos (by omega) (Evt.pos (by omega) (Evt.pos hq (Evt.pos (by omega) (Evt.pos (by omega) (Evt.neg hq1 (Evt.neg hmk (Evt.bind (Evt.const (implEnd t (i + 1) (by omega))) ?_))))))))
                exact Evt.neg (by omega) (Evt.ret _)
              · intro rows row R h
                refine Evt.succ ?_
                simp only [spec_ReadSeparated.l2, hw, hw2]
                refine Evt.neg (by omega) (Evt.pos (by omega) (Evt.pos (by omega) (Evt.pos hq (Evt.pos (by omega) (Evt.pos (by omega) (Evt.neg hq1 ?_))))))
                refine Evt.succ ?_
                simp only [spec_ReadSeparated.j5, hw]
                refine Evt.pos (by omega) (Evt.pos (by omega) (Evt.pos hm (Evt.neg hmk (Evt.bind (specEnd_ev t (i + 1) hn (by omega)) ?_))))
                try dsimp only
                rw [hf]
                exact stopQ t mk (i + 1) xs rows row R h
      · refine ⟨i + 1, 0, strOfNums xs, by omega, by omega, ?_, fun h => by omega, ?_⟩
        · refine Evt.succ ?_
          simp only [impl_separatedField.l0, hw, hw2]
          exact Evt.neg (by omega) (Evt.pos (by omega) (Evt.pos (by omega) (Evt.pos hq (Evt.neg (by omega) (Evt.ret _)))))
        · intro rows row R h
          refine Evt.succ ?_
          simp only [spec_ReadSeparated.l2, hw, hw2]
          refine Evt.neg (by omega) (Evt.pos (by omega) (Evt.pos (by omega) (Evt.pos hq (Evt.neg (by omega) ?_))))
          refine Evt.succ ?_
          simp only [spec_ReadSeparated.j5, hw]
          exact Evt.neg (by omega) (stopQ t mk (i + 1) xs rows row R h)
    · obtain ⟨nx, err, fld, g1, g2, g3, g4, g5⟩ := ih (i + 1) (xs ++ [bt t i]) (by omega) (by omega) (by rw [List.length_append, List.length_singleton]; omega)
      refine ⟨nx, err, fld, by omega, g2, ?_, g4, ?_⟩
      · refine Evt.succ ?_
        simp only [impl_separatedField.l0, hw, hw2]
        exact Evt.neg (by omega) (Evt.pos (by omega) (Evt.pos (by omega) (Evt.neg hq (Evt.pos (by omega) g3))))
      · intro rows row R h
        refine Evt.succ ?_
        simp only [spec_ReadSeparated.l2, hw, hw2]
        exact Evt.neg (by omega) (Evt.pos (by omega) (Evt.pos (by omega) (Evt.neg hq (Evt.pos (by omega) (g5 rows row R h)))))
theorem field (t mk : ByteArray) (hn : t.size ≤ 20000) (hm : 0 < (mk.size : Int)) (i : Nat) (hi : i ≤ t.size) :
    Out t mk i (fun k => impl_separatedField.f k t (i : Int) (bt mk 0)) (fun rows row k => spec_ReadSeparated.l1 k t mk rows (i : Int) row) := by
  have hw : i < t.size → wrap64 ((i : Int) + 1) = ((i + 1 : Nat) : Int) := fun h => by rw [wrap_id (by omega) (by omega)]; rfl
  by_cases hlt : i < t.size
  · by_cases hq : bt t i = 34
    · obtain ⟨nx, err, fld, g1, g2, g3, g4, g5⟩ := qu t mk hn hm (t.size - (i + 1)) (i + 1) [] (Nat.le_refl _) (by omega) (Nat.zero_le _)
      refine ⟨nx, err, fld, by omega, g2, ?_, g4, ?_⟩
      · unfold impl_separatedField.f
        refine Evt.pos (by omega) (Evt.pos (by omega) ?_)
        refine Evt.succ ?_
        simp only [impl_separatedField.j0, hw hlt]
        exact Evt.pos (by rw [beq_iff_eq]; exact hq) g3
      · intro rows row R h
        refine Evt.succ ?_
        simp only [spec_ReadSeparated.l1]
        refine Evt.pos (by omega) (Evt.pos (by omega) ?_)
        refine Evt.succ ?_
        simp only [spec_ReadSeparated.j3, hw hlt]
        exact Evt.pos (by rw [beq_iff_eq]; exact hq) (g5 rows row R h)
    · obtain ⟨nx, err, fld, g1, g2, g3, g4, g5⟩ := un t mk hn hm i _ i rfl (Nat.le_refl _) hi
      refine ⟨nx, err, fld, by omega, g2, ?_, g4, ?_⟩
      · unfold impl_separatedField.f
        refine Evt.pos (by omega) (Evt.pos (by omega) ?_)
        refine Evt.succ ?_
        simp only [impl_separatedField.j0]
        exact Evt.neg (by rw [beq_iff_eq]; exact hq) g3
      · intro rows row R h
        refine Evt.succ ?_
        simp only [spec_ReadSeparated.l1]
        refine Evt.pos (by omega) (Evt.pos (by omega) ?_)
        refine Evt.succ ?_
        simp only [spec_ReadSeparated.j3]
        refine Evt.neg (by rw [beq_iff_eq]; exact hq) ?_
        have := g5 rows row R h
        rwa [seg_nil] at this
  · obtain ⟨nx, err, fld, g1, g2, g3, g4, g5⟩ := un t mk hn hm i _ i rfl (Nat.le_refl _) hi
    refine ⟨nx, err, fld, by omega, g2, ?_, g4, ?_⟩
    · unfold impl_separatedField.f
      refine Evt.neg (by omega) ?_
      refine Evt.succ ?_
      simp only [impl_separatedField.j0]
      exact Evt.neg (by decide) g3
    · intro rows row R h
      refine Evt.succ ?_
      simp only [spec_ReadSeparated.l1]
      refine Evt.neg (by omega) ?_
      refine Evt.succ ?_
      simp only [spec_ReadSeparated.j3]
      refine Evt.neg (by decide) ?_
      have := g5 rows row R h
      rwa [seg_nil] at this

/-! ### the whole text -/
def Both (t mk : ByteArray) (I S : Nat → Option Ans) : Prop :=
  ∃ R : Ans, Evt I R ∧ Evt S R ∧ R.2.2.length ≤ t.size + 1 ∧ ∀ x ∈ R.2.2, x.length ≤ t.size + 1
theorem rows_ev (t mk : ByteArray) (hn : t.size ≤ 20000) (hm : 0 < (mk.size : Int)) : ∀ (d i : Nat), t.size - i = d → i ≤ t.size → ∀ rows row, rows.length ≤ i → row.length ≤ i → (∀ x ∈ rows, x.length ≤ t.size + 1) →
    Both t mk (fun k => impl_ReadSeparated.l1 k t mk rows (i : Int) row) (fun k => spec_ReadSeparated.l1 k t mk rows (i : Int) row) := by
  intro d
  induction d using Nat.strongRecOn with
  | _ d ih =>
  intro i hd hi rows row hr hrow hall
  obtain ⟨nx, err, fld, g1, g2, g3, g4, g5⟩ := field t mk hn hm i hi
  by_cases he : err = 0
  rotate_left
  · refine ⟨(err, (nx : Int), []), ?_, g5 rows row _ (by unfold Cont; rw [if_neg he]), Nat.zero_le _, fun x hx => by cases hx⟩
    refine Evt.succ ?_
    simp only [impl_ReadSeparated.l1]
    refine Evt.pos hm (Evt.bind g3 ?_)
    exact Evt.neg he (Evt.ret _)
  subst he
  have hall' : ∀ x ∈ rows ++ [row ++ [fld]], x.length ≤ t.size + 1 := by
    intro x hx
    rw [List.mem_append, List.mem_singleton] at hx
    rcases hx with hx | rfl
    · exact hall x hx
    · rw [List.length_append, List.length_singleton]
      omega
  have hlen : (rows ++ [row ++ [fld]]).length = rows.length + 1 := by rw [List.length_append, List.length_singleton]
  have next : ∀ j : Nat, j ≤ t.size → (j < t.size → i < j) →
      Both t mk (fun k => impl_ReadSeparated.l0 k t mk (rows ++ [row ++ [fld]]) (j : Int)) (fun k => spec_ReadSeparated.l0 k t mk (rows ++ [row ++ [fld]]) (j : Int)) := by
    intro j hj hji
    by_cases hlt : j < t.size
    · obtain ⟨R, q1, q2, q3, q4⟩ := ih (t.size - j) (by have := hji hlt; omega) j rfl hj (rows ++ [row ++ [fld]]) [] (by have := hji hlt; omega) (Nat.zero_le _) hall'
      refine ⟨R, ?_, ?_, q3, q4⟩
      · refine Evt.succ ?_
        simp only [impl_ReadSeparated.l0]
        exact Evt.pos (by omega) q1
      · refine Evt.succ ?_
        simp only [spec_ReadSeparated.l0]
        exact Evt.pos (by omega) q2
    · refine ⟨(0, 0, rows ++ [row ++ [fld]]), ?_, ?_, by show (rows ++ [row ++ [fld]]).length ≤ _; omega, hall'⟩
      · refine Evt.succ ?_
        simp only [impl_ReadSeparated.l0]
        exact Evt.neg (by omega) (Evt.ret _)
      · refine Evt.succ ?_
        simp only [spec_ReadSeparated.l0]
        exact Evt.neg (by omega) (Evt.ret _)
  have el := endAt_le t nx g2
  have HWE := Aside0.mk (show wrap64 ((nx : Int) + (endAt t nx : Int)) = ((nx + endAt t nx : Nat) : Int) by rw [wrap_id (by omega) (by omega)]; rfl)
  by_cases hlt : nx < t.size
  · by_cases hmk : bt t nx = bt mk 0
    · have HW := Aside0.mk (show wrap64 ((nx : Int) + 1) = ((nx + 1 : Nat) : Int) by rw [wrap_id (by omega) (by omega)]; rfl)
      obtain ⟨R, q1, q2, q3, q4⟩ := ih (t.size - (nx + 1)) (by omega) (nx + 1) rfl (by omega) rows (row ++ [fld]) (by omega) (by rw [List.length_append, List.length_singleton]; omega) hall
      refine ⟨R, ?_, g5 rows row R ?_, q3, q4⟩
      · refine Evt.succ ?_
        simp only [impl_ReadSeparated.l1]
        refine Evt.pos hm (Evt.bind g3 ?_)
        try dsimp only
        rw [HW.out]
        exact Evt.pos rfl (Evt.pos (by omega) (Evt.bind (Evt.ret _) (Evt.pos (by omega) (Evt.pos (by omega) (Evt.pos hmk q1)))))
      · unfold Cont
        rw [if_pos rfl]
        unfold aft
        rw [HW.out]
        exact Evt.pos (by omega) (Evt.bind (Evt.ret _) (Evt.pos (by omega) (Evt.pos (by omega) (Evt.pos hm (Evt.pos hmk q2)))))
    · have he := (g4 hlt rfl).resolve_left hmk
      obtain ⟨R, q1, q2, q3, q4⟩ := next (nx + endAt t nx) el (fun _ => by omega)
      refine ⟨R, ?_, g5 rows row R ?_, q3, q4⟩
      · refine Evt.succ ?_
        simp only [impl_ReadSeparated.l1]
        refine Evt.pos hm (Evt.bind g3 ?_)
        refine Evt.pos rfl (Evt.pos (by omega) (Evt.bind (Evt.ret _) (Evt.pos ?_ (Evt.pos ?_ (Evt.neg hmk (Evt.pos (by omega) (Evt.bind (Evt.const (implEnd t nx g2)) ?_)))))))
        · show (nx : Int) < t.size
          omega
        · show 0 ≤ (nx : Int)
          omega
        · dsimp only
          rw [HWE.out]
          exact q1
      · unfold Cont
        rw [if_pos rfl]
        unfold aft
        refine Evt.pos (by omega) (Evt.bind (Evt.ret _) (Evt.pos (by omega) (Evt.pos (by omega) (Evt.pos hm (Evt.neg hmk (Evt.pos (by omega) (Evt.bind (specEnd_ev t nx hn g2) ?_)))))))
        try dsimp only
        rw [HWE.out]
        exact q2
  · have e : nx = t.size := by omega
    have e0 : endAt t nx = 0 := by omega
    obtain ⟨R, q1, q2, q3, q4⟩ := next nx g2 (fun _ => by omega)
    refine ⟨R, ?_, g5 rows row R ?_, q3, q4⟩
    · refine Evt.succ ?_
      simp only [impl_ReadSeparated.l1]
      refine Evt.pos hm (Evt.bind g3 ?_)
      refine Evt.pos rfl (Evt.pos (by omega) (Evt.bind (Evt.ret _) (Evt.neg ?_ (Evt.pos (by omega) q1))))
      show ¬ (nx : Int) < t.size
      omega
    · unfold Cont
      rw [if_pos rfl]
      unfold aft
      refine Evt.pos (by omega) (Evt.bind (Evt.ret _) (Evt.neg (by omega) (Evt.pos (by omega) (Evt.bind (specEnd_ev t nx hn g2) ?_))))
      try dsimp only
      rw [HWE.out, e0, Nat.add_zero]
      exact q2
theorem read_ev (t mk : ByteArray) : ∃ R : Ans, Evt (fun k => impl_ReadSeparated.f k t mk) R ∧ Evt (fun k => spec_ReadSeparated.f k t mk) R ∧ R.2.2.length ≤ 20001 ∧ ∀ x ∈ R.2.2, x.length ≤ 20001 := by
  by_cases hbig : (t.size : Int) > 20000
  · refine ⟨(3, 0, []), ?_, ?_, Nat.zero_le _, fun x hx => by cases hx⟩
    · unfold impl_ReadSeparated.f
      refine Evt.pos hbig (Evt.succ ?_)
      simp only [impl_ReadSeparated.j0]
      exact Evt.pos (by trivial) (Evt.ret _)
    · unfold spec_ReadSeparated.f
      refine Evt.pos hbig (Evt.succ ?_)
      simp only [spec_ReadSeparated.j0]
      exact Evt.pos (by trivial) (Evt.ret _)
  have hn : t.size ≤ 20000 := by omega
  have hmark : ∃ b, impl_isMark.f mk = some b ∧ spec_l14Mark.f mk = some b ∧ (b = true → 0 < (mk.size : Int)) := by
    have hs : ∀ u : UInt8, mk.toList = [u] → 0 < (mk.size : Int) := by
      intro u h
      have : mk.data.toList.length = 1 := by rw [← Lib.toList_data, h]; rfl
      rw [data_len] at this
      omega
    unfold impl_isMark.f spec_l14Mark.f
    by_cases h1 : mk.toList = [44]
    · exact ⟨true, by rw [if_pos h1], by rw [if_pos h1], fun _ => hs _ h1⟩
    · by_cases h2 : mk.toList = [59]
      · exact ⟨true, by rw [if_neg h1, if_pos h2], by rw [if_neg h1, if_pos h2], fun _ => hs _ h2⟩
      · exact ⟨_, by rw [if_neg h1, if_neg h2], by rw [if_neg h1, if_neg h2], fun h => hs _ (eq_of_beq h)⟩
  obtain ⟨b, b1, b2, b3⟩ := hmark
  cases b with
  | false =>
    refine ⟨(3, 0, []), ?_, ?_, Nat.zero_le _, fun x hx => by cases hx⟩
    · unfold impl_ReadSeparated.f
      refine Evt.neg hbig (Evt.bind (Evt.const b1) (Evt.succ ?_))
      simp only [impl_ReadSeparated.j0]
      exact Evt.pos rfl (Evt.ret _)
    · unfold spec_ReadSeparated.f
      refine Evt.neg hbig (Evt.bind (Evt.const b2) (Evt.succ ?_))
      simp only [spec_ReadSeparated.j0]
      exact Evt.pos rfl (Evt.ret _)
  | true =>
    have hm := b3 rfl
    have start : Both t mk (fun k => impl_ReadSeparated.l0 k t mk [] 0) (fun k => spec_ReadSeparated.l0 k t mk [] 0) := by
      by_cases h0 : 0 < t.size
      · obtain ⟨R, q1, q2, q3, q4⟩ := rows_ev t mk hn hm _ 0 rfl (by omega) [] [] (Nat.le_refl _) (Nat.le_refl _) (fun x hx => by cases hx)
        refine ⟨R, ?_, ?_, q3, q4⟩
        · refine Evt.succ ?_
          simp only [impl_ReadSeparated.l0]
          exact Evt.pos (by omega) q1
        · refine Evt.succ ?_
          simp only [spec_ReadSeparated.l0]
          exact Evt.pos (by omega) q2
      · refine ⟨(0, 0, []), ?_, ?_, Nat.zero_le _, fun x hx => by cases hx⟩
        · refine Evt.succ ?_
          simp only [impl_ReadSeparated.l0]
          exact Evt.neg (by omega) (Evt.ret _)
        · refine Evt.succ ?_
          simp only [spec_ReadSeparated.l0]
          exact Evt.neg (by omega) (Evt.ret _)
    obtain ⟨R, q1, q2, q3, q4⟩ := start
    refine ⟨R, ?_, ?_, by omega, fun x hx => by have := q4 x hx; omega⟩
    · unfold impl_ReadSeparated.f
      refine Evt.neg hbig (Evt.bind (Evt.const b1) (Evt.succ ?_))
      simp only [impl_ReadSeparated.j0]
      exact Evt.neg (by decide) q1
    · unfold spec_ReadSeparated.f
      refine Evt.neg hbig (Evt.bind (Evt.const b2) (Evt.succ ?_))
      simp only [spec_ReadSeparated.j0]
      exact Evt.neg (by decide) q2
end Go.Proofs.Ytppenjoobcppjaa.PRs
