/- The law's own helpers on steps: sizes told, copied, compared. -/
import Derived.Test.YtppenjoobcppjaaHsPure
import Derived.Test.YtppenjoobcppjaaPHistx2
namespace Go.Proofs.Ytppenjoobcppjaa.PHist
open Go.RowKit Go.Proofs.YtppenjoobcppjaaW.PrintWords Go.Proofs.Ytppenjoobcppjaa.Ev
set_option linter.unusedVariables false
set_option linter.unusedSimpArgs false

def good158 (x : S158) : Prop := (Lit.int .i64 x.f0).wf = true ∧ (Lit.int .i64 x.f1).wf = true ∧ x.f2.size ≤ maxLen
def good89 (x : S89) : Prop := (Lit.int .i64 x.f0).wf = true ∧ (x.f1.length ≤ maxLen ∧ ∀ y ∈ x.f1, good158 y)

/-! ### sizes -/
theorem szChange_at (x : S158) (a : Int) (h0 : 0 ≤ a) (h1 : a ≤ 1048576) (hx : x.f2.size ≤ maxLen) : ∃ r, laws_szChange.f x.f0 x.f1 x.f2 a = some r ∧ -1 ≤ r ∧ r ≤ a := by
  simp only [maxLen] at hx
  unfold laws_szChange.f
  rw [wrap_id (by omega) (by omega)]
  split
  · exact ⟨-1, rfl, by omega, by omega⟩
  · exact ⟨_, rfl, by omega, by omega⟩
theorem szChangeS_l0 (l : List S158) (hl : l.length ≤ 1048576) (hg : ∀ y ∈ l, good158 y) : ∀ (d i : Nat) (a : Int), l.length - i = d → i ≤ l.length → 0 ≤ a → a ≤ 1048576 →
    ∃ r, Evt (fun k => laws_szChangeS.l0 k l a (i : Int)) r ∧ -1 ≤ r ∧ r ≤ a := by
  intro d
  induction d with
  | zero =>
    intro i a hd hi h0 h1
    refine ⟨a, Evt.succ ?_, by omega, by omega⟩
    simp only [laws_szChangeS.l0]
    exact Evt.neg (by omega) (Evt.ret _)
  | succ d ih =>
    intro i a hd hi h0 h1
    have hlt : i < l.length := by omega
    have hm : good158 (rd_T158 l i) := by
      have : rd_T158 l i = l[i] := by simp only [rd_T158, Int.toNat_natCast]; exact getD_lt l i z158 hlt
      rw [this]
      exact hg _ (List.getElem_mem hlt)
    obtain ⟨r, hr, hr0, hr1⟩ := szChange_at (rd_T158 l i) a h0 h1 hm.2.2
    have hw : wrap64 ((i : Int) + 1) = ((i + 1 : Nat) : Int) := by rw [wrap_id (by omega) (by omega)]; rfl
    by_cases hneg : r < 0
    · refine ⟨-1, Evt.succ ?_, by omega, by omega⟩
      simp only [laws_szChangeS.l0, hw]
      exact Evt.pos (by omega) (Evt.pos (by omega) (Evt.bind (Evt.const hr) (Evt.pos hneg (Evt.ret _))))
    · obtain ⟨q, hq, hq0, hq1⟩ := ih (i + 1) r (by omega) (by omega) (by omega) (by omega)
      refine ⟨q, Evt.succ ?_, hq0, by omega⟩
      simp only [laws_szChangeS.l0, hw]
      exact Evt.pos (by omega) (Evt.pos (by omega) (Evt.bind (Evt.const hr) (Evt.neg hneg hq)))
theorem szChangeS_ev (l : List S158) (hl : l.length ≤ maxLen) (hg : ∀ y ∈ l, good158 y) (a : Int) (h0 : 0 ≤ a) (h1 : a ≤ 1048576) :
    ∃ r, Evt (fun k => laws_szChangeS.f k l a) r ∧ -1 ≤ r ∧ r ≤ a ∧ (0 ≤ r → l.length ≤ 1048576) := by
  simp only [maxLen] at hl
  unfold laws_szChangeS.f
  rw [wrap_id (by omega) (by omega)]
  by_cases hneg : a - (l.length : Int) < 0
  · exact ⟨-1, Evt.pos hneg (Evt.ret _), by omega, by omega, by omega⟩
  · obtain ⟨r, hr, hr0, hr1⟩ := szChangeS_l0 l (by omega) hg l.length 0 (a - (l.length : Int)) (by omega) (by omega) (by omega) (by omega)
    exact ⟨r, Evt.neg hneg hr, hr0, by omega, fun _ => by omega⟩
theorem szStepS_l0 (l : List S89) (hl : l.length ≤ 1048576) (hg : ∀ y ∈ l, good89 y) : ∀ (d i : Nat) (a : Int), l.length - i = d → i ≤ l.length → 0 ≤ a → a ≤ 1048576 →
    ∃ r, Evt (fun k => laws_szStepS.l0 k l a (i : Int)) r ∧ -1 ≤ r ∧ r ≤ a ∧ (0 ≤ r → ∀ j, i ≤ j → j < l.length → (rd_T89 l j).f1.length ≤ 1048576) := by
  intro d
  induction d with
  | zero =>
    intro i a hd hi h0 h1
    refine ⟨a, Evt.succ ?_, by omega, by omega, fun _ j hj hjl => by omega⟩
    simp only [laws_szStepS.l0]
    exact Evt.neg (by omega) (Evt.ret _)
  | succ d ih =>
    intro i a hd hi h0 h1
    have hlt : i < l.length := by omega
    have hm : good89 (rd_T89 l i) := by
      have : rd_T89 l i = l[i] := by simp only [rd_T89, Int.toNat_natCast]; exact getD_lt l i z89 hlt
      rw [this]
      exact hg _ (List.getElem_mem hlt)
    obtain ⟨r, hr, hr0, hr1, hr2⟩ := szChangeS_ev (rd_T89 l i).f1 hm.2.1 hm.2.2 a h0 h1
    have hw : wrap64 ((i : Int) + 1) = ((i + 1 : Nat) : Int) := by rw [wrap_id (by omega) (by omega)]; rfl
    by_cases hneg : r < 0
    · refine ⟨-1, Evt.succ ?_, by omega, by omega, by omega⟩
      simp only [laws_szStepS.l0, laws_szStep.f, hw]
      refine Evt.pos (by omega) (Evt.pos (by omega) ?_)
      refine Evt.bind (x := -1) (Evt.bind hr (Evt.pos hneg (Evt.ret _))) (Evt.pos (by omega) (Evt.ret _))
    · obtain ⟨q, hq, hq0, hq1, hq2⟩ := ih (i + 1) r (by omega) (by omega) (by omega) (by omega)
      refine ⟨q, Evt.succ ?_, hq0, by omega, fun h j hj hjl => ?_⟩
      · simp only [laws_szStepS.l0, laws_szStep.f, hw]
        refine Evt.pos (by omega) (Evt.pos (by omega) ?_)
        exact Evt.bind (x := r) (Evt.bind hr (Evt.neg hneg (Evt.ret _))) (Evt.neg hneg hq)
      · by_cases hji : j = i
        · subst hji
          exact hr2 (by omega)
        · exact hq2 h j (by omega) hjl
theorem szStepS_ev (l : List S89) (hl : l.length ≤ maxLen) (hg : ∀ y ∈ l, good89 y) :
    ∃ r, Evt (fun k => laws_szStepS.f k l 1048576) r ∧ (0 ≤ r → l.length ≤ 1048576 ∧ ∀ j, j < l.length → (rd_T89 l j).f1.length ≤ 1048576) := by
  simp only [maxLen] at hl
  unfold laws_szStepS.f
  rw [wrap_id (by omega) (by omega)]
  by_cases hneg : (1048576 : Int) - (l.length : Int) < 0
  · exact ⟨-1, Evt.pos hneg (Evt.ret _), by omega⟩
  · obtain ⟨r, hr, hr0, hr1, hr2⟩ := szStepS_l0 l (by omega) hg l.length 0 (1048576 - (l.length : Int)) (by omega) (by omega) (by omega) (by omega)
    exact ⟨r, Evt.neg hneg hr, fun h => ⟨by omega, fun j hj => hr2 h j (Nat.zero_le _) hj⟩⟩

/-! ### copies -/
def cvCh (c : S158) : S142 := ⟨c.f0, c.f1, c.f2⟩
def cvSt (s : S89) : S93 := ⟨s.f0, s.f1.map cvCh⟩
theorem fill_step {α β : Type} (cv : α → β) (l : List α) (i : Nat) (z : α) (zb : β) (h : i < l.length) :
    (((l.take i).map cv) ++ List.replicate (l.length - i) zb).set i (cv (l.getD i z)) = ((l.take (i + 1)).map cv) ++ List.replicate (l.length - (i + 1)) zb := by
  have hlen : ((l.take i).map cv).length = i := by rw [List.length_map, List.length_take]; omega
  have := set_grow ((l.take i).map cv) (List.replicate (l.length - i) zb) (cv (l.getD i z)) (by rw [List.length_replicate]; omega)
  rw [hlen] at this
  rw [this, take_succ l i z h, List.map_append, List.drop_replicate]
  congr 2
theorem fill_length {α β : Type} (cv : α → β) (l : List α) (i : Nat) (zb : β) (h : i ≤ l.length) : (((l.take i).map cv) ++ List.replicate (l.length - i) zb).length = l.length := by
  rw [List.length_append, List.length_map, List.length_take, List.length_replicate]
  omega
theorem toChangeS_l0 (l : List S158) (hl : l.length ≤ 1048576) : ∀ (d i : Nat), l.length - i = d → i ≤ l.length →
    Evt (fun k => laws_toChangeS.l0 k l (((l.take i).map cvCh) ++ List.replicate (l.length - i) z142) (i : Int)) (l.map cvCh) := by
  intro d
  induction d with
  | zero =>
    intro i hd hi
    have : i = l.length := by omega
    subst this
    refine Evt.succ ?_
    simp only [laws_toChangeS.l0]
    refine Evt.neg (by omega) ?_
    simp only [List.take_length, Nat.sub_self, List.replicate_zero, List.append_nil]
    exact Evt.ret _
  | succ d ih =>
    intro i hd hi
    have hlt : i < l.length := by omega
    have hw : wrap64 ((i : Int) + 1) = ((i + 1 : Nat) : Int) := by rw [wrap_id (by omega) (by omega)]; rfl
    refine Evt.succ ?_
    simp only [laws_toChangeS.l0, hw, fill_length cvCh l i z142 hi, Int.toNat_natCast]
    refine Evt.pos (by omega) (Evt.pos (by omega) ?_)
    refine Evt.bind (Evt.const (show laws_toChange.f _ _ _ = some _ from rfl)) (Evt.pos (by omega) ?_)
    have := fill_step cvCh l i z158 z142 hlt
    have e : (⟨(rd_T158 l i).f0, (rd_T158 l i).f1, (rd_T158 l i).f2⟩ : S142) = cvCh (l.getD i z158) := by simp [cvCh, rd_T158]
    simp only [e]
    rw [this]
    exact ih (i + 1) (by omega) (by omega)
theorem toChangeS_ev (l : List S158) (hl : l.length ≤ 1048576) : Evt (fun k => laws_toChangeS.f k l) (l.map cvCh) := by
  unfold laws_toChangeS.f
  refine Evt.pos (by omega) (Evt.pos (by omega) ?_)
  rw [Int.toNat_natCast]
  simpa using toChangeS_l0 l hl l.length 0 (by omega) (by omega)
theorem toStepS_l0 (l : List S89) (hl : l.length ≤ 1048576) (hc : ∀ j, j < l.length → (rd_T89 l j).f1.length ≤ 1048576) : ∀ (d i : Nat), l.length - i = d → i ≤ l.length →
    Evt (fun k => laws_toStepS.l0 k l (((l.take i).map cvSt) ++ List.replicate (l.length - i) z93) (i : Int)) (l.map cvSt) := by
  intro d
  induction d with
  | zero =>
    intro i hd hi
    have : i = l.length := by omega
    subst this
    refine Evt.succ ?_
    simp only [laws_toStepS.l0]
    refine Evt.neg (by omega) ?_
    simp only [List.take_length, Nat.sub_self, List.replicate_zero, List.append_nil]
    exact Evt.ret _
  | succ d ih =>
    intro i hd hi
    have hlt : i < l.length := by omega
    have hw : wrap64 ((i : Int) + 1) = ((i + 1 : Nat) : Int) := by rw [wrap_id (by omega) (by omega)]; rfl
    refine Evt.succ ?_
    simp only [laws_toStepS.l0, laws_toStep.f, hw, fill_length cvSt l i z93 hi, Int.toNat_natCast]
    refine Evt.pos (by omega) (Evt.pos (by omega) ?_)
    refine Evt.bind (Evt.bind (toChangeS_ev _ (hc i hlt)) (Evt.ret _)) (Evt.pos (by omega) ?_)
    have := fill_step cvSt l i z89 z93 hlt
    have e : (⟨(rd_T89 l i).f0, (rd_T89 l i).f1.map cvCh⟩ : S93) = cvSt (l.getD i z89) := by simp [cvSt, rd_T89]
    simp only [e]
    rw [this]
    exact ih (i + 1) (by omega) (by omega)
theorem toStepS_ev (l : List S89) (hl : l.length ≤ 1048576) (hc : ∀ j, j < l.length → (rd_T89 l j).f1.length ≤ 1048576) : Evt (fun k => laws_toStepS.f k l) (l.map cvSt) := by
  unfold laws_toStepS.f
  refine Evt.pos (by omega) (Evt.pos (by omega) ?_)
  rw [Int.toNat_natCast]
  simpa using toStepS_l0 l hl hc l.length 0 (by omega) (by omega)

/-! ### what is compared with itself -/
theorem eqChangeS_l0 (l : List S142) (hl : l.length ≤ 1048576) : ∀ (d i : Nat), l.length - i = d → i ≤ l.length → Evt (fun k => laws_eqChangeS.l0 k l l (i : Int)) true := by
  intro d
  induction d with
  | zero =>
    intro i hd hi
    refine Evt.succ ?_
    simp only [laws_eqChangeS.l0]
    exact Evt.neg (by omega) (Evt.ret _)
  | succ d ih =>
    intro i hd hi
    have hw : wrap64 ((i : Int) + 1) = ((i + 1 : Nat) : Int) := by rw [wrap_id (by omega) (by omega)]; rfl
    refine Evt.succ ?_
    simp only [laws_eqChangeS.l0, hw]
    refine Evt.pos (by omega) (Evt.pos (by omega) (Evt.pos (by omega) ?_))
    exact Evt.bind (x := true) (Evt.const (by unfold laws_eqChange.f; simp)) (Evt.pos rfl (ih (i + 1) (by omega) (by omega)))
theorem eqChangeS_ev (l : List S142) (hl : l.length ≤ 1048576) : Evt (fun k => laws_eqChangeS.f k l l) true := by
  unfold laws_eqChangeS.f
  exact Evt.pos rfl (eqChangeS_l0 l hl l.length 0 (by omega) (by omega))
theorem eqStepS_l0 (l : List S93) (hl : l.length ≤ 1048576) (hc : ∀ j, j < l.length → (rd_T93 l j).f1.length ≤ 1048576) : ∀ (d i : Nat), l.length - i = d → i ≤ l.length → Evt (fun k => laws_eqStepS.l0 k l l (i : Int)) true := by
  intro d
  induction d with
  | zero =>
    intro i hd hi
    refine Evt.succ ?_
    simp only [laws_eqStepS.l0]
    exact Evt.neg (by omega) (Evt.ret _)
  | succ d ih =>
    intro i hd hi
    have hw : wrap64 ((i : Int) + 1) = ((i + 1 : Nat) : Int) := by rw [wrap_id (by omega) (by omega)]; rfl
    refine Evt.succ ?_
    simp only [laws_eqStepS.l0, laws_eqStep.f, hw]
    refine Evt.pos (by omega) (Evt.pos (by omega) (Evt.pos (by omega) ?_))
    refine Evt.bind (x := true) (Evt.pos (by trivial) (Evt.bind (eqChangeS_ev _ (hc i (by omega))) (Evt.pos rfl (Evt.ret _)))) (Evt.pos rfl (ih (i + 1) (by omega) (by omega)))
theorem eqStepS_ev (l : List S93) (hl : l.length ≤ 1048576) (hc : ∀ j, j < l.length → (rd_T93 l j).f1.length ≤ 1048576) : Evt (fun k => laws_eqStepS.f k l l) true := by
  unfold laws_eqStepS.f
  exact Evt.pos rfl (eqStepS_l0 l hl hc l.length 0 (by omega) (by omega))
theorem cvSt_len (l : List S89) (j : Nat) (h : j < l.length) : (rd_T93 (l.map cvSt) j).f1.length = (rd_T89 l j).f1.length := by
  have h2 : j < (l.map cvSt).length := by rw [List.length_map]; exact h
  simp only [rd_T93, rd_T89, Int.toNat_natCast]
  rw [getD_lt _ _ _ h2, getD_lt _ _ _ h, List.getElem_map]
  simp [cvSt]
end Go.Proofs.Ytppenjoobcppjaa.PHist
