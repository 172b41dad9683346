/- LastRedo is what the specification's LastRedo is: in plain words. -/
import Derived.Test.YtppenjoobcppjaaHsStep
import Derived.Test.YtppenjoobcppjaaPHistx7
namespace Go.Proofs.Ytppenjoobcppjaa.PHist
open Go.RowKit Go.Proofs.YtppenjoobcppjaaW.PrintWords Go.Proofs.Ytppenjoobcppjaa.Ev
set_option linter.unusedVariables false
set_option linter.unusedSimpArgs false

theorem lastRedo_l0 (l : List S93) (bs : List Bool) (hS : Stood l bs 0) (hu : Undos l) : ∀ (d i : Nat), l.length - i = d → i ≤ l.length →
    Evt (fun k => spec_LastRedo.l0 k l (lastOf l (stands l) (isRe l) i) bs (bs.length : Int) (i : Int)) (lastOf l (stands l) (isRe l) l.length) := by
  have hlen := hS.1
  have hmx := hu.1
  intro d
  induction d with
  | zero =>
    intro i hd hi
    have : i = l.length := by omega
    subst this
    refine Evt.succ ?_
    simp only [spec_LastRedo.l0]
    exact Evt.neg (by omega) (Evt.ret _)
  | succ d ih =>
    intro i hd hi
    have hw : wrap64 ((i : Int) + 1) = ((i + 1 : Nat) : Int) := by rw [wrap_id (by omega) (by omega)]; rfl
    have hst := stands_at hS hu i (by omega)
    have hih := ih (i + 1) (by omega) (by omega)
    simp only [lastOf, hst] at hih
    refine Evt.succ ?_
    simp only [spec_LastRedo.l0, hw]
    refine Evt.pos (by omega) (Evt.pos (by omega) (Evt.pos (by omega) ?_))
    have hrd : rdOf false bs (i : Int) = bs.getD i false := by
      unfold rdOf
      rw [Int.toNat_natCast]
    rw [hrd]
    refine Evt.pos (by omega) ?_
    have hui := hu.2 i (by omega)
    by_cases h1 : bs.getD i false = true
    · refine Evt.pos h1 ?_
      by_cases h2 : (rd_T93 l i).f0 > 0
      · have hw3 : wrap64 ((rd_T93 l i).f0 - 1) = (rd_T93 l i).f0 - 1 := wrap_id (by omega) (by omega)
        refine Evt.pos h2 ?_
        simp only [hw3]
        refine Evt.pos (by omega) (Evt.pos (by omega) ?_)
        by_cases h3 : (rd_T93 l ((rd_T93 l i).f0 - 1)).f0 = 0
        · refine Evt.pos h3 ?_
          rw [if_pos ⟨h1, by simp only [isRe, Bool.and_eq_true, decide_eq_true_eq, beq_iff_eq]; exact ⟨h2, h3⟩⟩] at hih
          exact hih
        · refine Evt.neg h3 ?_
          rw [if_neg (fun h => h3 (by have h4 := h.2; simp only [isRe, Bool.and_eq_true, decide_eq_true_eq, beq_iff_eq] at h4; exact h4.2))] at hih
          exact hih
      · refine Evt.neg h2 ?_
        rw [if_neg (fun h => h2 (by have h4 := h.2; simp only [isRe, Bool.and_eq_true, decide_eq_true_eq, beq_iff_eq] at h4; exact h4.1))] at hih
        exact hih
    · refine Evt.neg h1 ?_
      rw [if_neg (fun h => h1 h.1)] at hih
      exact hih
theorem specLastRedo_ev (l : List S93) (hl : l.length ≤ 1048576) (hc : ∀ i, i < l.length → (rd_T93 l i).f1.length ≤ 1048576) :
    Evt (fun k => spec_LastRedo.f k l) (if okS l = true then lastOf l (stands l) (isRe l) l.length else 0) := by
  unfold spec_LastRedo.f
  refine Evt.bind (steps_ev l (by omega) (fun i hi => by have := hc i hi; omega)) ?_
  by_cases h : okS l = true
  · refine Evt.pos h ?_
    rw [if_pos h]
    obtain ⟨bs, hb, hS⟩ := standing_ev l (by omega)
    exact Evt.bind hb (lastRedo_l0 l bs hS (undos_okS h) l.length 0 (by omega) (by omega))
  · refine Evt.neg h ?_
    rw [if_neg h]
    exact Evt.ret _
theorem implLastRedo_ev (l : List S93) (hl : l.length ≤ 1048576) (hc : ∀ i, i < l.length → (rd_T93 l i).f1.length ≤ 1048576) :
    Evt (fun k => impl_LastRedo.f k l) (if okS l = true then lastOf l (stands l) (isRe l) l.length else 0) := by
  unfold impl_LastRedo.f
  refine Evt.bind (asSaid_ev l (by omega) (fun i hi => by have := hc i hi; omega)) ?_
  by_cases h : okS l = true
  · refine Evt.pos h ?_
    rw [if_pos h]
    exact Evt.ret _
  · refine Evt.neg h ?_
    rw [if_neg h]
    exact Evt.ret _
theorem FnExactLastRedo_pure (l : List S89) (hg : l.length ≤ maxLen ∧ ∀ y ∈ l, good89 y) : ∃ k, laws_FnExactLastRedo.f k l = some true := by
  refine Evt.get (g := fun k => laws_FnExactLastRedo.f k l) ?_
  unfold laws_FnExactLastRedo.f
  obtain ⟨r, hr, hr2⟩ := szStepS_ev l hg.1 hg.2
  refine Evt.bind hr ?_
  by_cases hneg : r < 0
  · exact Evt.pos hneg (Evt.ret _)
  · obtain ⟨hl, hc⟩ := hr2 (by omega)
    have hl' : (l.map cvSt).length ≤ 1048576 := by rw [List.length_map]; exact hl
    have hc' : ∀ j, j < (l.map cvSt).length → (rd_T93 (l.map cvSt) j).f1.length ≤ 1048576 := by
      intro j hj
      rw [List.length_map] at hj
      rw [cvSt_len l j hj]
      exact hc j hj
    refine Evt.neg hneg ?_
    refine Evt.bind (toStepS_ev l hl hc) (Evt.bind (specLastRedo_ev _ hl' hc') (Evt.bind (toStepS_ev l hl hc) (Evt.bind (implLastRedo_ev _ hl' hc') (Evt.pos rfl ?_))))
    exact Evt.bind (toStepS_ev l hl hc) (Evt.bind (eqStepS_ev _ hl' hc') (Evt.pos rfl (Evt.ret _)))
end Go.Proofs.Ytppenjoobcppjaa.PHist
