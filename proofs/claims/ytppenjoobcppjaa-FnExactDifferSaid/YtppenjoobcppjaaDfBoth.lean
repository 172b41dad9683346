/- Both Differ: their contracts. -/
import Derived.Test.YtppenjoobcppjaaDfSpec
import Derived.Test.YtppenjoobcppjaaDfImpl
namespace Go.Proofs.Ytppenjoobcppjaa.PDf
open Go.RowKit Go.Proofs.YtppenjoobcppjaaW.PrintWords Go.Proofs.YtppenjoobcppjaaW.PrintLast Go.Proofs.YtppenjoobcppjaaW.PrintMore
set_option linter.unusedVariables false
def spec_Differ.f (k : Nat) (l0 : List (S133)) (l1 : List (S133)) : Option (List (S133)) := (spec_l9Rising.f k l0).bind fun ta => (spec_l9Rising.f k l1).bind fun tb => (if l0.length ≤ 1048576 then (if l1.length ≤ 1048576 then (some (if (ta && tb) = true then dif l0 l1 else [])) else none) else none)
theorem spec_Differ.mono : ∀ a0 a1 k, LeO (spec_Differ.f k a0 a1) (spec_Differ.f (k + 1) a0 a1) := by
  intro a0 a1 k
  unfold spec_Differ.f
  exact LeO.bind (spec_l9Rising.mono a0 k) (fun x => LeO.bind (spec_l9Rising.mono a1 k) (fun y => LeO.refl _))
theorem spec_Differ.calls (k : Nat) (A0 : Option Addr) (c0 : Nat) (l0 : List (S133)) (A1 : Option Addr) (c1 : Nat) (l1 : List (S133)) (r : List (S133)) (w : World) (hr0 : Kd.C k133 w A0 l0.length l0) (hc0 : l0.length ≤ c0) (hr1 : Kd.C k133 w A1 l1.length l1) (hc1 : l1.length ≤ c1) (h : spec_Differ.f k l0 l1 = some r) :
    Calls Try.prog 48 #[.slice A0 l0.length c0, .slice A1 l1.length c1] w fun e w' => ∃ v0_ : Value, e = .returned (v0_) ∧ Kd.R k133 133 w' w.heap.size (fun _ => True) v0_ r ∧ Below w.heap.size w w' := by
  unfold spec_Differ.f at h
  obtain ⟨ta, hta, h⟩ := Option.bind_eq_some_iff.1 h
  obtain ⟨tb, htb, h⟩ := Option.bind_eq_some_iff.1 h
  by_cases h0 : l0.length ≤ 1048576
  · rw [if_pos h0] at h
    by_cases h1 : l1.length ≤ 1048576
    · rw [if_pos h1] at h
      obtain rfl := Option.some.inj h
      cases hh : (ta && tb) with
      | false =>
        rw [if_neg Bool.false_ne_true]
        exact sdiffer_no k A0 c0 l0 A1 c1 l1 w hr0 hc0 hr1 hc1 h0 h1 ta tb hta htb hh
      | true =>
        rw [if_pos rfl]
        rw [Bool.and_eq_true] at hh
        obtain ⟨rfl, rfl⟩ := hh
        exact sdiffer_yes k A0 c0 l0 A1 c1 l1 w hr0 hc0 hr1 hc1 h0 h1 hta htb
    · rw [if_neg h1] at h
      cases h
  · rw [if_neg h0] at h
    cases h
def impl_Differ.f (k : Nat) (l0 : List (S133)) (l1 : List (S133)) : Option (List (S133)) := (impl_rising.f k l0).bind fun ta => (impl_rising.f k l1).bind fun tb => (if l0.length ≤ 1048576 then (if l1.length ≤ 1048576 then (some (if (ta && tb) = true then dif l0 l1 else [])) else none) else none)
theorem impl_Differ.mono : ∀ a0 a1 k, LeO (impl_Differ.f k a0 a1) (impl_Differ.f (k + 1) a0 a1) := by
  intro a0 a1 k
  unfold impl_Differ.f
  exact LeO.bind (impl_rising.mono a0 k) (fun x => LeO.bind (impl_rising.mono a1 k) (fun y => LeO.refl _))
theorem impl_Differ.calls (k : Nat) (A0 : Option Addr) (c0 : Nat) (l0 : List (S133)) (A1 : Option Addr) (c1 : Nat) (l1 : List (S133)) (r : List (S133)) (w : World) (hr0 : Kd.C k133 w A0 l0.length l0) (hc0 : l0.length ≤ c0) (hr1 : Kd.C k133 w A1 l1.length l1) (hc1 : l1.length ≤ c1) (h : impl_Differ.f k l0 l1 = some r) :
    Calls Try.prog 50 #[.slice A0 l0.length c0, .slice A1 l1.length c1] w fun e w' => ∃ v0_ : Value, e = .returned (v0_) ∧ Kd.R k133 133 w' w.heap.size (fun _ => True) v0_ r ∧ Below w.heap.size w w' := by
  unfold impl_Differ.f at h
  obtain ⟨ta, hta, h⟩ := Option.bind_eq_some_iff.1 h
  obtain ⟨tb, htb, h⟩ := Option.bind_eq_some_iff.1 h
  by_cases h0 : l0.length ≤ 1048576
  · rw [if_pos h0] at h
    by_cases h1 : l1.length ≤ 1048576
    · rw [if_pos h1] at h
      obtain rfl := Option.some.inj h
      cases hh : (ta && tb) with
      | false =>
        rw [if_neg Bool.false_ne_true]
        exact idiffer_no k A0 c0 l0 A1 c1 l1 w hr0 hc0 hr1 hc1 h0 h1 ta tb hta htb hh
      | true =>
        rw [if_pos rfl]
        rw [Bool.and_eq_true] at hh
        obtain ⟨rfl, rfl⟩ := hh
        exact idiffer_yes k A0 c0 l0 A1 c1 l1 w hr0 hc0 hr1 hc1 h0 h1 hta htb
    · rw [if_neg h1] at h
      cases h
  · rw [if_neg h0] at h
    cases h
end Go.Proofs.Ytppenjoobcppjaa.PDf
