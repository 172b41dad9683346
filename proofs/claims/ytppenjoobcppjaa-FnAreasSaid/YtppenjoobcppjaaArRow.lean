/- The law on areas at the row's arguments. -/
import Derived.Test.YtppenjoobcppjaaArLaw6
namespace Go.Proofs.Ytppenjoobcppjaa.PAr
open Go.RowKit Go.Proofs.YtppenjoobcppjaaW.PrintWords
theorem u8_min : IntKind.u8.min = 0 := by decide
theorem u8_max : IntKind.u8.max = 255 := by decide
theorem lawA (A0 : Option Addr) (c0 : Nat) (l0 : List Int) (w : World) (hr0 : Kd.C (Kd.int .u8) w A0 l0.length l0) (hc0 : l0.length ≤ c0)
    (hg0 : l0.length ≤ maxLen ∧ ∀ y ∈ l0, (Lit.int .u8 y).wf = true) :
    Calls Try.prog 6 #[.slice A0 l0.length c0] w fun e w' => e = .returned (.bool true) ∧ Below w.heap.size w w' :=
  law6 A0 c0 l0 w hr0 hc0 (fun y hy => by
    have h := hg0.2 y hy
    simp only [Lit.wf, u8_min, u8_max, Bool.and_eq_true, decide_eq_true_eq] at h
    exact h)
end Go.Proofs.Ytppenjoobcppjaa.PAr
