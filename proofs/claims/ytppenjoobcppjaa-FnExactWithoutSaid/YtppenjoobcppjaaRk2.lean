/- How a struct argument comes to a kind's reading. -/
import Derived.Test.YtppenjoobcppjaaRk
import Derived.WideShapes
namespace Go.Proofs.Ytppenjoobcppjaa.Rk
open Go.RowKit Go.Proofs.YtppenjoobcppjaaW.PrintWords

theorem open_struct {P : Program} {t : TypeId} {α : Type} {d : Kd α} {good : α → Prop} (hR : Rd P t d good) {H : Type} {enc : TypeId × Value → H} {W : World} {sp : Nat → Bool} {held : Bool} {v : Value} {x : DataW H} {ps : List MemPlace} {n : Nat}
    (h : DataW.Trod enc P W 0 sp held t v x ps) (hv : ∃ cs, v = .agg cs ∧ cs.size = n) : ∃ cs y, v = .agg cs ∧ d.K W y cs.toList ∧ good y := by
  obtain ⟨cs, rfl, hn⟩ := hv
  obtain ⟨fuel, hf⟩ := h
  obtain ⟨y, hK, hg⟩ := hR enc W sp held fuel _ _ hf
  exact ⟨cs, y, rfl, by simpa [Value.cells] using hK, hg⟩
end Go.Proofs.Ytppenjoobcppjaa.Rk
