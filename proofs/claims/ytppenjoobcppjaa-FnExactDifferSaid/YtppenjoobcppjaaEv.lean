/- Functions with a number of rounds that come to an answer from some number on; small lemmas on lists and numbers. -/
import Derived.Test.YtppenjoobcppjaaWWords
namespace Go.Proofs.Ytppenjoobcppjaa.Ev
open Go.RowKit

/-- From some number of rounds on, the answer is r. -/
def Evt {α : Type} (g : Nat → Option α) (r : α) : Prop := ∃ K, ∀ k, K ≤ k → g k = some r
theorem Evt.ret {α : Type} (r : α) : Evt (fun _ => some r) r := ⟨0, fun _ _ => rfl⟩
theorem Evt.const {α : Type} {o : Option α} {r : α} (h : o = some r) : Evt (fun _ => o) r := ⟨0, fun _ _ => h⟩
theorem Evt.succ {α : Type} {f : Nat → Option α} {r : α} (h : Evt (fun k => f (k + 1)) r) : Evt f r := by
  obtain ⟨K, hK⟩ := h
  refine ⟨K + 1, fun k hk => ?_⟩
  obtain ⟨m, rfl⟩ : ∃ m, k = m + 1 := ⟨k - 1, by omega⟩
  exact hK m (by omega)
theorem Evt.pos {α : Type} {c : Prop} [Decidable c] {a b : Nat → Option α} {r : α} (hc : c) (h : Evt a r) : Evt (fun k => if c then a k else b k) r := by
  obtain ⟨K, hK⟩ := h
  exact ⟨K, fun k hk => by simp only; rw [if_pos hc]; exact hK k hk⟩
theorem Evt.neg {α : Type} {c : Prop} [Decidable c] {a b : Nat → Option α} {r : α} (hc : ¬ c) (h : Evt b r) : Evt (fun k => if c then a k else b k) r := by
  obtain ⟨K, hK⟩ := h
  exact ⟨K, fun k hk => by simp only; rw [if_neg hc]; exact hK k hk⟩
theorem Evt.bind {α β : Type} {g : Nat → Option α} {f : α → Nat → Option β} {x : α} {r : β} (h : Evt g x) (h2 : Evt (f x) r) : Evt (fun k => (g k).bind fun y => f y k) r := by
  obtain ⟨K, hK⟩ := h
  obtain ⟨L, hL⟩ := h2
  exact ⟨max K L, fun k hk => by simp only; rw [hK k (by omega)]; exact hL k (by omega)⟩
theorem Evt.get {α : Type} {g : Nat → Option α} {r : α} (h : Evt g r) : ∃ k, g k = some r := by
  obtain ⟨K, hK⟩ := h
  exact ⟨K, hK K (Nat.le_refl _)⟩
theorem Evt.congr {α : Type} {g g' : Nat → Option α} {r : α} (h : Evt g r) (e : ∀ k, g' k = g k) : Evt g' r := by
  obtain ⟨K, hK⟩ := h
  exact ⟨K, fun k hk => (e k).trans (hK k hk)⟩
theorem Evt.cast {α : Type} {g : Nat → Option α} {r r' : α} (h : Evt g r) (e : r = r') : Evt g r' := e ▸ h
theorem Evt.uniq {α : Type} {g : Nat → Option α} {r r' : α} (h : Evt g r) (h' : Evt g r') : r = r' := by
  obtain ⟨K, hK⟩ := h
  obtain ⟨L, hL⟩ := h'
  have h1 := hK (max K L) (by omega)
  rw [hL (max K L) (by omega)] at h1
  exact (Option.some.inj h1).symm

theorem wrap_id {x : Int} (h0 : -9223372036854775808 ≤ x) (h1 : x ≤ 9223372036854775807) : wrap64 x = x := by
  unfold wrap64
  omega
/-- A list filled from the front. -/
theorem set_grow {α : Type} (a : List α) (b : List α) (y : α) (h : 0 < b.length) : (a ++ b).set a.length y = (a ++ [y]) ++ b.drop 1 := by
  rw [List.set_append_right _ _ (Nat.le_refl _), Nat.sub_self]
  cases b with
  | nil => simp at h
  | cons z t => simp
theorem getD_lt {α : Type} (xs : List α) (i : Nat) (z : α) (h : i < xs.length) : xs.getD i z = xs[i] := by
  simp [List.getD_eq_getElem?_getD, List.getElem?_eq_getElem h]
theorem take_succ {α : Type} (xs : List α) (i : Nat) (z : α) (h : i < xs.length) : xs.take (i + 1) = xs.take i ++ [xs.getD i z] := by
  rw [List.take_succ_eq_append_getElem h, getD_lt xs i z h]
end Go.Proofs.Ytppenjoobcppjaa.Ev
