/- How an argument that can be read comes to a kind's reading, for integers, bools, strings, slices and structs of such. -/
import Derived.Test.YtppenjoobcppjaaWWords
import Derived.ChangeArms
import Derived.Deep.Slices
import Derived.SizedLaws
namespace Go.Proofs.Ytppenjoobcppjaa.Rk
open Go.RowKit Go.Proofs.YtppenjoobcppjaaW.PrintWords

/-- Whatever reads as data of type t is of the kind d, and good. -/
def Rd (P : Program) (t : TypeId) {α : Type} (d : Kd α) (good : α → Prop) : Prop :=
  ∀ {H : Type} (enc : TypeId × Value → H) (W : World) (sp : Nat → Bool) (held : Bool) (fuel : Nat) (cs : List Value) (x : DataW H × List MemPlace),
    DataW.trod enc P W 0 sp held fuel t cs = some x → ∃ y, d.K W y cs ∧ good y

theorem rd_int {P : Program} {t : TypeId} {k : IntKind} (ht : P.underlying t = some (.int k)) : Rd P t (Kd.int k) (fun n => (Lit.int k n).wf = true) := by
  intro H enc W sp held fuel cs x h
  obtain ⟨n, rfl, _, hw⟩ := DataW.trod_int ht h
  exact ⟨n, rfl, hw⟩
theorem rd_bool {P : Program} {t : TypeId} (ht : P.underlying t = some .bool) : Rd P t Kd.bool (fun _ => True) := by
  intro H enc W sp held fuel cs x h
  obtain ⟨n, rfl, _⟩ := DataW.trod_bool ht h
  exact ⟨n, rfl, trivial⟩
theorem rd_string {P : Program} {t : TypeId} (ht : P.underlying t = some .string) : Rd P t Kd.string (fun s => s.size ≤ maxLen) := by
  intro H enc W sp held fuel cs x h
  obtain ⟨n, rfl, _, hw⟩ := DataW.trod_string ht h
  exact ⟨n, rfl, hw⟩

theorem cells_get {w : World} {a : Addr} {n : Nat} {cs : List Value} (h : w.cells? 0 a n = some cs) : cs.length = n ∧ ∀ i u, cs[i]? = some u → w.cell? (a.add i) = some u := by
  obtain ⟨_, hl, hc⟩ := World.cells?_some h
  refine ⟨hl, fun i u hu => ?_⟩
  have hi : i < n := by
    have := (List.getElem?_eq_some_iff.1 hu).1
    omega
  rw [hc i hi, hu]

theorem rd_slice {P : Program} {t e : TypeId} {α : Type} {d : Kd α} {good : α → Prop} (ht : P.underlying t = some (.slice e)) (hs : P.cellsOf e = d.sz) (hE : Rd P e d good) :
    Rd P t (Kd.slice e d) (fun l => l.length ≤ maxLen ∧ ∀ y ∈ l, good y) := by
  classical
  intro H enc W sp held fuel cs x h
  rcases Deep.open_slice ht h with ⟨rfl, _⟩ | ⟨a, len, cap, m, n, D, Pl, rfl, _, hl, hm, hmm, _, hel⟩
  · exact ⟨[], ⟨none, 0, rfl, Nat.le_refl _, rfl, Nat.zero_le _, fun h => absurd h (Nat.lt_irrefl _)⟩, by simp, by simp⟩
  · have hlm : len ≤ m := by rw [hmm]; split <;> omega
    have key : ∀ i, i < len → ∃ y c, W.cells? 0 (a.add (i * P.cellsOf e)) (P.cellsOf e) = some c ∧ d.K W y c ∧ good y := by
      intro i hi
      obtain ⟨c, hc, ht2⟩ := hel i (by omega)
      obtain ⟨y, hK, hg⟩ := hE enc W sp held n c _ ht2
      exact ⟨y, c, hc, hK, hg⟩
    by_cases h0 : len = 0
    · subst h0
      exact ⟨[], ⟨some a, cap, rfl, Nat.zero_le _, rfl, Nat.zero_le _, fun h => absurd h (Nat.lt_irrefl _)⟩, by simp, by simp⟩
    · obtain ⟨z, _⟩ := key 0 (by omega)
      have : ∃ f : Nat → α, ∀ i, i < len → ∃ c, W.cells? 0 (a.add (i * P.cellsOf e)) (P.cellsOf e) = some c ∧ d.K W (f i) c ∧ good (f i) :=
        @Deep.choose_lt α ⟨z⟩ len (fun i y => ∃ c, W.cells? 0 (a.add (i * P.cellsOf e)) (P.cellsOf e) = some c ∧ d.K W y c ∧ good y) key
      obtain ⟨f, hf⟩ := this
      have hlen : ((List.range len).map f).length = len := by simp
      have hmax : len ≤ maxLen := Nat.le_trans hl hm
      refine ⟨(List.range len).map f, ⟨some a, cap, by rw [hlen], by rw [hlen]; exact hl, rfl, ?_, fun _ => ⟨a, rfl, ?_⟩⟩, ?_, ?_⟩
      · rw [hlen]; simpa [maxLen] using hmax
      · intro j p hj
        rw [List.getElem?_map] at hj
        obtain ⟨j', hj', rfl⟩ := Option.map_eq_some_iff.1 hj
        obtain ⟨hlt, hjj⟩ := List.getElem?_eq_some_iff.1 hj'
        have hjl : j < len := by simpa using hlt
        have : j' = j := by simpa using hjj.symm
        subst this
        obtain ⟨c, hc, hK, _⟩ := hf j' hjl
        obtain ⟨hcl, hcc⟩ := cells_get hc
        refine ⟨c, by rw [hcl, hs], hK, fun i u hu => ?_⟩
        have := hcc i u hu
        rw [Deep.add_add, hs] at this
        exact this
      · rw [hlen]; exact hmax
      · intro y hy
        obtain ⟨j, hj, rfl⟩ := List.mem_map.1 hy
        obtain ⟨_, _, _, hg⟩ := hf j (List.mem_range.1 hj)
        exact hg

/-- A slice argument, as it stands in a call. -/
theorem open_arg {P : Program} {t e : TypeId} {α : Type} {d : Kd α} {good : List α → Prop} (hR : Rd P t (Kd.slice e d) good) {H : Type} {enc : TypeId × Value → H} {W : World} {sp : Nat → Bool} {held : Bool} {v : Value} {x : DataW H} {ps : List MemPlace}
    (h : DataW.Trod enc P W 0 sp held t v x ps) (hv : ∃ a len cap, v = .slice a len cap) : ∃ A c l, v = .slice A (List.length l) c ∧ l.length ≤ c ∧ d.C W A l.length l ∧ good l := by
  obtain ⟨a, len, cap, rfl⟩ := hv
  obtain ⟨fuel, hf⟩ := h
  obtain ⟨y, ⟨A, c, he, hl, hC⟩, hg⟩ := hR enc W sp held fuel _ _ hf
  simp [Value.cells] at he
  obtain ⟨rfl, rfl, rfl⟩ := he
  exact ⟨a, cap, y, rfl, hl, hC, hg⟩
end Go.Proofs.Ytppenjoobcppjaa.Rk
