/- Workdays in plain words. -/
import Derived.Test.YtppenjoobcppjaaBm
import Derived.Test.YtppenjoobcppjaaPFnWorkdaysx1
import Derived.Test.YtppenjoobcppjaaEv
namespace Go.Proofs.Ytppenjoobcppjaa.PFnWorkdays
open Go.RowKit Go.Proofs.YtppenjoobcppjaaW.PrintWords Go.Proofs.Ytppenjoobcppjaa.Ev Go.Proofs.Ytppenjoobcppjaa.Bm
set_option linter.unusedVariables false
set_option linter.unusedSimpArgs false

def isD (a : Int) : Bool := decide (-1000000 ≤ a ∧ a ≤ 1000000)
def up (d : Int) : Int := (d + 7000005) / 7 * 5 + (if (d + 7000005) % 7 ≤ 5 then (d + 7000005) % 7 else 5)
def wk (a b f : Int) : Bool := decide (a ≤ f ∧ f ≤ b ∧ (f + 5) % 7 < 5)
/-- How many of a list are asked for, each once, but for those that were seen. -/
def cnt (p : Int → Bool) : (Int → Bool) → List Int → Int
  | _, [] => 0
  | s, f :: l => (if p f = true ∧ s f = false then 1 else 0) + cnt p (upd s f true) l
def none_ : Int → Bool := fun _ => false
def core (a b : Int) (l : List Int) : Int := up (b + 1) - up a - cnt (wk a b) none_ l
def okD (a b : Int) (l : List Int) : Bool := isD a && isD b && decide (l.length ≤ 1000)
def wd (a b : Int) (l : List Int) : Int := if okD a b l = true then (if b < a then - core b a l else core a b l) else 0

theorem td7 (a : Int) : (0 ≤ a → Int.tdiv a 7 = a / 7 ∧ Int.tmod a 7 = a % 7) ∧ (a < 0 → Int.tdiv a 7 = -((-a) / 7) ∧ Int.tmod a 7 = -((-a) % 7)) := by
  constructor
  · intro h
    exact ⟨Int.tdiv_eq_ediv_of_nonneg h, Int.tmod_eq_emod_of_nonneg h⟩
  · intro h
    have e : a = -(-a) := by omega
    constructor
    · rw [e, Int.neg_tdiv, Int.tdiv_eq_ediv_of_nonneg (by omega)]
      simp
    · rw [e, Int.neg_tmod, Int.tmod_eq_emod_of_nonneg (by omega)]
      simp
theorem floorDiv7 (a : Int) (h0 : -2000000 ≤ a) (h1 : a ≤ 2000000) : impl_floorDiv_int.f a 7 = some (a / 7) ∧ spec_l2Floor.f a 7 = some (a / 7) := by
  have key : (if (7 : Int) = 0 then none else (if (Int.tmod a 7) = 0 then (some (wrap64 (Int.tdiv a 7))) else (if ((decide (a < 0)) != (decide ((7 : Int) < 0))) = true then (some (wrap64 ((wrap64 (Int.tdiv a 7)) - 1))) else (some (wrap64 (Int.tdiv a 7)))))) = some (a / 7) := by
    have := td7 a
    rw [if_neg (by decide)]
    have hb : -1000000 ≤ Int.tdiv a 7 ∧ Int.tdiv a 7 ≤ 1000000 := by
      by_cases h : 0 ≤ a
      · rw [(this.1 h).1]; omega
      · rw [(this.2 (by omega)).1]; omega
    rw [wrap_id (by omega) (by omega), wrap_id (by omega) (by omega)]
    by_cases h : 0 ≤ a
    · obtain ⟨e1, e2⟩ := this.1 h
      rw [e1, e2]
      rw [if_neg (c := ((decide (a < 0)) != (decide ((7 : Int) < 0))) = true) (by simp; omega)]
      split <;> rfl
    · obtain ⟨e1, e2⟩ := this.2 (by omega)
      rw [e1, e2, if_pos (c := ((decide (a < 0)) != (decide ((7 : Int) < 0))) = true) (by simp; omega)]
      split
      · congr 1; omega
      · congr 1; omega
  exact ⟨key, key⟩
theorem isDay_ev (a : Int) : impl_isDay.f a = some (isD a) := by
  unfold impl_isDay.f isD
  split <;> (congr 1; rw [Bool.eq_iff_iff]; simp; omega)
theorem l2Day_ev (a : Int) : spec_l2Day.f a = some (isD a) := isDay_ev a
theorem floorMod7 (a : Int) (h0 : -2000000 ≤ a) (h1 : a ≤ 2000000) : impl_floorMod_int.f a 7 = some (a % 7) := by
  unfold impl_floorMod_int.f
  rw [(floorDiv7 a h0 h1).1]
  simp only [Option.bind_some]
  rw [wrap_id (x := a / 7 * 7) (by omega) (by omega), wrap_id (by omega) (by omega)]
  congr 1
  omega
theorem l2Mod_ev (a : Int) (h0 : -1000000 ≤ a) (h1 : a ≤ 1000000) : spec_l2Mod.f (wrap64 (a + 5)) 7 = some ((a + 5) % 7) := by
  rw [wrap_id (by omega) (by omega)]
  unfold spec_l2Mod.f
  rw [(floorDiv7 (a + 5) (by omega) (by omega)).2]
  simp only [Option.bind_some]
  rw [wrap_id (x := 7 * ((a + 5) / 7)) (by omega) (by omega), wrap_id (by omega) (by omega)]
  congr 1
  omega
theorem weekday_ev (a : Int) : impl_Weekday.f a = some (if isD a = true then (a + 5) % 7 else -1) := by
  unfold impl_Weekday.f
  rw [isDay_ev]
  simp only [Option.bind_some]
  by_cases h : isD a = true
  · rw [if_pos h, if_pos h]
    have h' : -1000000 ≤ a ∧ a ≤ 1000000 := of_decide_eq_true h
    rw [wrap_id (by omega) (by omega), floorMod7 _ (by omega) (by omega)]
    rfl
  · rw [if_neg h, if_neg h]
theorem workUpTo_ev (d : Int) (h0 : -1000000 ≤ d) (h1 : d ≤ 1000001) : impl_workUpTo.f d = some (up d) := by
  unfold impl_workUpTo.f
  have e : wrap64 (wrap64 (d + 7000000) + 5) = d + 7000005 := by
    rw [wrap_id (x := d + 7000000) (by omega) (by omega), wrap_id (by omega) (by omega)]
    omega
  rw [e]
  obtain ⟨e1, e2⟩ := (td7 (d + 7000005)).1 (by omega)
  rw [e1, e2]
  have hb : 0 ≤ (d + 7000005) / 7 ∧ (d + 7000005) / 7 ≤ 2000000 := by omega
  rw [wrap_id (x := (d + 7000005) / 7) (by omega) (by omega), wrap_id (x := (d + 7000005) / 7 * 5) (by omega) (by omega)]
  unfold mn up
  split <;> split <;> (first | (rw [wrap_id (by omega) (by omega)]; congr 1; omega) | (rw [wrap_id (by omega) (by omega)]) | omega)
theorem up_bound (d : Int) (h0 : -1000000 ≤ d) (h1 : d ≤ 1000001) : 0 ≤ up d ∧ up d ≤ 20000000 := by
  unfold up
  split <;> omega
end Go.Proofs.Ytppenjoobcppjaa.PFnWorkdays
