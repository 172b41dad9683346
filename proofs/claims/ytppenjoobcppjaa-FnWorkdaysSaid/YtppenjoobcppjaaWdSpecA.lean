/- The program's Workdays at all arguments, and the specification's. -/
import Derived.Test.YtppenjoobcppjaaWdImpl
namespace Go.Proofs.Ytppenjoobcppjaa.PFnWorkdays
open Go.RowKit Go.Proofs.YtppenjoobcppjaaW.PrintWords Go.Proofs.YtppenjoobcppjaaW.PrintLast Go.Proofs.YtppenjoobcppjaaW.PrintMore Go.Proofs.Ytppenjoobcppjaa.Ev Go.Proofs.Ytppenjoobcppjaa.Bm
set_option linter.unusedVariables false
set_option linter.unusedSimpArgs false

theorem core_bound (a b : Int) (l : List Int) (h : okD a b l = true) : -30000000 ≤ core a b l ∧ core a b l ≤ 30000000 := by
  simp only [okD, Bool.and_eq_true, decide_eq_true_eq] at h
  obtain ⟨⟨ha, hb⟩, hlen⟩ := h
  have ha' : -1000000 ≤ a ∧ a ≤ 1000000 := of_decide_eq_true ha
  have hb' : -1000000 ≤ b ∧ b ≤ 1000000 := of_decide_eq_true hb
  have h1 := up_bound (b + 1) (by omega) (by omega)
  have h2 := up_bound a (by omega) (by omega)
  have h3 := cnt_bound (wk a b) l none_
  unfold core
  omega
theorem okD_swap (a b : Int) (l : List Int) : okD b a l = okD a b l := by
  unfold okD
  rw [Bool.and_comm (isD b) (isD a)]

set_option maxRecDepth 100000 in
set_option maxHeartbeats 3200000 in
theorem impl_c (A : Option Addr) (c : Nat) (l : List Int) (a b : Int) (w : World) (hr : Kd.C (Kd.int .i64) w A l.length l) (hc : l.length ≤ c) (hl : ∀ f ∈ l, InR f) :
    Calls Try.prog 12 #[.int .i64 a, .int .i64 b, .slice A l.length c] w fun e w' => e = .returned (.int .i64 (wd a b l)) ∧ Below w.heap.size w w' := by
  by_cases hok : okD a b l = true
  · by_cases hab : b < a
    · have hup := impl_up A c l b a
      have HUP := Aside0.mk (fun W h => hup W h hc hl (by rw [okD_swap]; exact hok) (by omega))
      have hbd := core_bound b a l (by rw [okD_swap]; exact hok)
      have hneg : wrap64 (- core b a l) = - core b a l := wrap_id (by omega) (by omega)
      have hwd : wd a b l = - core b a l := by unfold wd; rw [if_pos hok, if_pos hab]
      rw [hwd]
      simp only [okD, Bool.and_eq_true, decide_eq_true_eq] at hok
      obtain ⟨⟨ha, hb⟩, hlen⟩ := hok
      have hlen' : ¬ ((l.length : Int) > 1000) := by clear hneg; omega
      clear hup hbd hwd hlen
      have HR := Aside0.mk hr
      clear hr hc hl
      go_enter Try.func12, Try.ntmps12
      go_wp2_with (fail)
      refine (isDay_c a _).mono ?_
      rintro e w' ⟨rfl, ⟨nd1, rfl⟩⟩
      rw [ha]
      go_wp2_with (fail)
      refine (isDay_c b _).mono ?_
      rintro e w' ⟨rfl, ⟨nd2, rfl⟩⟩
      rw [hb]
      go_wp2_with (fail)
      refine (HUP.out _ (Kd.C_below HR.out (pw_below_drewN (Below.refl _ _) _))).mono ?_
      rintro e w3 ⟨rfl, hb3⟩
      go_wp2
      go_ret
      exact ⟨by show Ending.returned (.int .i64 (wrap64 (- core b a l))) = _; rw [hneg], below_step (pw_below_drewN (Below.refl _ _) _) hb3⟩
    · have hwd : wd a b l = core a b l := by unfold wd; rw [if_pos hok, if_neg hab]
      rw [hwd]
      exact impl_up A c l a b w hr hc hl hok (by omega)
  · have hwd : wd a b l = 0 := by unfold wd; rw [if_neg hok]
    rw [hwd]
    clear hwd
    by_cases ha : isD a = true
    · by_cases hb : isD b = true
      · have hlen : ((l.length : Int) > 1000) := by
          rcases Nat.lt_or_ge 1000 l.length with h | h
          · omega
          · exact absurd (by simp only [okD, ha, hb, Bool.and_self, Bool.true_and, decide_eq_true_eq]; exact h) hok
        go_enter Try.func12, Try.ntmps12
        go_wp2_with (fail)
        refine (isDay_c a _).mono ?_
        rintro e w' ⟨rfl, ⟨nd1, rfl⟩⟩
        rw [ha]
        go_wp2_with (fail)
        refine (isDay_c b _).mono ?_
        rintro e w' ⟨rfl, ⟨nd2, rfl⟩⟩
        rw [hb]
        go_wp2
        go_ret
        exact ⟨rfl, pw_below_drewN (Below.refl _ _) _⟩
      · have hb' : isD b = false := by simpa using hb
        go_enter Try.func12, Try.ntmps12
        go_wp2_with (fail)
        refine (isDay_c a _).mono ?_
        rintro e w' ⟨rfl, ⟨nd1, rfl⟩⟩
        rw [ha]
        go_wp2_with (fail)
        refine (isDay_c b _).mono ?_
        rintro e w' ⟨rfl, ⟨nd2, rfl⟩⟩
        rw [hb']
        go_wp2
        go_ret
        exact ⟨rfl, pw_below_drewN (Below.refl _ _) _⟩
    · have ha' : isD a = false := by simpa using ha
      go_enter Try.func12, Try.ntmps12
      go_wp2_with (fail)
      refine (isDay_c a _).mono ?_
      rintro e w' ⟨rfl, ⟨nd1, rfl⟩⟩
      rw [ha']
      go_wp2
      go_ret
      exact ⟨rfl, pw_below_drewN (Below.refl _ _) _⟩

/-! ### the specification -/
theorem l2Day_c (a : Int) (W : World) : Calls Try.prog 59 #[.int .i64 a] W fun e w' => e = .returned (.bool (isD a)) ∧ Drawn0 W w' := spec_l2Day.calls a _ W (l2Day_ev a)
theorem l2Mod_c (a : Int) (W : World) (h0 : -1000000 ≤ a) (h1 : a ≤ 1000000) : Calls Try.prog 60 #[.int .i64 (wrap64 (a + 5)), .int .i64 7] W fun e w' => e = .returned (.int .i64 ((a + 5) % 7)) ∧ Drawn0 W w' := spec_l2Mod.calls _ _ _ W (l2Mod_ev a h0 h1)
/-- What the leading part of a list holds. -/
def has (l : List Int) (i : Nat) (x : Int) : Bool := (l.take i).contains x
theorem has_zero (l : List Int) : has l 0 = none_ := by
  funext x
  simp [has, none_]
theorem has_step (l : List Int) (i : Nat) (h : i < l.length) : has l (i + 1) = upd (has l i) (rd l (i : Int)) true := by
  funext x
  unfold has upd rd
  rw [take_succ l i 0 h, Int.toNat_natCast]
  by_cases e : x = l.getD i 0
  · rw [if_pos e]
    simp [e]
  · rw [if_neg e]
    have e' : ¬ x = l[i]?.getD 0 := by rwa [List.getD_eq_getElem?_getD] at e
    simp [e']
theorem up_step (d : Int) : up (d + 1) = up d + (if (d + 5) % 7 < 5 then 1 else 0) := by
  unfold up
  split <;> split <;> split <;> omega
theorem up_weeks (d k : Int) : up (d + 7 * k) = up d + 5 * k := by
  unfold up
  have e1 : (d + 7 * k + 7000005) / 7 = (d + 7000005) / 7 + k := by omega
  have e2 : (d + 7 * k + 7000005) % 7 = (d + 7000005) % 7 := by omega
  rw [e1, e2]
  omega

end Go.Proofs.Ytppenjoobcppjaa.PFnWorkdays
