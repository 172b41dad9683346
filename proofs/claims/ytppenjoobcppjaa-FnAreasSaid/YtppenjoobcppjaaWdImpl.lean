/- The program's Workdays: its walk. -/
import Derived.Test.YtppenjoobcppjaaWdPure
namespace Go.Proofs.Ytppenjoobcppjaa.PFnWorkdays
open Go.RowKit Go.Proofs.YtppenjoobcppjaaW.PrintWords Go.Proofs.YtppenjoobcppjaaW.PrintLast Go.Proofs.YtppenjoobcppjaaW.PrintMore Go.Proofs.Ytppenjoobcppjaa.Ev Go.Proofs.Ytppenjoobcppjaa.Bm
set_option linter.unusedVariables false
set_option linter.unusedSimpArgs false

def InR (f : Int) : Prop := -9223372036854775808 ≤ f ∧ f ≤ 9223372036854775807
theorem cnt_step (p : Int → Bool) (s : Int → Bool) (l : List Int) (i : Nat) (h : i < l.length) : cnt p s (l.drop i) = (if p (rd l (i : Int)) = true ∧ s (rd l (i : Int)) = false then 1 else 0) + cnt p (upd s (rd l (i : Int)) true) (l.drop (i + 1)) := by
  rw [List.drop_eq_getElem_cons h]
  unfold rd
  rw [Int.toNat_natCast, getD_lt _ _ _ h]
  rfl
theorem cnt_bound (p : Int → Bool) : ∀ (l : List Int) (s : Int → Bool), 0 ≤ cnt p s l ∧ cnt p s l ≤ l.length := by
  intro l
  induction l with
  | nil => intro s; exact ⟨by simp [cnt], by simp [cnt]⟩
  | cons f l ih =>
    intro s
    have := ih (upd s f true)
    unfold cnt
    rw [List.length_cons]
    split <;> omega
theorem rd_mem (l : List Int) (i : Nat) (h : i < l.length) : rd l (i : Int) ∈ l := by
  unfold rd
  rw [Int.toNat_natCast, getD_lt _ _ _ h]
  exact List.getElem_mem h
theorem isDay_c (a : Int) (W : World) : Calls Try.prog 57 #[.int .i64 a] W fun e w' => e = .returned (.bool (isD a)) ∧ Drawn0 W w' := impl_isDay.calls a _ W (isDay_ev a)
theorem weekday_c (a : Int) (W : World) : Calls Try.prog 14 #[.int .i64 a] W fun e w' => e = .returned (.int .i64 (if isD a = true then (a + 5) % 7 else -1)) ∧ Drawn0 W w' := impl_Weekday.calls a _ W (weekday_ev a)
theorem workUpTo_c (a : Int) (W : World) (h0 : -1000000 ≤ a) (h1 : a ≤ 1000001) : Calls Try.prog 58 #[.int .i64 a] W fun e w' => e = .returned (.int .i64 (up a)) ∧ Below W.heap.size W w' := impl_workUpTo.calls a _ W (workUpTo_ev a h0 h1)

set_option maxRecDepth 100000 in
set_option maxHeartbeats 3200000 in
theorem impl_up (A : Option Addr) (c : Nat) (l : List Int) (a b : Int) (w : World) (hr : Kd.C (Kd.int .i64) w A l.length l) (hc : l.length ≤ c) (hl : ∀ f ∈ l, InR f) (hok : okD a b l = true) (hab : a ≤ b) :
    Calls Try.prog 12 #[.int .i64 a, .int .i64 b, .slice A l.length c] w fun e w' => e = .returned (.int .i64 (core a b l)) ∧ Below w.heap.size w w' := by
  have HR := Aside0.mk hr
  have HL := Aside0.mk hl
  have HC := Aside0.mk hc
  simp only [okD, Bool.and_eq_true, decide_eq_true_eq] at hok
  obtain ⟨⟨ha, hb⟩, hlen⟩ := hok
  have ha' : -1000000 ≤ a ∧ a ≤ 1000000 := of_decide_eq_true ha
  have hb' : -1000000 ≤ b ∧ b ≤ 1000000 := of_decide_eq_true hb
  have HU1 := Aside0.mk (up_bound (b + 1) (by omega) (by omega))
  have HU0 := Aside0.mk (up_bound a (by omega) (by omega))
  have hw1 : wrap64 (b + 1) = b + 1 := wrap_id (by omega) (by omega)
  have HW2 := Aside0.mk (show wrap64 (up (b + 1) - up a) = up (b + 1) - up a by clear hw1; have := HU1.out; have := HU0.out; exact wrap_id (by omega) (by omega))
  obtain ⟨N, hN⟩ : ∃ N, N = up (b + 1) - up a := ⟨_, rfl⟩
  have hw2 := HW2.out.trans hN.symm
  have HN := Aside0.mk hN
  have HNB := Aside0.mk (show -20000000 ≤ N ∧ N ≤ 20000000 by clear hw1 hw2 HW2; have := HU1.out; have := HU0.out; omega)
  have HD1 := Aside0.mk (fun W => workUpTo_c (b + 1) W (by clear hw1 hw2; omega) (by clear hw1 hw2; omega))
  have HD0 := Aside0.mk (fun W => workUpTo_c a W (by clear hw1 hw2; omega) (by clear hw1 hw2; omega))
  clear hr hl hc HU1 HU0 HW2
  clear hN
  have HB := Aside0.mk (Below.refl w.heap.size w)
  have hlen' : ¬ ((l.length : Int) > 1000) := by clear hw1 hw2; omega
  have hab' : ¬ (b < a) := by clear hw1 hw2; omega
  have hmm := @run_makeMap Try.prog
  go_enter Try.func12, Try.ntmps12
  go_wp2_with (fail)
  refine (isDay_c a _).mono ?_
  rintro e w' ⟨rfl, ⟨nd1, rfl⟩⟩
  rw [ha]
  go_wp2_with (fail)
  refine (isDay_c b _).mono ?_
  rintro e w' ⟨rfl, ⟨nd2, rfl⟩⟩
  rw [hb]
  go_wp2_with (fail)
  refine (HD1.out _).mono ?_
  rintro e w3 ⟨rfl, hb3⟩
  have HB3 := Aside0.mk (show Below w.heap.size w w3 from below_step (pw_below_drewN (Below.refl _ _) _) hb3)
  clear hb3
  go_wp2_with (fail)
  refine (HD0.out _).mono ?_
  rintro e w4 ⟨rfl, hb4⟩
  have HB4 := Aside0.mk (below_step HB3.out hb4)
  clear hb4 HB3 HB
  go_wp2
  try rw [hw2]
  obtain ⟨mb, hmb⟩ : ∃ mb, mb = w4.heap.size := ⟨_, rfl⟩
  have HMB := Aside0.mk (show w.heap.size ≤ mb by rw [hmb]; exact HB4.out.size)
  have HM4 := Aside0.mk (BMap.made w4)
  have HB5 := Aside0.mk (show Below w.heap.size w (w4.alloc (.map #[] 0)) from below_alloc HB4.out _)
  rw [← hmb] at HM4 ⊢
  obtain ⟨w5, hw5⟩ : ∃ w5, w5 = w4.alloc (.map #[] 0) := ⟨_, rfl⟩
  rw [← hw5] at HM4 HB5 ⊢
  clear hw5 hmb HB4
  obtain ⟨T, hT⟩ : ∃ T, T = cnt (wk a b) none_ l := ⟨_, rfl⟩
  have HT := Aside0.mk hT
  have HTB := Aside0.mk (show 0 ≤ T ∧ T ≤ 1000 by rw [hT]; clear hw1 hw2; have := cnt_bound (wk a b) l none_; omega)
  clear hT hw1 hw2 HD1 HD0
  go_loopg [7, 41] l.length (fun d v7 v41 wr => ∃ (i : Nat) (n : Int) (s : Int → Bool), v7 = .int .i64 n ∧ v41 = .int .i64 i ∧ i + d = l.length ∧ Aside0 (n = N - T + cnt (wk a b) s (l.drop i)) ∧ Aside0 (BMap wr mb i s) ∧ Aside0 (Below w.heap.size w wr))
  case atStart => exact ⟨0, N, none_, rfl, rfl, by omega, ⟨by rw [List.drop_zero, ← HT.out]; omega⟩, ⟨HM4.out⟩, HB5⟩
  case round =>
    clear HM4 HB5
    obtain ⟨i, n, s, rfl, rfl, hid, HN2, HM, HB⟩ := hrel
    by_cases hlt : i < l.length
    · obtain ⟨d, rfl⟩ : ∃ d, gk = d + 1 := ⟨gk - 1, by omega⟩
      obtain ⟨ad, e, hx⟩ := Kd.at_int HR.out (i : Int) (by omega) (by omega)
      cases e
      replace hx := pw_cell_below HB.out hx
      rw [Int.toNat_natCast] at hx
      have HST := Aside0.mk (cnt_step (wk a b) s l i hlt)
      have hin := HL.out _ (rd_mem l i hlt)
      have HWF := Aside0.mk (wf_i64 hin.1 hin.2)
      have HCB := Aside0.mk (cnt_bound (wk a b) (l.drop i) s)
      have HCL := Aside0.mk (show (l.drop i).length ≤ 1000 by rw [List.length_drop]; omega)
      have hlook := HM.out.look HWF.out
      obtain ⟨f, hf⟩ : ∃ f, f = rd l (i : Int) := ⟨_, rfl⟩
      rw [← hf] at hx HST hin HWF hlook
      have HF := Aside0.mk hf
      clear hf hin
      have same : ¬ (wk a b f = true ∧ s f = false) → n = N - T + cnt (wk a b) (upd s f true) (l.drop (i + 1)) := by
        intro h
        have h1 := HN2.out
        rw [HST.out, if_neg h] at h1
        omega
      have HSAME := Aside0.mk same
      clear same
      by_cases h1 : a ≤ f
      · have h1b : decide (a ≤ f) = true := decide_eq_true h1
        by_cases h2 : f ≤ b
        · have h2b : decide (f ≤ b) = true := decide_eq_true h2
          by_cases h3 : s f = true
          · rw [h3] at hlook
            go_wp2_with (at_mapUpdate; refine wp_put _ rfl _ _ _ rfl mb i s f true rfl rfl rfl HM.out (by simp only [maxLen]; omega) HWF.out ?_; intro w1 hown1 hgrow1)
            go_roundg d
            case measure => omega
            case rel => exact ⟨i + 1, _, _, rfl, by go_num, by omega, ⟨HSAME.out (fun h => by rw [h3] at h; exact absurd h.2 (by decide))⟩, ⟨hown1⟩, ⟨pw_below_grown (HB.out) _ (HB.out).size hgrow1 (fun k hk => by injection hk with hk; have := HMB.out; omega)⟩⟩
          · have h3b : s f = false := by simpa using h3
            rw [h3b] at hlook
            have HWK := Aside0.mk (fun W => weekday_c f W)
            have hdf : isD f = true := decide_eq_true (by omega)
            rw [if_pos hdf] at HWK
            by_cases h4 : (f + 5) % 7 < 5
            · have h4b : decide ((f + 5) % 7 < 5) = true := decide_eq_true h4
              have HN3 := Aside0.mk (show n - 1 = N - T + cnt (wk a b) (upd s f true) (l.drop (i + 1)) by
                have h5 := HN2.out
                rw [HST.out, if_pos ⟨decide_eq_true ⟨h1, h2, h4⟩, h3b⟩] at h5
                omega)
              have hwn : wrap64 (n - 1) = n - 1 := by
                have h5 := HN2.out
                have := HCB.out
                have := HCL.out
                have := HNB.out
                have := HTB.out
                exact wrap_id (by omega) (by omega)
              go_wp2_with (first | (at_mapUpdate; refine wp_put _ rfl _ _ _ rfl mb i s f true rfl rfl rfl (HM.out.below (pw_below_drewN (Below.refl _ _) nd5)) (by simp only [maxLen]; omega) HWF.out ?_; intro w1 hown1 hgrow1) | (go_at_call 14; refine (HWK.out _).mono ?_; rintro e w5 ⟨rfl, ⟨nd5, rfl⟩⟩))
              go_roundg d
              case measure => omega
              case rel => exact ⟨i + 1, _, _, rfl, by go_num, by omega, ⟨HN3.out⟩, ⟨hown1⟩, ⟨pw_below_grown (pw_below_drewN HB.out nd5) _ (pw_below_drewN HB.out nd5).size hgrow1 (fun k hk => by injection hk with hk; have := HMB.out; omega)⟩⟩
            · have h4b : decide ((f + 5) % 7 < 5) = false := decide_eq_false h4
              go_wp2_with (first | (at_mapUpdate; refine wp_put _ rfl _ _ _ rfl mb i s f true rfl rfl rfl (HM.out.below (pw_below_drewN (Below.refl _ _) nd5)) (by simp only [maxLen]; omega) HWF.out ?_; intro w1 hown1 hgrow1) | (go_at_call 14; refine (HWK.out _).mono ?_; rintro e w5 ⟨rfl, ⟨nd5, rfl⟩⟩))
              go_roundg d
              case measure => omega
              case rel => exact ⟨i + 1, _, _, rfl, by go_num, by omega, ⟨HSAME.out (fun h => by have := of_decide_eq_true h.1; omega)⟩, ⟨hown1⟩, ⟨pw_below_grown (pw_below_drewN HB.out nd5) _ (pw_below_drewN HB.out nd5).size hgrow1 (fun k hk => by injection hk with hk; have := HMB.out; omega)⟩⟩
        · have h2b : decide (f ≤ b) = false := decide_eq_false h2
          go_wp2_with (at_mapUpdate; refine wp_put _ rfl _ _ _ rfl mb i s f true rfl rfl rfl HM.out (by simp only [maxLen]; omega) HWF.out ?_; intro w1 hown1 hgrow1)
          go_roundg d
          case measure => omega
          case rel => exact ⟨i + 1, _, _, rfl, by go_num, by omega, ⟨HSAME.out (fun h => by have := of_decide_eq_true h.1; omega)⟩, ⟨hown1⟩, ⟨pw_below_grown (HB.out) _ (HB.out).size hgrow1 (fun k hk => by injection hk with hk; have := HMB.out; omega)⟩⟩
      · have h1b : decide (a ≤ f) = false := decide_eq_false h1
        go_wp2_with (at_mapUpdate; refine wp_put _ rfl _ _ _ rfl mb i s f true rfl rfl rfl HM.out (by simp only [maxLen]; omega) HWF.out ?_; intro w1 hown1 hgrow1)
        go_roundg d
        case measure => omega
        case rel => exact ⟨i + 1, _, _, rfl, by go_num, by omega, ⟨HSAME.out (fun h => by have := of_decide_eq_true h.1; omega)⟩, ⟨hown1⟩, ⟨pw_below_grown (HB.out) _ (HB.out).size hgrow1 (fun k hk => by injection hk with hk; have := HMB.out; omega)⟩⟩
    · have hil : i = l.length := by omega
      subst hil
      have hn := HN2.out
      rw [List.drop_length, show cnt (wk a b) s [] = 0 from rfl, HT.out, HN.out] at hn
      go_wp2
      go_ret
      exact ⟨by rw [hn]; simp [core], HB.out⟩
end Go.Proofs.Ytppenjoobcppjaa.PFnWorkdays
