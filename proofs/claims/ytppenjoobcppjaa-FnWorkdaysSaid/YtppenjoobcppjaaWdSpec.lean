/- The specification's Workdays: its walk. -/
import Derived.Test.YtppenjoobcppjaaWdSpecA
namespace Go.Proofs.Ytppenjoobcppjaa.PFnWorkdays
open Go.RowKit Go.Proofs.YtppenjoobcppjaaW.PrintWords Go.Proofs.YtppenjoobcppjaaW.PrintLast Go.Proofs.YtppenjoobcppjaaW.PrintMore Go.Proofs.Ytppenjoobcppjaa.Ev Go.Proofs.Ytppenjoobcppjaa.Bm
set_option linter.unusedVariables false
set_option linter.unusedSimpArgs false
theorem cnt_nil (p s : Int → Bool) : cnt p s [] = 0 := rfl
theorem core_is (a b : Int) (l : List Int) : core a b l = up (b + 1) - up a - cnt (wk a b) none_ l := rfl
theorem up_yes (x : Int) (h : (x + 5) % 7 < 5) : up (x + 1) = up x + 1 := by rw [up_step, if_pos h]
theorem up_no (x : Int) (h : ¬ (x + 5) % 7 < 5) : up (x + 1) = up x := by rw [up_step, if_neg h]; omega
theorem l2Mod_d (a : Int) (W : World) (h0 : -1000000 ≤ a) (h1 : a ≤ 1000000) : Calls Try.prog 60 #[.int .i64 (a + 5), .int .i64 7] W fun e w' => e = .returned (.int .i64 ((a + 5) % 7)) ∧ Drawn0 W w' := by
  have h := l2Mod_c a W h0 h1
  rwa [wrap_id (by omega) (by omega)] at h
attribute [local irreducible] up cnt core has wd

set_option maxRecDepth 100000 in
set_option maxHeartbeats 8000000 in
theorem spec_c (A : Option Addr) (c : Nat) (l : List Int) (a b : Int) (w : World) (hr : Kd.C (Kd.int .i64) w A l.length l) (hc : l.length ≤ c) (hl : ∀ f ∈ l, InR f) :
    Calls Try.prog 13 #[.int .i64 a, .int .i64 b, .slice A l.length c] w fun e w' => e = .returned (.int .i64 (wd a b l)) ∧ Below w.heap.size w w' := by
  have HR := Aside0.mk hr
  have HL := Aside0.mk hl
  have HC := Aside0.mk hc
  clear hr hc hl
  by_cases hok : okD a b l = true
  · have hok0 := hok
    simp only [okD, Bool.and_eq_true, decide_eq_true_eq] at hok
    obtain ⟨⟨ha, hb⟩, hlen⟩ := hok
    have ha' : -1000000 ≤ a ∧ a ≤ 1000000 := of_decide_eq_true ha
    have hb' : -1000000 ≤ b ∧ b ≤ 1000000 := of_decide_eq_true hb
    have hlen' : ¬ ((l.length : Int) > 1000) := by omega
    by_cases hab : b < a
    · have HWD := Aside0.mk (show wrap64 (- core b a l) = wd a b l by
        have hbd := core_bound b a l (by rw [okD_swap]; exact hok0)
        unfold wd
        rw [if_pos hok0, if_pos hab, wrap_id (by omega) (by omega)])
      go_enter Try.func13, Try.ntmps13
      go_wp2_with (fail)
      refine (l2Day_c a _).mono ?_
      rintro e w' ⟨rfl, ⟨nd1, rfl⟩⟩
      rw [ha]
      go_wp2_with (fail)
      refine (l2Day_c b _).mono ?_
      rintro e w' ⟨rfl, ⟨nd2, rfl⟩⟩
      rw [hb]
      go_wp2
      have HQ := Aside0.mk (show 0 ≤ (a - b + 1) / 7 ∧ 7 * ((a - b + 1) / 7) ≤ a - b + 1 ∧ a - b + 1 ≤ 7 * ((a - b + 1) / 7) + 6 by omega)
      have HB0 := Aside0.mk (show Below w.heap.size w (w.drewN (nd1 + nd2)) from pw_below_drewN (Below.refl _ _) _)
      have HU1 := Aside0.mk (up_bound b (by omega) (by omega))
      go_loopg [10, 11] (a + 1 - (b + 7 * ((a - b + 1) / 7))).toNat (fun d v10 v11 wr => ∃ (n x : Int), v10 = .int .i64 n ∧ v11 = .int .i64 x ∧ Aside0 (n = up x - up b) ∧ b ≤ x ∧ x ≤ a + 1 ∧ x + (d : Int) = a + 1 ∧ Aside0 (Below w.heap.size w wr))
      case atStart => exact ⟨5 * ((a - b + 1) / 7), b + 7 * ((a - b + 1) / 7), rfl, rfl, ⟨by rw [up_weeks]; omega⟩, by omega, by omega, by omega, HB0⟩
      case round =>
        clear HB0
        obtain ⟨n, x, rfl, rfl, HN, hx0, hx1, hxd, HB⟩ := hrel
        have HUX := Aside0.mk (up_bound x (by omega) (by omega))
        by_cases hlt : x ≤ a
        · obtain ⟨d, rfl⟩ : ∃ d, gk = d + 1 := ⟨gk - 1, by omega⟩
          have hltb : decide (x ≤ a) = true := decide_eq_true hlt
          have HMD := Aside0.mk (fun W => l2Mod_d x W (by omega) (by omega))
          have HWX := Aside0.mk (show wrap64 (x + 1) = x + 1 from wrap_id (by omega) (by omega))
          by_cases h4 : (x + 5) % 7 < 5
          · have h4b : decide ((x + 5) % 7 < 5) = true := decide_eq_true h4
            have HN1 := Aside0.mk (show n + 1 = up (x + 1) - up b by rw [up_yes x h4, HN.out]; omega)
            have HWN := Aside0.mk (show wrap64 (n + 1) = n + 1 from wrap_id (by have := HN.out; have := HUX.out; have := HU1.out; omega) (by have := HN.out; have := HUX.out; have := HU1.out; omega))
            go_wp2_with (go_at_call 60; refine (HMD.out _).mono ?_; rintro e w5 ⟨rfl, ⟨nd5, rfl⟩⟩)
            go_roundg d
            case measure => omega
            case rel => exact ⟨n + 1, x + 1, by first | rfl | rw [HWN.out], by first | rfl | rw [HWX.out], HN1, by omega, by omega, by omega, ⟨pw_below_drewN HB.out _⟩⟩
          · have h4b : decide ((x + 5) % 7 < 5) = false := decide_eq_false h4
            have HN1 := Aside0.mk (show n = up (x + 1) - up b by rw [up_no x h4, HN.out])
            go_wp2_with (go_at_call 60; refine (HMD.out _).mono ?_; rintro e w5 ⟨rfl, ⟨nd5, rfl⟩⟩)
            go_roundg d
            case measure => omega
            case rel => exact ⟨n, x + 1, rfl, by first | rfl | rw [HWX.out], HN1, by omega, by omega, by omega, ⟨pw_below_drewN HB.out _⟩⟩
        · have hltb : decide (x ≤ a) = false := decide_eq_false hlt
          have hxe : x = a + 1 := by omega
          have HN1 := Aside0.mk (show n = up (a + 1) - up b by have := HN.out; rw [hxe] at this; exact this)
          have HNB := Aside0.mk (show -20000000 ≤ n ∧ n ≤ 20000000 by have := HN.out; have := HUX.out; have := HU1.out; omega)
          obtain ⟨T, hT⟩ : ∃ T, T = cnt (wk b a) none_ l := ⟨_, rfl⟩
          have HT := Aside0.mk hT
          have HTB := Aside0.mk (show 0 ≤ T ∧ T ≤ 1000 by rw [hT]; have := cnt_bound (wk b a) l none_; omega)
          clear hT
          go_wp2
          obtain ⟨N, hNn⟩ : ∃ N, N = n := ⟨_, rfl⟩
          go_loopg [10, 60] l.length (fun d v10 v60 wr => ∃ (i : Nat) (n2 : Int), v10 = .int .i64 n2 ∧ v60 = .int .i64 i ∧ i + d = l.length ∧ Aside0 (n2 = N - T + cnt (wk b a) (has l i) (l.drop i)) ∧ Aside0 (Below w.heap.size w wr))
          case atStart => exact ⟨0, n, rfl, rfl, by omega, ⟨by rw [List.drop_zero, has_zero, ← HT.out]; omega⟩, HB⟩
          case round =>
            clear HB
            obtain ⟨i, n2, rfl, rfl, hid, HN2, HB⟩ := hrel
            by_cases hlt2 : i < l.length
            · obtain ⟨d, rfl⟩ : ∃ d, gk = d + 1 := ⟨gk - 1, by omega⟩
              obtain ⟨ad, e, hx⟩ := Kd.at_int HR.out (i : Int) (by omega) (by omega)
              cases e
              replace hx := pw_cell_below HB.out hx
              rw [Int.toNat_natCast] at hx
              have HST := Aside0.mk (cnt_step (wk b a) (has l i) l i hlt2)
              have hcb := cnt_bound (wk b a) (l.drop i) (has l i)
              have HCB := Aside0.mk (show 0 ≤ cnt (wk b a) (has l i) (l.drop i) ∧ cnt (wk b a) (has l i) (l.drop i) ≤ 1000 by rw [List.length_drop] at hcb; omega)
              clear hcb
              have HHS := Aside0.mk (has_step l i hlt2)
              obtain ⟨f, hf⟩ : ∃ f, f = rd l (i : Int) := ⟨_, rfl⟩
              rw [← hf] at hx HST HHS
              rw [← HHS.out] at HST
              have HF := Aside0.mk hf
              clear hf
              have HSAME := Aside0.mk (show ¬ (wk b a f = true ∧ has l i f = false) → n2 = N - T + cnt (wk b a) (has l (i + 1)) (l.drop (i + 1)) by
                intro h
                have h1 := HN2.out
                rw [HST.out, if_neg h] at h1
                omega)
              have hic : (i : Int) ≤ c := by have := HC.out; omega
              go_wp2
              go_loopg [14, 69] i (fun d v14 v69 wr => ∃ (j : Nat), v14 = .bool (has l j f) ∧ v69 = .int .i64 j ∧ j + d = i ∧ Aside0 (Below w.heap.size w wr))
              case atStart => exact ⟨0, by rw [has_zero]; rfl, rfl, by omega, HB⟩
              case round =>
                clear HB hx
                obtain ⟨j, rfl, rfl, hjd, HB⟩ := hrel
                by_cases hlt3 : j < i
                · obtain ⟨d3, rfl⟩ : ∃ d3, gk = d3 + 1 := ⟨gk - 1, by omega⟩
                  obtain ⟨ad2, e2, hx⟩ := Kd.at_int HR.out (j : Int) (by omega) (by omega)
                  cases e2
                  replace hx := pw_cell_below HB.out hx
                  rw [Int.toNat_natCast] at hx
                  have HJS := Aside0.mk (congrFun (has_step l j (by omega)) f)
                  obtain ⟨g, hg⟩ : ∃ g, g = rd l (j : Int) := ⟨_, rfl⟩
                  rw [← hg] at hx HJS
                  clear hg
                  by_cases ha : has l j f = true
                  · have HV := Aside0.mk (show has l (j + 1) f = true by rw [HJS.out]; unfold upd; split <;> first | rfl | exact ha)
                    rw [ha]
                    go_wp2
                    go_roundg d3
                    case measure => omega
                    case rel => exact ⟨j + 1, by rw [HV.out], by go_num, by omega, HB⟩
                  · have ha' : has l j f = false := by simpa using ha
                    rw [ha']
                    by_cases hgf : g = f
                    · have hgfb : decide (g = f) = true := decide_eq_true hgf
                      have HV := Aside0.mk (show has l (j + 1) f = true by rw [HJS.out]; unfold upd; rw [if_pos hgf.symm])
                      go_wp2
                      go_roundg d3
                      case measure => omega
                      case rel => exact ⟨j + 1, by first | (rw [HV.out]; done) | (rw [HV.out]; rfl) | (rw [HV.out]; simp [hgf]), by go_num, by omega, HB⟩
                    · have hgfb : decide (g = f) = false := decide_eq_false hgf
                      have HV := Aside0.mk (show has l (j + 1) f = false by rw [HJS.out]; unfold upd; rw [if_neg (fun e => hgf e.symm)]; exact ha')
                      go_wp2
                      go_roundg d3
                      case measure => omega
                      case rel => exact ⟨j + 1, by first | (rw [HV.out]; done) | (rw [HV.out]; rfl) | (rw [HV.out]; simp [hgf]), by go_num, by omega, HB⟩
                · have hji : j = i := by omega
                  subst hji
                  by_cases h3 : has l j f = true
                  · rw [h3]
                    go_wp2
                    go_roundg d
                    case measure => omega
                    case rel => exact ⟨j + 1, _, rfl, by go_num, by omega, ⟨HSAME.out (fun h => by rw [h3] at h; exact absurd h.2 (by decide))⟩, HB⟩
                  · have h3b : has l j f = false := by simpa using h3
                    rw [h3b]
                    by_cases h1 : b ≤ f
                    · have h1b : decide (b ≤ f) = true := decide_eq_true h1
                      by_cases h2 : f ≤ a
                      · have h2b : decide (f ≤ a) = true := decide_eq_true h2
                        have HMD := Aside0.mk (fun W => l2Mod_d f W (by omega) (by omega))
                        by_cases h4 : (f + 5) % 7 < 5
                        · have h4b : decide ((f + 5) % 7 < 5) = true := decide_eq_true h4
                          have HN3 := Aside0.mk (show n2 - 1 = N - T + cnt (wk b a) (has l (j + 1)) (l.drop (j + 1)) by
                            have h5 := HN2.out
                            rw [HST.out, if_pos ⟨decide_eq_true ⟨h1, h2, h4⟩, h3b⟩] at h5
                            omega)
                          have hwn : wrap64 (n2 - 1) = n2 - 1 := by
                            have h5 := HN2.out
                            have := HCB.out
                            have := HNB.out
                            have := HTB.out
                            exact wrap_id (by omega) (by omega)
                          go_wp2_with (go_at_call 60; refine (HMD.out _).mono ?_; rintro e w5 ⟨rfl, ⟨nd5, rfl⟩⟩)
                          go_roundg d
                          case measure => clear hwn; omega
                          case rel => exact ⟨j + 1, n2 - 1, by first | rfl | rw [hwn], by go_num, by clear hwn; omega, HN3, ⟨pw_below_drewN HB.out _⟩⟩
                        · have h4b : decide ((f + 5) % 7 < 5) = false := decide_eq_false h4
                          go_wp2_with (go_at_call 60; refine (HMD.out _).mono ?_; rintro e w5 ⟨rfl, ⟨nd5, rfl⟩⟩)
                          go_roundg d
                          case measure => omega
                          case rel => exact ⟨j + 1, _, rfl, by go_num, by omega, ⟨HSAME.out (fun h => by have := of_decide_eq_true h.1; omega)⟩, ⟨pw_below_drewN HB.out _⟩⟩
                      · have h2b : decide (f ≤ a) = false := decide_eq_false h2
                        go_wp2
                        go_roundg d
                        case measure => omega
                        case rel => exact ⟨j + 1, _, rfl, by go_num, by omega, ⟨HSAME.out (fun h => by have := of_decide_eq_true h.1; omega)⟩, HB⟩
                    · have h1b : decide (b ≤ f) = false := decide_eq_false h1
                      go_wp2
                      go_roundg d
                      case measure => omega
                      case rel => exact ⟨j + 1, _, rfl, by go_num, by omega, ⟨HSAME.out (fun h => by have := of_decide_eq_true h.1; omega)⟩, HB⟩
            · have hil : i = l.length := by omega
              subst hil
              have hn := HN2.out
              rw [List.drop_length, cnt_nil, HT.out, hNn, HN1.out] at hn
              have hcore : n2 = core b a l := by rw [hn, core_is]; omega
              clear hn
              go_wp2
              go_ret
              exact ⟨congrArg (fun z => Ending.returned (.int .i64 z)) HWD.out, HB.out⟩
    · have HWD := Aside0.mk (show wrap64 (core a b l) = wd a b l by
        have hbd := core_bound a b l hok0
        unfold wd
        rw [if_pos hok0, if_neg hab, wrap_id (by omega) (by omega)])
      go_enter Try.func13, Try.ntmps13
      go_wp2_with (fail)
      refine (l2Day_c a _).mono ?_
      rintro e w' ⟨rfl, ⟨nd1, rfl⟩⟩
      rw [ha]
      go_wp2_with (fail)
      refine (l2Day_c b _).mono ?_
      rintro e w' ⟨rfl, ⟨nd2, rfl⟩⟩
      rw [hb]
      go_wp2
      have HQ := Aside0.mk (show 0 ≤ (b - a + 1) / 7 ∧ 7 * ((b - a + 1) / 7) ≤ b - a + 1 ∧ b - a + 1 ≤ 7 * ((b - a + 1) / 7) + 6 by omega)
      have HB0 := Aside0.mk (show Below w.heap.size w (w.drewN (nd1 + nd2)) from pw_below_drewN (Below.refl _ _) _)
      have HU1 := Aside0.mk (up_bound a (by omega) (by omega))
      go_loopg [10, 11] (b + 1 - (a + 7 * ((b - a + 1) / 7))).toNat (fun d v10 v11 wr => ∃ (n x : Int), v10 = .int .i64 n ∧ v11 = .int .i64 x ∧ Aside0 (n = up x - up a) ∧ a ≤ x ∧ x ≤ b + 1 ∧ x + (d : Int) = b + 1 ∧ Aside0 (Below w.heap.size w wr))
      case atStart => exact ⟨5 * ((b - a + 1) / 7), a + 7 * ((b - a + 1) / 7), rfl, rfl, ⟨by rw [up_weeks]; omega⟩, by omega, by omega, by omega, HB0⟩
      case round =>
        clear HB0
        obtain ⟨n, x, rfl, rfl, HN, hx0, hx1, hxd, HB⟩ := hrel
        have HUX := Aside0.mk (up_bound x (by omega) (by omega))
        by_cases hlt : x ≤ b
        · obtain ⟨d, rfl⟩ : ∃ d, gk = d + 1 := ⟨gk - 1, by omega⟩
          have hltb : decide (x ≤ b) = true := decide_eq_true hlt
          have HMD := Aside0.mk (fun W => l2Mod_d x W (by omega) (by omega))
          have HWX := Aside0.mk (show wrap64 (x + 1) = x + 1 from wrap_id (by omega) (by omega))
          by_cases h4 : (x + 5) % 7 < 5
          · have h4b : decide ((x + 5) % 7 < 5) = true := decide_eq_true h4
            have HN1 := Aside0.mk (show n + 1 = up (x + 1) - up a by rw [up_yes x h4, HN.out]; omega)
            have HWN := Aside0.mk (show wrap64 (n + 1) = n + 1 from wrap_id (by have := HN.out; have := HUX.out; have := HU1.out; omega) (by have := HN.out; have := HUX.out; have := HU1.out; omega))
            go_wp2_with (go_at_call 60; refine (HMD.out _).mono ?_; rintro e w5 ⟨rfl, ⟨nd5, rfl⟩⟩)
            go_roundg d
            case measure => omega
            case rel => exact ⟨n + 1, x + 1, by first | rfl | rw [HWN.out], by first | rfl | rw [HWX.out], HN1, by omega, by omega, by omega, ⟨pw_below_drewN HB.out _⟩⟩
          · have h4b : decide ((x + 5) % 7 < 5) = false := decide_eq_false h4
            have HN1 := Aside0.mk (show n = up (x + 1) - up a by rw [up_no x h4, HN.out])
            go_wp2_with (go_at_call 60; refine (HMD.out _).mono ?_; rintro e w5 ⟨rfl, ⟨nd5, rfl⟩⟩)
            go_roundg d
            case measure => omega
            case rel => exact ⟨n, x + 1, rfl, by first | rfl | rw [HWX.out], HN1, by omega, by omega, by omega, ⟨pw_below_drewN HB.out _⟩⟩
        · have hltb : decide (x ≤ b) = false := decide_eq_false hlt
          have hxe : x = b + 1 := by omega
          have HN1 := Aside0.mk (show n = up (b + 1) - up a by have := HN.out; rw [hxe] at this; exact this)
          have HNB := Aside0.mk (show -20000000 ≤ n ∧ n ≤ 20000000 by have := HN.out; have := HUX.out; have := HU1.out; omega)
          obtain ⟨T, hT⟩ : ∃ T, T = cnt (wk a b) none_ l := ⟨_, rfl⟩
          have HT := Aside0.mk hT
          have HTB := Aside0.mk (show 0 ≤ T ∧ T ≤ 1000 by rw [hT]; have := cnt_bound (wk a b) l none_; omega)
          clear hT
          go_wp2
          obtain ⟨N, hNn⟩ : ∃ N, N = n := ⟨_, rfl⟩
          go_loopg [10, 60] l.length (fun d v10 v60 wr => ∃ (i : Nat) (n2 : Int), v10 = .int .i64 n2 ∧ v60 = .int .i64 i ∧ i + d = l.length ∧ Aside0 (n2 = N - T + cnt (wk a b) (has l i) (l.drop i)) ∧ Aside0 (Below w.heap.size w wr))
          case atStart => exact ⟨0, n, rfl, rfl, by omega, ⟨by rw [List.drop_zero, has_zero, ← HT.out]; omega⟩, HB⟩
          case round =>
            clear HB
            obtain ⟨i, n2, rfl, rfl, hid, HN2, HB⟩ := hrel
            by_cases hlt2 : i < l.length
            · obtain ⟨d, rfl⟩ : ∃ d, gk = d + 1 := ⟨gk - 1, by omega⟩
              obtain ⟨ad, e, hx⟩ := Kd.at_int HR.out (i : Int) (by omega) (by omega)
              cases e
              replace hx := pw_cell_below HB.out hx
              rw [Int.toNat_natCast] at hx
              have HST := Aside0.mk (cnt_step (wk a b) (has l i) l i hlt2)
              have hcb := cnt_bound (wk a b) (l.drop i) (has l i)
              have HCB := Aside0.mk (show 0 ≤ cnt (wk a b) (has l i) (l.drop i) ∧ cnt (wk a b) (has l i) (l.drop i) ≤ 1000 by rw [List.length_drop] at hcb; omega)
              clear hcb
              have HHS := Aside0.mk (has_step l i hlt2)
              obtain ⟨f, hf⟩ : ∃ f, f = rd l (i : Int) := ⟨_, rfl⟩
              rw [← hf] at hx HST HHS
              rw [← HHS.out] at HST
              have HF := Aside0.mk hf
              clear hf
              have HSAME := Aside0.mk (show ¬ (wk a b f = true ∧ has l i f = false) → n2 = N - T + cnt (wk a b) (has l (i + 1)) (l.drop (i + 1)) by
                intro h
                have h1 := HN2.out
                rw [HST.out, if_neg h] at h1
                omega)
              have hic : (i : Int) ≤ c := by have := HC.out; omega
              go_wp2
              go_loopg [14, 69] i (fun d v14 v69 wr => ∃ (j : Nat), v14 = .bool (has l j f) ∧ v69 = .int .i64 j ∧ j + d = i ∧ Aside0 (Below w.heap.size w wr))
              case atStart => exact ⟨0, by rw [has_zero]; rfl, rfl, by omega, HB⟩
              case round =>
                clear HB hx
                obtain ⟨j, rfl, rfl, hjd, HB⟩ := hrel
                by_cases hlt3 : j < i
                · obtain ⟨d3, rfl⟩ : ∃ d3, gk = d3 + 1 := ⟨gk - 1, by omega⟩
                  obtain ⟨ad2, e2, hx⟩ := Kd.at_int HR.out (j : Int) (by omega) (by omega)
                  cases e2
                  replace hx := pw_cell_below HB.out hx
                  rw [Int.toNat_natCast] at hx
                  have HJS := Aside0.mk (congrFun (has_step l j (by omega)) f)
                  obtain ⟨g, hg⟩ : ∃ g, g = rd l (j : Int) := ⟨_, rfl⟩
                  rw [← hg] at hx HJS
                  clear hg
                  by_cases ha : has l j f = true
                  · have HV := Aside0.mk (show has l (j + 1) f = true by rw [HJS.out]; unfold upd; split <;> first | rfl | exact ha)
                    rw [ha]
                    go_wp2
                    go_roundg d3
                    case measure => omega
                    case rel => exact ⟨j + 1, by rw [HV.out], by go_num, by omega, HB⟩
                  · have ha' : has l j f = false := by simpa using ha
                    rw [ha']
                    by_cases hgf : g = f
                    · have hgfb : decide (g = f) = true := decide_eq_true hgf
                      have HV := Aside0.mk (show has l (j + 1) f = true by rw [HJS.out]; unfold upd; rw [if_pos hgf.symm])
                      go_wp2
                      go_roundg d3
                      case measure => omega
                      case rel => exact ⟨j + 1, by first | (rw [HV.out]; done) | (rw [HV.out]; rfl) | (rw [HV.out]; simp [hgf]), by go_num, by omega, HB⟩
                    · have hgfb : decide (g = f) = false := decide_eq_false hgf
                      have HV := Aside0.mk (show has l (j + 1) f = false by rw [HJS.out]; unfold upd; rw [if_neg (fun e => hgf e.symm)]; exact ha')
                      go_wp2
                      go_roundg d3
                      case measure => omega
                      case rel => exact ⟨j + 1, by first | (rw [HV.out]; done) | (rw [HV.out]; rfl) | (rw [HV.out]; simp [hgf]), by go_num, by omega, HB⟩
                · have hji : j = i := by omega
                  subst hji
                  by_cases h3 : has l j f = true
                  · rw [h3]
                    go_wp2
                    go_roundg d
                    case measure => omega
                    case rel => exact ⟨j + 1, _, rfl, by go_num, by omega, ⟨HSAME.out (fun h => by rw [h3] at h; exact absurd h.2 (by decide))⟩, HB⟩
                  · have h3b : has l j f = false := by simpa using h3
                    rw [h3b]
                    by_cases h1 : a ≤ f
                    · have h1b : decide (a ≤ f) = true := decide_eq_true h1
                      by_cases h2 : f ≤ b
                      · have h2b : decide (f ≤ b) = true := decide_eq_true h2
                        have HMD := Aside0.mk (fun W => l2Mod_d f W (by omega) (by omega))
                        by_cases h4 : (f + 5) % 7 < 5
                        · have h4b : decide ((f + 5) % 7 < 5) = true := decide_eq_true h4
                          have HN3 := Aside0.mk (show n2 - 1 = N - T + cnt (wk a b) (has l (j + 1)) (l.drop (j + 1)) by
                            have h5 := HN2.out
                            rw [HST.out, if_pos ⟨decide_eq_true ⟨h1, h2, h4⟩, h3b⟩] at h5
                            omega)
                          have hwn : wrap64 (n2 - 1) = n2 - 1 := by
                            have h5 := HN2.out
                            have := HCB.out
                            have := HNB.out
                            have := HTB.out
                            exact wrap_id (by omega) (by omega)
                          go_wp2_with (go_at_call 60; refine (HMD.out _).mono ?_; rintro e w5 ⟨rfl, ⟨nd5, rfl⟩⟩)
                          go_roundg d
                          case measure => clear hwn; omega
                          case rel => exact ⟨j + 1, n2 - 1, by first | rfl | rw [hwn], by go_num, by clear hwn; omega, HN3, ⟨pw_below_drewN HB.out _⟩⟩
                        · have h4b : decide ((f + 5) % 7 < 5) = false := decide_eq_false h4
                          go_wp2_with (go_at_call 60; refine (HMD.out _).mono ?_; rintro e w5 ⟨rfl, ⟨nd5, rfl⟩⟩)
                          go_roundg d
                          case measure => omega
                          case rel => exact ⟨j + 1, _, rfl, by go_num, by omega, ⟨HSAME.out (fun h => by have := of_decide_eq_true h.1; omega)⟩, ⟨pw_below_drewN HB.out _⟩⟩
                      · have h2b : decide (f ≤ b) = false := decide_eq_false h2
                        go_wp2
                        go_roundg d
                        case measure => omega
                        case rel => exact ⟨j + 1, _, rfl, by go_num, by omega, ⟨HSAME.out (fun h => by have := of_decide_eq_true h.1; omega)⟩, HB⟩
                    · have h1b : decide (a ≤ f) = false := decide_eq_false h1
                      go_wp2
                      go_roundg d
                      case measure => omega
                      case rel => exact ⟨j + 1, _, rfl, by go_num, by omega, ⟨HSAME.out (fun h => by have := of_decide_eq_true h.1; omega)⟩, HB⟩
            · have hil : i = l.length := by omega
              subst hil
              have hn := HN2.out
              rw [List.drop_length, cnt_nil, HT.out, hNn, HN1.out] at hn
              have hcore : n2 = core a b l := by rw [hn, core_is]; omega
              clear hn
              go_wp2
              go_ret
              exact ⟨congrArg (fun z => Ending.returned (.int .i64 z)) HWD.out, HB.out⟩
  · have hwd : wd a b l = 0 := by unfold wd; rw [if_neg hok]
    rw [hwd]
    clear hwd
    by_cases ha : isD a = true
    · by_cases hb : isD b = true
      · have hlen : ((l.length : Int) > 1000) := by
          rcases Nat.lt_or_ge 1000 l.length with h | h
          · omega
          · exact absurd (by simp only [okD, ha, hb, Bool.and_self, Bool.true_and, decide_eq_true_eq]; exact h) hok
        go_enter Try.func13, Try.ntmps13
        go_wp2_with (fail)
        refine (l2Day_c a _).mono ?_
        rintro e w' ⟨rfl, ⟨nd1, rfl⟩⟩
        rw [ha]
        go_wp2_with (fail)
        refine (l2Day_c b _).mono ?_
        rintro e w' ⟨rfl, ⟨nd2, rfl⟩⟩
        rw [hb]
        go_wp2
        go_ret
        exact ⟨rfl, pw_below_drewN (Below.refl _ _) _⟩
      · have hb' : isD b = false := by simpa using hb
        go_enter Try.func13, Try.ntmps13
        go_wp2_with (fail)
        refine (l2Day_c a _).mono ?_
        rintro e w' ⟨rfl, ⟨nd1, rfl⟩⟩
        rw [ha]
        go_wp2_with (fail)
        refine (l2Day_c b _).mono ?_
        rintro e w' ⟨rfl, ⟨nd2, rfl⟩⟩
        rw [hb']
        go_wp2
        go_ret
        exact ⟨rfl, pw_below_drewN (Below.refl _ _) _⟩
    · have ha' : isD a = false := by simpa using ha
      go_enter Try.func13, Try.ntmps13
      go_wp2_with (fail)
      refine (l2Day_c a _).mono ?_
      rintro e w' ⟨rfl, ⟨nd1, rfl⟩⟩
      rw [ha']
      go_wp2
      go_ret
      exact ⟨rfl, pw_below_drewN (Below.refl _ _) _⟩
end Go.Proofs.Ytppenjoobcppjaa.PFnWorkdays
