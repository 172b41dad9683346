/- The law on Workdays: the walk of its own text. -/
import Derived.Test.YtppenjoobcppjaaWdSpec
import Derived.Test.YtppenjoobcppjaaWdDrawn
import Derived.Test.YtppenjoobcppjaaWdSets
import Derived.Deep.RegionHeld3
import Derived.Deep.AppendLies
namespace Go.Proofs.Ytppenjoobcppjaa.PFnWorkdays
open Go.RowKit Go.Proofs.YtppenjoobcppjaaW.PrintWords Go.Proofs.YtppenjoobcppjaaW.PrintLast Go.Proofs.YtppenjoobcppjaaW.PrintMore Go.Proofs.Ytppenjoobcppjaa.Ev Go.Proofs.Ytppenjoobcppjaa.Bm
set_option linter.unusedVariables false
set_option linter.unusedSimpArgs false

theorem lit2 (W : World) (y x : Int) : (Kd.int .i64).R 3 (W.alloc (.cells #[.int .i64 y, .int .i64 x] 3 (0, 0))) W.heap.size (fun _ => True) (.slice (some ⟨W.heap.size, 0, none⟩) 2 2) [y, x] := by
  refine ⟨fun k hk => trivial, [.int .i64 y, .int .i64 x], ?_, ?_⟩
  · have h2 := World.ownsRow_lit (base := W.heap.size) (e := 3) (size := 1) W #[.int .i64 y, .int .i64 x] 2 (Nat.le_refl _) (by simp [maxLen]) (by simp)
    have h3 : (W.alloc (.cells #[.int .i64 y, .int .i64 x] 3 (0, 0))).ownsRow W.heap.size 3 1 (.slice (some ⟨W.heap.size, 0, none⟩) 2 2) 2 [.int .i64 y, .int .i64 x] := by simpa using h2
    exact h3
  · exact Reps.one (show Kd.M (Kd.int .i64) _ _ _ y [.int .i64 y] from rfl) (Reps.one (show Kd.M (Kd.int .i64) _ _ _ x [.int .i64 x] from rfl) (Reps.none _ _))
theorem add_blk (p : Addr) (i : Nat) : (p.add i).block = p.block := by
  unfold Addr.add
  first | rfl | (split <;> rfl)
theorem far_cell {W W1 : World} {row : Option Nat} {b : Nat} (hg : W.grownBy W1 row) (hne : ¬ some b = row) : ∀ q u, W.cell? q = some u → q.block = b → W1.cell? q = some u := by
  intro q u hc hq
  have hlt := World.block_lt_of_cell? W q hc
  have := hg.block q.block hlt (by rw [hq]; exact hne)
  simpa [World.cell?, this] using hc
theorem wd_swap (a b : Int) (l : List Int) (h : a ≠ b) : wd b a l = - wd a b l := by
  unfold wd
  rw [okD_swap]
  by_cases hok : okD a b l = true
  · rw [if_pos hok, if_pos hok]
    by_cases hab : b < a
    · rw [if_pos hab, if_neg (by omega)]
      omega
    · rw [if_neg hab, if_pos (by omega)]
  · rw [if_neg hok, if_neg hok]
    rfl
theorem wd_bound (a b : Int) (l : List Int) : -30000000 ≤ wd a b l ∧ wd a b l ≤ 30000000 := by
  unfold wd
  by_cases hok : okD a b l = true
  · have h1 := core_bound a b l hok
    have h2 := core_bound b a l (by rw [okD_swap]; exact hok)
    rw [if_pos hok]
    split <;> omega
  · rw [if_neg hok]
    omega
set_option maxRecDepth 100000 in
set_option maxHeartbeats 3200000 in
theorem law3 (A0 : Option Addr) (c0 : Nat) (l0 : List Int) (A1 : Option Addr) (c1 : Nat) (l1 : List Int) (w : World) (hr0 : Kd.C (Kd.int .u8) w A0 l0.length l0) (hc0 : l0.length ≤ c0) (hr1 : Kd.C (Kd.int .u8) w A1 l1.length l1) (hc1 : l1.length ≤ c1) (hg0 : Bytes l0) :
    Calls Try.prog 3 #[.slice A0 l0.length c0, .slice A1 l1.length c1] w fun e w' => e = .returned (.bool true) ∧ Below w.heap.size w w' := by
  by_cases hbig : (l0.length : Int) > 1048576
  · clear hr0 hr1
    go_enter Try.func3, Try.ntmps3
    go_wp2
    go_ret
    exact ⟨rfl, Below.refl _ _⟩
  by_cases hbig1 : (l1.length : Int) > 1048576
  · clear hr0 hr1
    go_enter Try.func3, Try.ntmps3
    go_wp2
    go_ret
    exact ⟨rfl, Below.refl _ _⟩
  have HD := Aside0.mk (draw_c A0 c0 l0 w hr0 hc0 hg0)
  clear hr0 hr1 hc0 hc1 hg0
  go_enter Try.func3, Try.ntmps3
  go_wp2_with (fail)
  refine HD.out.mono ?_
  rintro e w1 ⟨⟨a, b, v, fs, rfl, hfs, hfr⟩, hb1⟩
  obtain ⟨A2, c2, rfl⟩ := Kd.R_slice hfs
  have HB1 := Aside0.mk hb1
  have HF1 := Aside0.mk hfs
  have HFR := Aside0.mk hfr
  have HIM := Aside0.mk (fun (A : Option Addr) (c : Nat) (W : World) (x y : Int) (hR : Kd.C (Kd.int .i64) W A fs.length fs) (hc : fs.length ≤ c) => impl_c A c fs x y W hR hc hfr)
  clear hb1 hfs hfr HD
  have hn := wd_bound a b fs
  obtain ⟨n, hne⟩ : ∃ n, n = wd a b fs := ⟨_, rfl⟩
  rw [← hne] at hn
  have HN := Aside0.mk hne
  clear hne
  go_wp2_with (fail)
  refine (HIM.out A2 c2 _ a b (Kd.R_reads' HF1.out).2.2 (Kd.R_reads' HF1.out).2.1).mono ?_
  rintro e w2 ⟨rfl, hb2⟩
  have HB2 := Aside0.mk (below_step HB1.out hb2)
  have HF2 := Aside0.mk (Kd.R_below HF1.out hb2)
  clear hb2 HB1 HF1
  rw [← HN.out]
  go_wp2_with (fail)
  refine (spec_c A2 c2 fs a b w2 (Kd.R_reads' HF2.out).2.2 (Kd.R_reads' HF2.out).2.1 HFR.out).mono ?_
  rintro e w3 ⟨rfl, hb3⟩
  have HB3 := Aside0.mk (below_step HB2.out hb3)
  have HF3 := Aside0.mk (Kd.R_below HF2.out hb3)
  clear hb3 HB2 HF2
  rw [← HN.out]
  go_wp2_with (fail)
  refine (HIM.out A2 c2 _ b a (Kd.R_reads' HF3.out).2.2 (Kd.R_reads' HF3.out).2.1).mono ?_
  rintro e w4 ⟨rfl, hb4⟩
  have HB4 := Aside0.mk (below_step HB3.out hb4)
  have HF4 := Aside0.mk (Kd.R_below HF3.out hb4)
  clear hb4 HB3 HF3
  by_cases hab : a = b
  · subst hab
    rw [← HN.out]
    by_cases hz : n = -n
    · have hz2 : n = 0 := by omega
      clear hz
      subst hz2
      have hwa := fun W => weekday_c a W
      have hwb := fun W => weekday_c a W
      by_cases hda : isD a = true
      rotate_left
      · rw [if_neg hda] at hwa
        have HWA := Aside0.mk hwa
        clear hwa hwb
        go_wp2_with (fail)
        refine (HWA.out _).mono ?_
        rintro e w5 ⟨rfl, ⟨nd5, rfl⟩⟩
        go_wp2
        go_ret
        exact ⟨rfl, pw_below_drewN HB4.out _⟩
      by_cases hdb : isD a = true
      rotate_left
      · rw [if_pos hda] at hwa
        rw [if_neg hdb] at hwb
        have HWA := Aside0.mk hwa
        have HWB := Aside0.mk hwb
        clear hwa hwb
        have hp : ¬ ((a + 5) % 7 < 0) := by omega
        go_wp2_with (fail)
        refine (HWA.out _).mono ?_
        rintro e w5 ⟨rfl, ⟨nd5, rfl⟩⟩
        go_wp2_with (fail)
        refine (HWB.out _).mono ?_
        rintro e w6 ⟨rfl, ⟨nd6, rfl⟩⟩
        go_wp2
        go_ret
        exact ⟨rfl, pw_below_drewN HB4.out _⟩
      rw [if_pos hda] at hwa
      rw [if_pos hdb] at hwb
      by_cases hlen : (fs.length : Int) > 400
      · have HWA := Aside0.mk hwa
        have HWB := Aside0.mk hwb
        clear hwa hwb
        go_wp2_with (fail)
        refine (HWA.out _).mono ?_
        rintro e w5 ⟨rfl, ⟨nd5, rfl⟩⟩
        go_wp2_with (fail)
        refine (HWB.out _).mono ?_
        rintro e w6 ⟨rfl, ⟨nd6, rfl⟩⟩
        go_wp2
        go_ret
        exact ⟨rfl, pw_below_drewN HB4.out _⟩
      have HWA := Aside0.mk hwa
      have HWB := Aside0.mk hwb
      clear hwa hwb
      go_wp2_with (fail)
      refine (HWA.out _).mono ?_
      rintro e w5 ⟨rfl, ⟨nd5, rfl⟩⟩
      go_wp2_with (fail)
      refine (HWB.out _).mono ?_
      rintro e w6 ⟨rfl, ⟨nd6, rfl⟩⟩
      go_wp2
      have HB6 := Aside0.mk (show Below w.heap.size w (w4.drewN (nd5 + nd6)) from pw_below_drewN HB4.out _)
      have HF6 := Aside0.mk (show (Kd.int .i64).R 3 (w4.drewN (nd5 + nd6)) w.heap.size (fun k => k < (w4.drewN (nd5 + nd6)).heap.size) (.slice A2 fs.length c2) fs from Kd.R_mono (Kd.R_bound (Kd.R_drewN HF4.out _)) (fun k hk => hk.2.2.1))
      obtain ⟨w7, hw7⟩ : ∃ w7, w7 = w4.drewN (nd5 + nd6) := ⟨_, rfl⟩
      rw [← hw7] at HB6 HF6 ⊢
      clear hw7 HB4 HF4
      go_loopg [9, 65] fs.length (fun d v9 v65 wr => ∃ (i : Nat), v65 = .int .i64 (i : Int) ∧ i + d = fs.length ∧ Aside0 ((Kd.int .i64).R 3 wr w.heap.size (fun k => w7.heap.size ≤ k) v9 (tw fs i)) ∧ Aside0 ((Kd.int .i64).R 3 wr w.heap.size (fun k => k < w7.heap.size) (.slice A2 fs.length c2) fs) ∧ Aside0 (Below w.heap.size w wr) ∧ Aside0 (w7.heap.size ≤ wr.heap.size))
      case atStart => exact ⟨0, rfl, by omega, ⟨Kd.R_nil _ _ _ _ _⟩, HF6, HB6, ⟨Nat.le_refl _⟩⟩
      case round =>
        clear HF6 HB6
        obtain ⟨i, rfl, hid, HO, HF, HB, HSZ⟩ := hrel
        by_cases hlt : i < fs.length
        · obtain ⟨d, rfl⟩ : ∃ d, gk = d + 1 := ⟨gk - 1, by omega⟩
          obtain ⟨ad, e, hx⟩ := Kd.at_int (Kd.R_reads' HF.out).2.2 (i : Int) (by omega) (by omega)
          cases e
          obtain ⟨ad2, e, hy⟩ := Kd.at_int (Kd.R_reads' HF.out).2.2 ((fs.length : Int) - 1 - (i : Int)) (by omega) (by omega)
          cases e
          rw [Int.toNat_natCast] at hx
          rw [show ((fs.length : Int) - 1 - (i : Int)).toNat = fs.length - 1 - i by omega] at hy
          have htl := tw_length fs i
          have HTW := Aside0.mk (show tw fs (i + 1) = tw fs i ++ [rd fs ((fs.length : Int) - 1 - (i : Int)), rd fs (i : Int)] from rfl)
          have had : ad.block < w7.heap.size := HF.out.1 ad.block rfl
          have hll : ((tw fs i).length + 2) * 8 ≤ 140737488355328 := by omega
          have HLIT := Aside0.mk (lit2 wr (rd fs ((fs.length : Int) - 1 - (i : Int))) (rd fs (i : Int)))
          have hix0 : (0 : Int) ≤ (fs.length : Int) - 1 - (i : Int) := by omega
          have hix1 : (fs.length : Int) - 1 - (i : Int) < (fs.length : Int) := by omega
          have hix2 : (i : Int) < (fs.length : Int) := by omega
          have hix3 : (i : Int) ≤ (fs.length : Int) - 1 := by omega
          have hix4 : ((fs.length : Int) - 1 - (i : Int)).toNat = fs.length - 1 - i := by omega
          have hwr1 : IntKind.i64.wrap ((fs.length : Int) - 1) = (fs.length : Int) - 1 := by rw [IntKind.wrap_i64]; omega
          have hwr2 : IntKind.i64.wrap ((fs.length : Int) - 1 - (i : Int)) = (fs.length : Int) - 1 - (i : Int) := by clear hwr1; rw [IntKind.wrap_i64]; omega
          go_wp2
          go_region_held3 (fun w' => w'.cell? (ad.add i) = some (.int .i64 (rd fs (i : Int))) ∧ w'.cell? (ad.add (fs.length - 1 - i)) = some (.int .i64 (rd fs ((fs.length : Int) - 1 - (i : Int)))))
            (first
              | go_keep
              | (go_split_ands
                 refine ⟨?_, ?_⟩
                 · (refine hfar _ _ ?_ (add_blk _ _); first | assumption | exact hx)
                 · (refine hfar _ _ ?_ (add_blk _ _); first | assumption | exact hy)))
            ((refine Kd.R_append_rows_step (Kd.int .i64) (Rr := fun x cs => cs = [Value.int .i64 x]) (w0 := w) w.heap.size (by rfl) (.tmp 68) (.tmp 81) 23 3 (.int .i64 0) 8 rfl Try.underlying23 info3 rfl (by decide) (by decide) _ (tw fs i) [rd fs ((fs.length : Int) - 1 - (i : Int)), rd fs (i : Int)] (some ⟨wr.heap.size, 0, none⟩) 2 2 (fun k => w7.heap.size ≤ k) (fun _ => False) (by rfl) (by rfl) (Kd.R_drew (Kd.R_alloc HO.out _)) (Kd.R_reads' HLIT.out).2.2 (fun x cs h => h) (fun _ hk => hk.elim) (fun k hk => Nat.le_trans (Nat.le_trans HSZ.out (below_alloc (Below.refl wr.heap.size wr) _).size) hk) (below_drew (below_alloc HB.out _)) (below_drew (below_alloc HB.out _)).size hll ?_; intro v10 w10 ho10 hb10 hg10 hat10; have hfar := far_cell hg10 (fun e => by have := HO.out.1 ad.block e.symm; omega)))
          clear hwr1 hwr2 hix4
          have HF10 := Aside0.mk (Kd.R_grown (Kd.R_drew (Kd.R_alloc HF.out (.cells #[.int .i64 (rd fs ((fs.length : Int) - 1 - (i : Int))), .int .i64 (rd fs (i : Int))] 3 (0, 0)))) hg10 (fun k hk e => by have := HO.out.1 k e.symm; omega))
          rw [← HTW.out] at ho10
          have hsz10 : w7.heap.size ≤ w10.heap.size := Nat.le_trans HSZ.out (Nat.le_trans (below_drew (below_alloc (Below.refl wr.heap.size wr) _)).size hg10.size)
          try go_wp2
          go_roundg d
          case measure => omega
          case rel => exact ⟨i + 1, by go_num, by omega, ⟨ho10⟩, HF10, ⟨hb10⟩, ⟨hsz10⟩⟩
        · have hil : i = fs.length := by omega
          subst hil
          obtain ⟨A9, c9, rfl⟩ := Kd.R_slice HO.out
          have HRD := Aside0.mk (Kd.R_reads' HO.out)
          have HFD := Aside0.mk (Kd.R_reads' HF.out)
          have HTI := Aside0.mk (tw_in fs HFR.out fs.length (Nat.le_refl _))
          have HT2 := Aside0.mk (wd_twice a a fs (by omega))
          clear HO
          go_wp2_with (fail)
          refine (impl_c A9 c9 (tw fs fs.length) a a wr HRD.out.2.2 HRD.out.2.1 HTI.out).mono ?_
          rintro e w11 ⟨rfl, hb11⟩
          rw [HT2.out, ← HN.out]
          have HB11 := Aside0.mk (below_step HB.out hb11)
          have HF11 := Aside0.mk (Kd.R_below HF.out hb11)
          clear hb11 HB HF HRD HFD
          by_cases hba : a ≤ a
          · go_wp2
            go_ret
            exact ⟨rfl, HB11.out⟩
          · exact absurd (Int.le_refl _) hba
    · have hz0 : ¬ n = 0 := by omega
      have hz1 : decide (n = -n) = false := decide_eq_false hz
      have hwa := fun W => weekday_c a W
      have hwb := fun W => weekday_c a W
      by_cases hda : isD a = true
      rotate_left
      · rw [if_neg hda] at hwa
        have HWA := Aside0.mk hwa
        clear hwa hwb
        go_wp2_with (fail)
        refine (HWA.out _).mono ?_
        rintro e w5 ⟨rfl, ⟨nd5, rfl⟩⟩
        go_wp2
        go_ret
        exact ⟨rfl, pw_below_drewN HB4.out _⟩
      by_cases hdb : isD a = true
      rotate_left
      · rw [if_pos hda] at hwa
        rw [if_neg hdb] at hwb
        have HWA := Aside0.mk hwa
        have HWB := Aside0.mk hwb
        clear hwa hwb
        have hp : ¬ ((a + 5) % 7 < 0) := by omega
        go_wp2_with (fail)
        refine (HWA.out _).mono ?_
        rintro e w5 ⟨rfl, ⟨nd5, rfl⟩⟩
        go_wp2_with (fail)
        refine (HWB.out _).mono ?_
        rintro e w6 ⟨rfl, ⟨nd6, rfl⟩⟩
        go_wp2
        go_ret
        exact ⟨rfl, pw_below_drewN HB4.out _⟩
      rw [if_pos hda] at hwa
      rw [if_pos hdb] at hwb
      by_cases hlen : (fs.length : Int) > 400
      · have HWA := Aside0.mk hwa
        have HWB := Aside0.mk hwb
        clear hwa hwb
        go_wp2_with (fail)
        refine (HWA.out _).mono ?_
        rintro e w5 ⟨rfl, ⟨nd5, rfl⟩⟩
        go_wp2_with (fail)
        refine (HWB.out _).mono ?_
        rintro e w6 ⟨rfl, ⟨nd6, rfl⟩⟩
        go_wp2
        go_ret
        exact ⟨rfl, pw_below_drewN HB4.out _⟩
      have HWA := Aside0.mk hwa
      have HWB := Aside0.mk hwb
      clear hwa hwb
      go_wp2_with (fail)
      refine (HWA.out _).mono ?_
      rintro e w5 ⟨rfl, ⟨nd5, rfl⟩⟩
      go_wp2_with (fail)
      refine (HWB.out _).mono ?_
      rintro e w6 ⟨rfl, ⟨nd6, rfl⟩⟩
      go_wp2
      have HB6 := Aside0.mk (show Below w.heap.size w (w4.drewN (nd5 + nd6)) from pw_below_drewN HB4.out _)
      have HF6 := Aside0.mk (show (Kd.int .i64).R 3 (w4.drewN (nd5 + nd6)) w.heap.size (fun k => k < (w4.drewN (nd5 + nd6)).heap.size) (.slice A2 fs.length c2) fs from Kd.R_mono (Kd.R_bound (Kd.R_drewN HF4.out _)) (fun k hk => hk.2.2.1))
      obtain ⟨w7, hw7⟩ : ∃ w7, w7 = w4.drewN (nd5 + nd6) := ⟨_, rfl⟩
      rw [← hw7] at HB6 HF6 ⊢
      clear hw7 HB4 HF4
      go_loopg [9, 65] fs.length (fun d v9 v65 wr => ∃ (i : Nat), v65 = .int .i64 (i : Int) ∧ i + d = fs.length ∧ Aside0 ((Kd.int .i64).R 3 wr w.heap.size (fun k => w7.heap.size ≤ k) v9 (tw fs i)) ∧ Aside0 ((Kd.int .i64).R 3 wr w.heap.size (fun k => k < w7.heap.size) (.slice A2 fs.length c2) fs) ∧ Aside0 (Below w.heap.size w wr) ∧ Aside0 (w7.heap.size ≤ wr.heap.size))
      case atStart => exact ⟨0, rfl, by omega, ⟨Kd.R_nil _ _ _ _ _⟩, HF6, HB6, ⟨Nat.le_refl _⟩⟩
      case round =>
        clear HF6 HB6
        obtain ⟨i, rfl, hid, HO, HF, HB, HSZ⟩ := hrel
        by_cases hlt : i < fs.length
        · obtain ⟨d, rfl⟩ : ∃ d, gk = d + 1 := ⟨gk - 1, by omega⟩
          obtain ⟨ad, e, hx⟩ := Kd.at_int (Kd.R_reads' HF.out).2.2 (i : Int) (by omega) (by omega)
          cases e
          obtain ⟨ad2, e, hy⟩ := Kd.at_int (Kd.R_reads' HF.out).2.2 ((fs.length : Int) - 1 - (i : Int)) (by omega) (by omega)
          cases e
          rw [Int.toNat_natCast] at hx
          rw [show ((fs.length : Int) - 1 - (i : Int)).toNat = fs.length - 1 - i by omega] at hy
          have htl := tw_length fs i
          have HTW := Aside0.mk (show tw fs (i + 1) = tw fs i ++ [rd fs ((fs.length : Int) - 1 - (i : Int)), rd fs (i : Int)] from rfl)
          have had : ad.block < w7.heap.size := HF.out.1 ad.block rfl
          have hll : ((tw fs i).length + 2) * 8 ≤ 140737488355328 := by omega
          have HLIT := Aside0.mk (lit2 wr (rd fs ((fs.length : Int) - 1 - (i : Int))) (rd fs (i : Int)))
          have hix0 : (0 : Int) ≤ (fs.length : Int) - 1 - (i : Int) := by omega
          have hix1 : (fs.length : Int) - 1 - (i : Int) < (fs.length : Int) := by omega
          have hix2 : (i : Int) < (fs.length : Int) := by omega
          have hix3 : (i : Int) ≤ (fs.length : Int) - 1 := by omega
          have hix4 : ((fs.length : Int) - 1 - (i : Int)).toNat = fs.length - 1 - i := by omega
          have hwr1 : IntKind.i64.wrap ((fs.length : Int) - 1) = (fs.length : Int) - 1 := by rw [IntKind.wrap_i64]; omega
          have hwr2 : IntKind.i64.wrap ((fs.length : Int) - 1 - (i : Int)) = (fs.length : Int) - 1 - (i : Int) := by clear hwr1; rw [IntKind.wrap_i64]; omega
          go_wp2
          go_region_held3 (fun w' => w'.cell? (ad.add i) = some (.int .i64 (rd fs (i : Int))) ∧ w'.cell? (ad.add (fs.length - 1 - i)) = some (.int .i64 (rd fs ((fs.length : Int) - 1 - (i : Int)))))
            (first
              | go_keep
              | (go_split_ands
                 refine ⟨?_, ?_⟩
                 · (refine hfar _ _ ?_ (add_blk _ _); first | assumption | exact hx)
                 · (refine hfar _ _ ?_ (add_blk _ _); first | assumption | exact hy)))
            ((refine Kd.R_append_rows_step (Kd.int .i64) (Rr := fun x cs => cs = [Value.int .i64 x]) (w0 := w) w.heap.size (by rfl) (.tmp 68) (.tmp 81) 23 3 (.int .i64 0) 8 rfl Try.underlying23 info3 rfl (by decide) (by decide) _ (tw fs i) [rd fs ((fs.length : Int) - 1 - (i : Int)), rd fs (i : Int)] (some ⟨wr.heap.size, 0, none⟩) 2 2 (fun k => w7.heap.size ≤ k) (fun _ => False) (by rfl) (by rfl) (Kd.R_drew (Kd.R_alloc HO.out _)) (Kd.R_reads' HLIT.out).2.2 (fun x cs h => h) (fun _ hk => hk.elim) (fun k hk => Nat.le_trans (Nat.le_trans HSZ.out (below_alloc (Below.refl wr.heap.size wr) _).size) hk) (below_drew (below_alloc HB.out _)) (below_drew (below_alloc HB.out _)).size hll ?_; intro v10 w10 ho10 hb10 hg10 hat10; have hfar := far_cell hg10 (fun e => by have := HO.out.1 ad.block e.symm; omega)))
          clear hwr1 hwr2 hix4
          have HF10 := Aside0.mk (Kd.R_grown (Kd.R_drew (Kd.R_alloc HF.out (.cells #[.int .i64 (rd fs ((fs.length : Int) - 1 - (i : Int))), .int .i64 (rd fs (i : Int))] 3 (0, 0)))) hg10 (fun k hk e => by have := HO.out.1 k e.symm; omega))
          rw [← HTW.out] at ho10
          have hsz10 : w7.heap.size ≤ w10.heap.size := Nat.le_trans HSZ.out (Nat.le_trans (below_drew (below_alloc (Below.refl wr.heap.size wr) _)).size hg10.size)
          try go_wp2
          go_roundg d
          case measure => omega
          case rel => exact ⟨i + 1, by go_num, by omega, ⟨ho10⟩, HF10, ⟨hb10⟩, ⟨hsz10⟩⟩
        · have hil : i = fs.length := by omega
          subst hil
          obtain ⟨A9, c9, rfl⟩ := Kd.R_slice HO.out
          have HRD := Aside0.mk (Kd.R_reads' HO.out)
          have HFD := Aside0.mk (Kd.R_reads' HF.out)
          have HTI := Aside0.mk (tw_in fs HFR.out fs.length (Nat.le_refl _))
          have HT2 := Aside0.mk (wd_twice a a fs (by omega))
          clear HO
          go_wp2_with (fail)
          refine (impl_c A9 c9 (tw fs fs.length) a a wr HRD.out.2.2 HRD.out.2.1 HTI.out).mono ?_
          rintro e w11 ⟨rfl, hb11⟩
          rw [HT2.out, ← HN.out]
          have HB11 := Aside0.mk (below_step HB.out hb11)
          have HF11 := Aside0.mk (Kd.R_below HF.out hb11)
          clear hb11 HB HF HRD HFD
          by_cases hba : a ≤ a
          · go_wp2
            go_ret
            exact ⟨rfl, HB11.out⟩
          · exact absurd (Int.le_refl _) hba
  · rw [wd_swap a b fs hab, ← HN.out]
    have hwa := fun W => weekday_c a W
    have hwb := fun W => weekday_c b W
    by_cases hda : isD a = true
    rotate_left
    · rw [if_neg hda] at hwa
      have HWA := Aside0.mk hwa
      clear hwa hwb
      go_wp2_with (fail)
      refine (HWA.out _).mono ?_
      rintro e w5 ⟨rfl, ⟨nd5, rfl⟩⟩
      go_wp2
      go_ret
      exact ⟨rfl, pw_below_drewN HB4.out _⟩
    by_cases hdb : isD b = true
    rotate_left
    · rw [if_pos hda] at hwa
      rw [if_neg hdb] at hwb
      have HWA := Aside0.mk hwa
      have HWB := Aside0.mk hwb
      clear hwa hwb
      have hp : ¬ ((a + 5) % 7 < 0) := by omega
      go_wp2_with (fail)
      refine (HWA.out _).mono ?_
      rintro e w5 ⟨rfl, ⟨nd5, rfl⟩⟩
      go_wp2_with (fail)
      refine (HWB.out _).mono ?_
      rintro e w6 ⟨rfl, ⟨nd6, rfl⟩⟩
      go_wp2
      go_ret
      exact ⟨rfl, pw_below_drewN HB4.out _⟩
    rw [if_pos hda] at hwa
    rw [if_pos hdb] at hwb
    by_cases hlen : (fs.length : Int) > 400
    · have HWA := Aside0.mk hwa
      have HWB := Aside0.mk hwb
      clear hwa hwb
      go_wp2_with (fail)
      refine (HWA.out _).mono ?_
      rintro e w5 ⟨rfl, ⟨nd5, rfl⟩⟩
      go_wp2_with (fail)
      refine (HWB.out _).mono ?_
      rintro e w6 ⟨rfl, ⟨nd6, rfl⟩⟩
      go_wp2
      go_ret
      exact ⟨rfl, pw_below_drewN HB4.out _⟩
    have HWA := Aside0.mk hwa
    have HWB := Aside0.mk hwb
    clear hwa hwb
    go_wp2_with (fail)
    refine (HWA.out _).mono ?_
    rintro e w5 ⟨rfl, ⟨nd5, rfl⟩⟩
    go_wp2_with (fail)
    refine (HWB.out _).mono ?_
    rintro e w6 ⟨rfl, ⟨nd6, rfl⟩⟩
    go_wp2
    have HB6 := Aside0.mk (show Below w.heap.size w (w4.drewN (nd5 + nd6)) from pw_below_drewN HB4.out _)
    have HF6 := Aside0.mk (show (Kd.int .i64).R 3 (w4.drewN (nd5 + nd6)) w.heap.size (fun k => k < (w4.drewN (nd5 + nd6)).heap.size) (.slice A2 fs.length c2) fs from Kd.R_mono (Kd.R_bound (Kd.R_drewN HF4.out _)) (fun k hk => hk.2.2.1))
    obtain ⟨w7, hw7⟩ : ∃ w7, w7 = w4.drewN (nd5 + nd6) := ⟨_, rfl⟩
    rw [← hw7] at HB6 HF6 ⊢
    clear hw7 HB4 HF4
    go_loopg [9, 65] fs.length (fun d v9 v65 wr => ∃ (i : Nat), v65 = .int .i64 (i : Int) ∧ i + d = fs.length ∧ Aside0 ((Kd.int .i64).R 3 wr w.heap.size (fun k => w7.heap.size ≤ k) v9 (tw fs i)) ∧ Aside0 ((Kd.int .i64).R 3 wr w.heap.size (fun k => k < w7.heap.size) (.slice A2 fs.length c2) fs) ∧ Aside0 (Below w.heap.size w wr) ∧ Aside0 (w7.heap.size ≤ wr.heap.size))
    case atStart => exact ⟨0, rfl, by omega, ⟨Kd.R_nil _ _ _ _ _⟩, HF6, HB6, ⟨Nat.le_refl _⟩⟩
    case round =>
      clear HF6 HB6
      obtain ⟨i, rfl, hid, HO, HF, HB, HSZ⟩ := hrel
      by_cases hlt : i < fs.length
      · obtain ⟨d, rfl⟩ : ∃ d, gk = d + 1 := ⟨gk - 1, by omega⟩
        obtain ⟨ad, e, hx⟩ := Kd.at_int (Kd.R_reads' HF.out).2.2 (i : Int) (by omega) (by omega)
        cases e
        obtain ⟨ad2, e, hy⟩ := Kd.at_int (Kd.R_reads' HF.out).2.2 ((fs.length : Int) - 1 - (i : Int)) (by omega) (by omega)
        cases e
        rw [Int.toNat_natCast] at hx
        rw [show ((fs.length : Int) - 1 - (i : Int)).toNat = fs.length - 1 - i by omega] at hy
        have htl := tw_length fs i
        have HTW := Aside0.mk (show tw fs (i + 1) = tw fs i ++ [rd fs ((fs.length : Int) - 1 - (i : Int)), rd fs (i : Int)] from rfl)
        have had : ad.block < w7.heap.size := HF.out.1 ad.block rfl
        have hll : ((tw fs i).length + 2) * 8 ≤ 140737488355328 := by omega
        have HLIT := Aside0.mk (lit2 wr (rd fs ((fs.length : Int) - 1 - (i : Int))) (rd fs (i : Int)))
        have hix0 : (0 : Int) ≤ (fs.length : Int) - 1 - (i : Int) := by omega
        have hix1 : (fs.length : Int) - 1 - (i : Int) < (fs.length : Int) := by omega
        have hix2 : (i : Int) < (fs.length : Int) := by omega
        have hix3 : (i : Int) ≤ (fs.length : Int) - 1 := by omega
        have hix4 : ((fs.length : Int) - 1 - (i : Int)).toNat = fs.length - 1 - i := by omega
        have hwr1 : IntKind.i64.wrap ((fs.length : Int) - 1) = (fs.length : Int) - 1 := by rw [IntKind.wrap_i64]; omega
        have hwr2 : IntKind.i64.wrap ((fs.length : Int) - 1 - (i : Int)) = (fs.length : Int) - 1 - (i : Int) := by clear hwr1; rw [IntKind.wrap_i64]; omega
        go_wp2
        go_region_held3 (fun w' => w'.cell? (ad.add i) = some (.int .i64 (rd fs (i : Int))) ∧ w'.cell? (ad.add (fs.length - 1 - i)) = some (.int .i64 (rd fs ((fs.length : Int) - 1 - (i : Int)))))
          (first
            | go_keep
            | (go_split_ands
               refine ⟨?_, ?_⟩
               · (refine hfar _ _ ?_ (add_blk _ _); first | assumption | exact hx)
               · (refine hfar _ _ ?_ (add_blk _ _); first | assumption | exact hy)))
          ((refine Kd.R_append_rows_step (Kd.int .i64) (Rr := fun x cs => cs = [Value.int .i64 x]) (w0 := w) w.heap.size (by rfl) (.tmp 68) (.tmp 81) 23 3 (.int .i64 0) 8 rfl Try.underlying23 info3 rfl (by decide) (by decide) _ (tw fs i) [rd fs ((fs.length : Int) - 1 - (i : Int)), rd fs (i : Int)] (some ⟨wr.heap.size, 0, none⟩) 2 2 (fun k => w7.heap.size ≤ k) (fun _ => False) (by rfl) (by rfl) (Kd.R_drew (Kd.R_alloc HO.out _)) (Kd.R_reads' HLIT.out).2.2 (fun x cs h => h) (fun _ hk => hk.elim) (fun k hk => Nat.le_trans (Nat.le_trans HSZ.out (below_alloc (Below.refl wr.heap.size wr) _).size) hk) (below_drew (below_alloc HB.out _)) (below_drew (below_alloc HB.out _)).size hll ?_; intro v10 w10 ho10 hb10 hg10 hat10; have hfar := far_cell hg10 (fun e => by have := HO.out.1 ad.block e.symm; omega)))
        clear hwr1 hwr2 hix4
        have HF10 := Aside0.mk (Kd.R_grown (Kd.R_drew (Kd.R_alloc HF.out (.cells #[.int .i64 (rd fs ((fs.length : Int) - 1 - (i : Int))), .int .i64 (rd fs (i : Int))] 3 (0, 0)))) hg10 (fun k hk e => by have := HO.out.1 k e.symm; omega))
        rw [← HTW.out] at ho10
        have hsz10 : w7.heap.size ≤ w10.heap.size := Nat.le_trans HSZ.out (Nat.le_trans (below_drew (below_alloc (Below.refl wr.heap.size wr) _)).size hg10.size)
        try go_wp2
        go_roundg d
        case measure => omega
        case rel => exact ⟨i + 1, by go_num, by omega, ⟨ho10⟩, HF10, ⟨hb10⟩, ⟨hsz10⟩⟩
      · have hil : i = fs.length := by omega
        subst hil
        obtain ⟨A9, c9, rfl⟩ := Kd.R_slice HO.out
        have HRD := Aside0.mk (Kd.R_reads' HO.out)
        have HFD := Aside0.mk (Kd.R_reads' HF.out)
        have HTI := Aside0.mk (tw_in fs HFR.out fs.length (Nat.le_refl _))
        have HT2 := Aside0.mk (wd_twice a b fs (by omega))
        clear HO
        go_wp2_with (fail)
        refine (impl_c A9 c9 (tw fs fs.length) a b wr HRD.out.2.2 HRD.out.2.1 HTI.out).mono ?_
        rintro e w11 ⟨rfl, hb11⟩
        rw [HT2.out, ← HN.out]
        have HB11 := Aside0.mk (below_step HB.out hb11)
        have HF11 := Aside0.mk (Kd.R_below HF.out hb11)
        clear hb11 HB HF HRD HFD
        by_cases hba : b ≤ a
        · go_wp2
          go_ret
          exact ⟨rfl, HB11.out⟩
        · have hda' : -1000000 ≤ a ∧ a ≤ 1000000 := of_decide_eq_true hda
          have hdb' : -1000000 ≤ b ∧ b ≤ 1000000 := of_decide_eq_true hdb
          have hu : IntKind.u64.wrap (wrap64 (b - a)) = b - a := by rw [wrap_id (by omega) (by omega), IntKind.wrap_u64]; omega
          have hu0 : ¬ IntKind.u64.wrap (wrap64 (b - a)) = 0 := by rw [hu]; clear hu; omega
          have hL : 0 ≤ (l1.length : Int) * 37 % (b - a) ∧ (l1.length : Int) * 37 % (b - a) < b - a := ⟨Int.emod_nonneg _ (by clear hu hu0; omega), Int.emod_lt_of_pos _ (by clear hu hu0; omega)⟩
          obtain ⟨m, hm⟩ : ∃ m, m = wrap64 (a + wrap64 ((l1.length : Int) * 37 % IntKind.u64.wrap (wrap64 (b - a)))) := ⟨_, rfl⟩
          have hmr : a ≤ m ∧ m < b := by
            rw [hm, hu]
            clear hu hu0 hm
            obtain ⟨q, hq⟩ : ∃ q, q = (l1.length : Int) * 37 % (b - a) := ⟨_, rfl⟩
            rw [← hq] at hL ⊢
            clear hq
            rw [wrap_id (x := q) (by omega) (by omega), wrap_id (by omega) (by omega)]
            omega
          have HM := Aside0.mk hm
          have HMR := Aside0.mk hmr
          have HSPL := Aside0.mk (wd_split a b m fs hda hdb (by clear hu hu0 hm; omega) hmr.1 hmr.2)
          have HM1 := Aside0.mk (show wrap64 (m + 1) = m + 1 by clear hu hu0 hm; exact wrap_id (by omega) (by omega))
          clear hu hm hL hmr hda' hdb'
          go_wp2_with (fail)
          rw [← HM.out]
          refine (HIM.out A2 c2 _ a m (Kd.R_reads' HF11.out).2.2 (Kd.R_reads' HF11.out).2.1).mono ?_
          rintro e w12 ⟨rfl, hb12⟩
          have HB12 := Aside0.mk (below_step HB11.out hb12)
          have HF12 := Aside0.mk (Kd.R_below HF11.out hb12)
          clear hb12 HB11 HF11
          go_wp2_with (fail)
          try rw [HM1.out]
          refine (HIM.out A2 c2 _ (m + 1) b (Kd.R_reads' HF12.out).2.2 (Kd.R_reads' HF12.out).2.1).mono ?_
          rintro e w13 ⟨rfl, hb13⟩
          have HB13 := Aside0.mk (below_step HB12.out hb13)
          obtain ⟨X, hX⟩ : ∃ X, X = wd a m fs := ⟨_, rfl⟩
          obtain ⟨Y, hY⟩ : ∃ Y, Y = wd (m + 1) b fs := ⟨_, rfl⟩
          have hsum : X + Y = n := by rw [hX, hY, HSPL.out, HN.out]
          rw [← hY]
          try rw [← hX]
          clear hb13 HB12 HF12 hX hY
          have hws : wrap64 (X + Y) = n := by rw [hsum]; exact wrap_id (by omega) (by omega)
          clear hsum
          go_wp2
          go_ret
          exact ⟨by first | rfl | (rw [hws]; simp) | simp [hws], HB13.out⟩
end Go.Proofs.Ytppenjoobcppjaa.PFnWorkdays
