/- impl.Meet where an area is bad, impl.Hull, spec.Hull, spec.CellsIn: the walks. -/
import Derived.Test.YtppenjoobcppjaaArBoth
import Derived.Deep.DrawnRows
import Derived.Deep.RegionHeld3
namespace Go.Proofs.Ytppenjoobcppjaa.PAr
open Go.RowKit Go.Proofs.YtppenjoobcppjaaW.PrintWords Go.Proofs.YtppenjoobcppjaaW.PrintLast Go.Proofs.YtppenjoobcppjaaW.PrintMore
attribute [local go_sem] max2_int min2_int max_two min_two max_three min_three max_four min_four
attribute [local go_sem ↓] Go.wp_at_zero Go.wp_at_succ
set_option linter.unusedVariables false
set_option linter.unusedSimpArgs false

set_option maxRecDepth 100000 in
set_option maxHeartbeats 3200000 in
theorem imeet_bad0 (a0 a1 : Int) (a2 a3 : Bool) (a4 a5 : Int) (a6 a7 : Bool) (b0 b1 : Int) (b2 b3 : Bool) (b4 b5 : Int) (b6 b7 : Bool) (w : World) (hg : goodA a0 a1 a4 a5 = false) :
    Calls Try.prog 23 #[.agg #[.int .i64 a0, .int .i64 a1, .bool a2, .bool a3, .int .i64 a4, .int .i64 a5, .bool a6, .bool a7], .agg #[.int .i64 b0, .int .i64 b1, .bool b2, .bool b3, .int .i64 b4, .int .i64 b5, .bool b6, .bool b7]] w fun e w' => e = .returned (.tuple #[.agg #[.int .i64 0, .int .i64 0, .bool false, .bool false, .int .i64 0, .int .i64 0, .bool false, .bool false], .bool false]) ∧ Below w.heap.size w w' := by
  have HGD := Aside0.mk hg
  have hu40 := Try.underlying40
  have hu101 := Try.underlying101
  go_enter Try.func23, Try.ntmps23
  go_wp2_with (fail)
  obtain ⟨hA, hB, hZ, hBel, hsz⟩ := boxes3 w #[.int .i64 a0, .int .i64 a1, .bool a2, .bool a3, .int .i64 a4, .int .i64 a5, .bool a6, .bool a7] #[.int .i64 b0, .int .i64 b1, .bool b2, .bool b3, .int .i64 b4, .int .i64 b5, .bool b6, .bool b7] #[.int .i64 0, .int .i64 0, .bool false, .bool false, .int .i64 0, .int .i64 0, .bool false, .bool false] 40
  obtain ⟨W1, hW1⟩ : ∃ W1, W1 = ((w.alloc (.cells #[.int .i64 a0, .int .i64 a1, .bool a2, .bool a3, .int .i64 a4, .int .i64 a5, .bool a6, .bool a7] 40 (0, 0))).alloc (.cells #[.int .i64 b0, .int .i64 b1, .bool b2, .bool b3, .int .i64 b4, .int .i64 b5, .bool b6, .bool b7] 40 (0, 0))).alloc (.cells #[.int .i64 0, .int .i64 0, .bool false, .bool false, .int .i64 0, .int .i64 0, .bool false, .bool false] 40 (0, 0)) := ⟨_, rfl⟩
  rw [← hW1] at hA hB hZ hBel hsz ⊢
  clear hW1
  obtain ⟨g4, hg4⟩ : ∃ g, g = w.heap.size + 1 + 1 := ⟨_, rfl⟩
  obtain ⟨g3, hg3⟩ : ∃ g, g = w.heap.size + 1 := ⟨_, rfl⟩
  obtain ⟨g2, hg2⟩ : ∃ g, g = w.heap.size := ⟨_, rfl⟩
  have HG := Aside0.mk (show w.heap.size ≤ g2 ∧ w.heap.size ≤ g3 ∧ w.heap.size ≤ g4 ∧ g2 ≠ g3 ∧ g2 ≠ g4 ∧ g3 ≠ g4 by omega)
  rw [show w.heap.size + 2 = g4 by omega] at hZ
  rw [show w.heap.size + 1 = g3 by omega] at hB
  have hA' : W1.heap[g2]? = some (.cells #[.int .i64 a0, .int .i64 a1, .bool a2, .bool a3, .int .i64 a4, .int .i64 a5, .bool a6, .bool a7] 40 (0, 0)) := by rw [hg2]; exact hA
  simp only [← hg4]
  simp only [← hg3]
  simp only [← hg2]
  have BA1 := Aside0.mk hA'
  have BB1 := Aside0.mk hB
  have BZ1 := Aside0.mk hZ
  have HB1 := Aside0.mk hBel
  clear hA hA' hB hZ hBel hsz hg4 hg3 hg2
  refine (igood_c a0 a1 a2 a3 a4 a5 a6 a7 W1).mono ?_
  rintro e w2 ⟨rfl, hb2⟩
  have BA2 := Aside0.mk (blk_below BA1.out hb2)
  have BB2 := Aside0.mk (blk_below BB1.out hb2)
  have BZ2 := Aside0.mk (blk_below BZ1.out hb2)
  have HB2 := Aside0.mk (below_step HB1.out hb2)
  clear hb2 BA1 BB1 BZ1 HB1
  rw [HGD.out]
  obtain ⟨q0_0, q0_1, q0_2, q0_3, q0_4, q0_5, q0_6, q0_7⟩ := bx8 BZ2.out
  obtain ⟨f0, f1, f2, f3, f4, f5, f6, f7⟩ := frozen8 BZ2.out
  go_wp2
  refine bodyPost_ret (results_ct rfl _ _ g4 40 #[.int .i64 0, .int .i64 0, .bool false, .bool false, .int .i64 0, .int .i64 0, .bool false, .bool false] (0, 0) _ rfl (put8 BZ2.out _ _ _ _ _ _ _ _) Try.underlying40 rfl (by kernel_rfl)) rfl ?_
  exact ⟨rfl, below8 HB2.out HG.out.2.2.1 _ _ _ _ _ _ _ _⟩
set_option maxRecDepth 100000 in
set_option maxHeartbeats 3200000 in
theorem imeet_bad1 (a0 a1 : Int) (a2 a3 : Bool) (a4 a5 : Int) (a6 a7 : Bool) (b0 b1 : Int) (b2 b3 : Bool) (b4 b5 : Int) (b6 b7 : Bool) (w : World) (hg : goodA a0 a1 a4 a5 = true ∧ goodA b0 b1 b4 b5 = false) :
    Calls Try.prog 23 #[.agg #[.int .i64 a0, .int .i64 a1, .bool a2, .bool a3, .int .i64 a4, .int .i64 a5, .bool a6, .bool a7], .agg #[.int .i64 b0, .int .i64 b1, .bool b2, .bool b3, .int .i64 b4, .int .i64 b5, .bool b6, .bool b7]] w fun e w' => e = .returned (.tuple #[.agg #[.int .i64 0, .int .i64 0, .bool false, .bool false, .int .i64 0, .int .i64 0, .bool false, .bool false], .bool false]) ∧ Below w.heap.size w w' := by
  have HGD := Aside0.mk hg
  have hu40 := Try.underlying40
  have hu101 := Try.underlying101
  go_enter Try.func23, Try.ntmps23
  go_wp2_with (fail)
  obtain ⟨hA, hB, hZ, hBel, hsz⟩ := boxes3 w #[.int .i64 a0, .int .i64 a1, .bool a2, .bool a3, .int .i64 a4, .int .i64 a5, .bool a6, .bool a7] #[.int .i64 b0, .int .i64 b1, .bool b2, .bool b3, .int .i64 b4, .int .i64 b5, .bool b6, .bool b7] #[.int .i64 0, .int .i64 0, .bool false, .bool false, .int .i64 0, .int .i64 0, .bool false, .bool false] 40
  obtain ⟨W1, hW1⟩ : ∃ W1, W1 = ((w.alloc (.cells #[.int .i64 a0, .int .i64 a1, .bool a2, .bool a3, .int .i64 a4, .int .i64 a5, .bool a6, .bool a7] 40 (0, 0))).alloc (.cells #[.int .i64 b0, .int .i64 b1, .bool b2, .bool b3, .int .i64 b4, .int .i64 b5, .bool b6, .bool b7] 40 (0, 0))).alloc (.cells #[.int .i64 0, .int .i64 0, .bool false, .bool false, .int .i64 0, .int .i64 0, .bool false, .bool false] 40 (0, 0)) := ⟨_, rfl⟩
  rw [← hW1] at hA hB hZ hBel hsz ⊢
  clear hW1
  obtain ⟨g4, hg4⟩ : ∃ g, g = w.heap.size + 1 + 1 := ⟨_, rfl⟩
  obtain ⟨g3, hg3⟩ : ∃ g, g = w.heap.size + 1 := ⟨_, rfl⟩
  obtain ⟨g2, hg2⟩ : ∃ g, g = w.heap.size := ⟨_, rfl⟩
  have HG := Aside0.mk (show w.heap.size ≤ g2 ∧ w.heap.size ≤ g3 ∧ w.heap.size ≤ g4 ∧ g2 ≠ g3 ∧ g2 ≠ g4 ∧ g3 ≠ g4 by omega)
  rw [show w.heap.size + 2 = g4 by omega] at hZ
  rw [show w.heap.size + 1 = g3 by omega] at hB
  have hA' : W1.heap[g2]? = some (.cells #[.int .i64 a0, .int .i64 a1, .bool a2, .bool a3, .int .i64 a4, .int .i64 a5, .bool a6, .bool a7] 40 (0, 0)) := by rw [hg2]; exact hA
  simp only [← hg4]
  simp only [← hg3]
  simp only [← hg2]
  have BA1 := Aside0.mk hA'
  have BB1 := Aside0.mk hB
  have BZ1 := Aside0.mk hZ
  have HB1 := Aside0.mk hBel
  clear hA hA' hB hZ hBel hsz hg4 hg3 hg2
  refine (igood_c a0 a1 a2 a3 a4 a5 a6 a7 W1).mono ?_
  rintro e w2 ⟨rfl, hb2⟩
  have BA2 := Aside0.mk (blk_below BA1.out hb2)
  have BB2 := Aside0.mk (blk_below BB1.out hb2)
  have BZ2 := Aside0.mk (blk_below BZ1.out hb2)
  have HB2 := Aside0.mk (below_step HB1.out hb2)
  clear hb2 BA1 BB1 BZ1 HB1
  rw [HGD.out.1]
  obtain ⟨q0_0, q0_1, q0_2, q0_3, q0_4, q0_5, q0_6, q0_7⟩ := bx8 BB2.out
  go_wp2_with (fail)
  clear q0_0 q0_1 q0_2 q0_3 q0_4 q0_5 q0_6 q0_7 
  refine (igood_c b0 b1 b2 b3 b4 b5 b6 b7 _).mono ?_
  rintro e w3 ⟨rfl, hb3⟩
  have BA3 := Aside0.mk (blk_below BA2.out hb3)
  have BB3 := Aside0.mk (blk_below BB2.out hb3)
  have BZ3 := Aside0.mk (blk_below BZ2.out hb3)
  have HB3 := Aside0.mk (below_step HB2.out hb3)
  clear hb3 BA2 BB2 BZ2 HB2
  rw [HGD.out.2]
  obtain ⟨q0_0, q0_1, q0_2, q0_3, q0_4, q0_5, q0_6, q0_7⟩ := bx8 BZ3.out
  obtain ⟨f0, f1, f2, f3, f4, f5, f6, f7⟩ := frozen8 BZ3.out
  go_wp2
  refine bodyPost_ret (results_ct rfl _ _ g4 40 #[.int .i64 0, .int .i64 0, .bool false, .bool false, .int .i64 0, .int .i64 0, .bool false, .bool false] (0, 0) _ rfl (put8 BZ3.out _ _ _ _ _ _ _ _) Try.underlying40 rfl (by kernel_rfl)) rfl ?_
  exact ⟨rfl, below8 HB3.out HG.out.2.2.1 _ _ _ _ _ _ _ _⟩
set_option maxRecDepth 100000 in
set_option maxHeartbeats 3200000 in
theorem ihull_bad0 (a0 a1 : Int) (a2 a3 : Bool) (a4 a5 : Int) (a6 a7 : Bool) (b0 b1 : Int) (b2 b3 : Bool) (b4 b5 : Int) (b6 b7 : Bool) (w : World) (hg : goodA a0 a1 a4 a5 = false) :
    Calls Try.prog 28 #[.agg #[.int .i64 a0, .int .i64 a1, .bool a2, .bool a3, .int .i64 a4, .int .i64 a5, .bool a6, .bool a7], .agg #[.int .i64 b0, .int .i64 b1, .bool b2, .bool b3, .int .i64 b4, .int .i64 b5, .bool b6, .bool b7]] w fun e w' => e = .returned (.agg #[.int .i64 0, .int .i64 0, .bool false, .bool false, .int .i64 0, .int .i64 0, .bool false, .bool false]) ∧ Below w.heap.size w w' := by
  have HGD := Aside0.mk hg
  have hu40 := Try.underlying40
  have hu101 := Try.underlying101
  go_enter Try.func28, Try.ntmps28
  go_wp2_with (fail)
  obtain ⟨hA, hB, hZ, hBel, hsz⟩ := boxes3 w #[.int .i64 a0, .int .i64 a1, .bool a2, .bool a3, .int .i64 a4, .int .i64 a5, .bool a6, .bool a7] #[.int .i64 b0, .int .i64 b1, .bool b2, .bool b3, .int .i64 b4, .int .i64 b5, .bool b6, .bool b7] #[.int .i64 0, .int .i64 0, .bool false, .bool false, .int .i64 0, .int .i64 0, .bool false, .bool false] 40
  obtain ⟨W1, hW1⟩ : ∃ W1, W1 = ((w.alloc (.cells #[.int .i64 a0, .int .i64 a1, .bool a2, .bool a3, .int .i64 a4, .int .i64 a5, .bool a6, .bool a7] 40 (0, 0))).alloc (.cells #[.int .i64 b0, .int .i64 b1, .bool b2, .bool b3, .int .i64 b4, .int .i64 b5, .bool b6, .bool b7] 40 (0, 0))).alloc (.cells #[.int .i64 0, .int .i64 0, .bool false, .bool false, .int .i64 0, .int .i64 0, .bool false, .bool false] 40 (0, 0)) := ⟨_, rfl⟩
  rw [← hW1] at hA hB hZ hBel hsz ⊢
  clear hW1
  obtain ⟨g4, hg4⟩ : ∃ g, g = w.heap.size + 1 + 1 := ⟨_, rfl⟩
  obtain ⟨g3, hg3⟩ : ∃ g, g = w.heap.size + 1 := ⟨_, rfl⟩
  obtain ⟨g2, hg2⟩ : ∃ g, g = w.heap.size := ⟨_, rfl⟩
  have HG := Aside0.mk (show w.heap.size ≤ g2 ∧ w.heap.size ≤ g3 ∧ w.heap.size ≤ g4 ∧ g2 ≠ g3 ∧ g2 ≠ g4 ∧ g3 ≠ g4 by omega)
  rw [show w.heap.size + 2 = g4 by omega] at hZ
  rw [show w.heap.size + 1 = g3 by omega] at hB
  have hA' : W1.heap[g2]? = some (.cells #[.int .i64 a0, .int .i64 a1, .bool a2, .bool a3, .int .i64 a4, .int .i64 a5, .bool a6, .bool a7] 40 (0, 0)) := by rw [hg2]; exact hA
  simp only [← hg4]
  simp only [← hg3]
  simp only [← hg2]
  have BA1 := Aside0.mk hA'
  have BB1 := Aside0.mk hB
  have BZ1 := Aside0.mk hZ
  have HB1 := Aside0.mk hBel
  clear hA hA' hB hZ hBel hsz hg4 hg3 hg2
  refine (igood_c a0 a1 a2 a3 a4 a5 a6 a7 W1).mono ?_
  rintro e w2 ⟨rfl, hb2⟩
  have BA2 := Aside0.mk (blk_below BA1.out hb2)
  have BB2 := Aside0.mk (blk_below BB1.out hb2)
  have BZ2 := Aside0.mk (blk_below BZ1.out hb2)
  have HB2 := Aside0.mk (below_step HB1.out hb2)
  clear hb2 BA1 BB1 BZ1 HB1
  rw [HGD.out]
  obtain ⟨q0_0, q0_1, q0_2, q0_3, q0_4, q0_5, q0_6, q0_7⟩ := bx8 BZ2.out
  obtain ⟨f0, f1, f2, f3, f4, f5, f6, f7⟩ := frozen8 BZ2.out
  go_wp2
  refine bodyPost_ret (results_cell_row rfl _ _ g4 40 #[.int .i64 0, .int .i64 0, .bool false, .bool false, .int .i64 0, .int .i64 0, .bool false, .bool false] (0, 0) _ rfl (put8 BZ2.out _ _ _ _ _ _ _ _) Try.underlying40 rfl (by kernel_rfl)) rfl ?_
  exact ⟨rfl, below8 HB2.out HG.out.2.2.1 _ _ _ _ _ _ _ _⟩
set_option maxRecDepth 100000 in
set_option maxHeartbeats 3200000 in
theorem ihull_bad1 (a0 a1 : Int) (a2 a3 : Bool) (a4 a5 : Int) (a6 a7 : Bool) (b0 b1 : Int) (b2 b3 : Bool) (b4 b5 : Int) (b6 b7 : Bool) (w : World) (hg : goodA a0 a1 a4 a5 = true ∧ goodA b0 b1 b4 b5 = false) :
    Calls Try.prog 28 #[.agg #[.int .i64 a0, .int .i64 a1, .bool a2, .bool a3, .int .i64 a4, .int .i64 a5, .bool a6, .bool a7], .agg #[.int .i64 b0, .int .i64 b1, .bool b2, .bool b3, .int .i64 b4, .int .i64 b5, .bool b6, .bool b7]] w fun e w' => e = .returned (.agg #[.int .i64 0, .int .i64 0, .bool false, .bool false, .int .i64 0, .int .i64 0, .bool false, .bool false]) ∧ Below w.heap.size w w' := by
  have HGD := Aside0.mk hg
  have hu40 := Try.underlying40
  have hu101 := Try.underlying101
  go_enter Try.func28, Try.ntmps28
  go_wp2_with (fail)
  obtain ⟨hA, hB, hZ, hBel, hsz⟩ := boxes3 w #[.int .i64 a0, .int .i64 a1, .bool a2, .bool a3, .int .i64 a4, .int .i64 a5, .bool a6, .bool a7] #[.int .i64 b0, .int .i64 b1, .bool b2, .bool b3, .int .i64 b4, .int .i64 b5, .bool b6, .bool b7] #[.int .i64 0, .int .i64 0, .bool false, .bool false, .int .i64 0, .int .i64 0, .bool false, .bool false] 40
  obtain ⟨W1, hW1⟩ : ∃ W1, W1 = ((w.alloc (.cells #[.int .i64 a0, .int .i64 a1, .bool a2, .bool a3, .int .i64 a4, .int .i64 a5, .bool a6, .bool a7] 40 (0, 0))).alloc (.cells #[.int .i64 b0, .int .i64 b1, .bool b2, .bool b3, .int .i64 b4, .int .i64 b5, .bool b6, .bool b7] 40 (0, 0))).alloc (.cells #[.int .i64 0, .int .i64 0, .bool false, .bool false, .int .i64 0, .int .i64 0, .bool false, .bool false] 40 (0, 0)) := ⟨_, rfl⟩
  rw [← hW1] at hA hB hZ hBel hsz ⊢
  clear hW1
  obtain ⟨g4, hg4⟩ : ∃ g, g = w.heap.size + 1 + 1 := ⟨_, rfl⟩
  obtain ⟨g3, hg3⟩ : ∃ g, g = w.heap.size + 1 := ⟨_, rfl⟩
  obtain ⟨g2, hg2⟩ : ∃ g, g = w.heap.size := ⟨_, rfl⟩
  have HG := Aside0.mk (show w.heap.size ≤ g2 ∧ w.heap.size ≤ g3 ∧ w.heap.size ≤ g4 ∧ g2 ≠ g3 ∧ g2 ≠ g4 ∧ g3 ≠ g4 by omega)
  rw [show w.heap.size + 2 = g4 by omega] at hZ
  rw [show w.heap.size + 1 = g3 by omega] at hB
  have hA' : W1.heap[g2]? = some (.cells #[.int .i64 a0, .int .i64 a1, .bool a2, .bool a3, .int .i64 a4, .int .i64 a5, .bool a6, .bool a7] 40 (0, 0)) := by rw [hg2]; exact hA
  simp only [← hg4]
  simp only [← hg3]
  simp only [← hg2]
  have BA1 := Aside0.mk hA'
  have BB1 := Aside0.mk hB
  have BZ1 := Aside0.mk hZ
  have HB1 := Aside0.mk hBel
  clear hA hA' hB hZ hBel hsz hg4 hg3 hg2
  refine (igood_c a0 a1 a2 a3 a4 a5 a6 a7 W1).mono ?_
  rintro e w2 ⟨rfl, hb2⟩
  have BA2 := Aside0.mk (blk_below BA1.out hb2)
  have BB2 := Aside0.mk (blk_below BB1.out hb2)
  have BZ2 := Aside0.mk (blk_below BZ1.out hb2)
  have HB2 := Aside0.mk (below_step HB1.out hb2)
  clear hb2 BA1 BB1 BZ1 HB1
  rw [HGD.out.1]
  obtain ⟨q0_0, q0_1, q0_2, q0_3, q0_4, q0_5, q0_6, q0_7⟩ := bx8 BB2.out
  go_wp2_with (fail)
  clear q0_0 q0_1 q0_2 q0_3 q0_4 q0_5 q0_6 q0_7 
  refine (igood_c b0 b1 b2 b3 b4 b5 b6 b7 _).mono ?_
  rintro e w3 ⟨rfl, hb3⟩
  have BA3 := Aside0.mk (blk_below BA2.out hb3)
  have BB3 := Aside0.mk (blk_below BB2.out hb3)
  have BZ3 := Aside0.mk (blk_below BZ2.out hb3)
  have HB3 := Aside0.mk (below_step HB2.out hb3)
  clear hb3 BA2 BB2 BZ2 HB2
  rw [HGD.out.2]
  obtain ⟨q0_0, q0_1, q0_2, q0_3, q0_4, q0_5, q0_6, q0_7⟩ := bx8 BZ3.out
  obtain ⟨f0, f1, f2, f3, f4, f5, f6, f7⟩ := frozen8 BZ3.out
  go_wp2
  refine bodyPost_ret (results_cell_row rfl _ _ g4 40 #[.int .i64 0, .int .i64 0, .bool false, .bool false, .int .i64 0, .int .i64 0, .bool false, .bool false] (0, 0) _ rfl (put8 BZ3.out _ _ _ _ _ _ _ _) Try.underlying40 rfl (by kernel_rfl)) rfl ?_
  exact ⟨rfl, below8 HB3.out HG.out.2.2.1 _ _ _ _ _ _ _ _⟩
set_option maxRecDepth 100000 in
set_option maxHeartbeats 3200000 in
theorem ihull_in (a0 a1 : Int) (a2 a3 : Bool) (a4 a5 : Int) (a6 a7 : Bool) (b0 b1 : Int) (b2 b3 : Bool) (b4 b5 : Int) (b6 b7 : Bool) (w : World) (hg : goodA a0 a1 a4 a5 = true ∧ goodA b0 b1 b4 b5 = true) :
    Calls Try.prog 28 #[.agg #[.int .i64 a0, .int .i64 a1, .bool a2, .bool a3, .int .i64 a4, .int .i64 a5, .bool a6, .bool a7], .agg #[.int .i64 b0, .int .i64 b1, .bool b2, .bool b3, .int .i64 b4, .int .i64 b5, .bool b6, .bool b7]] w fun e w' => e = .returned (.agg #[.int .i64 (mn (mn a0 a4) (mn b0 b4)), .int .i64 (mn (mn a1 a5) (mn b1 b5)), .bool false, .bool false, .int .i64 (mx (mx a0 a4) (mx b0 b4)), .int .i64 (mx (mx a1 a5) (mx b1 b5)), .bool false, .bool false]) ∧ Below w.heap.size w w' := by
  have HGD := Aside0.mk hg
  have hu40 := Try.underlying40
  have hu101 := Try.underlying101
  go_enter Try.func28, Try.ntmps28
  go_wp2_with (fail)
  obtain ⟨hA, hB, hZ, hBel, hsz⟩ := boxes3 w #[.int .i64 a0, .int .i64 a1, .bool a2, .bool a3, .int .i64 a4, .int .i64 a5, .bool a6, .bool a7] #[.int .i64 b0, .int .i64 b1, .bool b2, .bool b3, .int .i64 b4, .int .i64 b5, .bool b6, .bool b7] #[.int .i64 0, .int .i64 0, .bool false, .bool false, .int .i64 0, .int .i64 0, .bool false, .bool false] 40
  obtain ⟨W1, hW1⟩ : ∃ W1, W1 = ((w.alloc (.cells #[.int .i64 a0, .int .i64 a1, .bool a2, .bool a3, .int .i64 a4, .int .i64 a5, .bool a6, .bool a7] 40 (0, 0))).alloc (.cells #[.int .i64 b0, .int .i64 b1, .bool b2, .bool b3, .int .i64 b4, .int .i64 b5, .bool b6, .bool b7] 40 (0, 0))).alloc (.cells #[.int .i64 0, .int .i64 0, .bool false, .bool false, .int .i64 0, .int .i64 0, .bool false, .bool false] 40 (0, 0)) := ⟨_, rfl⟩
  rw [← hW1] at hA hB hZ hBel hsz ⊢
  clear hW1
  obtain ⟨g4, hg4⟩ : ∃ g, g = w.heap.size + 1 + 1 := ⟨_, rfl⟩
  obtain ⟨g3, hg3⟩ : ∃ g, g = w.heap.size + 1 := ⟨_, rfl⟩
  obtain ⟨g2, hg2⟩ : ∃ g, g = w.heap.size := ⟨_, rfl⟩
  have HG := Aside0.mk (show w.heap.size ≤ g2 ∧ w.heap.size ≤ g3 ∧ w.heap.size ≤ g4 ∧ g2 ≠ g3 ∧ g2 ≠ g4 ∧ g3 ≠ g4 by omega)
  rw [show w.heap.size + 2 = g4 by omega] at hZ
  rw [show w.heap.size + 1 = g3 by omega] at hB
  have hA' : W1.heap[g2]? = some (.cells #[.int .i64 a0, .int .i64 a1, .bool a2, .bool a3, .int .i64 a4, .int .i64 a5, .bool a6, .bool a7] 40 (0, 0)) := by rw [hg2]; exact hA
  simp only [← hg4]
  simp only [← hg3]
  simp only [← hg2]
  have BA1 := Aside0.mk hA'
  have BB1 := Aside0.mk hB
  have BZ1 := Aside0.mk hZ
  have HB1 := Aside0.mk hBel
  clear hA hA' hB hZ hBel hsz hg4 hg3 hg2
  refine (igood_c a0 a1 a2 a3 a4 a5 a6 a7 W1).mono ?_
  rintro e w2 ⟨rfl, hb2⟩
  have BA2 := Aside0.mk (blk_below BA1.out hb2)
  have BB2 := Aside0.mk (blk_below BB1.out hb2)
  have BZ2 := Aside0.mk (blk_below BZ1.out hb2)
  have HB2 := Aside0.mk (below_step HB1.out hb2)
  clear hb2 BA1 BB1 BZ1 HB1
  rw [HGD.out.1]
  obtain ⟨q0_0, q0_1, q0_2, q0_3, q0_4, q0_5, q0_6, q0_7⟩ := bx8 BB2.out
  go_wp2_with (fail)
  clear q0_0 q0_1 q0_2 q0_3 q0_4 q0_5 q0_6 q0_7 
  refine (igood_c b0 b1 b2 b3 b4 b5 b6 b7 _).mono ?_
  rintro e w3 ⟨rfl, hb3⟩
  have BA3 := Aside0.mk (blk_below BA2.out hb3)
  have BB3 := Aside0.mk (blk_below BB2.out hb3)
  have BZ3 := Aside0.mk (blk_below BZ2.out hb3)
  have HB3 := Aside0.mk (below_step HB2.out hb3)
  clear hb3 BA2 BB2 BZ2 HB2
  rw [HGD.out.2]
  obtain ⟨q0_0, q0_1, q0_2, q0_3, q0_4, q0_5, q0_6, q0_7⟩ := bx8 BA3.out
  go_wp2_with (fail)
  clear q0_0 q0_1 q0_2 q0_3 q0_4 q0_5 q0_6 q0_7 
  refine (block_c a0 a1 a2 a3 a4 a5 a6 a7 _).mono ?_
  rintro e w4 ⟨rfl, hb4⟩
  have BA4 := Aside0.mk (blk_below BA3.out hb4)
  have BB4 := Aside0.mk (blk_below BB3.out hb4)
  have BZ4 := Aside0.mk (blk_below BZ3.out hb4)
  have HB4 := Aside0.mk (below_step HB3.out hb4)
  clear hb4 BA3 BB3 BZ3 HB3
  obtain ⟨x0, hx0⟩ : ∃ x, x = mn a0 a4 := ⟨_, rfl⟩
  obtain ⟨x1, hx1⟩ : ∃ x, x = mn a1 a5 := ⟨_, rfl⟩
  obtain ⟨x2, hx2⟩ : ∃ x, x = mx a0 a4 := ⟨_, rfl⟩
  obtain ⟨x3, hx3⟩ : ∃ x, x = mx a1 a5 := ⟨_, rfl⟩
  rw [← hx0, ← hx1, ← hx2, ← hx3]
  have HX := Aside0.mk (And.intro hx0 (And.intro hx1 (And.intro hx2 hx3)))
  clear hx0 hx1 hx2 hx3
  obtain ⟨q0_0, q0_1, q0_2, q0_3, q0_4, q0_5, q0_6, q0_7⟩ := bx8 (blk_alloc BB4.out (.cells #[.int .i64 x0, .int .i64 x1, .int .i64 x2, .int .i64 x3] 101 (0, 0)))
  go_wp2_with (fail)
  clear q0_0 q0_1 q0_2 q0_3 q0_4 q0_5 q0_6 q0_7 
  have BXz := Aside0.mk (blk_new w4 (.cells #[.int .i64 x0, .int .i64 x1, .int .i64 x2, .int .i64 x3] 101 (0, 0)))
  obtain ⟨gx, hgx⟩ : ∃ g, g = w4.heap.size := ⟨_, rfl⟩
  rw [← hgx] at BXz ⊢
  clear hgx
  refine (block_c b0 b1 b2 b3 b4 b5 b6 b7 _).mono ?_
  rintro e w5 ⟨rfl, hb5⟩
  have BA5 := Aside0.mk (blk_below (blk_alloc BA4.out (.cells #[.int .i64 x0, .int .i64 x1, .int .i64 x2, .int .i64 x3] 101 (0, 0))) hb5)
  have BB5 := Aside0.mk (blk_below (blk_alloc BB4.out (.cells #[.int .i64 x0, .int .i64 x1, .int .i64 x2, .int .i64 x3] 101 (0, 0))) hb5)
  have BZ5 := Aside0.mk (blk_below (blk_alloc BZ4.out (.cells #[.int .i64 x0, .int .i64 x1, .int .i64 x2, .int .i64 x3] 101 (0, 0))) hb5)
  have HB5 := Aside0.mk (below_step (below_alloc HB4.out (.cells #[.int .i64 x0, .int .i64 x1, .int .i64 x2, .int .i64 x3] 101 (0, 0))) hb5)
  have BX5 := Aside0.mk (blk_below BXz.out hb5)
  clear BXz
  clear hb5 BA4 BB4 BZ4 HB4
  obtain ⟨y0, hy0⟩ : ∃ x, x = mn b0 b4 := ⟨_, rfl⟩
  obtain ⟨y1, hy1⟩ : ∃ x, x = mn b1 b5 := ⟨_, rfl⟩
  obtain ⟨y2, hy2⟩ : ∃ x, x = mx b0 b4 := ⟨_, rfl⟩
  obtain ⟨y3, hy3⟩ : ∃ x, x = mx b1 b5 := ⟨_, rfl⟩
  rw [← hy0, ← hy1, ← hy2, ← hy3]
  have HY := Aside0.mk (And.intro hy0 (And.intro hy1 (And.intro hy2 hy3)))
  clear hy0 hy1 hy2 hy3
  obtain ⟨r0, hr0⟩ : ∃ x, (if y0 < x0 then y0 else x0) = x := ⟨_, rfl⟩
  obtain ⟨r1, hr1⟩ : ∃ x, (if y1 < x1 then y1 else x1) = x := ⟨_, rfl⟩
  obtain ⟨r2, hr2⟩ : ∃ x, (if x2 < y2 then y2 else x2) = x := ⟨_, rfl⟩
  obtain ⟨r3, hr3⟩ : ∃ x, (if x3 < y3 then y3 else x3) = x := ⟨_, rfl⟩
  obtain ⟨q0_0, q0_1, q0_2, q0_3⟩ := bx4 (blk_alloc BX5.out (.cells #[.int .i64 y0, .int .i64 y1, .int .i64 y2, .int .i64 y3] 101 (0, 0)))
  go_wp2_with (fail)
  clear q0_0 q0_1 q0_2 q0_3 
  have HR := Aside0.mk (And.intro hr0 (And.intro hr1 (And.intro hr2 hr3)))
  clear hr0 hr1 hr2 hr3
  refine (blockOf_c r0 r1 r2 r3 _).mono ?_
  rintro e w6 ⟨rfl, hb6⟩
  have BA6 := Aside0.mk (blk_below (blk_alloc BA5.out (.cells #[.int .i64 y0, .int .i64 y1, .int .i64 y2, .int .i64 y3] 101 (0, 0))) hb6)
  have BB6 := Aside0.mk (blk_below (blk_alloc BB5.out (.cells #[.int .i64 y0, .int .i64 y1, .int .i64 y2, .int .i64 y3] 101 (0, 0))) hb6)
  have BZ6 := Aside0.mk (blk_below (blk_alloc BZ5.out (.cells #[.int .i64 y0, .int .i64 y1, .int .i64 y2, .int .i64 y3] 101 (0, 0))) hb6)
  have BX6 := Aside0.mk (blk_below (blk_alloc BX5.out (.cells #[.int .i64 y0, .int .i64 y1, .int .i64 y2, .int .i64 y3] 101 (0, 0))) hb6)
  have HB6 := Aside0.mk (below_step (below_alloc HB5.out (.cells #[.int .i64 y0, .int .i64 y1, .int .i64 y2, .int .i64 y3] 101 (0, 0))) hb6)
  clear hb6 BA5 BB5 BZ5 BX5 HB5
  obtain ⟨okk, hokk⟩ : ∃ b, b = mtB r0 r1 r2 r3 := ⟨_, rfl⟩
  rw [← hokk]
  clear hokk
  go_wp2_with (fail)
  refine (area_c r0 r1 r2 r3 _).mono ?_
  rintro e w7 ⟨rfl, hb7⟩
  have BA7 := Aside0.mk (blk_below (blk_alloc BA6.out (.cells #[.int .i64 r0, .int .i64 r1, .int .i64 r2, .int .i64 r3] 101 (0, 0))) hb7)
  have BB7 := Aside0.mk (blk_below (blk_alloc BB6.out (.cells #[.int .i64 r0, .int .i64 r1, .int .i64 r2, .int .i64 r3] 101 (0, 0))) hb7)
  have BZ7 := Aside0.mk (blk_below (blk_alloc BZ6.out (.cells #[.int .i64 r0, .int .i64 r1, .int .i64 r2, .int .i64 r3] 101 (0, 0))) hb7)
  have BX7 := Aside0.mk (blk_below (blk_alloc BX6.out (.cells #[.int .i64 r0, .int .i64 r1, .int .i64 r2, .int .i64 r3] 101 (0, 0))) hb7)
  have HB7 := Aside0.mk (below_step (below_alloc HB6.out (.cells #[.int .i64 r0, .int .i64 r1, .int .i64 r2, .int .i64 r3] 101 (0, 0))) hb7)
  clear hb7 BA6 BB6 BZ6 BX6 HB6
  obtain ⟨q0_0, q0_1, q0_2, q0_3, q0_4, q0_5, q0_6, q0_7⟩ := bx8 BZ7.out
  obtain ⟨f0, f1, f2, f3, f4, f5, f6, f7⟩ := frozen8 BZ7.out
  go_wp2
  refine bodyPost_ret (results_cell_row rfl _ _ g4 40 #[.int .i64 r0, .int .i64 r1, .bool false, .bool false, .int .i64 r2, .int .i64 r3, .bool false, .bool false] (0, 0) _ rfl (put8 BZ7.out _ _ _ _ _ _ _ _) Try.underlying40 rfl (by kernel_rfl)) rfl ?_
  obtain ⟨e0, e1, e2, e3⟩ := HX.out
  obtain ⟨k0, k1, k2, k3⟩ := HY.out
  obtain ⟨h0, h1, h2, h3⟩ := HR.out
  exact ⟨by rw [← e0, ← e1, ← e2, ← e3, ← k0, ← k1, ← k2, ← k3, ← h0, ← h1, ← h2, ← h3]; rfl, below8 HB7.out HG.out.2.2.1 _ _ _ _ _ _ _ _⟩
set_option maxRecDepth 100000 in
set_option maxHeartbeats 3200000 in
theorem shull_in (a0 a1 : Int) (a2 a3 : Bool) (a4 a5 : Int) (a6 a7 : Bool) (b0 b1 : Int) (b2 b3 : Bool) (b4 b5 : Int) (b6 b7 : Bool) (w : World) (hg : goodA a0 a1 a4 a5 = true ∧ goodA b0 b1 b4 b5 = true) :
    Calls Try.prog 31 #[.agg #[.int .i64 a0, .int .i64 a1, .bool a2, .bool a3, .int .i64 a4, .int .i64 a5, .bool a6, .bool a7], .agg #[.int .i64 b0, .int .i64 b1, .bool b2, .bool b3, .int .i64 b4, .int .i64 b5, .bool b6, .bool b7]] w fun e w' => e = .returned (.agg #[.int .i64 (mn (mn a0 a4) (mn b0 b4)), .int .i64 (mn (mn a1 a5) (mn b1 b5)), .bool false, .bool false, .int .i64 (mx (mx a0 a4) (mx b0 b4)), .int .i64 (mx (mx a1 a5) (mx b1 b5)), .bool false, .bool false]) ∧ Below w.heap.size w w' := by
  have HGD := Aside0.mk hg
  obtain ⟨n2, n3, n6, n7, hn⟩ := snormal_eq a0 a1 a2 a3 a4 a5 a6 a7
  obtain ⟨p2, p3, p6, p7, hp⟩ := snormal_eq b0 b1 b2 b3 b4 b5 b6 b7
  have HN := Aside0.mk hn
  have HP := Aside0.mk hp
  clear hn hp
  have hu40 := Try.underlying40
  have hu101 := Try.underlying101
  go_enter Try.func31, Try.ntmps31
  go_wp2_with (fail)
  obtain ⟨hA, hB, hZ, hBel, hsz⟩ := boxes3 w #[.int .i64 a0, .int .i64 a1, .bool a2, .bool a3, .int .i64 a4, .int .i64 a5, .bool a6, .bool a7] #[.int .i64 b0, .int .i64 b1, .bool b2, .bool b3, .int .i64 b4, .int .i64 b5, .bool b6, .bool b7] #[.int .i64 0, .int .i64 0, .bool false, .bool false, .int .i64 0, .int .i64 0, .bool false, .bool false] 40
  obtain ⟨W1, hW1⟩ : ∃ W1, W1 = ((w.alloc (.cells #[.int .i64 a0, .int .i64 a1, .bool a2, .bool a3, .int .i64 a4, .int .i64 a5, .bool a6, .bool a7] 40 (0, 0))).alloc (.cells #[.int .i64 b0, .int .i64 b1, .bool b2, .bool b3, .int .i64 b4, .int .i64 b5, .bool b6, .bool b7] 40 (0, 0))).alloc (.cells #[.int .i64 0, .int .i64 0, .bool false, .bool false, .int .i64 0, .int .i64 0, .bool false, .bool false] 40 (0, 0)) := ⟨_, rfl⟩
  rw [← hW1] at hA hB hZ hBel hsz ⊢
  clear hW1
  obtain ⟨g4, hg4⟩ : ∃ g, g = w.heap.size + 1 + 1 := ⟨_, rfl⟩
  obtain ⟨g3, hg3⟩ : ∃ g, g = w.heap.size + 1 := ⟨_, rfl⟩
  obtain ⟨g2, hg2⟩ : ∃ g, g = w.heap.size := ⟨_, rfl⟩
  have HG := Aside0.mk (show w.heap.size ≤ g2 ∧ w.heap.size ≤ g3 ∧ w.heap.size ≤ g4 ∧ g2 ≠ g3 ∧ g2 ≠ g4 ∧ g3 ≠ g4 by omega)
  rw [show w.heap.size + 2 = g4 by omega] at hZ
  rw [show w.heap.size + 1 = g3 by omega] at hB
  have hA' : W1.heap[g2]? = some (.cells #[.int .i64 a0, .int .i64 a1, .bool a2, .bool a3, .int .i64 a4, .int .i64 a5, .bool a6, .bool a7] 40 (0, 0)) := by rw [hg2]; exact hA
  simp only [← hg4]
  simp only [← hg3]
  simp only [← hg2]
  have BA1 := Aside0.mk hA'
  have BB1 := Aside0.mk hB
  have BZ1 := Aside0.mk hZ
  have HB1 := Aside0.mk hBel
  clear hA hA' hB hZ hBel hsz hg4 hg3 hg2
  refine (sgood_c a0 a1 a2 a3 a4 a5 a6 a7 W1).mono ?_
  rintro e w2 ⟨rfl, hb2⟩
  have BA2 := Aside0.mk (blk_below BA1.out hb2)
  have BB2 := Aside0.mk (blk_below BB1.out hb2)
  have BZ2 := Aside0.mk (blk_below BZ1.out hb2)
  have HB2 := Aside0.mk (below_step HB1.out hb2)
  clear hb2 BA1 BB1 BZ1 HB1
  rw [HGD.out.1]
  obtain ⟨q0_0, q0_1, q0_2, q0_3, q0_4, q0_5, q0_6, q0_7⟩ := bx8 BB2.out
  go_wp2_with (fail)
  clear q0_0 q0_1 q0_2 q0_3 q0_4 q0_5 q0_6 q0_7 
  refine (sgood_c b0 b1 b2 b3 b4 b5 b6 b7 _).mono ?_
  rintro e w3 ⟨rfl, hb3⟩
  have BA3 := Aside0.mk (blk_below BA2.out hb3)
  have BB3 := Aside0.mk (blk_below BB2.out hb3)
  have BZ3 := Aside0.mk (blk_below BZ2.out hb3)
  have HB3 := Aside0.mk (below_step HB2.out hb3)
  clear hb3 BA2 BB2 BZ2 HB2
  rw [HGD.out.2]
  obtain ⟨q0_0, q0_1, q0_2, q0_3, q0_4, q0_5, q0_6, q0_7⟩ := bx8 BA3.out
  go_wp2_with (fail)
  clear q0_0 q0_1 q0_2 q0_3 q0_4 q0_5 q0_6 q0_7 
  refine (snormal_c a0 a1 a2 a3 a4 a5 a6 a7 n2 n3 n6 n7 _ HN.out).mono ?_
  rintro e w4 ⟨rfl, hb4⟩
  have BA4 := Aside0.mk (blk_below BA3.out hb4)
  have BB4 := Aside0.mk (blk_below BB3.out hb4)
  have BZ4 := Aside0.mk (blk_below BZ3.out hb4)
  have HB4 := Aside0.mk (below_step HB3.out hb4)
  clear hb4 BA3 BB3 BZ3 HB3
  obtain ⟨x0, hx0⟩ : ∃ x, x = mn a0 a4 := ⟨_, rfl⟩
  obtain ⟨x1, hx1⟩ : ∃ x, x = mn a1 a5 := ⟨_, rfl⟩
  obtain ⟨x2, hx2⟩ : ∃ x, x = mx a0 a4 := ⟨_, rfl⟩
  obtain ⟨x3, hx3⟩ : ∃ x, x = mx a1 a5 := ⟨_, rfl⟩
  rw [← hx0, ← hx1, ← hx2, ← hx3]
  have HX := Aside0.mk (And.intro hx0 (And.intro hx1 (And.intro hx2 hx3)))
  clear hx0 hx1 hx2 hx3
  have BAz := Aside0.mk (put8 BA4.out (.int .i64 x0) (.int .i64 x1) (.bool n2) (.bool n3) (.int .i64 x2) (.int .i64 x3) (.bool n6) (.bool n7))
  have hBB := set8_far BB4.out HG.out.2.2.2.1.symm (.int .i64 x0) (.int .i64 x1) (.bool n2) (.bool n3) (.int .i64 x2) (.int .i64 x3) (.bool n6) (.bool n7)
  unfold set8 at hBB
  have BBz := Aside0.mk hBB
  clear hBB
  have hBZ := set8_far BZ4.out HG.out.2.2.2.2.1.symm (.int .i64 x0) (.int .i64 x1) (.bool n2) (.bool n3) (.int .i64 x2) (.int .i64 x3) (.bool n6) (.bool n7)
  unfold set8 at hBZ
  have BZz := Aside0.mk hBZ
  clear hBZ
  obtain ⟨q0, q1, q2, q3, q4, q5, q6, q7⟩ := bx8 BA4.out
  obtain ⟨s0_0, s0_1, s0_2, s0_3, s0_4, s0_5, s0_6, s0_7⟩ := bx8 BBz.out
  obtain ⟨s1_0, s1_1, s1_2, s1_3, s1_4, s1_5, s1_6, s1_7⟩ := bx8 BZz.out
  obtain ⟨t0, t1, t2, t3, t4, t5, t6, t7⟩ := bx8 BAz.out
  obtain ⟨f0, f1, f2, f3, f4, f5, f6, f7⟩ := frozen8 BA4.out
  have hne0 := HG.out.2.2.2.1
  have hne1 := HG.out.2.2.2.2.1
  go_wp2_with (fail)
  clear q0 q1 q2 q3 q4 q5 q6 q7 s0_0 s0_1 s0_2 s0_3 s0_4 s0_5 s0_6 s0_7 s1_0 s1_1 s1_2 s1_3 s1_4 s1_5 s1_6 s1_7 t0 t1 t2 t3 t4 t5 t6 t7 f0 f1 f2 f3 f4 f5 f6 f7 hne0 hne1
  have HBz := Aside0.mk (below8 HB4.out HG.out.1 (.int .i64 x0) (.int .i64 x1) (.bool n2) (.bool n3) (.int .i64 x2) (.int .i64 x3) (.bool n6) (.bool n7))
  obtain ⟨w5, hw5⟩ : ∃ W, W = ((((((((w4.setCell ⟨g2, 0, none⟩ (.int .i64 x0)).setCell ⟨g2, 1, none⟩ (.int .i64 x1)).setCell ⟨g2, 2, none⟩ (.bool n2)).setCell ⟨g2, 3, none⟩ (.bool n3)).setCell ⟨g2, 4, none⟩ (.int .i64 x2)).setCell ⟨g2, 5, none⟩ (.int .i64 x3)).setCell ⟨g2, 6, none⟩ (.bool n6)).setCell ⟨g2, 7, none⟩ (.bool n7)) := ⟨_, rfl⟩
  rw [← hw5] at HBz BAz BBz BZz ⊢
  clear hw5
  have BA5 := BAz
  have BB5 := BBz
  have BZ5 := BZz
  have HB5 := HBz
  clear HBz BAz BBz BZz HB4 BA4 BB4 BZ4
  refine (snormal_c b0 b1 b2 b3 b4 b5 b6 b7 p2 p3 p6 p7 _ HP.out).mono ?_
  rintro e w6 ⟨rfl, hb6⟩
  have BA6 := Aside0.mk (blk_below BA5.out hb6)
  have BB6 := Aside0.mk (blk_below BB5.out hb6)
  have BZ6 := Aside0.mk (blk_below BZ5.out hb6)
  have HB6 := Aside0.mk (below_step HB5.out hb6)
  clear hb6 BA5 BB5 BZ5 HB5
  obtain ⟨y0, hy0⟩ : ∃ x, x = mn b0 b4 := ⟨_, rfl⟩
  obtain ⟨y1, hy1⟩ : ∃ x, x = mn b1 b5 := ⟨_, rfl⟩
  obtain ⟨y2, hy2⟩ : ∃ x, x = mx b0 b4 := ⟨_, rfl⟩
  obtain ⟨y3, hy3⟩ : ∃ x, x = mx b1 b5 := ⟨_, rfl⟩
  rw [← hy0, ← hy1, ← hy2, ← hy3]
  have HY := Aside0.mk (And.intro hy0 (And.intro hy1 (And.intro hy2 hy3)))
  clear hy0 hy1 hy2 hy3
  have BBz := Aside0.mk (put8 BB6.out (.int .i64 y0) (.int .i64 y1) (.bool p2) (.bool p3) (.int .i64 y2) (.int .i64 y3) (.bool p6) (.bool p7))
  have hBA := set8_far BA6.out HG.out.2.2.2.1 (.int .i64 y0) (.int .i64 y1) (.bool p2) (.bool p3) (.int .i64 y2) (.int .i64 y3) (.bool p6) (.bool p7)
  unfold set8 at hBA
  have BAz := Aside0.mk hBA
  clear hBA
  have hBZ := set8_far BZ6.out HG.out.2.2.2.2.2.symm (.int .i64 y0) (.int .i64 y1) (.bool p2) (.bool p3) (.int .i64 y2) (.int .i64 y3) (.bool p6) (.bool p7)
  unfold set8 at hBZ
  have BZz := Aside0.mk hBZ
  clear hBZ
  obtain ⟨q0, q1, q2, q3, q4, q5, q6, q7⟩ := bx8 BB6.out
  obtain ⟨s0_0, s0_1, s0_2, s0_3, s0_4, s0_5, s0_6, s0_7⟩ := bx8 BAz.out
  obtain ⟨s1_0, s1_1, s1_2, s1_3, s1_4, s1_5, s1_6, s1_7⟩ := bx8 BZz.out
  obtain ⟨t0, t1, t2, t3, t4, t5, t6, t7⟩ := bx8 BBz.out
  obtain ⟨f0, f1, f2, f3, f4, f5, f6, f7⟩ := frozen8 BB6.out
  have hne0 := HG.out.2.2.2.1
  have hne1 := HG.out.2.2.2.2.2
  go_upto_region 5 with (fail)
  clear q0 q1 q2 q3 q4 q5 q6 q7 s0_0 s0_1 s0_2 s0_3 s0_4 s0_5 s0_6 s0_7 s1_0 s1_1 s1_2 s1_3 s1_4 s1_5 s1_6 s1_7 t0 t1 t2 t3 t4 t5 t6 t7 f0 f1 f2 f3 f4 f5 f6 f7 hne0 hne1
  have HBz := Aside0.mk (below8 HB6.out HG.out.2.1 (.int .i64 y0) (.int .i64 y1) (.bool p2) (.bool p3) (.int .i64 y2) (.int .i64 y3) (.bool p6) (.bool p7))
  obtain ⟨w7, hw7⟩ : ∃ W, W = ((((((((w6.setCell ⟨g3, 0, none⟩ (.int .i64 y0)).setCell ⟨g3, 1, none⟩ (.int .i64 y1)).setCell ⟨g3, 2, none⟩ (.bool p2)).setCell ⟨g3, 3, none⟩ (.bool p3)).setCell ⟨g3, 4, none⟩ (.int .i64 y2)).setCell ⟨g3, 5, none⟩ (.int .i64 y3)).setCell ⟨g3, 6, none⟩ (.bool p6)).setCell ⟨g3, 7, none⟩ (.bool p7)) := ⟨_, rfl⟩
  rw [← hw7] at HBz BAz BBz BZz ⊢
  clear hw7
  have BA7 := BAz
  have BB7 := BBz
  have BZ7 := BZz
  have HB7 := HBz
  clear HBz BAz BBz BZz HB6 BA6 BB6 BZ6
  obtain ⟨q0_0, q0_1, q0_2, q0_3, q0_4, q0_5, q0_6, q0_7⟩ := bx8 BA7.out
  obtain ⟨q1_0, q1_1, q1_2, q1_3, q1_4, q1_5, q1_6, q1_7⟩ := bx8 BB7.out
  obtain ⟨q2_0, q2_1, q2_2, q2_3, q2_4, q2_5, q2_6, q2_7⟩ := bx8 BZ7.out
  obtain ⟨f0, f1, f2, f3, f4, f5, f6, f7⟩ := frozen8 BZ7.out
  have hna : g4 ≠ g2 := HG.out.2.2.2.2.1.symm
  have hnb : g4 ≠ g3 := HG.out.2.2.2.2.2.symm
  go_region_held3 (fun W => W.cell? ⟨g2, 0, none⟩ = some (.int .i64 x0) ∧ W.cell? ⟨g2, 1, none⟩ = some (.int .i64 x1) ∧ W.cell? ⟨g2, 4, none⟩ = some (.int .i64 x2) ∧ W.cell? ⟨g2, 5, none⟩ = some (.int .i64 x3) ∧ W.cell? ⟨g3, 0, none⟩ = some (.int .i64 y0) ∧ W.cell? ⟨g3, 1, none⟩ = some (.int .i64 y1) ∧ W.cell? ⟨g3, 4, none⟩ = some (.int .i64 y2) ∧ W.cell? ⟨g3, 5, none⟩ = some (.int .i64 y3))
    ((go_split_ands; (try simp only [World.cell?_drewN, World.cell?_drew]); refine ⟨?_, ?_, ?_, ?_, ?_, ?_, ?_, ?_⟩ <;> (first | (with_reducible assumption) | (with_reducible refine far8 ?_ ?_ _ _ _ _ _ _ _ _ <;> with_reducible assumption) | ((with_reducible refine pw_cell_below hb20 ?_); (try simp only [World.cell?_drewN, World.cell?_drew]); with_reducible assumption))))
    (first
      | (go_at_call 79; refine (smax_c _ _ _).mono ?_; rintro e w' ⟨rfl, ⟨nd, rfl⟩⟩)
      | (go_at_call 80; refine (smin_c _ _ _).mono ?_; rintro e w' ⟨rfl, ⟨nd, rfl⟩⟩)
      | (go_at_call 77; refine (sarea_c _ _ _ _ _).mono ?_; rintro e w20 ⟨rfl, hb20⟩; have BZ20 := Aside0.mk (show w20.heap[g4]? = some (.cells #[.int .i64 0, .int .i64 0, .bool false, .bool false, .int .i64 0, .int .i64 0, .bool false, .bool false] 40 (0, 0)) from blk_below (show (World.drewN w7 _).heap[g4]? = some (.cells #[.int .i64 0, .int .i64 0, .bool false, .bool false, .int .i64 0, .int .i64 0, .bool false, .bool false] 40 (0, 0)) from BZ7.out) hb20); obtain ⟨z0, z1, z2, z3, z4, z5, z6, z7⟩ := bx8 BZ20.out; obtain ⟨y20, y21, y22, y23, y24, y25, y26, y27⟩ := frozen8 BZ20.out; have HB20 := Aside0.mk (below_step (pw_below_drewN HB7.out _) hb20)))
  go_wp2
  refine bodyPost_ret (results_cell_row rfl _ _ g4 40 #[.int .i64 (mn x0 y0), .int .i64 (mn x1 y1), .bool false, .bool false, .int .i64 (mx x2 y2), .int .i64 (mx x3 y3), .bool false, .bool false] (0, 0) _ rfl (put8 BZ20.out _ _ _ _ _ _ _ _) Try.underlying40 rfl (by kernel_rfl)) rfl ?_
  obtain ⟨e0, e1, e2, e3⟩ := HX.out
  obtain ⟨k0, k1, k2, k3⟩ := HY.out
  exact ⟨by rw [← e0, ← e1, ← e2, ← e3, ← k0, ← k1, ← k2, ← k3], below8 HB20.out HG.out.2.2.1 _ _ _ _ _ _ _ _⟩
theorem mul_small {a b : Int} (h1 : -1000 ≤ a) (h2 : a ≤ 1000) (h3 : -1000 ≤ b) (h4 : b ≤ 1000) : -1000000 ≤ a * b ∧ a * b ≤ 1000000 := by
  have e1 : 0 ≤ (1000 - a) * (1000 + b) := Int.mul_nonneg (by omega) (by omega)
  have e2 : 0 ≤ (1000 + a) * (1000 - b) := Int.mul_nonneg (by omega) (by omega)
  have e3 : 0 ≤ (1000 - a) * (1000 - b) := Int.mul_nonneg (by omega) (by omega)
  have e4 : 0 ≤ (1000 + a) * (1000 + b) := Int.mul_nonneg (by omega) (by omega)
  simp only [Int.sub_mul, Int.add_mul, Int.mul_sub, Int.mul_add] at e1 e2 e3 e4
  constructor <;> omega
def cellsOf (x0 x1 x2 x3 : Int) : Int := (x2 - x0 + 1) * (x3 - x1 + 1)
set_option maxRecDepth 100000 in
set_option maxHeartbeats 3200000 in
theorem cellsIn_c (a0 a1 : Int) (a2 a3 : Bool) (a4 a5 : Int) (a6 a7 : Bool) (w : World) (hg : goodA a0 a1 a4 a5 = true) :
    Calls Try.prog 29 #[.agg #[.int .i64 a0, .int .i64 a1, .bool a2, .bool a3, .int .i64 a4, .int .i64 a5, .bool a6, .bool a7]] w fun e w' => e = .returned (.int .i64 (cellsOf (mn a0 a4) (mn a1 a5) (mx a0 a4) (mx a1 a5))) ∧ Below w.heap.size w w' := by
  have HBD := Aside0.mk (goodA_bds hg)
  obtain ⟨n2, n3, n6, n7, hn⟩ := snormal_eq a0 a1 a2 a3 a4 a5 a6 a7
  have HN := Aside0.mk hn
  clear hn
  have hu40 := Try.underlying40
  go_enter Try.func29, Try.ntmps29
  go_wp2_with (fail)
  have hA := blk_new w (.cells #[.int .i64 a0, .int .i64 a1, .bool a2, .bool a3, .int .i64 a4, .int .i64 a5, .bool a6, .bool a7] 40 (0, 0))
  have hBel := below_alloc (Below.refl w.heap.size w) (.cells #[.int .i64 a0, .int .i64 a1, .bool a2, .bool a3, .int .i64 a4, .int .i64 a5, .bool a6, .bool a7] 40 (0, 0))
  obtain ⟨W1, hW1⟩ : ∃ W1, W1 = w.alloc (.cells #[.int .i64 a0, .int .i64 a1, .bool a2, .bool a3, .int .i64 a4, .int .i64 a5, .bool a6, .bool a7] 40 (0, 0)) := ⟨_, rfl⟩
  rw [← hW1] at hA hBel ⊢
  clear hW1
  obtain ⟨g2, hg2⟩ : ∃ g, g = w.heap.size := ⟨_, rfl⟩
  have hA' : W1.heap[g2]? = some (.cells #[.int .i64 a0, .int .i64 a1, .bool a2, .bool a3, .int .i64 a4, .int .i64 a5, .bool a6, .bool a7] 40 (0, 0)) := by rw [hg2]; exact hA
  have HG0 := Aside0.mk (show w.heap.size ≤ g2 by omega)
  simp only [← hg2]
  have BA1 := Aside0.mk hA'
  have HB1 := Aside0.mk hBel
  clear hA hA' hBel hg2
  refine (snormal_c a0 a1 a2 a3 a4 a5 a6 a7 n2 n3 n6 n7 _ HN.out).mono ?_
  rintro e w2 ⟨rfl, hb2⟩
  have BA2 := Aside0.mk (blk_below BA1.out hb2)
  have HB2 := Aside0.mk (below_step HB1.out hb2)
  clear hb2 BA1 HB1
  obtain ⟨x0, hx0⟩ : ∃ x, x = mn a0 a4 := ⟨_, rfl⟩
  obtain ⟨x1, hx1⟩ : ∃ x, x = mn a1 a5 := ⟨_, rfl⟩
  obtain ⟨x2, hx2⟩ : ∃ x, x = mx a0 a4 := ⟨_, rfl⟩
  obtain ⟨x3, hx3⟩ : ∃ x, x = mx a1 a5 := ⟨_, rfl⟩
  rw [← hx0, ← hx1, ← hx2, ← hx3]
  have HX := Aside0.mk (And.intro hx0 (And.intro hx1 (And.intro hx2 hx3)))
  clear hx0 hx1 hx2 hx3
  have BAz := Aside0.mk (put8 BA2.out (.int .i64 x0) (.int .i64 x1) (.bool n2) (.bool n3) (.int .i64 x2) (.int .i64 x3) (.bool n6) (.bool n7))
  obtain ⟨q0, q1, q2, q3, q4, q5, q6, q7⟩ := bx8 BA2.out
  obtain ⟨f0, f1, f2, f3, f4, f5, f6, f7⟩ := frozen8 BA2.out
  obtain ⟨t0, t1, t2, t3, t4, t5, t6, t7⟩ := bx8 BAz.out
  have bd := HBD.out
  rw [← HX.out.1, ← HX.out.2.1, ← HX.out.2.2.1, ← HX.out.2.2.2] at bd
  obtain ⟨⟨u0, u1⟩, ⟨u2, u3⟩, ⟨u4, u5⟩, ⟨u6, u7⟩⟩ := bd
  have hw : IntKind.i64.wrap ((x2 - x0 + 1) * (x3 - x1 + 1)) = (x2 - x0 + 1) * (x3 - x1 + 1) := by
    rw [IntKind.wrap_i64]
    have h1 : -1000 ≤ x2 - x0 + 1 ∧ x2 - x0 + 1 ≤ 1000 := by omega
    have h2 : -1000 ≤ x3 - x1 + 1 ∧ x3 - x1 + 1 ≤ 1000 := by omega
    have := mul_small h1.1 h1.2 h2.1 h2.2
    generalize (x2 - x0 + 1) * (x3 - x1 + 1) = z at *
    omega
  go_wp2
  go_ret
  obtain ⟨e0, e1, e2, e3⟩ := HX.out
  exact ⟨by rw [← e0, ← e1, ← e2, ← e3]; first | rfl | (rw [hw2]), below8 HB2.out HG0.out _ _ _ _ _ _ _ _⟩
end Go.Proofs.Ytppenjoobcppjaa.PAr
