/- Where two areas meet, as the program has it: the walk. -/
import Derived.Test.YtppenjoobcppjaaPArx1
import Derived.Test.YtppenjoobcppjaaPArx2
import Derived.WalkSpells
import Derived.Outline
namespace Go.Proofs.Ytppenjoobcppjaa.PAr
open Go.RowKit Go.Proofs.YtppenjoobcppjaaW.PrintWords Go.Proofs.YtppenjoobcppjaaW.PrintLast Go.Proofs.YtppenjoobcppjaaW.PrintMore
attribute [local go_sem] max2_int min2_int max_two min_two max_three min_three max_four min_four
set_option linter.unusedVariables false
set_option linter.unusedSimpArgs false

def goodA (a0 a1 a4 a5 : Int) : Bool := decide (1 ≤ a0 ∧ a0 ≤ 1000 ∧ 1 ≤ a1 ∧ a1 ≤ 200 ∧ 1 ≤ a4 ∧ a4 ≤ 1000 ∧ 1 ≤ a5 ∧ a5 ≤ 200)
theorem iplace_eq (a0 a1 : Int) : impl_place_good.f a0 a1 = some (decide (1 ≤ a0 ∧ a0 ≤ 1000 ∧ 1 ≤ a1 ∧ a1 ≤ 200)) := by
  unfold impl_place_good.f
  repeat' split
  all_goals (congr 1; rw [eq_comm]; first | (rw [decide_eq_decide]; omega) | (rw [decide_eq_false_iff_not]; omega))
theorem iref_eq (a0 a1 : Int) (a2 a3 : Bool) : impl_GoodRef.f a0 a1 a2 a3 = some (decide (1 ≤ a0 ∧ a0 ≤ 1000 ∧ 1 ≤ a1 ∧ a1 ≤ 200)) := by
  unfold impl_GoodRef.f impl_Ref_place.f
  simp only [Option.bind_some, iplace_eq]
theorem sref_eq (a0 a1 : Int) (a2 a3 : Bool) : spec_GoodRef.f a0 a1 a2 a3 = some (decide (1 ≤ a0 ∧ a0 ≤ 1000 ∧ 1 ≤ a1 ∧ a1 ≤ 200)) := by
  unfold spec_GoodRef.f
  repeat' split
  all_goals (congr 1; rw [eq_comm]; first | (rw [decide_eq_decide]; omega) | (rw [decide_eq_false_iff_not]; omega))
theorem igood_eq (a0 a1 : Int) (a2 a3 : Bool) (a4 a5 : Int) (a6 a7 : Bool) : impl_GoodArea.f a0 a1 a2 a3 a4 a5 a6 a7 = some (goodA a0 a1 a4 a5) := by
  unfold impl_GoodArea.f goodA
  simp only [iref_eq, Option.bind_some]
  split
  · rename_i h
    rw [decide_eq_true_eq] at h
    congr 1
    rw [decide_eq_decide]
    omega
  · rename_i h
    rw [decide_eq_true_eq] at h
    congr 1
    rw [eq_comm, decide_eq_false_iff_not]
    omega
theorem sgood_eq (a0 a1 : Int) (a2 a3 : Bool) (a4 a5 : Int) (a6 a7 : Bool) : spec_GoodArea.f a0 a1 a2 a3 a4 a5 a6 a7 = some (goodA a0 a1 a4 a5) := by
  unfold spec_GoodArea.f goodA
  simp only [sref_eq, Option.bind_some]
  split
  · rename_i h
    rw [decide_eq_true_eq] at h
    congr 1
    rw [decide_eq_decide]
    omega
  · rename_i h
    rw [decide_eq_true_eq] at h
    congr 1
    rw [eq_comm, decide_eq_false_iff_not]
    omega
theorem igood_c (a0 a1 : Int) (a2 a3 : Bool) (a4 a5 : Int) (a6 a7 : Bool) (w : World) : Calls Try.prog 71 #[.agg #[.int .i64 a0, .int .i64 a1, .bool a2, .bool a3, .int .i64 a4, .int .i64 a5, .bool a6, .bool a7]] w fun e w' =>
    e = .returned (.bool (goodA a0 a1 a4 a5)) ∧ Below w.heap.size w w' := by
  refine (impl_GoodArea.calls _ _ _ _ _ _ _ _ _ w (igood_eq a0 a1 a2 a3 a4 a5 a6 a7)).mono ?_
  rintro e w' ⟨he, hd⟩
  exact ⟨he, hd⟩
theorem block_c (a0 a1 : Int) (a2 a3 : Bool) (a4 a5 : Int) (a6 a7 : Bool) (w : World) : Calls Try.prog 72 #[.agg #[.int .i64 a0, .int .i64 a1, .bool a2, .bool a3, .int .i64 a4, .int .i64 a5, .bool a6, .bool a7]] w fun e w' =>
    e = .returned (.agg #[.int .i64 (mn a0 a4), .int .i64 (mn a1 a5), .int .i64 (mx a0 a4), .int .i64 (mx a1 a5)]) ∧ Below w.heap.size w w' :=
  impl_Area_block.calls _ _ _ _ _ _ _ _ _ _ _ _ w rfl
theorem blockOf_eq (a b c d : Int) : impl_blockOf.f a b c d = some (a, b, c, d, decide (a ≤ c ∧ b ≤ d)) := by
  unfold impl_blockOf.f
  split
  · congr 5
    rw [decide_eq_decide]
    omega
  · congr 5
    rw [eq_comm, decide_eq_false_iff_not]
    omega
theorem bx8 {W : World} {g t : Nat} {a b c d e f h i : Value} (hb : W.heap[g]? = some (.cells #[a, b, c, d, e, f, h, i] t (0, 0))) :
    W.cell? ⟨g, 0, none⟩ = some a ∧ W.cell? ⟨g, 1, none⟩ = some b ∧ W.cell? ⟨g, 2, none⟩ = some c ∧ W.cell? ⟨g, 3, none⟩ = some d ∧ W.cell? ⟨g, 4, none⟩ = some e ∧ W.cell? ⟨g, 5, none⟩ = some f ∧ W.cell? ⟨g, 6, none⟩ = some h ∧ W.cell? ⟨g, 7, none⟩ = some i :=
  ⟨(blk_cell hb 0).trans rfl, (blk_cell hb 1).trans rfl, (blk_cell hb 2).trans rfl, (blk_cell hb 3).trans rfl, (blk_cell hb 4).trans rfl, (blk_cell hb 5).trans rfl, (blk_cell hb 6).trans rfl, (blk_cell hb 7).trans rfl⟩
theorem bx4 {W : World} {g t : Nat} {a b c d : Value} (hb : W.heap[g]? = some (.cells #[a, b, c, d] t (0, 0))) :
    W.cell? ⟨g, 0, none⟩ = some a ∧ W.cell? ⟨g, 1, none⟩ = some b ∧ W.cell? ⟨g, 2, none⟩ = some c ∧ W.cell? ⟨g, 3, none⟩ = some d :=
  ⟨(blk_cell hb 0).trans rfl, (blk_cell hb 1).trans rfl, (blk_cell hb 2).trans rfl, (blk_cell hb 3).trans rfl⟩

def mtB (r0 r1 r2 r3 : Int) : Bool := decide (r0 ≤ r2 ∧ r1 ≤ r3)
def mtV (r0 r1 r2 r3 : Int) : Value := if mtB r0 r1 r2 r3 = true then .agg #[.int .i64 r0, .int .i64 r1, .bool false, .bool false, .int .i64 r2, .int .i64 r3, .bool false, .bool false] else .agg #[.int .i64 0, .int .i64 0, .bool false, .bool false, .int .i64 0, .int .i64 0, .bool false, .bool false]
theorem mtV_yes {r0 r1 r2 r3 : Int} (h : mtB r0 r1 r2 r3 = true) : mtV r0 r1 r2 r3 = .agg #[.int .i64 r0, .int .i64 r1, .bool false, .bool false, .int .i64 r2, .int .i64 r3, .bool false, .bool false] := by unfold mtV; rw [if_pos h]
theorem mtV_no {r0 r1 r2 r3 : Int} (h : ¬ mtB r0 r1 r2 r3 = true) : mtV r0 r1 r2 r3 = .agg #[.int .i64 0, .int .i64 0, .bool false, .bool false, .int .i64 0, .int .i64 0, .bool false, .bool false] := by unfold mtV; rw [if_neg h]
theorem put8 {W : World} {g t : Nat} {c0 c1 c2 c3 c4 c5 c6 c7 : Value} (h : W.heap[g]? = some (.cells #[c0, c1, c2, c3, c4, c5, c6, c7] t (0, 0))) (v0 v1 v2 v3 v4 v5 v6 v7 : Value) :
    ((((((((W.setCell ⟨g, 0, none⟩ v0).setCell ⟨g, 1, none⟩ v1).setCell ⟨g, 2, none⟩ v2).setCell ⟨g, 3, none⟩ v3).setCell ⟨g, 4, none⟩ v4).setCell ⟨g, 5, none⟩ v5).setCell ⟨g, 6, none⟩ v6).setCell ⟨g, 7, none⟩ v7).heap[g]? = some (.cells #[v0, v1, v2, v3, v4, v5, v6, v7] t (0, 0)) :=
  blk_put (cs := #[v0, v1, v2, v3, v4, v5, v6, c7]) (blk_put (cs := #[v0, v1, v2, v3, v4, v5, c6, c7]) (blk_put (cs := #[v0, v1, v2, v3, v4, c5, c6, c7]) (blk_put (cs := #[v0, v1, v2, v3, c4, c5, c6, c7]) (blk_put (cs := #[v0, v1, v2, c3, c4, c5, c6, c7]) (blk_put (cs := #[v0, v1, c2, c3, c4, c5, c6, c7]) (blk_put (cs := #[v0, c1, c2, c3, c4, c5, c6, c7]) (blk_put h 0 v0 rfl) 1 v1 rfl) 2 v2 rfl) 3 v3 rfl) 4 v4 rfl) 5 v5 rfl) 6 v6 rfl) 7 v7 rfl
theorem below8 {w W : World} {g : Nat} (h : Below w.heap.size w W) (hg : w.heap.size ≤ g) (v0 v1 v2 v3 v4 v5 v6 v7 : Value) :
    Below w.heap.size w ((((((((W.setCell ⟨g, 0, none⟩ v0).setCell ⟨g, 1, none⟩ v1).setCell ⟨g, 2, none⟩ v2).setCell ⟨g, 3, none⟩ v3).setCell ⟨g, 4, none⟩ v4).setCell ⟨g, 5, none⟩ v5).setCell ⟨g, 6, none⟩ v6).setCell ⟨g, 7, none⟩ v7) :=
  below_set (below_set (below_set (below_set (below_set (below_set (below_set (below_set h hg) hg) hg) hg) hg) hg) hg) hg
theorem blockOf_c (a b c d : Int) (w : World) : Calls Try.prog 73 #[.int .i64 a, .int .i64 b, .int .i64 c, .int .i64 d] w fun e w' =>
    e = .returned (.tuple #[.agg #[.int .i64 a, .int .i64 b, .int .i64 c, .int .i64 d], .bool (mtB a b c d)]) ∧ Below w.heap.size w w' := by
  refine (impl_blockOf.calls a b c d _ _ _ _ _ w (blockOf_eq a b c d)).mono ?_
  rintro e w' h
  exact ⟨h.1, by first | exact h.2 | exact h.2.below⟩
theorem area_c (a b c d : Int) (w : World) : Calls Try.prog 74 #[.agg #[.int .i64 a, .int .i64 b, .int .i64 c, .int .i64 d]] w fun e w' =>
    e = .returned (.agg #[.int .i64 a, .int .i64 b, .bool false, .bool false, .int .i64 c, .int .i64 d, .bool false, .bool false]) ∧ Below w.heap.size w w' := by
  refine (impl_block_area.calls a b c d _ _ _ _ _ _ _ _ w rfl).mono ?_
  rintro e w' h
  exact ⟨h.1, by first | exact h.2 | exact h.2.below⟩
theorem size_alloc (w : World) (o : Obj) : (w.alloc o).heap.size = w.heap.size + 1 := by
  first | (simp; done) | exact Array.size_push _
/-- The boxes at the beginning. -/
theorem boxes3 (w : World) (A B C : Array Value) (t : Nat) : let W := ((w.alloc (.cells A t (0, 0))).alloc (.cells B t (0, 0))).alloc (.cells C t (0, 0))
    W.heap[w.heap.size]? = some (.cells A t (0, 0)) ∧ W.heap[w.heap.size + 1]? = some (.cells B t (0, 0)) ∧ W.heap[w.heap.size + 2]? = some (.cells C t (0, 0)) ∧ Below w.heap.size w W ∧ W.heap.size = w.heap.size + 3 := by
  refine ⟨blk_alloc (blk_alloc (blk_new w _) _) _, ?_, ?_, below_alloc (below_alloc (below_alloc (Below.refl _ _) _) _) _, ?_⟩
  · have h := blk_alloc (blk_new (w.alloc (.cells A t (0, 0))) (.cells B t (0, 0))) (.cells C t (0, 0))
    rwa [size_alloc] at h
  · have h := blk_new ((w.alloc (.cells A t (0, 0))).alloc (.cells B t (0, 0))) (.cells C t (0, 0))
    rwa [size_alloc, size_alloc] at h
  · rw [size_alloc, size_alloc, size_alloc]

set_option maxRecDepth 100000 in
set_option maxHeartbeats 3200000 in
theorem imeet_in (a0 a1 : Int) (a2 a3 : Bool) (a4 a5 : Int) (a6 a7 : Bool) (b0 b1 : Int) (b2 b3 : Bool) (b4 b5 : Int) (b6 b7 : Bool) (w : World) (ha : goodA a0 a1 a4 a5 = true) (hb : goodA b0 b1 b4 b5 = true) :
    Calls Try.prog 23 #[.agg #[.int .i64 a0, .int .i64 a1, .bool a2, .bool a3, .int .i64 a4, .int .i64 a5, .bool a6, .bool a7], .agg #[.int .i64 b0, .int .i64 b1, .bool b2, .bool b3, .int .i64 b4, .int .i64 b5, .bool b6, .bool b7]] w fun e w' =>
      e = .returned (.tuple #[mtV (mx (mn a0 a4) (mn b0 b4)) (mx (mn a1 a5) (mn b1 b5)) (mn (mx a0 a4) (mx b0 b4)) (mn (mx a1 a5) (mx b1 b5)), .bool (mtB (mx (mn a0 a4) (mn b0 b4)) (mx (mn a1 a5) (mn b1 b5)) (mn (mx a0 a4) (mx b0 b4)) (mn (mx a1 a5) (mx b1 b5)))]) ∧ Below w.heap.size w w' := by
  have hu40 := Try.underlying40
  have hu101 := Try.underlying101
  go_enter Try.func23, Try.ntmps23
  go_wp2_with (fail)
  obtain ⟨hA, hB, hZ, hBel, hsz⟩ := boxes3 w #[.int .i64 a0, .int .i64 a1, .bool a2, .bool a3, .int .i64 a4, .int .i64 a5, .bool a6, .bool a7] #[.int .i64 b0, .int .i64 b1, .bool b2, .bool b3, .int .i64 b4, .int .i64 b5, .bool b6, .bool b7] #[.int .i64 0, .int .i64 0, .bool false, .bool false, .int .i64 0, .int .i64 0, .bool false, .bool false] 40
  obtain ⟨W1, hW1⟩ : ∃ W1, W1 = ((w.alloc (.cells #[.int .i64 a0, .int .i64 a1, .bool a2, .bool a3, .int .i64 a4, .int .i64 a5, .bool a6, .bool a7] 40 (0, 0))).alloc (.cells #[.int .i64 b0, .int .i64 b1, .bool b2, .bool b3, .int .i64 b4, .int .i64 b5, .bool b6, .bool b7] 40 (0, 0))).alloc (.cells #[.int .i64 0, .int .i64 0, .bool false, .bool false, .int .i64 0, .int .i64 0, .bool false, .bool false] 40 (0, 0)) := ⟨_, rfl⟩
  rw [← hW1] at hA hB hZ hBel hsz ⊢
  clear hW1
  obtain ⟨g4, hg4⟩ : ∃ g, g = w.heap.size + 1 + 1 := ⟨_, rfl⟩
  have HG4 := Aside0.mk (show w.heap.size ≤ g4 by omega)
  rw [show w.heap.size + 2 = g4 by omega] at hZ
  simp only [← hg4]
  clear hg4
  have BA := Aside0.mk hA
  have BB := Aside0.mk hB
  have BZ := Aside0.mk hZ
  have HB := Aside0.mk hBel
  clear hA hB hZ hBel hsz
  refine (igood_c a0 a1 a2 a3 a4 a5 a6 a7 W1).mono ?_
  rintro e w2 ⟨rfl, hb2⟩
  rw [ha]
  have BA2 := Aside0.mk (blk_below BA.out hb2)
  have BB2 := Aside0.mk (blk_below BB.out hb2)
  have BZ2 := Aside0.mk (blk_below BZ.out hb2)
  have HB2 := Aside0.mk (below_step HB.out hb2)
  clear hb2 BA BB BZ HB
  obtain ⟨q0, q1, q2, q3, q4, q5, q6, q7⟩ := bx8 BB2.out
  go_wp2_with (fail)
  clear q0 q1 q2 q3 q4 q5 q6 q7
  refine (igood_c b0 b1 b2 b3 b4 b5 b6 b7 w2).mono ?_
  rintro e w3 ⟨rfl, hb3⟩
  rw [hb]
  have BA3 := Aside0.mk (blk_below BA2.out hb3)
  have BB3 := Aside0.mk (blk_below BB2.out hb3)
  have BZ3 := Aside0.mk (blk_below BZ2.out hb3)
  have HB3 := Aside0.mk (below_step HB2.out hb3)
  clear hb3 BA2 BB2 BZ2 HB2
  obtain ⟨q0, q1, q2, q3, q4, q5, q6, q7⟩ := bx8 BA3.out
  go_wp2_with (fail)
  clear q0 q1 q2 q3 q4 q5 q6 q7
  refine (block_c a0 a1 a2 a3 a4 a5 a6 a7 w3).mono ?_
  rintro e w4 ⟨rfl, hb4⟩
  have BB4 := Aside0.mk (blk_below BB3.out hb4)
  have BZ4 := Aside0.mk (blk_below BZ3.out hb4)
  have HB4 := Aside0.mk (below_step HB3.out hb4)
  clear hb4 BA3 BB3 BZ3 HB3
  obtain ⟨x0, hx0⟩ : ∃ x, x = mn a0 a4 := ⟨_, rfl⟩
  obtain ⟨x1, hx1⟩ : ∃ x, x = mn a1 a5 := ⟨_, rfl⟩
  obtain ⟨x2, hx2⟩ : ∃ x, x = mx a0 a4 := ⟨_, rfl⟩
  obtain ⟨x3, hx3⟩ : ∃ x, x = mx a1 a5 := ⟨_, rfl⟩
  rw [← hx0, ← hx1, ← hx2, ← hx3]
  have HX := Aside0.mk (And.intro hx0 (And.intro hx1 (And.intro hx2 hx3)))
  clear hx0 hx1 hx2 hx3
  obtain ⟨q0, q1, q2, q3, q4, q5, q6, q7⟩ := bx8 (blk_alloc BB4.out (.cells #[.int .i64 x0, .int .i64 x1, .int .i64 x2, .int .i64 x3] 101 (0, 0)))
  go_wp2_with (fail)
  clear q0 q1 q2 q3 q4 q5 q6 q7
  have hbx := blk_new w4 (Obj.cells #[.int .i64 x0, .int .i64 x1, .int .i64 x2, .int .i64 x3] 101 (0, 0))
  have hba := below_alloc (Below.refl w4.heap.size w4) (Obj.cells #[.int .i64 x0, .int .i64 x1, .int .i64 x2, .int .i64 x3] 101 (0, 0))
  obtain ⟨z4, hz4⟩ : ∃ z, z = w4.alloc (Obj.cells #[.int .i64 x0, .int .i64 x1, .int .i64 x2, .int .i64 x3] 101 (0, 0)) := ⟨_, rfl⟩
  rw [← hz4] at hbx hba ⊢
  clear hz4
  obtain ⟨gx, hgx⟩ : ∃ g, g = w4.heap.size := ⟨_, rfl⟩
  rw [← hgx] at hbx ⊢
  have BX4 := Aside0.mk hbx
  have BZz := Aside0.mk (blk_below BZ4.out hba)
  have HBz := Aside0.mk (below_step HB4.out hba)
  clear hbx hba hgx BB4 BZ4 HB4
  refine (block_c b0 b1 b2 b3 b4 b5 b6 b7 z4).mono ?_
  rintro e w5 ⟨rfl, hb5⟩
  have BX5 := Aside0.mk (blk_below BX4.out hb5)
  have BZ5 := Aside0.mk (blk_below BZz.out hb5)
  have HB5 := Aside0.mk (below_step HBz.out hb5)
  clear hb5 BX4 BZz HBz
  obtain ⟨y0, hy0⟩ : ∃ x, x = mn b0 b4 := ⟨_, rfl⟩
  obtain ⟨y1, hy1⟩ : ∃ x, x = mn b1 b5 := ⟨_, rfl⟩
  obtain ⟨y2, hy2⟩ : ∃ x, x = mx b0 b4 := ⟨_, rfl⟩
  obtain ⟨y3, hy3⟩ : ∃ x, x = mx b1 b5 := ⟨_, rfl⟩
  rw [← hy0, ← hy1, ← hy2, ← hy3]
  have HY := Aside0.mk (And.intro hy0 (And.intro hy1 (And.intro hy2 hy3)))
  clear hy0 hy1 hy2 hy3
  obtain ⟨r0, hr0⟩ : ∃ x, x = mx x0 y0 := ⟨_, rfl⟩
  obtain ⟨r1, hr1⟩ : ∃ x, x = mx x1 y1 := ⟨_, rfl⟩
  obtain ⟨r2, hr2⟩ : ∃ x, x = mn x2 y2 := ⟨_, rfl⟩
  obtain ⟨r3, hr3⟩ : ∃ x, x = mn x3 y3 := ⟨_, rfl⟩
  have hj0 : (if x0 < y0 then y0 else x0) = r0 := hr0.symm
  have hj1 : (if x1 < y1 then y1 else x1) = r1 := hr1.symm
  have hj2 : (if y2 < x2 then y2 else x2) = r2 := hr2.symm
  have hj3 : (if y3 < x3 then y3 else x3) = r3 := hr3.symm
  obtain ⟨q0, q1, q2, q3⟩ := bx4 (blk_alloc BX5.out (.cells #[.int .i64 y0, .int .i64 y1, .int .i64 y2, .int .i64 y3] 101 (0, 0)))
  go_wp2_with (fail)
  clear q0 q1 q2 q3
  rw [← hr0, ← hr1, ← hr2, ← hr3]
  have HR0 := Aside0.mk (show r0 = mx (mn a0 a4) (mn b0 b4) by rw [hr0, HX.out.1, HY.out.1])
  have HR1 := Aside0.mk (show r1 = mx (mn a1 a5) (mn b1 b5) by rw [hr1, HX.out.2.1, HY.out.2.1])
  have HR2 := Aside0.mk (show r2 = mn (mx a0 a4) (mx b0 b4) by rw [hr2, HX.out.2.2.1, HY.out.2.2.1])
  have HR3 := Aside0.mk (show r3 = mn (mx a1 a5) (mx b1 b5) by rw [hr3, HX.out.2.2.2, HY.out.2.2.2])
  clear hj0 hj1 hj2 hj3 hr0 hr1 hr2 hr3
  have HZ6 := Aside0.mk (blk_below BZ5.out (below_alloc (Below.refl w5.heap.size w5) (Obj.cells #[.int .i64 y0, .int .i64 y1, .int .i64 y2, .int .i64 y3] 101 (0, 0))))
  have HB6 := Aside0.mk (below_alloc HB5.out (Obj.cells #[.int .i64 y0, .int .i64 y1, .int .i64 y2, .int .i64 y3] 101 (0, 0)))
  refine (blockOf_c r0 r1 r2 r3 _).mono ?_
  rintro e w6 ⟨rfl, hb6⟩
  have HZ7 := Aside0.mk (blk_alloc (blk_below HZ6.out hb6) (.cells #[.int .i64 r0, .int .i64 r1, .int .i64 r2, .int .i64 r3] 101 (0, 0)))
  have HB7 := Aside0.mk (below_alloc (below_step HB6.out hb6) (Obj.cells #[.int .i64 r0, .int .i64 r1, .int .i64 r2, .int .i64 r3] 101 (0, 0)))
  clear hb6 HZ6 HB6 BZ5 HB5 BX5 HX HY
  by_cases hok : mtB r0 r1 r2 r3 = true
  · rw [hok]
    go_wp2_with (fail)
    refine (area_c r0 r1 r2 r3 _).mono ?_
    rintro e w8 ⟨rfl, hb8⟩
    have HZ8 := Aside0.mk (blk_below HZ7.out hb8)
    have HB8 := Aside0.mk (below_step HB7.out hb8)
    clear hb8 HZ7 HB7
    obtain ⟨q0, q1, q2, q3, q4, q5, q6, q7⟩ := bx8 HZ8.out
    have f0 := blk_frozen HZ8.out 0
    have f1 := blk_frozen HZ8.out 1
    have f2 := blk_frozen HZ8.out 2
    have f3 := blk_frozen HZ8.out 3
    have f4 := blk_frozen HZ8.out 4
    have f5 := blk_frozen HZ8.out 5
    have f6 := blk_frozen HZ8.out 6
    have f7 := blk_frozen HZ8.out 7
    go_wp2
    refine bodyPost_ret (results_ct rfl _ _ g4 40 #[.int .i64 r0, .int .i64 r1, .bool false, .bool false, .int .i64 r2, .int .i64 r3, .bool false, .bool false] (0, 0) _ rfl (put8 HZ8.out _ _ _ _ _ _ _ _) Try.underlying40 rfl (by kernel_rfl)) rfl ?_
    exact ⟨by rw [← HR0.out, ← HR1.out, ← HR2.out, ← HR3.out, mtV_yes hok, hok]; rfl, below8 HB8.out HG4.out _ _ _ _ _ _ _ _⟩
  · have hno := mtV_no hok
    have hok' : mtB r0 r1 r2 r3 = false := by simpa using hok
    rw [hok']
    obtain ⟨q0, q1, q2, q3, q4, q5, q6, q7⟩ := bx8 HZ7.out
    have f0 := blk_frozen HZ7.out 0
    have f1 := blk_frozen HZ7.out 1
    have f2 := blk_frozen HZ7.out 2
    have f3 := blk_frozen HZ7.out 3
    have f4 := blk_frozen HZ7.out 4
    have f5 := blk_frozen HZ7.out 5
    have f6 := blk_frozen HZ7.out 6
    have f7 := blk_frozen HZ7.out 7
    go_wp2
    refine bodyPost_ret (results_ct rfl _ _ g4 40 #[.int .i64 0, .int .i64 0, .bool false, .bool false, .int .i64 0, .int .i64 0, .bool false, .bool false] (0, 0) _ rfl (put8 HZ7.out _ _ _ _ _ _ _ _) Try.underlying40 rfl (by kernel_rfl)) rfl ?_
    exact ⟨by rw [← HR0.out, ← HR1.out, ← HR2.out, ← HR3.out, hno, hok']; rfl, below8 HB7.out HG4.out _ _ _ _ _ _ _ _⟩
end Go.Proofs.Ytppenjoobcppjaa.PAr
