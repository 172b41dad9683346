/- Where two areas meet, as the specification has it: the walk at good areas. -/
import Derived.Test.YtppenjoobcppjaaArMeet
import Derived.Test.YtppenjoobcppjaaPArx2
import Derived.Test.YtppenjoobcppjaaPArx3
import Derived.Deep.DrawnRows
import Derived.Deep.RegionHeld3
import Derived.Deep.DeepCutAuto
namespace Go.Proofs.Ytppenjoobcppjaa.PAr
open Go.RowKit Go.Proofs.YtppenjoobcppjaaW.PrintWords Go.Proofs.YtppenjoobcppjaaW.PrintLast Go.Proofs.YtppenjoobcppjaaW.PrintMore
attribute [local go_sem ↓] Go.wp_at_zero Go.wp_at_succ
set_option linter.unusedVariables false
set_option linter.unusedSimpArgs false

theorem snormal_eq (a0 a1 : Int) (a2 a3 : Bool) (a4 a5 : Int) (a6 a7 : Bool) : ∃ n2 n3 n6 n7, spec_l3Normal.f a0 a1 a2 a3 a4 a5 a6 a7 = some (mn a0 a4, mn a1 a5, n2, n3, mx a0 a4, mx a1 a5, n6, n7) := by
  refine ⟨if a0 > a4 then a6 else a2, if a1 > a5 then a7 else a3, if a0 > a4 then a2 else a6, if a1 > a5 then a3 else a7, ?_⟩
  unfold spec_l3Normal.f
  congr 1
  rw [show (if a0 > a4 then a4 else a0) = mn a0 a4 from rfl, show (if a1 > a5 then a5 else a1) = mn a1 a5 from rfl, show (if a0 > a4 then a0 else a4) = mx a0 a4 by unfold mx; split <;> split <;> omega, show (if a1 > a5 then a1 else a5) = mx a1 a5 by unfold mx; split <;> split <;> omega]
theorem smax_c (a b : Int) (w : World) : Calls Try.prog 79 #[.int .i64 a, .int .i64 b] w fun e w' => e = .returned (.int .i64 (mx a b)) ∧ Drawn0 w w' := by
  refine spec_l3Max.calls a b _ w ?_
  unfold spec_l3Max.f mx
  by_cases h : a < b
  · rw [if_neg (by omega), if_pos h]
  · rw [if_neg h]
    by_cases h2 : a > b
    · rw [if_pos h2]
    · rw [if_neg h2]; congr 1; omega
theorem smin_c (a b : Int) (w : World) : Calls Try.prog 80 #[.int .i64 a, .int .i64 b] w fun e w' => e = .returned (.int .i64 (mn a b)) ∧ Drawn0 w w' := by
  refine spec_l3Min.calls a b _ w ?_
  unfold spec_l3Min.f mn
  by_cases h : b < a
  · rw [if_neg (by omega), if_pos h]
  · rw [if_neg h]
    by_cases h2 : a < b
    · rw [if_pos h2]
    · rw [if_neg h2]; congr 1; omega
theorem sarea_c (a b c d : Int) (w : World) : Calls Try.prog 77 #[.int .i64 a, .int .i64 b, .int .i64 c, .int .i64 d] w fun e w' =>
    e = .returned (.agg #[.int .i64 a, .int .i64 b, .bool false, .bool false, .int .i64 c, .int .i64 d, .bool false, .bool false]) ∧ Below w.heap.size w w' := by
  refine (spec_l3Area.calls a b c d _ _ _ _ _ _ _ _ w rfl).mono ?_
  rintro e w' h
  exact ⟨h.1, by first | exact h.2 | exact h.2.below⟩
theorem sgood_c (a0 a1 : Int) (a2 a3 : Bool) (a4 a5 : Int) (a6 a7 : Bool) (w : World) : Calls Try.prog 27 #[.agg #[.int .i64 a0, .int .i64 a1, .bool a2, .bool a3, .int .i64 a4, .int .i64 a5, .bool a6, .bool a7]] w fun e w' =>
    e = .returned (.bool (goodA a0 a1 a4 a5)) ∧ Below w.heap.size w w' := by
  refine (spec_GoodArea.calls _ _ _ _ _ _ _ _ _ w (sgood_eq a0 a1 a2 a3 a4 a5 a6 a7)).mono ?_
  rintro e w' ⟨he, hd⟩
  exact ⟨he, hd⟩
theorem snormal_c (a0 a1 : Int) (a2 a3 : Bool) (a4 a5 : Int) (a6 a7 : Bool) (n2 n3 n6 n7 : Bool) (w : World) (h : spec_l3Normal.f a0 a1 a2 a3 a4 a5 a6 a7 = some (mn a0 a4, mn a1 a5, n2, n3, mx a0 a4, mx a1 a5, n6, n7)) : Calls Try.prog 76 #[.agg #[.int .i64 a0, .int .i64 a1, .bool a2, .bool a3, .int .i64 a4, .int .i64 a5, .bool a6, .bool a7]] w fun e w' =>
    e = .returned (.agg #[.int .i64 (mn a0 a4), .int .i64 (mn a1 a5), .bool n2, .bool n3, .int .i64 (mx a0 a4), .int .i64 (mx a1 a5), .bool n6, .bool n7]) ∧ Below w.heap.size w w' := by
  refine (spec_l3Normal.calls a0 a1 a2 a3 a4 a5 a6 a7 _ _ _ _ _ _ _ _ w h).mono ?_
  rintro e w' h
  exact ⟨h.1, by first | exact h.2 | exact h.2.below⟩
theorem frozen8 {W : World} {g t : Nat} {cs : Array Value} (hb : W.heap[g]? = some (.cells cs t (0, 0))) :
    W.frozen? ⟨g, 0, none⟩ = false ∧ W.frozen? ⟨g, 1, none⟩ = false ∧ W.frozen? ⟨g, 2, none⟩ = false ∧ W.frozen? ⟨g, 3, none⟩ = false ∧ W.frozen? ⟨g, 4, none⟩ = false ∧ W.frozen? ⟨g, 5, none⟩ = false ∧ W.frozen? ⟨g, 6, none⟩ = false ∧ W.frozen? ⟨g, 7, none⟩ = false :=
  ⟨blk_frozen hb 0, blk_frozen hb 1, blk_frozen hb 2, blk_frozen hb 3, blk_frozen hb 4, blk_frozen hb 5, blk_frozen hb 6, blk_frozen hb 7⟩
def set8 (W : World) (g : Nat) (v0 v1 v2 v3 v4 v5 v6 v7 : Value) : World := ((((((((W.setCell ⟨g, 0, none⟩ v0).setCell ⟨g, 1, none⟩ v1).setCell ⟨g, 2, none⟩ v2).setCell ⟨g, 3, none⟩ v3).setCell ⟨g, 4, none⟩ v4).setCell ⟨g, 5, none⟩ v5).setCell ⟨g, 6, none⟩ v6).setCell ⟨g, 7, none⟩ v7)
theorem set8_size (W : World) (g : Nat) (v0 v1 v2 v3 v4 v5 v6 v7 : Value) : (set8 W g v0 v1 v2 v3 v4 v5 v6 v7).heap.size = W.heap.size := by
  unfold set8
  simp [World.setCell]
theorem set8_far {W : World} {g g' t : Nat} {cs : Array Value} (h : W.heap[g']? = some (.cells cs t (0, 0))) (hne : g' ≠ g) (v0 v1 v2 v3 v4 v5 v6 v7 : Value) : (set8 W g v0 v1 v2 v3 v4 v5 v6 v7).heap[g']? = some (.cells cs t (0, 0)) := by
  unfold set8
  exact blk_far (blk_far (blk_far (blk_far (blk_far (blk_far (blk_far (blk_far h hne _) hne _) hne _) hne _) hne _) hne _) hne _) hne _


theorem far8 {W : World} {g : Nat} {a : Addr} {u : Value} (h : W.cell? a = some u) (hne : g ≠ a.block) (v0 v1 v2 v3 v4 v5 v6 v7 : Value) : ((((((((W.setCell ⟨g, 0, none⟩ v0).setCell ⟨g, 1, none⟩ v1).setCell ⟨g, 2, none⟩ v2).setCell ⟨g, 3, none⟩ v3).setCell ⟨g, 4, none⟩ v4).setCell ⟨g, 5, none⟩ v5).setCell ⟨g, 6, none⟩ v6).setCell ⟨g, 7, none⟩ v7).cell? a = some u := by
  have hk : ∀ (W : World) (i : Nat) (v : Value), (W.setCell ⟨g, i, none⟩ v).cell? a = W.cell? a := fun W i v => World.cell?_setCell_other W _ _ v (fun e => hne (by rw [← e]))
  rw [hk, hk, hk, hk, hk, hk, hk, hk]
  exact h
theorem boxE {w W7 X w8 : World} {g4 : Nat} (hz : W7.heap[g4]? = some (.cells #[.int .i64 0, .int .i64 0, .bool false, .bool false, .int .i64 0, .int .i64 0, .bool false, .bool false] 40 (0, 0))) (hB : Below w.heap.size w W7) (hX : Below W7.heap.size W7 X) (h8 : Below X.heap.size X w8) : w8.heap[g4]? = some (.cells #[.int .i64 0, .int .i64 0, .bool false, .bool false, .int .i64 0, .int .i64 0, .bool false, .bool false] 40 (0, 0)) ∧ Below w.heap.size w w8 :=
  ⟨blk_below (blk_below hz hX) h8, below_step (below_step hB hX) h8⟩
def BoxOf (w0 w : World) (g4 : Nat) (r0 r1 r2 r3 : Int) (v : Value) (W : World) : Prop :=
  ∃ g, v = .pointer (some ⟨g, 0, none⟩) ∧ W.heap[g]? = some (.cells #[.int .i64 r0, .int .i64 r1, .bool false, .bool false, .int .i64 r2, .int .i64 r3, .bool false, .bool false] 40 (0, 0)) ∧ W.heap[g4]? = some (.cells #[.int .i64 0, .int .i64 0, .bool false, .bool false, .int .i64 0, .int .i64 0, .bool false, .bool false] 40 (0, 0)) ∧ Below w.heap.size w W
theorem endA {w w8 : World} {g4 : Nat} {r0 r1 r2 r3 : Int} (h1 : w8.heap[g4]? = some (.cells #[.int .i64 0, .int .i64 0, .bool false, .bool false, .int .i64 0, .int .i64 0, .bool false, .bool false] 40 (0, 0))) (h2 : Below w.heap.size w w8) :
    BoxOf w w g4 r0 r1 r2 r3 (.pointer (some ⟨w8.heap.size, 0, none⟩)) (w8.alloc (.cells #[.int .i64 r0, .int .i64 r1, .bool false, .bool false, .int .i64 r2, .int .i64 r3, .bool false, .bool false] 40)) :=
  ⟨_, rfl, blk_new _ _, blk_alloc h1 _, below_alloc h2 _⟩
theorem endB {w w8 : World} {g4 g6 : Nat} {r0 r1 r2 r3 : Int} (h1 : w8.heap[g4]? = some (.cells #[.int .i64 0, .int .i64 0, .bool false, .bool false, .int .i64 0, .int .i64 0, .bool false, .bool false] 40 (0, 0))) (h2 : Below w.heap.size w w8) (h3 : w8.heap[g6]? = some (.cells #[.int .i64 0, .int .i64 0, .bool false, .bool false, .int .i64 0, .int .i64 0, .bool false, .bool false] 40 (0, 0))) (hne : g4 ≠ g6) (hle : w.heap.size ≤ g6) :
    BoxOf w w g4 r0 r1 r2 r3 (.pointer (some ⟨g6, 0, none⟩)) ((((((((w8.setCell ⟨g6, 0, none⟩ (.int .i64 r0)).setCell ⟨g6, 1, none⟩ (.int .i64 r1)).setCell ⟨g6, 2, none⟩ (.bool false)).setCell ⟨g6, 3, none⟩ (.bool false)).setCell ⟨g6, 4, none⟩ (.int .i64 r2)).setCell ⟨g6, 5, none⟩ (.int .i64 r3)).setCell ⟨g6, 6, none⟩ (.bool false)).setCell ⟨g6, 7, none⟩ (.bool false)) :=
  ⟨_, rfl, put8 h3 _ _ _ _ _ _ _ _, set8_far h1 hne _ _ _ _ _ _ _ _, below8 h2 hle _ _ _ _ _ _ _ _⟩
set_option maxRecDepth 100000 in
set_option maxHeartbeats 6400000 in
theorem smeet_in (a0 a1 : Int) (a2 a3 : Bool) (a4 a5 : Int) (a6 a7 : Bool) (b0 b1 : Int) (b2 b3 : Bool) (b4 b5 : Int) (b6 b7 : Bool) (w : World) (ha : goodA a0 a1 a4 a5 = true) (hb : goodA b0 b1 b4 b5 = true) :
    Calls Try.prog 30 #[.agg #[.int .i64 a0, .int .i64 a1, .bool a2, .bool a3, .int .i64 a4, .int .i64 a5, .bool a6, .bool a7], .agg #[.int .i64 b0, .int .i64 b1, .bool b2, .bool b3, .int .i64 b4, .int .i64 b5, .bool b6, .bool b7]] w fun e w' =>
      e = .returned (.tuple #[mtV (mx (mn a0 a4) (mn b0 b4)) (mx (mn a1 a5) (mn b1 b5)) (mn (mx a0 a4) (mx b0 b4)) (mn (mx a1 a5) (mx b1 b5)), .bool (mtB (mx (mn a0 a4) (mn b0 b4)) (mx (mn a1 a5) (mn b1 b5)) (mn (mx a0 a4) (mx b0 b4)) (mn (mx a1 a5) (mx b1 b5)))]) ∧ Below w.heap.size w w' := by
  have hu40 := Try.underlying40
  obtain ⟨n2, n3, n6, n7, hn⟩ := snormal_eq a0 a1 a2 a3 a4 a5 a6 a7
  obtain ⟨p2, p3, p6, p7, hp⟩ := snormal_eq b0 b1 b2 b3 b4 b5 b6 b7
  have HN := Aside0.mk hn
  have HP := Aside0.mk hp
  clear hn hp
  go_enter Try.func30, Try.ntmps30
  go_wp2_with (fail)
  obtain ⟨hA, hB, hZ, hBel, hsz⟩ := boxes3 w #[.int .i64 a0, .int .i64 a1, .bool a2, .bool a3, .int .i64 a4, .int .i64 a5, .bool a6, .bool a7] #[.int .i64 b0, .int .i64 b1, .bool b2, .bool b3, .int .i64 b4, .int .i64 b5, .bool b6, .bool b7] #[.int .i64 0, .int .i64 0, .bool false, .bool false, .int .i64 0, .int .i64 0, .bool false, .bool false] 40
  obtain ⟨W1, hW1⟩ : ∃ W1, W1 = ((w.alloc (.cells #[.int .i64 a0, .int .i64 a1, .bool a2, .bool a3, .int .i64 a4, .int .i64 a5, .bool a6, .bool a7] 40 (0, 0))).alloc (.cells #[.int .i64 b0, .int .i64 b1, .bool b2, .bool b3, .int .i64 b4, .int .i64 b5, .bool b6, .bool b7] 40 (0, 0))).alloc (.cells #[.int .i64 0, .int .i64 0, .bool false, .bool false, .int .i64 0, .int .i64 0, .bool false, .bool false] 40 (0, 0)) := ⟨_, rfl⟩
  rw [← hW1] at hA hB hZ hBel hsz ⊢
  clear hW1
  obtain ⟨g4, hg4⟩ : ∃ g, g = w.heap.size + 1 + 1 := ⟨_, rfl⟩
  obtain ⟨g3, hg3⟩ : ∃ g, g = w.heap.size + 1 := ⟨_, rfl⟩
  obtain ⟨g2, hg2⟩ : ∃ g, g = w.heap.size := ⟨_, rfl⟩
  have HG := Aside0.mk (show w.heap.size ≤ g2 ∧ w.heap.size ≤ g3 ∧ w.heap.size ≤ g4 ∧ g2 ≠ g3 ∧ g2 ≠ g4 ∧ g3 ≠ g4 by omega)
  rw [show w.heap.size + 2 = g4 by omega] at hZ
  rw [show w.heap.size + 1 = g3 by omega] at hB
  have hA' : W1.heap[g2]? = some (.cells #[.int .i64 a0, .int .i64 a1, .bool a2, .bool a3, .int .i64 a4, .int .i64 a5, .bool a6, .bool a7] 40 (0, 0)) := by rw [hg2]; exact hA
  simp only [← hg4]
  simp only [← hg3]
  simp only [← hg2]
  have BA := Aside0.mk hA'
  have BB := Aside0.mk hB
  have BZ := Aside0.mk hZ
  have HB := Aside0.mk hBel
  clear hA hA' hB hZ hBel hsz hg4 hg3 hg2
  refine (sgood_c a0 a1 a2 a3 a4 a5 a6 a7 W1).mono ?_
  rintro e w2 ⟨rfl, hb2⟩
  rw [ha]
  have BA2 := Aside0.mk (blk_below BA.out hb2)
  have BB2 := Aside0.mk (blk_below BB.out hb2)
  have BZ2 := Aside0.mk (blk_below BZ.out hb2)
  have HB2 := Aside0.mk (below_step HB.out hb2)
  clear hb2 BA BB BZ HB
  obtain ⟨q0, q1, q2, q3, q4, q5, q6, q7⟩ := bx8 BB2.out
  go_wp2_with (fail)
  clear q0 q1 q2 q3 q4 q5 q6 q7
  refine (sgood_c b0 b1 b2 b3 b4 b5 b6 b7 w2).mono ?_
  rintro e w3 ⟨rfl, hb3⟩
  rw [hb]
  have BA3 := Aside0.mk (blk_below BA2.out hb3)
  have BB3 := Aside0.mk (blk_below BB2.out hb3)
  have BZ3 := Aside0.mk (blk_below BZ2.out hb3)
  have HB3 := Aside0.mk (below_step HB2.out hb3)
  clear hb3 BA2 BB2 BZ2 HB2
  obtain ⟨q0, q1, q2, q3, q4, q5, q6, q7⟩ := bx8 BA3.out
  go_wp2_with (fail)
  clear q0 q1 q2 q3 q4 q5 q6 q7
  refine (snormal_c a0 a1 a2 a3 a4 a5 a6 a7 n2 n3 n6 n7 w3 HN.out).mono ?_
  rintro e w4 ⟨rfl, hb4⟩
  have BA4 := Aside0.mk (blk_below BA3.out hb4)
  have BB4 := Aside0.mk (blk_below BB3.out hb4)
  have BZ4 := Aside0.mk (blk_below BZ3.out hb4)
  have HB4 := Aside0.mk (below_step HB3.out hb4)
  clear hb4 BA3 BB3 BZ3 HB3
  obtain ⟨x0, hx0⟩ : ∃ x, x = mn a0 a4 := ⟨_, rfl⟩
  obtain ⟨x1, hx1⟩ : ∃ x, x = mn a1 a5 := ⟨_, rfl⟩
  obtain ⟨x2, hx2⟩ : ∃ x, x = mx a0 a4 := ⟨_, rfl⟩
  obtain ⟨x3, hx3⟩ : ∃ x, x = mx a1 a5 := ⟨_, rfl⟩
  rw [← hx0, ← hx1, ← hx2, ← hx3]
  have HX := Aside0.mk (And.intro hx0 (And.intro hx1 (And.intro hx2 hx3)))
  clear hx0 hx1 hx2 hx3
  have hbz := set8_far BB4.out HG.out.2.2.2.1.symm (.int .i64 x0) (.int .i64 x1) (.bool n2) (.bool n3) (.int .i64 x2) (.int .i64 x3) (.bool n6) (.bool n7)
  obtain ⟨q0, q1, q2, q3, q4, q5, q6, q7⟩ := bx8 BA4.out
  obtain ⟨f0, f1, f2, f3, f4, f5, f6, f7⟩ := frozen8 BA4.out
  obtain ⟨s0, s1, s2, s3, s4, s5, s6, s7⟩ := bx8 hbz
  unfold set8 at s0 s1 s2 s3 s4 s5 s6 s7
  clear hbz
  go_wp2_with (fail)
  clear q0 q1 q2 q3 q4 q5 q6 q7 f0 f1 f2 f3 f4 f5 f6 f7 s0 s1 s2 s3 s4 s5 s6 s7
  have BA5 := Aside0.mk (put8 BA4.out (.int .i64 x0) (.int .i64 x1) (.bool n2) (.bool n3) (.int .i64 x2) (.int .i64 x3) (.bool n6) (.bool n7))
  have BB5 := Aside0.mk (set8_far BB4.out HG.out.2.2.2.1.symm (.int .i64 x0) (.int .i64 x1) (.bool n2) (.bool n3) (.int .i64 x2) (.int .i64 x3) (.bool n6) (.bool n7))
  have BZ5 := Aside0.mk (set8_far BZ4.out HG.out.2.2.2.2.1.symm (.int .i64 x0) (.int .i64 x1) (.bool n2) (.bool n3) (.int .i64 x2) (.int .i64 x3) (.bool n6) (.bool n7))
  have HB5 := Aside0.mk (below8 HB4.out HG.out.1 (.int .i64 x0) (.int .i64 x1) (.bool n2) (.bool n3) (.int .i64 x2) (.int .i64 x3) (.bool n6) (.bool n7))
  unfold set8 at BB5 BZ5
  obtain ⟨W5, hW5⟩ : ∃ W, W = ((((((((w4.setCell ⟨g2, 0, none⟩ (.int .i64 x0)).setCell ⟨g2, 1, none⟩ (.int .i64 x1)).setCell ⟨g2, 2, none⟩ (.bool n2)).setCell ⟨g2, 3, none⟩ (.bool n3)).setCell ⟨g2, 4, none⟩ (.int .i64 x2)).setCell ⟨g2, 5, none⟩ (.int .i64 x3)).setCell ⟨g2, 6, none⟩ (.bool n6)).setCell ⟨g2, 7, none⟩ (.bool n7)) := ⟨_, rfl⟩
  rw [← hW5] at BA5 BB5 BZ5 HB5 ⊢
  clear hW5 BA4 BB4 BZ4 HB4
  refine (snormal_c b0 b1 b2 b3 b4 b5 b6 b7 p2 p3 p6 p7 W5 HP.out).mono ?_
  rintro e w6 ⟨rfl, hb6⟩
  have BA6 := Aside0.mk (blk_below BA5.out hb6)
  have BB6 := Aside0.mk (blk_below BB5.out hb6)
  have BZ6 := Aside0.mk (blk_below BZ5.out hb6)
  have HB6 := Aside0.mk (below_step HB5.out hb6)
  clear hb6 BA5 BB5 BZ5 HB5
  obtain ⟨y0, hy0⟩ : ∃ x, x = mn b0 b4 := ⟨_, rfl⟩
  obtain ⟨y1, hy1⟩ : ∃ x, x = mn b1 b5 := ⟨_, rfl⟩
  obtain ⟨y2, hy2⟩ : ∃ x, x = mx b0 b4 := ⟨_, rfl⟩
  obtain ⟨y3, hy3⟩ : ∃ x, x = mx b1 b5 := ⟨_, rfl⟩
  rw [← hy0, ← hy1, ← hy2, ← hy3]
  have HY := Aside0.mk (And.intro hy0 (And.intro hy1 (And.intro hy2 hy3)))
  clear hy0 hy1 hy2 hy3
  have HGo := HG.out
  obtain ⟨hga, hgb, hgz, hgab, hgaz, hgbz⟩ := HGo
  obtain ⟨q0, q1, q2, q3, q4, q5, q6, q7⟩ := bx8 BB6.out
  obtain ⟨f0, f1, f2, f3, f4, f5, f6, f7⟩ := frozen8 BB6.out
  go_upto_region 5 with (fail)
  clear q0 q1 q2 q3 q4 q5 q6 q7 f0 f1 f2 f3 f4 f5 f6 f7
  have BA7 := Aside0.mk (set8_far BA6.out HG.out.2.2.2.1 (.int .i64 y0) (.int .i64 y1) (.bool p2) (.bool p3) (.int .i64 y2) (.int .i64 y3) (.bool p6) (.bool p7))
  have BB7 := Aside0.mk (put8 BB6.out (.int .i64 y0) (.int .i64 y1) (.bool p2) (.bool p3) (.int .i64 y2) (.int .i64 y3) (.bool p6) (.bool p7))
  have BZ7 := Aside0.mk (set8_far BZ6.out HG.out.2.2.2.2.2.symm (.int .i64 y0) (.int .i64 y1) (.bool p2) (.bool p3) (.int .i64 y2) (.int .i64 y3) (.bool p6) (.bool p7))
  have HB7 := Aside0.mk (below8 HB6.out HG.out.2.1 (.int .i64 y0) (.int .i64 y1) (.bool p2) (.bool p3) (.int .i64 y2) (.int .i64 y3) (.bool p6) (.bool p7))
  unfold set8 at BA7 BZ7
  obtain ⟨W7, hW7⟩ : ∃ W, W = ((((((((w6.setCell ⟨g3, 0, none⟩ (.int .i64 y0)).setCell ⟨g3, 1, none⟩ (.int .i64 y1)).setCell ⟨g3, 2, none⟩ (.bool p2)).setCell ⟨g3, 3, none⟩ (.bool p3)).setCell ⟨g3, 4, none⟩ (.int .i64 y2)).setCell ⟨g3, 5, none⟩ (.int .i64 y3)).setCell ⟨g3, 6, none⟩ (.bool p6)).setCell ⟨g3, 7, none⟩ (.bool p7)) := ⟨_, rfl⟩
  rw [← hW7] at BA7 BB7 BZ7 HB7 ⊢
  clear hW7 BA6 BB6 BZ6 HB6 hga hgb hgz hgab hgaz hgbz
  go_cut [6] (fun v6 wc => BoxOf w w g4 (mx x0 y0) (mx x1 y1) (mn x2 y2) (mn x3 y3) v6 wc)
  case first =>
    have HGo := HG.out
    obtain ⟨hga, hgb, hgz, hgab, hgaz, hgbz⟩ := HGo
    have hza : W7.heap.size ≠ g2 := by have := blk_lt BA7.out; omega
    have hzb : W7.heap.size ≠ g3 := by have := blk_lt BB7.out; omega
    have HZA := Aside0.mk (blk_lt BA7.out)
    have HZB := Aside0.mk (blk_lt BB7.out)
    obtain ⟨q0, q1, q2, q3, q4, q5, q6, q7⟩ := bx8 BA7.out
    obtain ⟨s0, s1, s2, s3, s4, s5, s6, s7⟩ := bx8 BB7.out
    go_region_held3 (fun W => W.cell? ⟨g2, 0, none⟩ = some (.int .i64 x0) ∧ W.cell? ⟨g2, 1, none⟩ = some (.int .i64 x1) ∧ W.cell? ⟨g2, 4, none⟩ = some (.int .i64 x2) ∧ W.cell? ⟨g2, 5, none⟩ = some (.int .i64 x3) ∧ W.cell? ⟨g3, 0, none⟩ = some (.int .i64 y0) ∧ W.cell? ⟨g3, 1, none⟩ = some (.int .i64 y1) ∧ W.cell? ⟨g3, 4, none⟩ = some (.int .i64 y2) ∧ W.cell? ⟨g3, 5, none⟩ = some (.int .i64 y3))
      ((go_split_ands; (try simp only [World.cell?_drewN, World.cell?_drew]); refine ⟨?_, ?_, ?_, ?_, ?_, ?_, ?_, ?_⟩ <;> (first | (with_reducible assumption) | (with_reducible refine far8 ?_ ?_ _ _ _ _ _ _ _ _ <;> with_reducible assumption) | ((with_reducible refine pw_cell_below (below_alloc (Below.refl _ _) _) ?_); (try simp only [World.cell?_drewN, World.cell?_drew]); first | (with_reducible assumption) | (refine pw_cell_below hb8 ?_; (try simp only [World.cell?_drewN, World.cell?_drew]); with_reducible assumption)) | (refine pw_cell_below hb8 ?_; (try simp only [World.cell?_drewN, World.cell?_drew]); first | with_reducible assumption | ((with_reducible refine pw_cell_below (below_alloc (Below.refl _ _) _) ?_); (try simp only [World.cell?_drewN, World.cell?_drew]); with_reducible assumption)))))
      (first
        | (go_at_call 79; refine (smax_c _ _ _).mono ?_; rintro e w' ⟨rfl, ⟨nd, rfl⟩⟩)
        | (go_at_call 80; refine (smin_c _ _ _).mono ?_; rintro e w' ⟨rfl, ⟨nd, rfl⟩⟩)
        | (go_at_call 77; refine (sarea_c _ _ _ _ _).mono ?_; rintro e w8 ⟨rfl, hb8⟩; (try (have hbx8 : w8.heap[W7.heap.size]? = some (.cells #[.int .i64 0, .int .i64 0, .bool false, .bool false, .int .i64 0, .int .i64 0, .bool false, .bool false] 40 (0, 0)) := (hb8.block W7.heap.size (by simp)).trans (blk_new W7 _); obtain ⟨z0, z1, z2, z3, z4, z5, z6, z7⟩ := bx8 hbx8; obtain ⟨f0, f1, f2, f3, f4, f5, f6, f7⟩ := frozen8 hbx8; have HBX8 := Aside0.mk hbx8; clear hbx8)); have hza8 : w8.heap.size ≠ g2 := (by have := hb8.size; simp at this; have := HZA.out; omega); have hzb8 : w8.heap.size ≠ g3 := (by have := hb8.size; simp at this; have := HZB.out; omega)))
    all_goals (
      go_wp2_with fail
      go_meet
      have hE := boxE BZ7.out HB7.out (by repeat (first | exact Below.refl _ _ | apply below_alloc | apply pw_below_drewN | apply below_drew1)) hb8
      first
        | with_reducible exact endA hE.1 hE.2
        | with_reducible exact endB hE.1 hE.2 HBX8.out (Nat.ne_of_lt (blk_lt BZ7.out)) HB7.out.size)
  case rest =>
    obtain ⟨g6, rfl, hbx, hz, hbel⟩ := hcut
    obtain ⟨r0, hr0⟩ : ∃ x, x = mx x0 y0 := ⟨_, rfl⟩
    obtain ⟨r1, hr1⟩ : ∃ x, x = mx x1 y1 := ⟨_, rfl⟩
    obtain ⟨r2, hr2⟩ : ∃ x, x = mn x2 y2 := ⟨_, rfl⟩
    obtain ⟨r3, hr3⟩ : ∃ x, x = mn x3 y3 := ⟨_, rfl⟩
    rw [← hr0, ← hr1, ← hr2, ← hr3] at hbx
    have HR0 := Aside0.mk (show r0 = mx (mn a0 a4) (mn b0 b4) by rw [hr0, HX.out.1, HY.out.1])
    have HR1 := Aside0.mk (show r1 = mx (mn a1 a5) (mn b1 b5) by rw [hr1, HX.out.2.1, HY.out.2.1])
    have HR2 := Aside0.mk (show r2 = mn (mx a0 a4) (mx b0 b4) by rw [hr2, HX.out.2.2.1, HY.out.2.2.1])
    have HR3 := Aside0.mk (show r3 = mn (mx a1 a5) (mx b1 b5) by rw [hr3, HX.out.2.2.2, HY.out.2.2.2])
    have HZ8 := Aside0.mk hz
    have HB8 := Aside0.mk hbel
    have hwg : w.heap.size ≤ g4 := HG.out.2.2.1
    clear hr0 hr1 hr2 hr3 HX HY BA7 BB7 BZ7 HB7 HN HP hbel
    obtain ⟨q0, q1, q2, q3, q4, q5, q6, q7⟩ := bx8 hbx
    obtain ⟨s0, s1, s2, s3, s4, s5, s6, s7⟩ := bx8 hz
    obtain ⟨f0, f1, f2, f3, f4, f5, f6, f7⟩ := frozen8 hz
    clear hbx hz
    by_cases c1 : r2 < r0
    · have d1 : decide (r2 < r0) = true := decide_eq_true c1
      have hok : ¬ mtB r0 r1 r2 r3 = true := by unfold mtB; rw [decide_eq_true_eq]; omega
      have hno := Aside0.mk (mtV_no hok)
      have hok' := Aside0.mk (show mtB r0 r1 r2 r3 = false by simpa using hok)
      clear hok c1
      go_wp2
      refine bodyPost_ret (results_ct rfl _ _ g4 40 #[.int .i64 0, .int .i64 0, .bool false, .bool false, .int .i64 0, .int .i64 0, .bool false, .bool false] (0, 0) _ rfl (put8 HZ8.out _ _ _ _ _ _ _ _) Try.underlying40 rfl (by kernel_rfl)) rfl ?_
      exact ⟨by rw [← HR0.out, ← HR1.out, ← HR2.out, ← HR3.out, hno.out, hok'.out]; rfl, below8 HB8.out HG.out.2.2.1 _ _ _ _ _ _ _ _⟩
    · have d1 : decide (r2 < r0) = false := decide_eq_false c1
      by_cases c2 : r3 < r1
      · have d2 : decide (r3 < r1) = true := decide_eq_true c2
        have hok : ¬ mtB r0 r1 r2 r3 = true := by unfold mtB; rw [decide_eq_true_eq]; omega
        have hno := Aside0.mk (mtV_no hok)
        have hok' := Aside0.mk (show mtB r0 r1 r2 r3 = false by simpa using hok)
        clear hok c1 c2
        go_wp2
        refine bodyPost_ret (results_ct rfl _ _ g4 40 #[.int .i64 0, .int .i64 0, .bool false, .bool false, .int .i64 0, .int .i64 0, .bool false, .bool false] (0, 0) _ rfl (put8 HZ8.out _ _ _ _ _ _ _ _) Try.underlying40 rfl (by kernel_rfl)) rfl ?_
        exact ⟨by rw [← HR0.out, ← HR1.out, ← HR2.out, ← HR3.out, hno.out, hok'.out]; rfl, below8 HB8.out HG.out.2.2.1 _ _ _ _ _ _ _ _⟩
      · have d2 : decide (r3 < r1) = false := decide_eq_false c2
        have hok : mtB r0 r1 r2 r3 = true := by unfold mtB; rw [decide_eq_true_eq]; omega
        have hyes := Aside0.mk (mtV_yes hok)
        have hok' := Aside0.mk hok
        clear hok c1 c2
        go_wp2
        refine bodyPost_ret (results_ct rfl _ _ g4 40 #[.int .i64 r0, .int .i64 r1, .bool false, .bool false, .int .i64 r2, .int .i64 r3, .bool false, .bool false] (0, 0) _ rfl (put8 HZ8.out _ _ _ _ _ _ _ _) Try.underlying40 rfl (by kernel_rfl)) rfl ?_
        exact ⟨by rw [← HR0.out, ← HR1.out, ← HR2.out, ← HR3.out, hyes.out, hok'.out]; rfl, below8 HB8.out HG.out.2.2.1 _ _ _ _ _ _ _ _⟩

end Go.Proofs.Ytppenjoobcppjaa.PAr
