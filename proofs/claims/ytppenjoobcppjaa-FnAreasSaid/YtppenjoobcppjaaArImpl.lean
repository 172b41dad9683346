/- impl.Without: the walk. -/
import Derived.Test.YtppenjoobcppjaaArAdd
namespace Go.Proofs.Ytppenjoobcppjaa.PAr
open Go.RowKit Go.Proofs.YtppenjoobcppjaaW.PrintWords Go.Proofs.YtppenjoobcppjaaW.PrintLast Go.Proofs.YtppenjoobcppjaaW.PrintMore
attribute [local go_sem] max2_int min2_int max_two min_two max_three min_three max_four min_four
set_option linter.unusedVariables false
set_option linter.unusedSimpArgs false

def addO (ok : Bool) (xs : List S40) (p : S40) : List S40 := if ok = true then xs ++ [p] else xs
theorem addO_len (ok : Bool) (xs : List S40) (p : S40) {n : Nat} (h : xs.length ≤ n) : (addO ok xs p).length ≤ n + 1 := by
  unfold addO; split
  · rw [List.length_append, List.length_singleton]; omega
  · omega
theorem add_c (w0 W : World) (h0 g : Nat) (xs : List S40) (a b c d : Int) (ok : Bool) (h : Acc w0 h0 g xs W) (hl : xs.length ≤ 10) :
    Calls Try.prog 75 #[.agg #[.int .i64 a, .int .i64 b, .int .i64 c, .int .i64 d], .bool ok, .pointer (some ⟨g, 0, none⟩)] W fun e w' => (∃ v, e = .returned v) ∧ Acc w0 h0 g (addO ok xs (mkA a b c d)) w' ∧ Kept W w' (fun k => h0 ≤ k) := by
  cases ok with
  | true => exact add_yes w0 W h0 g xs a b c d h hl
  | false => exact add_no w0 W h0 g xs a b c d h
theorem Acc.below {w0 W W' : World} {h0 g : Nat} {xs : List S40} (h : Acc w0 h0 g xs W) (hb : Below W.heap.size W W') : Acc w0 h0 g xs W' := by
  obtain ⟨v, hv, hR, hB, h1, h2⟩ := h
  exact ⟨v, blk_below hv hb, Kd.R_below hR hb, below_step hB hb, h1, h2⟩
/-- The four pieces. -/
def pieces (x0 x1 x2 x3 y0 y1 y2 y3 : Int) : List S40 :=
  addO (mtB (mx x0 y0) (mx x1 (y3 + 1)) (mn x2 y2) x3) (addO (mtB (mx x0 y0) x1 (mn x2 y2) (mn x3 (y1 - 1))) (addO (mtB (mx x0 (y2 + 1)) x1 x2 x3) (addO (mtB x0 x1 (mn x2 (y0 - 1)) x3) [] (mkA x0 x1 (mn x2 (y0 - 1)) x3)) (mkA (mx x0 (y2 + 1)) x1 x2 x3)) (mkA (mx x0 y0) x1 (mn x2 y2) (mn x3 (y1 - 1)))) (mkA (mx x0 y0) (mx x1 (y3 + 1)) (mn x2 y2) x3)
theorem boxes2 (w : World) (A B : Array Value) (t : Nat) : let W := (w.alloc (.cells A t (0, 0))).alloc (.cells B t (0, 0))
    W.heap[w.heap.size]? = some (.cells A t (0, 0)) ∧ W.heap[w.heap.size + 1]? = some (.cells B t (0, 0)) ∧ Below w.heap.size w W := by
  refine ⟨blk_alloc (blk_new w _) _, ?_, below_alloc (below_alloc (Below.refl _ _) _) _⟩
  have h := blk_new (w.alloc (.cells A t (0, 0))) (.cells B t (0, 0))
  rwa [size_alloc] at h
theorem litR1 (W : World) (base : Nat) (hb : base ≤ W.heap.size) (a b c d : Int) : Kd.R k40 40 (W.alloc (.cells #[.int .i64 a, .int .i64 b, .bool false, .bool false, .int .i64 c, .int .i64 d, .bool false, .bool false] 40 (0, 0))) base (fun k => W.heap.size ≤ k) (.slice (some ⟨W.heap.size, 0, none⟩) 1 1) [mkA a b c d] := by
  refine ⟨fun k hk => ?_, cellsA a b c d, ?_, ?_⟩
  · have : W.heap.size = k := by simpa [Value.ownBlock] using hk
    show W.heap.size ≤ k
    omega
  · have h2 := World.ownsRow_lit (base := base) (e := 40) (size := 8) W (cellsA a b c d).toArray 1 hb (by simp [maxLen]) (by simp [cellsA])
    have h3 : (W.alloc (.cells #[.int .i64 a, .int .i64 b, .bool false, .bool false, .int .i64 c, .int .i64 d, .bool false, .bool false] 40 (0, 0))).ownsRow base 40 8 (.slice (some ⟨W.heap.size, 0, none⟩) 1 1) 1 (cellsA a b c d) := by simpa [cellsA] using h2
    exact h3
  · exact Reps.snoc (Reps.none _ _) (k40_mkM _ _ _ (mkA a b c d)) rfl
theorem litR0 (W : World) (base : Nat) (hb : base ≤ W.heap.size) : Kd.R k40 40 (W.alloc (.cells #[] 40 (0, 0))) base (fun k => W.heap.size ≤ k) (.slice (some ⟨W.heap.size, 0, none⟩) 0 0) [] := by
  refine ⟨fun k hk => ?_, [], ?_, Reps.none _ _⟩
  · have : W.heap.size = k := by simpa [Value.ownBlock] using hk
    show W.heap.size ≤ k
    omega
  · have h2 := World.ownsRow_lit (base := base) (e := 40) (size := 8) W #[] 0 hb (by simp [maxLen]) (by simp)
    have h3 : (W.alloc (.cells #[] 40 (0, 0))).ownsRow base 40 8 (.slice (some ⟨W.heap.size, 0, none⟩) 0 0) 0 [] := by simpa using h2
    exact h3
theorem acc_new (w0 W : World) (hB : Below w0.heap.size w0 W) : Acc w0 W.heap.size (W.heap.size + 1) [] ((W.alloc (.cells #[] 40 (0, 0))).alloc (.cells #[.slice (some ⟨W.heap.size, 0, none⟩) 0 0] 45 (0, 0))) := by
  have hb := blk_new (W.alloc (.cells #[] 40 (0, 0))) (.cells #[.slice (some ⟨W.heap.size, 0, none⟩) 0 0] 45 (0, 0))
  rw [size_alloc] at hb
  exact ⟨_, hb, Kd.R_alloc (litR0 W _ hB.size) _, below_alloc (below_alloc hB _) _, hB.size, Nat.le_succ _⟩
theorem goodA_bds {a0 a1 a4 a5 : Int} (h : goodA a0 a1 a4 a5 = true) : (1 ≤ mn a0 a4 ∧ mn a0 a4 ≤ 1000) ∧ (1 ≤ mn a1 a5 ∧ mn a1 a5 ≤ 1000) ∧ (1 ≤ mx a0 a4 ∧ mx a0 a4 ≤ 1000) ∧ (1 ≤ mx a1 a5 ∧ mx a1 a5 ≤ 1000) := by
  unfold goodA at h
  rw [decide_eq_true_eq] at h
  unfold mn mx
  refine ⟨?_, ?_, ?_, ?_⟩ <;> split <;> omega

set_option maxRecDepth 100000 in
set_option maxHeartbeats 3200000 in
theorem iwithout_apart (a0 a1 : Int) (a2 a3 : Bool) (a4 a5 : Int) (a6 a7 : Bool) (b0 b1 : Int) (b2 b3 : Bool) (b4 b5 : Int) (b6 b7 : Bool) (w : World) (ha : goodA a0 a1 a4 a5 = true) (hb : goodA b0 b1 b4 b5 = true) (hmt : mtB (mx (mn a0 a4) (mn b0 b4)) (mx (mn a1 a5) (mn b1 b5)) (mn (mx a0 a4) (mx b0 b4)) (mn (mx a1 a5) (mx b1 b5)) = false) :
    Calls Try.prog 24 #[.agg #[.int .i64 a0, .int .i64 a1, .bool a2, .bool a3, .int .i64 a4, .int .i64 a5, .bool a6, .bool a7], .agg #[.int .i64 b0, .int .i64 b1, .bool b2, .bool b3, .int .i64 b4, .int .i64 b5, .bool b6, .bool b7]] w fun e w' => ∃ v, e = .returned v ∧ Kd.R k40 40 w' w.heap.size (fun _ => True) v [mkA (mn a0 a4) (mn a1 a5) (mx a0 a4) (mx a1 a5)] ∧ Below w.heap.size w w' := by
  have hu40 := Try.underlying40
  have hu45 := Try.underlying45
  have hu101 := Try.underlying101
  have HGD := Aside0.mk (And.intro ha hb)
  have HMT := Aside0.mk hmt
  clear hmt
  go_enter Try.func24, Try.ntmps24
  go_wp2_with (fail)
  obtain ⟨hA, hB, hBel⟩ := boxes2 w #[.int .i64 a0, .int .i64 a1, .bool a2, .bool a3, .int .i64 a4, .int .i64 a5, .bool a6, .bool a7] #[.int .i64 b0, .int .i64 b1, .bool b2, .bool b3, .int .i64 b4, .int .i64 b5, .bool b6, .bool b7] 40
  obtain ⟨W1, hW1⟩ : ∃ W1, W1 = (w.alloc (.cells #[.int .i64 a0, .int .i64 a1, .bool a2, .bool a3, .int .i64 a4, .int .i64 a5, .bool a6, .bool a7] 40 (0, 0))).alloc (.cells #[.int .i64 b0, .int .i64 b1, .bool b2, .bool b3, .int .i64 b4, .int .i64 b5, .bool b6, .bool b7] 40 (0, 0)) := ⟨_, rfl⟩
  rw [← hW1] at hA hB hBel ⊢
  clear hW1
  obtain ⟨gb, hgb⟩ : ∃ g, g = w.heap.size + 1 := ⟨_, rfl⟩
  rw [← hgb] at hB
  simp only [← hgb]
  have HGB := Aside0.mk hgb
  clear hgb
  obtain ⟨ga, hga⟩ : ∃ g, g = w.heap.size := ⟨_, rfl⟩
  have hA' : W1.heap[ga]? = some (.cells #[.int .i64 a0, .int .i64 a1, .bool a2, .bool a3, .int .i64 a4, .int .i64 a5, .bool a6, .bool a7] 40 (0, 0)) := by rw [hga]; exact hA
  simp only [← hga]
  have BA1 := Aside0.mk hA'
  have BB1 := Aside0.mk hB
  have HB1 := Aside0.mk hBel
  clear hA hA' hB hBel hga
  refine (igood_c a0 a1 a2 a3 a4 a5 a6 a7 W1).mono ?_
  rintro e w2 ⟨rfl, hb2⟩
  have BA2 := Aside0.mk (blk_below BA1.out hb2)
  have BB2 := Aside0.mk (blk_below BB1.out hb2)
  have HB2 := Aside0.mk (below_step HB1.out hb2)
  clear hb2 BA1 BB1 HB1
  rw [HGD.out.1]
  obtain ⟨q0_0, q0_1, q0_2, q0_3, q0_4, q0_5, q0_6, q0_7⟩ := bx8 BB2.out
  go_wp2_with (fail)
  clear q0_0 q0_1 q0_2 q0_3 q0_4 q0_5 q0_6 q0_7
  refine (igood_c b0 b1 b2 b3 b4 b5 b6 b7 _).mono ?_
  rintro e w3 ⟨rfl, hb3⟩
  have BA3 := Aside0.mk (blk_below BA2.out hb3)
  have BB3 := Aside0.mk (blk_below BB2.out hb3)
  have HB3 := Aside0.mk (below_step HB2.out hb3)
  clear hb3 BA2 BB2 HB2
  rw [HGD.out.2]
  obtain ⟨q0_0, q0_1, q0_2, q0_3, q0_4, q0_5, q0_6, q0_7⟩ := bx8 BA3.out
  go_wp2_with (fail)
  clear q0_0 q0_1 q0_2 q0_3 q0_4 q0_5 q0_6 q0_7
  refine (block_c a0 a1 a2 a3 a4 a5 a6 a7 _).mono ?_
  rintro e w4 ⟨rfl, hb4⟩
  have BA4 := Aside0.mk (blk_below BA3.out hb4)
  have BB4 := Aside0.mk (blk_below BB3.out hb4)
  have HB4 := Aside0.mk (below_step HB3.out hb4)
  clear hb4 BA3 BB3 HB3
  obtain ⟨x0, hx0⟩ : ∃ x, x = mn a0 a4 := ⟨_, rfl⟩
  obtain ⟨x1, hx1⟩ : ∃ x, x = mn a1 a5 := ⟨_, rfl⟩
  obtain ⟨x2, hx2⟩ : ∃ x, x = mx a0 a4 := ⟨_, rfl⟩
  obtain ⟨x3, hx3⟩ : ∃ x, x = mx a1 a5 := ⟨_, rfl⟩
  rw [← hx0, ← hx1, ← hx2, ← hx3]
  have HX := Aside0.mk (And.intro hx0 (And.intro hx1 (And.intro hx2 hx3)))
  clear hx0 hx1 hx2 hx3
  obtain ⟨q0_0, q0_1, q0_2, q0_3, q0_4, q0_5, q0_6, q0_7⟩ := bx8 (blk_alloc BB4.out (.cells #[.int .i64 x0, .int .i64 x1, .int .i64 x2, .int .i64 x3] 101 (0, 0)))
  go_wp2_with (fail)
  clear q0_0 q0_1 q0_2 q0_3 q0_4 q0_5 q0_6 q0_7
  have hbx := blk_new w4 (Obj.cells #[.int .i64 x0, .int .i64 x1, .int .i64 x2, .int .i64 x3] 101 (0, 0))
  obtain ⟨gx, hgx⟩ : ∃ g, g = w4.heap.size := ⟨_, rfl⟩
  rw [← hgx] at hbx ⊢
  have HGX := Aside0.mk (show w4.heap.size = gx from hgx.symm)
  clear hgx
  have BXz := Aside0.mk hbx
  clear hbx
  refine (block_c b0 b1 b2 b3 b4 b5 b6 b7 _).mono ?_
  rintro e w5 ⟨rfl, hb5⟩
  have BA5 := Aside0.mk (blk_below (blk_alloc BA4.out (.cells #[.int .i64 x0, .int .i64 x1, .int .i64 x2, .int .i64 x3] 101 (0, 0))) hb5)
  have BB5 := Aside0.mk (blk_below (blk_alloc BB4.out (.cells #[.int .i64 x0, .int .i64 x1, .int .i64 x2, .int .i64 x3] 101 (0, 0))) hb5)
  have HB5 := Aside0.mk (below_step (below_alloc HB4.out (.cells #[.int .i64 x0, .int .i64 x1, .int .i64 x2, .int .i64 x3] 101 (0, 0))) hb5)
  have BX5 := Aside0.mk (blk_below BXz.out hb5)
  clear hb5 BA4 BB4 HB4
  clear BXz
  obtain ⟨y0, hy0⟩ : ∃ x, x = mn b0 b4 := ⟨_, rfl⟩
  obtain ⟨y1, hy1⟩ : ∃ x, x = mn b1 b5 := ⟨_, rfl⟩
  obtain ⟨y2, hy2⟩ : ∃ x, x = mx b0 b4 := ⟨_, rfl⟩
  obtain ⟨y3, hy3⟩ : ∃ x, x = mx b1 b5 := ⟨_, rfl⟩
  rw [← hy0, ← hy1, ← hy2, ← hy3]
  have HY := Aside0.mk (And.intro hy0 (And.intro hy1 (And.intro hy2 hy3)))
  clear hy0 hy1 hy2 hy3
  obtain ⟨q0_0, q0_1, q0_2, q0_3, q0_4, q0_5, q0_6, q0_7⟩ := bx8 (blk_alloc BA5.out (.cells #[.int .i64 y0, .int .i64 y1, .int .i64 y2, .int .i64 y3] 101 (0, 0)))
  obtain ⟨q1_0, q1_1, q1_2, q1_3, q1_4, q1_5, q1_6, q1_7⟩ := bx8 (blk_alloc BB5.out (.cells #[.int .i64 y0, .int .i64 y1, .int .i64 y2, .int .i64 y3] 101 (0, 0)))
  go_wp2_with (fail)
  clear q0_0 q0_1 q0_2 q0_3 q0_4 q0_5 q0_6 q0_7 q1_0 q1_1 q1_2 q1_3 q1_4 q1_5 q1_6 q1_7
  have hby := blk_new w5 (Obj.cells #[.int .i64 y0, .int .i64 y1, .int .i64 y2, .int .i64 y3] 101 (0, 0))
  obtain ⟨gy, hgy⟩ : ∃ g, g = w5.heap.size := ⟨_, rfl⟩
  rw [← hgy] at hby ⊢
  have HGY := Aside0.mk (show w5.heap.size = gy from hgy.symm)
  clear hgy
  have BYz := Aside0.mk hby
  clear hby
  refine (imeet_in a0 a1 a2 a3 a4 a5 a6 a7 b0 b1 b2 b3 b4 b5 b6 b7 _ HGD.out.1 HGD.out.2).mono ?_
  rintro e w6 ⟨rfl, hb6⟩
  have BA6 := Aside0.mk (blk_below (blk_alloc BA5.out (.cells #[.int .i64 y0, .int .i64 y1, .int .i64 y2, .int .i64 y3] 101 (0, 0))) hb6)
  have BB6 := Aside0.mk (blk_below (blk_alloc BB5.out (.cells #[.int .i64 y0, .int .i64 y1, .int .i64 y2, .int .i64 y3] 101 (0, 0))) hb6)
  have BX6 := Aside0.mk (blk_below (blk_alloc BX5.out (.cells #[.int .i64 y0, .int .i64 y1, .int .i64 y2, .int .i64 y3] 101 (0, 0))) hb6)
  have HB6 := Aside0.mk (below_step (below_alloc HB5.out (.cells #[.int .i64 y0, .int .i64 y1, .int .i64 y2, .int .i64 y3] 101 (0, 0))) hb6)
  have BY6 := Aside0.mk (blk_below BYz.out hb6)
  clear hb6 BA5 BB5 BX5 HB5
  clear BYz
  rw [HMT.out]
  rw [mtV_no (by rw [HMT.out]; exact Bool.false_ne_true)]
  obtain ⟨q0_0, q0_1, q0_2, q0_3⟩ := bx4 (blk_alloc BX6.out (.cells #[.int .i64 0, .int .i64 0, .bool false, .bool false, .int .i64 0, .int .i64 0, .bool false, .bool false] 40 (0, 0)))
  go_wp2_with (fail)
  clear q0_0 q0_1 q0_2 q0_3
  refine (area_c x0 x1 x2 x3 _).mono ?_
  rintro e w7 ⟨rfl, hb7⟩
  have BA7 := Aside0.mk (blk_below (blk_alloc BA6.out (.cells #[.int .i64 0, .int .i64 0, .bool false, .bool false, .int .i64 0, .int .i64 0, .bool false, .bool false] 40 (0, 0))) hb7)
  have BB7 := Aside0.mk (blk_below (blk_alloc BB6.out (.cells #[.int .i64 0, .int .i64 0, .bool false, .bool false, .int .i64 0, .int .i64 0, .bool false, .bool false] 40 (0, 0))) hb7)
  have BX7 := Aside0.mk (blk_below (blk_alloc BX6.out (.cells #[.int .i64 0, .int .i64 0, .bool false, .bool false, .int .i64 0, .int .i64 0, .bool false, .bool false] 40 (0, 0))) hb7)
  have BY7 := Aside0.mk (blk_below (blk_alloc BY6.out (.cells #[.int .i64 0, .int .i64 0, .bool false, .bool false, .int .i64 0, .int .i64 0, .bool false, .bool false] 40 (0, 0))) hb7)
  have HB7 := Aside0.mk (below_step (below_alloc HB6.out (.cells #[.int .i64 0, .int .i64 0, .bool false, .bool false, .int .i64 0, .int .i64 0, .bool false, .bool false] 40 (0, 0))) hb7)
  clear hb7 BA6 BB6 BX6 BY6 HB6
  go_wp2
  go_ret
  obtain ⟨e0, e1, e2, e3⟩ := HX.out
  rw [← e0, ← e1, ← e2, ← e3]
  exact ⟨_, rfl, Kd.R_mono (litR1 w7 _ HB7.out.size x0 x1 x2 x3) (fun _ _ => trivial), below_alloc HB7.out _⟩
set_option maxRecDepth 100000 in
set_option maxHeartbeats 3200000 in
theorem iwithout_meet (a0 a1 : Int) (a2 a3 : Bool) (a4 a5 : Int) (a6 a7 : Bool) (b0 b1 : Int) (b2 b3 : Bool) (b4 b5 : Int) (b6 b7 : Bool) (w : World) (ha : goodA a0 a1 a4 a5 = true) (hb : goodA b0 b1 b4 b5 = true) (hmt : mtB (mx (mn a0 a4) (mn b0 b4)) (mx (mn a1 a5) (mn b1 b5)) (mn (mx a0 a4) (mx b0 b4)) (mn (mx a1 a5) (mx b1 b5)) = true) :
    Calls Try.prog 24 #[.agg #[.int .i64 a0, .int .i64 a1, .bool a2, .bool a3, .int .i64 a4, .int .i64 a5, .bool a6, .bool a7], .agg #[.int .i64 b0, .int .i64 b1, .bool b2, .bool b3, .int .i64 b4, .int .i64 b5, .bool b6, .bool b7]] w fun e w' => ∃ v, e = .returned v ∧ Kd.R k40 40 w' w.heap.size (fun _ => True) v (pieces (mn a0 a4) (mn a1 a5) (mx a0 a4) (mx a1 a5) (mn b0 b4) (mn b1 b5) (mx b0 b4) (mx b1 b5)) ∧ Below w.heap.size w w' := by
  have hu40 := Try.underlying40
  have hu45 := Try.underlying45
  have hu101 := Try.underlying101
  have HGD := Aside0.mk (And.intro ha hb)
  have HMT := Aside0.mk hmt
  clear hmt
  go_enter Try.func24, Try.ntmps24
  go_wp2_with (fail)
  obtain ⟨hA, hB, hBel⟩ := boxes2 w #[.int .i64 a0, .int .i64 a1, .bool a2, .bool a3, .int .i64 a4, .int .i64 a5, .bool a6, .bool a7] #[.int .i64 b0, .int .i64 b1, .bool b2, .bool b3, .int .i64 b4, .int .i64 b5, .bool b6, .bool b7] 40
  obtain ⟨W1, hW1⟩ : ∃ W1, W1 = (w.alloc (.cells #[.int .i64 a0, .int .i64 a1, .bool a2, .bool a3, .int .i64 a4, .int .i64 a5, .bool a6, .bool a7] 40 (0, 0))).alloc (.cells #[.int .i64 b0, .int .i64 b1, .bool b2, .bool b3, .int .i64 b4, .int .i64 b5, .bool b6, .bool b7] 40 (0, 0)) := ⟨_, rfl⟩
  rw [← hW1] at hA hB hBel ⊢
  clear hW1
  obtain ⟨gb, hgb⟩ : ∃ g, g = w.heap.size + 1 := ⟨_, rfl⟩
  rw [← hgb] at hB
  simp only [← hgb]
  have HGB := Aside0.mk hgb
  clear hgb
  obtain ⟨ga, hga⟩ : ∃ g, g = w.heap.size := ⟨_, rfl⟩
  have hA' : W1.heap[ga]? = some (.cells #[.int .i64 a0, .int .i64 a1, .bool a2, .bool a3, .int .i64 a4, .int .i64 a5, .bool a6, .bool a7] 40 (0, 0)) := by rw [hga]; exact hA
  simp only [← hga]
  have BA1 := Aside0.mk hA'
  have BB1 := Aside0.mk hB
  have HB1 := Aside0.mk hBel
  clear hA hA' hB hBel hga
  refine (igood_c a0 a1 a2 a3 a4 a5 a6 a7 W1).mono ?_
  rintro e w2 ⟨rfl, hb2⟩
  have BA2 := Aside0.mk (blk_below BA1.out hb2)
  have BB2 := Aside0.mk (blk_below BB1.out hb2)
  have HB2 := Aside0.mk (below_step HB1.out hb2)
  clear hb2 BA1 BB1 HB1
  rw [HGD.out.1]
  obtain ⟨q0_0, q0_1, q0_2, q0_3, q0_4, q0_5, q0_6, q0_7⟩ := bx8 BB2.out
  go_wp2_with (fail)
  clear q0_0 q0_1 q0_2 q0_3 q0_4 q0_5 q0_6 q0_7
  refine (igood_c b0 b1 b2 b3 b4 b5 b6 b7 _).mono ?_
  rintro e w3 ⟨rfl, hb3⟩
  have BA3 := Aside0.mk (blk_below BA2.out hb3)
  have BB3 := Aside0.mk (blk_below BB2.out hb3)
  have HB3 := Aside0.mk (below_step HB2.out hb3)
  clear hb3 BA2 BB2 HB2
  rw [HGD.out.2]
  obtain ⟨q0_0, q0_1, q0_2, q0_3, q0_4, q0_5, q0_6, q0_7⟩ := bx8 BA3.out
  go_wp2_with (fail)
  clear q0_0 q0_1 q0_2 q0_3 q0_4 q0_5 q0_6 q0_7
  refine (block_c a0 a1 a2 a3 a4 a5 a6 a7 _).mono ?_
  rintro e w4 ⟨rfl, hb4⟩
  have BA4 := Aside0.mk (blk_below BA3.out hb4)
  have BB4 := Aside0.mk (blk_below BB3.out hb4)
  have HB4 := Aside0.mk (below_step HB3.out hb4)
  clear hb4 BA3 BB3 HB3
  obtain ⟨x0, hx0⟩ : ∃ x, x = mn a0 a4 := ⟨_, rfl⟩
  obtain ⟨x1, hx1⟩ : ∃ x, x = mn a1 a5 := ⟨_, rfl⟩
  obtain ⟨x2, hx2⟩ : ∃ x, x = mx a0 a4 := ⟨_, rfl⟩
  obtain ⟨x3, hx3⟩ : ∃ x, x = mx a1 a5 := ⟨_, rfl⟩
  rw [← hx0, ← hx1, ← hx2, ← hx3]
  have HX := Aside0.mk (And.intro hx0 (And.intro hx1 (And.intro hx2 hx3)))
  clear hx0 hx1 hx2 hx3
  obtain ⟨q0_0, q0_1, q0_2, q0_3, q0_4, q0_5, q0_6, q0_7⟩ := bx8 (blk_alloc BB4.out (.cells #[.int .i64 x0, .int .i64 x1, .int .i64 x2, .int .i64 x3] 101 (0, 0)))
  go_wp2_with (fail)
  clear q0_0 q0_1 q0_2 q0_3 q0_4 q0_5 q0_6 q0_7
  have hbx := blk_new w4 (Obj.cells #[.int .i64 x0, .int .i64 x1, .int .i64 x2, .int .i64 x3] 101 (0, 0))
  obtain ⟨gx, hgx⟩ : ∃ g, g = w4.heap.size := ⟨_, rfl⟩
  rw [← hgx] at hbx ⊢
  have HGX := Aside0.mk (show w4.heap.size = gx from hgx.symm)
  clear hgx
  have BXz := Aside0.mk hbx
  clear hbx
  refine (block_c b0 b1 b2 b3 b4 b5 b6 b7 _).mono ?_
  rintro e w5 ⟨rfl, hb5⟩
  have BA5 := Aside0.mk (blk_below (blk_alloc BA4.out (.cells #[.int .i64 x0, .int .i64 x1, .int .i64 x2, .int .i64 x3] 101 (0, 0))) hb5)
  have BB5 := Aside0.mk (blk_below (blk_alloc BB4.out (.cells #[.int .i64 x0, .int .i64 x1, .int .i64 x2, .int .i64 x3] 101 (0, 0))) hb5)
  have HB5 := Aside0.mk (below_step (below_alloc HB4.out (.cells #[.int .i64 x0, .int .i64 x1, .int .i64 x2, .int .i64 x3] 101 (0, 0))) hb5)
  have BX5 := Aside0.mk (blk_below BXz.out hb5)
  clear hb5 BA4 BB4 HB4
  clear BXz
  obtain ⟨y0, hy0⟩ : ∃ x, x = mn b0 b4 := ⟨_, rfl⟩
  obtain ⟨y1, hy1⟩ : ∃ x, x = mn b1 b5 := ⟨_, rfl⟩
  obtain ⟨y2, hy2⟩ : ∃ x, x = mx b0 b4 := ⟨_, rfl⟩
  obtain ⟨y3, hy3⟩ : ∃ x, x = mx b1 b5 := ⟨_, rfl⟩
  rw [← hy0, ← hy1, ← hy2, ← hy3]
  have HY := Aside0.mk (And.intro hy0 (And.intro hy1 (And.intro hy2 hy3)))
  clear hy0 hy1 hy2 hy3
  obtain ⟨q0_0, q0_1, q0_2, q0_3, q0_4, q0_5, q0_6, q0_7⟩ := bx8 (blk_alloc BA5.out (.cells #[.int .i64 y0, .int .i64 y1, .int .i64 y2, .int .i64 y3] 101 (0, 0)))
  obtain ⟨q1_0, q1_1, q1_2, q1_3, q1_4, q1_5, q1_6, q1_7⟩ := bx8 (blk_alloc BB5.out (.cells #[.int .i64 y0, .int .i64 y1, .int .i64 y2, .int .i64 y3] 101 (0, 0)))
  go_wp2_with (fail)
  clear q0_0 q0_1 q0_2 q0_3 q0_4 q0_5 q0_6 q0_7 q1_0 q1_1 q1_2 q1_3 q1_4 q1_5 q1_6 q1_7
  have hby := blk_new w5 (Obj.cells #[.int .i64 y0, .int .i64 y1, .int .i64 y2, .int .i64 y3] 101 (0, 0))
  obtain ⟨gy, hgy⟩ : ∃ g, g = w5.heap.size := ⟨_, rfl⟩
  rw [← hgy] at hby ⊢
  have HGY := Aside0.mk (show w5.heap.size = gy from hgy.symm)
  clear hgy
  have BYz := Aside0.mk hby
  clear hby
  refine (imeet_in a0 a1 a2 a3 a4 a5 a6 a7 b0 b1 b2 b3 b4 b5 b6 b7 _ HGD.out.1 HGD.out.2).mono ?_
  rintro e w6 ⟨rfl, hb6⟩
  have BA6 := Aside0.mk (blk_below (blk_alloc BA5.out (.cells #[.int .i64 y0, .int .i64 y1, .int .i64 y2, .int .i64 y3] 101 (0, 0))) hb6)
  have BB6 := Aside0.mk (blk_below (blk_alloc BB5.out (.cells #[.int .i64 y0, .int .i64 y1, .int .i64 y2, .int .i64 y3] 101 (0, 0))) hb6)
  have BX6 := Aside0.mk (blk_below (blk_alloc BX5.out (.cells #[.int .i64 y0, .int .i64 y1, .int .i64 y2, .int .i64 y3] 101 (0, 0))) hb6)
  have HB6 := Aside0.mk (below_step (below_alloc HB5.out (.cells #[.int .i64 y0, .int .i64 y1, .int .i64 y2, .int .i64 y3] 101 (0, 0))) hb6)
  have BY6 := Aside0.mk (blk_below BYz.out hb6)
  clear hb6 BA5 BB5 BX5 HB5
  clear BYz
  rw [HMT.out]
  rw [mtV_yes HMT.out]
  have bds := goodA_bds HGD.out.2
  rw [← HY.out.1, ← HY.out.2.1, ← HY.out.2.2.1, ← HY.out.2.2.2] at bds
  obtain ⟨⟨u0, u1⟩, ⟨u2, u3⟩, ⟨u4, u5⟩, ⟨u6, u7⟩⟩ := bds
  obtain ⟨c1, hc1⟩ : ∃ x, (if y0 - 1 < x2 then y0 - 1 else x2) = x := ⟨_, rfl⟩
  have Hc1 := Aside0.mk hc1
  clear hc1
  obtain ⟨c2, hc2⟩ : ∃ x, (if x0 < y2 + 1 then y2 + 1 else x0) = x := ⟨_, rfl⟩
  have Hc2 := Aside0.mk hc2
  clear hc2
  obtain ⟨tp, htp⟩ : ∃ x, (if x0 < y0 then y0 else x0) = x := ⟨_, rfl⟩
  have Htp := Aside0.mk htp
  clear htp
  obtain ⟨lw, hlw⟩ : ∃ x, (if y2 < x2 then y2 else x2) = x := ⟨_, rfl⟩
  have Hlw := Aside0.mk hlw
  clear hlw
  obtain ⟨c3, hc3⟩ : ∃ x, (if y1 - 1 < x3 then y1 - 1 else x3) = x := ⟨_, rfl⟩
  have Hc3 := Aside0.mk hc3
  clear hc3
  obtain ⟨c4, hc4⟩ : ∃ x, (if x1 < y3 + 1 then y3 + 1 else x1) = x := ⟨_, rfl⟩
  have Hc4 := Aside0.mk hc4
  clear hc4
  obtain ⟨m0, hm0⟩ : ∃ x, x = mx (mn a0 a4) (mn b0 b4) := ⟨_, rfl⟩
  obtain ⟨m1, hm1⟩ : ∃ x, x = mx (mn a1 a5) (mn b1 b5) := ⟨_, rfl⟩
  obtain ⟨m2, hm2⟩ : ∃ x, x = mn (mx a0 a4) (mx b0 b4) := ⟨_, rfl⟩
  obtain ⟨m3, hm3⟩ : ∃ x, x = mn (mx a1 a5) (mx b1 b5) := ⟨_, rfl⟩
  rw [← hm0, ← hm1, ← hm2, ← hm3]
  clear hm0 hm1 hm2 hm3
  have hacc := acc_new w (w6.alloc (.cells #[.int .i64 m0, .int .i64 m1, .bool false, .bool false, .int .i64 m2, .int .i64 m3, .bool false, .bool false] 40 (0, 0))) (below_alloc HB6.out _)
  rw [size_alloc] at hacc
  have HACC := Aside0.mk hacc
  clear hacc
  obtain ⟨q0_0, q0_1, q0_2, q0_3⟩ := bx4 (blk_alloc (blk_alloc (blk_alloc BX6.out (.cells #[.int .i64 m0, .int .i64 m1, .bool false, .bool false, .int .i64 m2, .int .i64 m3, .bool false, .bool false] 40 (0, 0))) (.cells #[] 40 (0, 0))) (.cells #[.slice (some ⟨w6.heap.size + 1, 0, none⟩) 0 0] 45 (0, 0)))
  obtain ⟨q1_0, q1_1, q1_2, q1_3⟩ := bx4 (blk_alloc (blk_alloc (blk_alloc BY6.out (.cells #[.int .i64 m0, .int .i64 m1, .bool false, .bool false, .int .i64 m2, .int .i64 m3, .bool false, .bool false] 40 (0, 0))) (.cells #[] 40 (0, 0))) (.cells #[.slice (some ⟨w6.heap.size + 1, 0, none⟩) 0 0] 45 (0, 0)))
  have hc1 := Hc1.out
  go_wp2_with (fail)
  clear hc1 q0_0 q0_1 q0_2 q0_3 q1_0 q1_1 q1_2 q1_3
  have BXq := Aside0.mk (blk_alloc (blk_alloc (blk_alloc BX6.out (.cells #[.int .i64 m0, .int .i64 m1, .bool false, .bool false, .int .i64 m2, .int .i64 m3, .bool false, .bool false] 40 (0, 0))) (.cells #[] 40 (0, 0))) (.cells #[.slice (some ⟨w6.heap.size + 1, 0, none⟩) 0 0] 45 (0, 0)))
  have BYq := Aside0.mk (blk_alloc (blk_alloc (blk_alloc BY6.out (.cells #[.int .i64 m0, .int .i64 m1, .bool false, .bool false, .int .i64 m2, .int .i64 m3, .bool false, .bool false] 40 (0, 0))) (.cells #[] 40 (0, 0))) (.cells #[.slice (some ⟨w6.heap.size + 1, 0, none⟩) 0 0] 45 (0, 0)))
  have HLX := Aside0.mk (And.intro (blk_lt BX6.out) (blk_lt BY6.out))
  obtain ⟨W7, hW7⟩ : ∃ W, W = (((w6.alloc (.cells #[.int .i64 m0, .int .i64 m1, .bool false, .bool false, .int .i64 m2, .int .i64 m3, .bool false, .bool false] 40 (0, 0))).alloc (.cells #[] 40 (0, 0))).alloc (.cells #[.slice (some ⟨w6.heap.size + 1, 0, none⟩) 0 0] 45 (0, 0))) := ⟨_, rfl⟩
  have BX7 : Aside0 (W7.heap[gx]? = some (.cells #[.int .i64 x0, .int .i64 x1, .int .i64 x2, .int .i64 x3] 101 (0, 0))) := by rw [hW7]; exact BXq
  have BY7 : Aside0 (W7.heap[gy]? = some (.cells #[.int .i64 y0, .int .i64 y1, .int .i64 y2, .int .i64 y3] 101 (0, 0))) := by rw [hW7]; exact BYq
  have HA7 : Aside0 (Acc w (w6.heap.size + 1) (w6.heap.size + 1 + 1) [] W7) := by rw [hW7]; exact HACC
  rw [← hW7]
  clear hW7 HACC BXq BYq
  clear BA6 BB6 BX6 BY6 HB6 HGX HGY
  refine (blockOf_c x0 x1 c1 x3 _).mono ?_
  rintro e w8 ⟨rfl, hb8⟩
  have BX8 := Aside0.mk (blk_below BX7.out hb8)
  have BY8 := Aside0.mk (blk_below BY7.out hb8)
  have HA8 := Aside0.mk (Acc.below HA7.out hb8)
  clear hb8 BX7 BY7 HA7
  go_wp2_with (fail)
  have hl8 : ([] : List S40).length ≤ 10 := by simp
  refine (add_c w _ _ _ [] x0 x1 c1 x3 _ HA8.out hl8).mono ?_
  rintro e w9 ⟨⟨v9, rfl⟩, ha9, hk9⟩
  have BX9 := Aside0.mk (blk_kept BX8.out hk9 (fun hp => by have := HLX.out; omega))
  have BY9 := Aside0.mk (blk_kept BY8.out hk9 (fun hp => by have := HLX.out; omega))
  have HA9 := Aside0.mk ha9
  clear ha9 hk9 hl8 HA8 BX8 BY8
  obtain ⟨q0_0, q0_1, q0_2, q0_3⟩ := bx4 BX9.out
  obtain ⟨q1_0, q1_1, q1_2, q1_3⟩ := bx4 BY9.out
  have hc2 := Hc2.out
  go_wp2_with (fail)
  clear hc2 q0_0 q0_1 q0_2 q0_3 q1_0 q1_1 q1_2 q1_3
  refine (blockOf_c c2 x1 x2 x3 _).mono ?_
  rintro e w10 ⟨rfl, hb10⟩
  have BX10 := Aside0.mk (blk_below BX9.out hb10)
  have BY10 := Aside0.mk (blk_below BY9.out hb10)
  have HA10 := Aside0.mk (Acc.below HA9.out hb10)
  clear hb10 BX9 BY9 HA9
  go_wp2_with (fail)
  have hl10 : ((addO (mtB x0 x1 c1 x3) [] (mkA x0 x1 c1 x3)) : List S40).length ≤ 10 := by exact Nat.le_trans (addO_len _ _ _ (by simp : ([] : List S40).length ≤ 0)) (by omega)
  refine (add_c w _ _ _ (addO (mtB x0 x1 c1 x3) [] (mkA x0 x1 c1 x3)) c2 x1 x2 x3 _ HA10.out hl10).mono ?_
  rintro e w11 ⟨⟨v11, rfl⟩, ha11, hk11⟩
  have BX11 := Aside0.mk (blk_kept BX10.out hk11 (fun hp => by have := HLX.out; omega))
  have BY11 := Aside0.mk (blk_kept BY10.out hk11 (fun hp => by have := HLX.out; omega))
  have HA11 := Aside0.mk ha11
  clear ha11 hk11 hl10 HA10 BX10 BY10
  obtain ⟨q0_0, q0_1, q0_2, q0_3⟩ := bx4 BX11.out
  obtain ⟨q1_0, q1_1, q1_2, q1_3⟩ := bx4 BY11.out
  have htp := Htp.out
  have hlw := Hlw.out
  have hc3 := Hc3.out
  go_wp2_with (fail)
  clear htp hlw hc3 q0_0 q0_1 q0_2 q0_3 q1_0 q1_1 q1_2 q1_3
  refine (blockOf_c tp x1 lw c3 _).mono ?_
  rintro e w12 ⟨rfl, hb12⟩
  have BX12 := Aside0.mk (blk_below BX11.out hb12)
  have BY12 := Aside0.mk (blk_below BY11.out hb12)
  have HA12 := Aside0.mk (Acc.below HA11.out hb12)
  clear hb12 BX11 BY11 HA11
  go_wp2_with (fail)
  have hl12 : ((addO (mtB c2 x1 x2 x3) (addO (mtB x0 x1 c1 x3) [] (mkA x0 x1 c1 x3)) (mkA c2 x1 x2 x3)) : List S40).length ≤ 10 := by exact Nat.le_trans (addO_len _ _ _ (addO_len _ _ _ (by simp : ([] : List S40).length ≤ 0))) (by omega)
  refine (add_c w _ _ _ (addO (mtB c2 x1 x2 x3) (addO (mtB x0 x1 c1 x3) [] (mkA x0 x1 c1 x3)) (mkA c2 x1 x2 x3)) tp x1 lw c3 _ HA12.out hl12).mono ?_
  rintro e w13 ⟨⟨v13, rfl⟩, ha13, hk13⟩
  have BX13 := Aside0.mk (blk_kept BX12.out hk13 (fun hp => by have := HLX.out; omega))
  have BY13 := Aside0.mk (blk_kept BY12.out hk13 (fun hp => by have := HLX.out; omega))
  have HA13 := Aside0.mk ha13
  clear ha13 hk13 hl12 HA12 BX12 BY12
  obtain ⟨q0_0, q0_1, q0_2, q0_3⟩ := bx4 BX13.out
  obtain ⟨q1_0, q1_1, q1_2, q1_3⟩ := bx4 BY13.out
  have hc4 := Hc4.out
  go_wp2_with (fail)
  clear hc4 q0_0 q0_1 q0_2 q0_3 q1_0 q1_1 q1_2 q1_3
  refine (blockOf_c tp c4 lw x3 _).mono ?_
  rintro e w14 ⟨rfl, hb14⟩
  have BX14 := Aside0.mk (blk_below BX13.out hb14)
  have BY14 := Aside0.mk (blk_below BY13.out hb14)
  have HA14 := Aside0.mk (Acc.below HA13.out hb14)
  clear hb14 BX13 BY13 HA13
  go_wp2_with (fail)
  have hl14 : ((addO (mtB tp x1 lw c3) (addO (mtB c2 x1 x2 x3) (addO (mtB x0 x1 c1 x3) [] (mkA x0 x1 c1 x3)) (mkA c2 x1 x2 x3)) (mkA tp x1 lw c3)) : List S40).length ≤ 10 := by exact Nat.le_trans (addO_len _ _ _ (addO_len _ _ _ (addO_len _ _ _ (by simp : ([] : List S40).length ≤ 0)))) (by omega)
  refine (add_c w _ _ _ (addO (mtB tp x1 lw c3) (addO (mtB c2 x1 x2 x3) (addO (mtB x0 x1 c1 x3) [] (mkA x0 x1 c1 x3)) (mkA c2 x1 x2 x3)) (mkA tp x1 lw c3)) tp c4 lw x3 _ HA14.out hl14).mono ?_
  rintro e w15 ⟨⟨v15, rfl⟩, ha15, hk15⟩
  have BX15 := Aside0.mk (blk_kept BX14.out hk15 (fun hp => by have := HLX.out; omega))
  have BY15 := Aside0.mk (blk_kept BY14.out hk15 (fun hp => by have := HLX.out; omega))
  have HA15 := Aside0.mk ha15
  clear ha15 hk15 hl14 HA14 BX14 BY14
  obtain ⟨v9, hv9, hr9, hb9, h19, h29⟩ := HA15.out
  obtain ⟨A9, cp9, rfl⟩ := Kd.R_slice hr9
  have hc9 : w15.cell? ⟨(w6.heap.size + 1 + 1), 0, none⟩ = some (.slice A9 ((addO (mtB tp c4 lw x3) (addO (mtB tp x1 lw c3) (addO (mtB c2 x1 x2 x3) (addO (mtB x0 x1 c1 x3) [] (mkA x0 x1 c1 x3)) (mkA c2 x1 x2 x3)) (mkA tp x1 lw c3)) (mkA tp c4 lw x3)) : List S40).length cp9) := (blk_cell hv9 0).trans rfl
  have HR9 := Aside0.mk hr9
  have HBB9 := Aside0.mk hb9
  clear hr9 hb9 hv9 h19 h29
  have HEQ : Aside0 ((addO (mtB tp c4 lw x3) (addO (mtB tp x1 lw c3) (addO (mtB c2 x1 x2 x3) (addO (mtB x0 x1 c1 x3) [] (mkA x0 x1 c1 x3)) (mkA c2 x1 x2 x3)) (mkA tp x1 lw c3)) (mkA tp c4 lw x3)) = pieces (mn a0 a4) (mn a1 a5) (mx a0 a4) (mx a1 a5) (mn b0 b4) (mn b1 b5) (mx b0 b4) (mx b1 b5)) := by
    refine ⟨?_⟩
    obtain ⟨e0, e1, e2, e3⟩ := HX.out
    obtain ⟨f0, f1, f2, f3⟩ := HY.out
    rw [← Hc1.out, ← Hc2.out, ← Htp.out, ← Hlw.out, ← Hc3.out, ← Hc4.out, ← e0, ← e1, ← e2, ← e3, ← f0, ← f1, ← f2, ← f3]
    rfl
  go_wp2
  go_ret
  rw [← HEQ.out]
  exact ⟨_, rfl, Kd.R_mono HR9.out (fun _ _ => trivial), HBB9.out⟩
end Go.Proofs.Ytppenjoobcppjaa.PAr
