/- spec.Without: the walk. -/
import Derived.Test.YtppenjoobcppjaaArImpl
import Derived.Test.YtppenjoobcppjaaArSMeet
namespace Go.Proofs.Ytppenjoobcppjaa.PAr
open Go.RowKit Go.Proofs.YtppenjoobcppjaaW.PrintWords Go.Proofs.YtppenjoobcppjaaW.PrintLast Go.Proofs.YtppenjoobcppjaaW.PrintMore
set_option linter.unusedVariables false
set_option linter.unusedSimpArgs false

theorem goodA_normal {a0 a1 a4 a5 : Int} (h : goodA a0 a1 a4 a5 = true) : goodA (mn a0 a4) (mn a1 a5) (mx a0 a4) (mx a1 a5) = true := by
  unfold goodA at h ⊢
  rw [decide_eq_true_eq] at h ⊢
  unfold mn mx
  split <;> split <;> split <;> split <;> omega
theorem mn_normal (a b : Int) : mn (mn a b) (mx a b) = mn a b := by
  unfold mn mx
  repeat' split
  all_goals omega
theorem mx_normal (a b : Int) : mx (mn a b) (mx a b) = mx a b := by
  unfold mn mx
  repeat' split
  all_goals omega
theorem mx_bd {p q : Int} (h : 1 ≤ p ∧ p ≤ 1000) (k : 1 ≤ q ∧ q ≤ 1000) : 1 ≤ mx p q ∧ mx p q ≤ 1000 := by unfold mx; split <;> omega
theorem mn_bd {p q : Int} (h : 1 ≤ p ∧ p ≤ 1000) (k : 1 ≤ q ∧ q ≤ 1000) : 1 ≤ mn p q ∧ mn p q ≤ 1000 := by unfold mn; split <;> omega
def piecesS (x0 x1 x2 x3 m0 m1 m2 m3 : Int) : List S40 :=
  addO (decide (m3 < x3)) (addO (decide (x1 < m1)) (addO (decide (m2 < x2)) (addO (decide (x0 < m0)) [] (mkA x0 x1 (m0 - 1) x3)) (mkA (m2 + 1) x1 x2 x3)) (mkA m0 x1 m2 (m1 - 1))) (mkA m0 (m3 + 1) m2 x3)
def SAcc (w : World) (h0 g2 g5 : Nat) (C M : Array Value) (L : List S40) (v : Value) (W : World) : Prop :=
  Kd.R k40 40 W w.heap.size (fun k => h0 ≤ k) v L ∧ Below w.heap.size w W ∧ W.heap[g2]? = some (.cells C 40 (0, 0)) ∧ W.heap[g5]? = some (.cells M 40 (0, 0)) ∧ h0 ≤ W.heap.size ∧ g2 < h0 ∧ g5 < h0 ∧ w.heap.size ≤ h0
theorem sacc_no {w W : World} {h0 g2 g5 : Nat} {C M : Array Value} {L : List S40} {v : Value} (h : SAcc w h0 g2 g5 C M L v W) {ok : Bool} (hk : ok = false) (p : S40) : SAcc w h0 g2 g5 C M (addO ok L p) v W := by
  subst hk; exact h
theorem sacc_yes {w W W1 : World} {h0 g2 g5 : Nat} {C M : Array Value} {L : List S40} {v v1 : Value} {p : S40} {ok : Bool} (hk : ok = true) (h : SAcc w h0 g2 g5 C M L v W) (ho : Kd.R k40 40 W1 w.heap.size (fun k => h0 ≤ k) v1 (L ++ [p])) (hb : Below w.heap.size w W1) (hg : W.grownBy W1 v.ownBlock) : SAcc w h0 g2 g5 C M (addO ok L p) v1 W1 := by
  subst hk
  obtain ⟨h1, h2, h3, h4, h5, h6, h7, h8⟩ := h
  refine ⟨ho, hb, blk_grown h3 hg (fun e => ?_), blk_grown h4 hg (fun e => ?_), Nat.le_trans h5 hg.size, h6, h7, h8⟩
  · have := h1.1 g2 e.symm; omega
  · have := h1.1 g5 e.symm; omega
theorem sacc_below {w W W1 : World} {h0 g2 g5 : Nat} {C M : Array Value} {L : List S40} {v : Value} (h : SAcc w h0 g2 g5 C M L v W) (hb : Below W.heap.size W W1) : SAcc w h0 g2 g5 C M L v W1 := by
  obtain ⟨h1, h2, h3, h4, h5, h6, h7, h8⟩ := h
  exact ⟨Kd.R_below h1 hb, below_step h2 hb, blk_below h3 hb, blk_below h4 hb, Nat.le_trans h5 hb.size, h6, h7, h8⟩

set_option maxRecDepth 100000 in
set_option maxHeartbeats 3200000 in
theorem swithout_apart (a0 a1 : Int) (a2 a3 : Bool) (a4 a5 : Int) (a6 a7 : Bool) (b0 b1 : Int) (b2 b3 : Bool) (b4 b5 : Int) (b6 b7 : Bool) (w : World) (ha : goodA a0 a1 a4 a5 = true) (hb : goodA b0 b1 b4 b5 = true) (hmt : mtB (mx (mn a0 a4) (mn b0 b4)) (mx (mn a1 a5) (mn b1 b5)) (mn (mx a0 a4) (mx b0 b4)) (mn (mx a1 a5) (mx b1 b5)) = false) :
    Calls Try.prog 26 #[.agg #[.int .i64 a0, .int .i64 a1, .bool a2, .bool a3, .int .i64 a4, .int .i64 a5, .bool a6, .bool a7], .agg #[.int .i64 b0, .int .i64 b1, .bool b2, .bool b3, .int .i64 b4, .int .i64 b5, .bool b6, .bool b7]] w fun e w' => ∃ v, e = .returned v ∧ Kd.R k40 40 w' w.heap.size (fun _ => True) v [mkA (mn a0 a4) (mn a1 a5) (mx a0 a4) (mx a1 a5)] ∧ Below w.heap.size w w' := by
  have hu40 := Try.underlying40
  have hu45 := Try.underlying45
  obtain ⟨n2, n3, n6, n7, hn⟩ := snormal_eq a0 a1 a2 a3 a4 a5 a6 a7
  have HN := Aside0.mk hn
  have HGD := Aside0.mk (And.intro ha hb)
  have HMT := Aside0.mk hmt
  clear hmt hn
  go_enter Try.func26, Try.ntmps26
  go_wp2_with (fail)
  obtain ⟨hA, hB, hBel⟩ := boxes2 w #[.int .i64 a0, .int .i64 a1, .bool a2, .bool a3, .int .i64 a4, .int .i64 a5, .bool a6, .bool a7] #[.int .i64 b0, .int .i64 b1, .bool b2, .bool b3, .int .i64 b4, .int .i64 b5, .bool b6, .bool b7] 40
  obtain ⟨W1, hW1⟩ : ∃ W1, W1 = (w.alloc (.cells #[.int .i64 a0, .int .i64 a1, .bool a2, .bool a3, .int .i64 a4, .int .i64 a5, .bool a6, .bool a7] 40 (0, 0))).alloc (.cells #[.int .i64 b0, .int .i64 b1, .bool b2, .bool b3, .int .i64 b4, .int .i64 b5, .bool b6, .bool b7] 40 (0, 0)) := ⟨_, rfl⟩
  rw [← hW1] at hA hB hBel ⊢
  clear hW1
  obtain ⟨gb, hgb⟩ : ∃ g, g = w.heap.size + 1 := ⟨_, rfl⟩
  rw [← hgb] at hB
  simp only [← hgb]
  obtain ⟨ga, hga⟩ : ∃ g, g = w.heap.size := ⟨_, rfl⟩
  have hA' : W1.heap[ga]? = some (.cells #[.int .i64 a0, .int .i64 a1, .bool a2, .bool a3, .int .i64 a4, .int .i64 a5, .bool a6, .bool a7] 40 (0, 0)) := by rw [hga]; exact hA
  simp only [← hga]
  have HG := Aside0.mk (show w.heap.size ≤ ga ∧ w.heap.size ≤ gb ∧ ga ≠ gb by omega)
  have BA1 := Aside0.mk hA'
  have BB1 := Aside0.mk hB
  have HB1 := Aside0.mk hBel
  clear hA hA' hB hBel hga hgb
  refine (sgood_c a0 a1 a2 a3 a4 a5 a6 a7 W1).mono ?_
  rintro e w2 ⟨rfl, hb2⟩
  have BA2 := Aside0.mk (blk_below BA1.out hb2)
  have BB2 := Aside0.mk (blk_below BB1.out hb2)
  have HB2 := Aside0.mk (below_step HB1.out hb2)
  clear hb2 BA1 BB1 HB1
  rw [HGD.out.1]
  obtain ⟨q0_0, q0_1, q0_2, q0_3, q0_4, q0_5, q0_6, q0_7⟩ := bx8 BB2.out
  go_wp2_with (fail)
  clear q0_0 q0_1 q0_2 q0_3 q0_4 q0_5 q0_6 q0_7
  refine (sgood_c b0 b1 b2 b3 b4 b5 b6 b7 _).mono ?_
  rintro e w3 ⟨rfl, hb3⟩
  have BA3 := Aside0.mk (blk_below BA2.out hb3)
  have BB3 := Aside0.mk (blk_below BB2.out hb3)
  have HB3 := Aside0.mk (below_step HB2.out hb3)
  clear hb3 BA2 BB2 HB2
  rw [HGD.out.2]
  obtain ⟨q0_0, q0_1, q0_2, q0_3, q0_4, q0_5, q0_6, q0_7⟩ := bx8 BA3.out
  go_wp2_with (fail)
  clear q0_0 q0_1 q0_2 q0_3 q0_4 q0_5 q0_6 q0_7
  refine (snormal_c a0 a1 a2 a3 a4 a5 a6 a7 n2 n3 n6 n7 _ HN.out).mono ?_
  rintro e w4 ⟨rfl, hb4⟩
  have BA4 := Aside0.mk (blk_below BA3.out hb4)
  have BB4 := Aside0.mk (blk_below BB3.out hb4)
  have HB4 := Aside0.mk (below_step HB3.out hb4)
  clear hb4 BA3 BB3 HB3
  obtain ⟨x0, hx0⟩ : ∃ x, x = mn a0 a4 := ⟨_, rfl⟩
  obtain ⟨x1, hx1⟩ : ∃ x, x = mn a1 a5 := ⟨_, rfl⟩
  obtain ⟨x2, hx2⟩ : ∃ x, x = mx a0 a4 := ⟨_, rfl⟩
  obtain ⟨x3, hx3⟩ : ∃ x, x = mx a1 a5 := ⟨_, rfl⟩
  rw [← hx0, ← hx1, ← hx2, ← hx3]
  have HX := Aside0.mk (And.intro hx0 (And.intro hx1 (And.intro hx2 hx3)))
  clear hx0 hx1 hx2 hx3
  have BBz := Aside0.mk (set8_far BB4.out HG.out.2.2.symm (.int .i64 x0) (.int .i64 x1) (.bool n2) (.bool n3) (.int .i64 x2) (.int .i64 x3) (.bool n6) (.bool n7))
  have BAz := Aside0.mk (put8 BA4.out (.int .i64 x0) (.int .i64 x1) (.bool n2) (.bool n3) (.int .i64 x2) (.int .i64 x3) (.bool n6) (.bool n7))
  obtain ⟨q0, q1, q2, q3, q4, q5, q6, q7⟩ := bx8 BA4.out
  obtain ⟨f0, f1, f2, f3, f4, f5, f6, f7⟩ := frozen8 BA4.out
  have hbb := BBz.out
  unfold set8 at hbb
  obtain ⟨s0, s1, s2, s3, s4, s5, s6, s7⟩ := bx8 hbb
  obtain ⟨t0, t1, t2, t3, t4, t5, t6, t7⟩ := bx8 BAz.out
  have hne := HG.out.2.2
  go_wp2_with (fail)
  clear q0 q1 q2 q3 q4 q5 q6 q7 f0 f1 f2 f3 f4 f5 f6 f7 s0 s1 s2 s3 s4 s5 s6 s7 t0 t1 t2 t3 t4 t5 t6 t7 hne
  have HBz := Aside0.mk (below8 HB4.out HG.out.1 (.int .i64 x0) (.int .i64 x1) (.bool n2) (.bool n3) (.int .i64 x2) (.int .i64 x3) (.bool n6) (.bool n7))
  obtain ⟨W5, hW5⟩ : ∃ W, W = ((((((((w4.setCell ⟨ga, 0, none⟩ (.int .i64 x0)).setCell ⟨ga, 1, none⟩ (.int .i64 x1)).setCell ⟨ga, 2, none⟩ (.bool n2)).setCell ⟨ga, 3, none⟩ (.bool n3)).setCell ⟨ga, 4, none⟩ (.int .i64 x2)).setCell ⟨ga, 5, none⟩ (.int .i64 x3)).setCell ⟨ga, 6, none⟩ (.bool n6)).setCell ⟨ga, 7, none⟩ (.bool n7)) := ⟨_, rfl⟩
  have BA5 : Aside0 (W5.heap[ga]? = some (.cells #[.int .i64 x0, .int .i64 x1, .bool n2, .bool n3, .int .i64 x2, .int .i64 x3, .bool n6, .bool n7] 40 (0, 0))) := by rw [hW5]; exact BAz
  have BB5 : Aside0 (W5.heap[gb]? = some (.cells #[.int .i64 b0, .int .i64 b1, .bool b2, .bool b3, .int .i64 b4, .int .i64 b5, .bool b6, .bool b7] 40 (0, 0))) := by rw [hW5]; exact ⟨hbb⟩
  have HB5 : Aside0 (Below w.heap.size w W5) := by rw [hW5]; exact HBz
  rw [← hW5]
  clear hW5 hbb BBz BAz HBz BA4 BB4 HB4
  have hgx : goodA x0 x1 x2 x3 = true := by rw [HX.out.1, HX.out.2.1, HX.out.2.2.1, HX.out.2.2.2]; exact goodA_normal HGD.out.1
  refine (smeet_in x0 x1 n2 n3 x2 x3 n6 n7 b0 b1 b2 b3 b4 b5 b6 b7 _ hgx HGD.out.2).mono ?_
  rintro e w6 ⟨rfl, hb6⟩
  have BA6 := Aside0.mk (blk_below BA5.out hb6)
  have BB6 := Aside0.mk (blk_below BB5.out hb6)
  have HB6 := Aside0.mk (below_step HB5.out hb6)
  clear hb6 BA5 BB5 HB5
  clear hgx
  have HXN : Aside0 (mn x0 x2 = x0 ∧ mn x1 x3 = x1 ∧ mx x0 x2 = x2 ∧ mx x1 x3 = x3) := ⟨by rw [HX.out.1, HX.out.2.1, HX.out.2.2.1, HX.out.2.2.2]; exact ⟨mn_normal _ _, mn_normal _ _, mx_normal _ _, mx_normal _ _⟩⟩
  rw [HXN.out.1, HXN.out.2.1, HXN.out.2.2.1, HXN.out.2.2.2]
  have hmt : mtB (mx x0 (mn b0 b4)) (mx x1 (mn b1 b5)) (mn x2 (mx b0 b4)) (mn x3 (mx b1 b5)) = false := by rw [HX.out.1, HX.out.2.1, HX.out.2.2.1, HX.out.2.2.2]; exact HMT.out
  rw [hmt]
  rw [mtV_no (by rw [hmt]; exact Bool.false_ne_true)]
  clear hmt
  obtain ⟨q0, q1, q2, q3, q4, q5, q6, q7⟩ := bx8 (blk_alloc BA6.out (.cells #[.int .i64 0, .int .i64 0, .bool false, .bool false, .int .i64 0, .int .i64 0, .bool false, .bool false] 40 (0, 0)))
  go_wp2_with (fail)
  clear q0 q1 q2 q3 q4 q5 q6 q7
  refine (sarea_c x0 x1 x2 x3 _).mono ?_
  rintro e w7 ⟨rfl, hb7⟩
  have BA7 := Aside0.mk (blk_below (blk_alloc BA6.out (.cells #[.int .i64 0, .int .i64 0, .bool false, .bool false, .int .i64 0, .int .i64 0, .bool false, .bool false] 40 (0, 0))) hb7)
  have BB7 := Aside0.mk (blk_below (blk_alloc BB6.out (.cells #[.int .i64 0, .int .i64 0, .bool false, .bool false, .int .i64 0, .int .i64 0, .bool false, .bool false] 40 (0, 0))) hb7)
  have HB7 := Aside0.mk (below_step (below_alloc HB6.out (.cells #[.int .i64 0, .int .i64 0, .bool false, .bool false, .int .i64 0, .int .i64 0, .bool false, .bool false] 40 (0, 0))) hb7)
  clear hb7 BA6 BB6 HB6
  go_wp2
  go_ret
  obtain ⟨e0, e1, e2, e3⟩ := HX.out
  rw [← e0, ← e1, ← e2, ← e3]
  exact ⟨_, rfl, Kd.R_mono (litR1 w7 _ HB7.out.size x0 x1 x2 x3) (fun _ _ => trivial), below_alloc HB7.out _⟩
set_option maxRecDepth 100000 in
set_option maxHeartbeats 3200000 in
theorem swithout_meet (a0 a1 : Int) (a2 a3 : Bool) (a4 a5 : Int) (a6 a7 : Bool) (b0 b1 : Int) (b2 b3 : Bool) (b4 b5 : Int) (b6 b7 : Bool) (w : World) (ha : goodA a0 a1 a4 a5 = true) (hb : goodA b0 b1 b4 b5 = true) (hmt : mtB (mx (mn a0 a4) (mn b0 b4)) (mx (mn a1 a5) (mn b1 b5)) (mn (mx a0 a4) (mx b0 b4)) (mn (mx a1 a5) (mx b1 b5)) = true) :
    Calls Try.prog 26 #[.agg #[.int .i64 a0, .int .i64 a1, .bool a2, .bool a3, .int .i64 a4, .int .i64 a5, .bool a6, .bool a7], .agg #[.int .i64 b0, .int .i64 b1, .bool b2, .bool b3, .int .i64 b4, .int .i64 b5, .bool b6, .bool b7]] w fun e w' => ∃ v, e = .returned v ∧ Kd.R k40 40 w' w.heap.size (fun _ => True) v (piecesS (mn a0 a4) (mn a1 a5) (mx a0 a4) (mx a1 a5) (mx (mn a0 a4) (mn b0 b4)) (mx (mn a1 a5) (mn b1 b5)) (mn (mx a0 a4) (mx b0 b4)) (mn (mx a1 a5) (mx b1 b5))) ∧ Below w.heap.size w w' := by
  have hu40 := Try.underlying40
  have hu45 := Try.underlying45
  obtain ⟨n2, n3, n6, n7, hn⟩ := snormal_eq a0 a1 a2 a3 a4 a5 a6 a7
  have HN := Aside0.mk hn
  have HGD := Aside0.mk (And.intro ha hb)
  have HMT := Aside0.mk hmt
  clear hmt hn
  go_enter Try.func26, Try.ntmps26
  go_wp2_with (fail)
  obtain ⟨hA, hB, hBel⟩ := boxes2 w #[.int .i64 a0, .int .i64 a1, .bool a2, .bool a3, .int .i64 a4, .int .i64 a5, .bool a6, .bool a7] #[.int .i64 b0, .int .i64 b1, .bool b2, .bool b3, .int .i64 b4, .int .i64 b5, .bool b6, .bool b7] 40
  obtain ⟨W1, hW1⟩ : ∃ W1, W1 = (w.alloc (.cells #[.int .i64 a0, .int .i64 a1, .bool a2, .bool a3, .int .i64 a4, .int .i64 a5, .bool a6, .bool a7] 40 (0, 0))).alloc (.cells #[.int .i64 b0, .int .i64 b1, .bool b2, .bool b3, .int .i64 b4, .int .i64 b5, .bool b6, .bool b7] 40 (0, 0)) := ⟨_, rfl⟩
  rw [← hW1] at hA hB hBel ⊢
  clear hW1
  obtain ⟨gb, hgb⟩ : ∃ g, g = w.heap.size + 1 := ⟨_, rfl⟩
  rw [← hgb] at hB
  simp only [← hgb]
  obtain ⟨ga, hga⟩ : ∃ g, g = w.heap.size := ⟨_, rfl⟩
  have hA' : W1.heap[ga]? = some (.cells #[.int .i64 a0, .int .i64 a1, .bool a2, .bool a3, .int .i64 a4, .int .i64 a5, .bool a6, .bool a7] 40 (0, 0)) := by rw [hga]; exact hA
  simp only [← hga]
  have HG := Aside0.mk (show w.heap.size ≤ ga ∧ w.heap.size ≤ gb ∧ ga ≠ gb by omega)
  have BA1 := Aside0.mk hA'
  have BB1 := Aside0.mk hB
  have HB1 := Aside0.mk hBel
  clear hA hA' hB hBel hga hgb
  refine (sgood_c a0 a1 a2 a3 a4 a5 a6 a7 W1).mono ?_
  rintro e w2 ⟨rfl, hb2⟩
  have BA2 := Aside0.mk (blk_below BA1.out hb2)
  have BB2 := Aside0.mk (blk_below BB1.out hb2)
  have HB2 := Aside0.mk (below_step HB1.out hb2)
  clear hb2 BA1 BB1 HB1
  rw [HGD.out.1]
  obtain ⟨q0_0, q0_1, q0_2, q0_3, q0_4, q0_5, q0_6, q0_7⟩ := bx8 BB2.out
  go_wp2_with (fail)
  clear q0_0 q0_1 q0_2 q0_3 q0_4 q0_5 q0_6 q0_7
  refine (sgood_c b0 b1 b2 b3 b4 b5 b6 b7 _).mono ?_
  rintro e w3 ⟨rfl, hb3⟩
  have BA3 := Aside0.mk (blk_below BA2.out hb3)
  have BB3 := Aside0.mk (blk_below BB2.out hb3)
  have HB3 := Aside0.mk (below_step HB2.out hb3)
  clear hb3 BA2 BB2 HB2
  rw [HGD.out.2]
  obtain ⟨q0_0, q0_1, q0_2, q0_3, q0_4, q0_5, q0_6, q0_7⟩ := bx8 BA3.out
  go_wp2_with (fail)
  clear q0_0 q0_1 q0_2 q0_3 q0_4 q0_5 q0_6 q0_7
  refine (snormal_c a0 a1 a2 a3 a4 a5 a6 a7 n2 n3 n6 n7 _ HN.out).mono ?_
  rintro e w4 ⟨rfl, hb4⟩
  have BA4 := Aside0.mk (blk_below BA3.out hb4)
  have BB4 := Aside0.mk (blk_below BB3.out hb4)
  have HB4 := Aside0.mk (below_step HB3.out hb4)
  clear hb4 BA3 BB3 HB3
  obtain ⟨x0, hx0⟩ : ∃ x, x = mn a0 a4 := ⟨_, rfl⟩
  obtain ⟨x1, hx1⟩ : ∃ x, x = mn a1 a5 := ⟨_, rfl⟩
  obtain ⟨x2, hx2⟩ : ∃ x, x = mx a0 a4 := ⟨_, rfl⟩
  obtain ⟨x3, hx3⟩ : ∃ x, x = mx a1 a5 := ⟨_, rfl⟩
  rw [← hx0, ← hx1, ← hx2, ← hx3]
  have HX := Aside0.mk (And.intro hx0 (And.intro hx1 (And.intro hx2 hx3)))
  clear hx0 hx1 hx2 hx3
  have BBz := Aside0.mk (set8_far BB4.out HG.out.2.2.symm (.int .i64 x0) (.int .i64 x1) (.bool n2) (.bool n3) (.int .i64 x2) (.int .i64 x3) (.bool n6) (.bool n7))
  have BAz := Aside0.mk (put8 BA4.out (.int .i64 x0) (.int .i64 x1) (.bool n2) (.bool n3) (.int .i64 x2) (.int .i64 x3) (.bool n6) (.bool n7))
  obtain ⟨q0, q1, q2, q3, q4, q5, q6, q7⟩ := bx8 BA4.out
  obtain ⟨f0, f1, f2, f3, f4, f5, f6, f7⟩ := frozen8 BA4.out
  have hbb := BBz.out
  unfold set8 at hbb
  obtain ⟨s0, s1, s2, s3, s4, s5, s6, s7⟩ := bx8 hbb
  obtain ⟨t0, t1, t2, t3, t4, t5, t6, t7⟩ := bx8 BAz.out
  have hne := HG.out.2.2
  go_wp2_with (fail)
  clear q0 q1 q2 q3 q4 q5 q6 q7 f0 f1 f2 f3 f4 f5 f6 f7 s0 s1 s2 s3 s4 s5 s6 s7 t0 t1 t2 t3 t4 t5 t6 t7 hne
  have HBz := Aside0.mk (below8 HB4.out HG.out.1 (.int .i64 x0) (.int .i64 x1) (.bool n2) (.bool n3) (.int .i64 x2) (.int .i64 x3) (.bool n6) (.bool n7))
  obtain ⟨W5, hW5⟩ : ∃ W, W = ((((((((w4.setCell ⟨ga, 0, none⟩ (.int .i64 x0)).setCell ⟨ga, 1, none⟩ (.int .i64 x1)).setCell ⟨ga, 2, none⟩ (.bool n2)).setCell ⟨ga, 3, none⟩ (.bool n3)).setCell ⟨ga, 4, none⟩ (.int .i64 x2)).setCell ⟨ga, 5, none⟩ (.int .i64 x3)).setCell ⟨ga, 6, none⟩ (.bool n6)).setCell ⟨ga, 7, none⟩ (.bool n7)) := ⟨_, rfl⟩
  have BA5 : Aside0 (W5.heap[ga]? = some (.cells #[.int .i64 x0, .int .i64 x1, .bool n2, .bool n3, .int .i64 x2, .int .i64 x3, .bool n6, .bool n7] 40 (0, 0))) := by rw [hW5]; exact BAz
  have BB5 : Aside0 (W5.heap[gb]? = some (.cells #[.int .i64 b0, .int .i64 b1, .bool b2, .bool b3, .int .i64 b4, .int .i64 b5, .bool b6, .bool b7] 40 (0, 0))) := by rw [hW5]; exact ⟨hbb⟩
  have HB5 : Aside0 (Below w.heap.size w W5) := by rw [hW5]; exact HBz
  rw [← hW5]
  clear hW5 hbb BBz BAz HBz BA4 BB4 HB4
  have hgx : goodA x0 x1 x2 x3 = true := by rw [HX.out.1, HX.out.2.1, HX.out.2.2.1, HX.out.2.2.2]; exact goodA_normal HGD.out.1
  refine (smeet_in x0 x1 n2 n3 x2 x3 n6 n7 b0 b1 b2 b3 b4 b5 b6 b7 _ hgx HGD.out.2).mono ?_
  rintro e w6 ⟨rfl, hb6⟩
  have BA6 := Aside0.mk (blk_below BA5.out hb6)
  have BB6 := Aside0.mk (blk_below BB5.out hb6)
  have HB6 := Aside0.mk (below_step HB5.out hb6)
  clear hb6 BA5 BB5 HB5
  clear hgx
  have HXN : Aside0 (mn x0 x2 = x0 ∧ mn x1 x3 = x1 ∧ mx x0 x2 = x2 ∧ mx x1 x3 = x3) := ⟨by rw [HX.out.1, HX.out.2.1, HX.out.2.2.1, HX.out.2.2.2]; exact ⟨mn_normal _ _, mn_normal _ _, mx_normal _ _, mx_normal _ _⟩⟩
  rw [HXN.out.1, HXN.out.2.1, HXN.out.2.2.1, HXN.out.2.2.2]
  have hmt : mtB (mx x0 (mn b0 b4)) (mx x1 (mn b1 b5)) (mn x2 (mx b0 b4)) (mn x3 (mx b1 b5)) = true := by rw [HX.out.1, HX.out.2.1, HX.out.2.2.1, HX.out.2.2.2]; exact HMT.out
  rw [hmt]
  rw [mtV_yes hmt]
  clear hmt
  have bb := goodA_bds HGD.out.2
  have ba := goodA_bds HGD.out.1
  rw [← HX.out.1, ← HX.out.2.1, ← HX.out.2.2.1, ← HX.out.2.2.2] at ba
  obtain ⟨m0, hm0⟩ : ∃ x, x = mx x0 (mn b0 b4) := ⟨_, rfl⟩
  obtain ⟨m1, hm1⟩ : ∃ x, x = mx x1 (mn b1 b5) := ⟨_, rfl⟩
  obtain ⟨m2, hm2⟩ : ∃ x, x = mn x2 (mx b0 b4) := ⟨_, rfl⟩
  obtain ⟨m3, hm3⟩ : ∃ x, x = mn x3 (mx b1 b5) := ⟨_, rfl⟩
  rw [← hm0, ← hm1, ← hm2, ← hm3]
  have HM := Aside0.mk (And.intro hm0 (And.intro hm1 (And.intro hm2 hm3)))
  have bm0 := mx_bd ba.1 bb.1
  have bm1 := mx_bd ba.2.1 bb.2.1
  have bm2 := mn_bd ba.2.2.1 bb.2.2.1
  have bm3 := mn_bd ba.2.2.2 bb.2.2.2
  rw [← hm0] at bm0
  rw [← hm1] at bm1
  rw [← hm2] at bm2
  rw [← hm3] at bm3
  clear hm0 hm1 hm2 hm3 ba bb
  obtain ⟨u0, u1⟩ := bm0
  obtain ⟨u2, u3⟩ := bm1
  obtain ⟨u4, u5⟩ := bm2
  obtain ⟨u6, u7⟩ := bm3
  have hbm := blk_new w6 (Obj.cells #[.int .i64 m0, .int .i64 m1, .bool false, .bool false, .int .i64 m2, .int .i64 m3, .bool false, .bool false] 40 (0, 0))
  have HBM := Aside0.mk (below_alloc HB6.out (Obj.cells #[.int .i64 m0, .int .i64 m1, .bool false, .bool false, .int .i64 m2, .int .i64 m3, .bool false, .bool false] 40 (0, 0)))
  have BAM := Aside0.mk (blk_alloc BA6.out (Obj.cells #[.int .i64 m0, .int .i64 m1, .bool false, .bool false, .int .i64 m2, .int .i64 m3, .bool false, .bool false] 40 (0, 0)))
  have hszz := size_alloc w6 (Obj.cells #[.int .i64 m0, .int .i64 m1, .bool false, .bool false, .int .i64 m2, .int .i64 m3, .bool false, .bool false] 40 (0, 0))
  obtain ⟨q0, q1, q2, q3, q4, q5, q6, q7⟩ := bx8 BAM.out
  obtain ⟨r0, r1, r2, r3, r4, r5, r6, r7⟩ := bx8 hbm
  obtain ⟨t46, ht46⟩ : ∃ t, decide (x0 < m0) = t := ⟨_, rfl⟩
  go_upto_if 46 with (fail)
  have HT46 := Aside0.mk ht46
  clear ht46
  clear q0 q1 q2 q3 q4 q5 q6 q7 r0 r1 r2 r3 r4 r5 r6 r7
  obtain ⟨W0, hW0⟩ : ∃ W, W = w6.alloc (Obj.cells #[.int .i64 m0, .int .i64 m1, .bool false, .bool false, .int .i64 m2, .int .i64 m3, .bool false, .bool false] 40 (0, 0)) := ⟨_, rfl⟩
  rw [← hW0] at hbm HBM BAM hszz ⊢
  clear hW0
  obtain ⟨g5, hg5⟩ : ∃ g, g = w6.heap.size := ⟨_, rfl⟩
  rw [← hg5] at hbm hszz ⊢
  have HS := Aside0.mk (show SAcc w W0.heap.size ga g5 #[.int .i64 x0, .int .i64 x1, .bool n2, .bool n3, .int .i64 x2, .int .i64 x3, .bool n6, .bool n7] #[.int .i64 m0, .int .i64 m1, .bool false, .bool false, .int .i64 m2, .int .i64 m3, .bool false, .bool false] [] (.slice none 0 0) W0 from ⟨Kd.R_nil _ _ _ _ _, HBM.out, BAM.out, hbm, Nat.le_refl _, blk_lt BAM.out, by omega, HBM.out.size⟩)
  obtain ⟨h0, hh0⟩ : ∃ h, h = W0.heap.size := ⟨_, rfl⟩
  rw [← hh0] at HS
  clear hbm HBM BAM hszz hg5 hh0 HB6 BA6 BB6
  go_cut [7] (fun v7 wc => SAcc w h0 ga g5 #[.int .i64 x0, .int .i64 x1, .bool n2, .bool n3, .int .i64 x2, .int .i64 x3, .bool n6, .bool n7] #[.int .i64 m0, .int .i64 m1, .bool false, .bool false, .int .i64 m2, .int .i64 m3, .bool false, .bool false] (addO t46 [] (mkA x0 x1 (m0 - 1) x3)) v7 wc)
  case first =>
    cases t46 with
    | true =>
      obtain ⟨q0, q1, q2, q3, q4, q5, q6, q7⟩ := bx8 HS.out.2.2.1
      obtain ⟨r0, r1, r2, r3, r4, r5, r6, r7⟩ := bx8 HS.out.2.2.2.1
      go_wp2_with (fail)
      clear q0 q1 q2 q3 q4 q5 q6 q7 r0 r1 r2 r3 r4 r5 r6 r7
      refine (sarea_c x0 x1 (m0 - 1) x3 _).mono ?_
      rintro e w20 ⟨rfl, hb20⟩
      have HS2 := Aside0.mk (sacc_below HS.out hb20)
      clear hb20
      have hlen : ([] : List S40).length ≤ 0 := (by simp : ([] : List S40).length ≤ 0)
      go_wp2_with (at_builtin; refine Kd.R_append_rows k40 (Rr := fun x cs => x = mkA x0 x1 (m0 - 1) x3 ∧ cs = cellsA x0 x1 (m0 - 1) x3) (w0 := w) w.heap.size rfl (.tmp 47) (.tmp 62) 45 40 (.agg #[.int .i64 0, .int .i64 0, .bool false, .bool false, .int .i64 0, .int .i64 0, .bool false, .bool false]) 48 rfl Try.underlying45 info40 rfl (by decide) (by decide) (.slice none 0 0) [] [mkA x0 x1 (m0 - 1) x3] (some ⟨w20.heap.size, 0, none⟩) 1 1 (fun k => h0 ≤ k) (fun _ => False) rfl rfl (Kd.R_alloc HS2.out.1 _) (lit1 w20 x0 x1 (m0 - 1) x3) (fun x cs h => by obtain ⟨rfl, rfl⟩ := h; exact k40_mkM _ _ _ _) (fun _ hk => hk.elim) (fun k hk => by have := HS2.out.2.2.2.2.1; simp at hk; omega) (below_alloc HS2.out.2.1 _) (by have := HS2.out.2.1.size; simp; omega) (by omega) ?_; intro v30 w30 ho30 hb30 hg30 hat30)
      go_meet
      exact sacc_yes rfl (sacc_below HS2.out (below_alloc (Below.refl _ _) _)) ho30 hb30 hg30
    | false =>
      go_wp2
      go_meet
      exact sacc_no HS.out rfl (mkA x0 x1 (m0 - 1) x3)
  case rest =>
    clear HS
    have HS := Aside0.mk hcut
    clear hcut
    obtain ⟨A1, c1, rfl⟩ := Kd.R_slice HS.out.1
    obtain ⟨q0, q1, q2, q3, q4, q5, q6, q7⟩ := bx8 HS.out.2.2.1
    obtain ⟨r0, r1, r2, r3, r4, r5, r6, r7⟩ := bx8 HS.out.2.2.2.1
    obtain ⟨t70, ht70⟩ : ∃ t, decide (m2 < x2) = t := ⟨_, rfl⟩
    go_upto_if 70 with (fail)
    have HT70 := Aside0.mk ht70
    clear ht70
    clear q0 q1 q2 q3 q4 q5 q6 q7 r0 r1 r2 r3 r4 r5 r6 r7
    go_cut [7] (fun v7 wc => SAcc w h0 ga g5 #[.int .i64 x0, .int .i64 x1, .bool n2, .bool n3, .int .i64 x2, .int .i64 x3, .bool n6, .bool n7] #[.int .i64 m0, .int .i64 m1, .bool false, .bool false, .int .i64 m2, .int .i64 m3, .bool false, .bool false] (addO t70 (addO t46 [] (mkA x0 x1 (m0 - 1) x3)) (mkA (m2 + 1) x1 x2 x3)) v7 wc)
    case first =>
      cases t70 with
      | true =>
        obtain ⟨q0, q1, q2, q3, q4, q5, q6, q7⟩ := bx8 HS.out.2.2.1
        obtain ⟨r0, r1, r2, r3, r4, r5, r6, r7⟩ := bx8 HS.out.2.2.2.1
        go_wp2_with (fail)
        clear q0 q1 q2 q3 q4 q5 q6 q7 r0 r1 r2 r3 r4 r5 r6 r7
        refine (sarea_c (m2 + 1) x1 x2 x3 _).mono ?_
        rintro e w20 ⟨rfl, hb20⟩
        have HS2 := Aside0.mk (sacc_below HS.out hb20)
        clear hb20
        have hlen : ((addO t46 [] (mkA x0 x1 (m0 - 1) x3)) : List S40).length ≤ 1 := (addO_len _ _ _ (by simp : ([] : List S40).length ≤ 0))
        go_wp2_with (at_builtin; refine Kd.R_append_rows k40 (Rr := fun x cs => x = mkA (m2 + 1) x1 x2 x3 ∧ cs = cellsA (m2 + 1) x1 x2 x3) (w0 := w) w.heap.size rfl (.tmp 71) (.tmp 86) 45 40 (.agg #[.int .i64 0, .int .i64 0, .bool false, .bool false, .int .i64 0, .int .i64 0, .bool false, .bool false]) 48 rfl Try.underlying45 info40 rfl (by decide) (by decide) (.slice A1 ((addO t46 [] (mkA x0 x1 (m0 - 1) x3)) : List S40).length c1) (addO t46 [] (mkA x0 x1 (m0 - 1) x3)) [mkA (m2 + 1) x1 x2 x3] (some ⟨w20.heap.size, 0, none⟩) 1 1 (fun k => h0 ≤ k) (fun _ => False) rfl rfl (Kd.R_alloc HS2.out.1 _) (lit1 w20 (m2 + 1) x1 x2 x3) (fun x cs h => by obtain ⟨rfl, rfl⟩ := h; exact k40_mkM _ _ _ _) (fun _ hk => hk.elim) (fun k hk => by have := HS2.out.2.2.2.2.1; simp at hk; omega) (below_alloc HS2.out.2.1 _) (by have := HS2.out.2.1.size; simp; omega) (by omega) ?_; intro v30 w30 ho30 hb30 hg30 hat30)
        go_meet
        exact sacc_yes rfl (sacc_below HS2.out (below_alloc (Below.refl _ _) _)) ho30 hb30 hg30
      | false =>
        go_wp2
        go_meet
        exact sacc_no HS.out rfl (mkA (m2 + 1) x1 x2 x3)
    case rest =>
      clear HS
      have HS := Aside0.mk hcut
      clear hcut
      obtain ⟨A2, c2, rfl⟩ := Kd.R_slice HS.out.1
      obtain ⟨q0, q1, q2, q3, q4, q5, q6, q7⟩ := bx8 HS.out.2.2.1
      obtain ⟨r0, r1, r2, r3, r4, r5, r6, r7⟩ := bx8 HS.out.2.2.2.1
      obtain ⟨t94, ht94⟩ : ∃ t, decide (x1 < m1) = t := ⟨_, rfl⟩
      go_upto_if 94 with (fail)
      have HT94 := Aside0.mk ht94
      clear ht94
      clear q0 q1 q2 q3 q4 q5 q6 q7 r0 r1 r2 r3 r4 r5 r6 r7
      go_cut [7] (fun v7 wc => SAcc w h0 ga g5 #[.int .i64 x0, .int .i64 x1, .bool n2, .bool n3, .int .i64 x2, .int .i64 x3, .bool n6, .bool n7] #[.int .i64 m0, .int .i64 m1, .bool false, .bool false, .int .i64 m2, .int .i64 m3, .bool false, .bool false] (addO t94 (addO t70 (addO t46 [] (mkA x0 x1 (m0 - 1) x3)) (mkA (m2 + 1) x1 x2 x3)) (mkA m0 x1 m2 (m1 - 1))) v7 wc)
      case first =>
        cases t94 with
        | true =>
          obtain ⟨q0, q1, q2, q3, q4, q5, q6, q7⟩ := bx8 HS.out.2.2.1
          obtain ⟨r0, r1, r2, r3, r4, r5, r6, r7⟩ := bx8 HS.out.2.2.2.1
          go_wp2_with (fail)
          clear q0 q1 q2 q3 q4 q5 q6 q7 r0 r1 r2 r3 r4 r5 r6 r7
          refine (sarea_c m0 x1 m2 (m1 - 1) _).mono ?_
          rintro e w20 ⟨rfl, hb20⟩
          have HS2 := Aside0.mk (sacc_below HS.out hb20)
          clear hb20
          have hlen : ((addO t70 (addO t46 [] (mkA x0 x1 (m0 - 1) x3)) (mkA (m2 + 1) x1 x2 x3)) : List S40).length ≤ 2 := (addO_len _ _ _ (addO_len _ _ _ (by simp : ([] : List S40).length ≤ 0)))
          go_wp2_with (at_builtin; refine Kd.R_append_rows k40 (Rr := fun x cs => x = mkA m0 x1 m2 (m1 - 1) ∧ cs = cellsA m0 x1 m2 (m1 - 1)) (w0 := w) w.heap.size rfl (.tmp 95) (.tmp 110) 45 40 (.agg #[.int .i64 0, .int .i64 0, .bool false, .bool false, .int .i64 0, .int .i64 0, .bool false, .bool false]) 48 rfl Try.underlying45 info40 rfl (by decide) (by decide) (.slice A2 ((addO t70 (addO t46 [] (mkA x0 x1 (m0 - 1) x3)) (mkA (m2 + 1) x1 x2 x3)) : List S40).length c2) (addO t70 (addO t46 [] (mkA x0 x1 (m0 - 1) x3)) (mkA (m2 + 1) x1 x2 x3)) [mkA m0 x1 m2 (m1 - 1)] (some ⟨w20.heap.size, 0, none⟩) 1 1 (fun k => h0 ≤ k) (fun _ => False) rfl rfl (Kd.R_alloc HS2.out.1 _) (lit1 w20 m0 x1 m2 (m1 - 1)) (fun x cs h => by obtain ⟨rfl, rfl⟩ := h; exact k40_mkM _ _ _ _) (fun _ hk => hk.elim) (fun k hk => by have := HS2.out.2.2.2.2.1; simp at hk; omega) (below_alloc HS2.out.2.1 _) (by have := HS2.out.2.1.size; simp; omega) (by omega) ?_; intro v30 w30 ho30 hb30 hg30 hat30)
          go_meet
          exact sacc_yes rfl (sacc_below HS2.out (below_alloc (Below.refl _ _) _)) ho30 hb30 hg30
        | false =>
          go_wp2
          go_meet
          exact sacc_no HS.out rfl (mkA m0 x1 m2 (m1 - 1))
      case rest =>
        clear HS
        have HS := Aside0.mk hcut
        clear hcut
        obtain ⟨A3, c3, rfl⟩ := Kd.R_slice HS.out.1
        obtain ⟨q0, q1, q2, q3, q4, q5, q6, q7⟩ := bx8 HS.out.2.2.1
        obtain ⟨r0, r1, r2, r3, r4, r5, r6, r7⟩ := bx8 HS.out.2.2.2.1
        obtain ⟨t118, ht118⟩ : ∃ t, decide (m3 < x3) = t := ⟨_, rfl⟩
        go_upto_if 118 with (fail)
        have HT118 := Aside0.mk ht118
        clear ht118
        clear q0 q1 q2 q3 q4 q5 q6 q7 r0 r1 r2 r3 r4 r5 r6 r7
        go_cut [7] (fun v7 wc => SAcc w h0 ga g5 #[.int .i64 x0, .int .i64 x1, .bool n2, .bool n3, .int .i64 x2, .int .i64 x3, .bool n6, .bool n7] #[.int .i64 m0, .int .i64 m1, .bool false, .bool false, .int .i64 m2, .int .i64 m3, .bool false, .bool false] (addO t118 (addO t94 (addO t70 (addO t46 [] (mkA x0 x1 (m0 - 1) x3)) (mkA (m2 + 1) x1 x2 x3)) (mkA m0 x1 m2 (m1 - 1))) (mkA m0 (m3 + 1) m2 x3)) v7 wc)
        case first =>
          cases t118 with
          | true =>
            obtain ⟨q0, q1, q2, q3, q4, q5, q6, q7⟩ := bx8 HS.out.2.2.1
            obtain ⟨r0, r1, r2, r3, r4, r5, r6, r7⟩ := bx8 HS.out.2.2.2.1
            go_wp2_with (fail)
            clear q0 q1 q2 q3 q4 q5 q6 q7 r0 r1 r2 r3 r4 r5 r6 r7
            refine (sarea_c m0 (m3 + 1) m2 x3 _).mono ?_
            rintro e w20 ⟨rfl, hb20⟩
            have HS2 := Aside0.mk (sacc_below HS.out hb20)
            clear hb20
            have hlen : ((addO t94 (addO t70 (addO t46 [] (mkA x0 x1 (m0 - 1) x3)) (mkA (m2 + 1) x1 x2 x3)) (mkA m0 x1 m2 (m1 - 1))) : List S40).length ≤ 3 := (addO_len _ _ _ (addO_len _ _ _ (addO_len _ _ _ (by simp : ([] : List S40).length ≤ 0))))
            go_wp2_with (at_builtin; refine Kd.R_append_rows k40 (Rr := fun x cs => x = mkA m0 (m3 + 1) m2 x3 ∧ cs = cellsA m0 (m3 + 1) m2 x3) (w0 := w) w.heap.size rfl (.tmp 119) (.tmp 134) 45 40 (.agg #[.int .i64 0, .int .i64 0, .bool false, .bool false, .int .i64 0, .int .i64 0, .bool false, .bool false]) 48 rfl Try.underlying45 info40 rfl (by decide) (by decide) (.slice A3 ((addO t94 (addO t70 (addO t46 [] (mkA x0 x1 (m0 - 1) x3)) (mkA (m2 + 1) x1 x2 x3)) (mkA m0 x1 m2 (m1 - 1))) : List S40).length c3) (addO t94 (addO t70 (addO t46 [] (mkA x0 x1 (m0 - 1) x3)) (mkA (m2 + 1) x1 x2 x3)) (mkA m0 x1 m2 (m1 - 1))) [mkA m0 (m3 + 1) m2 x3] (some ⟨w20.heap.size, 0, none⟩) 1 1 (fun k => h0 ≤ k) (fun _ => False) rfl rfl (Kd.R_alloc HS2.out.1 _) (lit1 w20 m0 (m3 + 1) m2 x3) (fun x cs h => by obtain ⟨rfl, rfl⟩ := h; exact k40_mkM _ _ _ _) (fun _ hk => hk.elim) (fun k hk => by have := HS2.out.2.2.2.2.1; simp at hk; omega) (below_alloc HS2.out.2.1 _) (by have := HS2.out.2.1.size; simp; omega) (by omega) ?_; intro v30 w30 ho30 hb30 hg30 hat30)
            go_meet
            exact sacc_yes rfl (sacc_below HS2.out (below_alloc (Below.refl _ _) _)) ho30 hb30 hg30
          | false =>
            go_wp2
            go_meet
            exact sacc_no HS.out rfl (mkA m0 (m3 + 1) m2 x3)
        case rest =>
          clear HS
          have HS := Aside0.mk hcut
          clear hcut
          obtain ⟨A9, c9, rfl⟩ := Kd.R_slice HS.out.1
          go_wp2
          go_ret
          obtain ⟨e0, e1, e2, e3⟩ := HX.out
          obtain ⟨k0, k1, k2, k3⟩ := HM.out
          rw [e0] at k0
          rw [e1] at k1
          rw [e2] at k2
          rw [e3] at k3
          refine ⟨_, rfl, ?_, HS.out.2.1⟩
          rw [← k0, ← k1, ← k2, ← k3, ← e0, ← e1, ← e2, ← e3]
          unfold piecesS
          rw [HT46.out, HT70.out, HT94.out, HT118.out]
          exact Kd.R_mono HS.out.1 (fun _ _ => trivial)
end Go.Proofs.Ytppenjoobcppjaa.PAr
