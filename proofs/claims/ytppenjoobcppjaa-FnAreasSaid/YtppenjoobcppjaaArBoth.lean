/- Both Withouts at every argument, and that they answer the same. -/
import Derived.Test.YtppenjoobcppjaaArSpec
namespace Go.Proofs.Ytppenjoobcppjaa.PAr
open Go.RowKit Go.Proofs.YtppenjoobcppjaaW.PrintWords Go.Proofs.YtppenjoobcppjaaW.PrintLast Go.Proofs.YtppenjoobcppjaaW.PrintMore
set_option linter.unusedVariables false
set_option linter.unusedSimpArgs false

set_option maxRecDepth 100000 in
set_option maxHeartbeats 1600000 in
theorem iwithout_bad0 (a0 a1 : Int) (a2 a3 : Bool) (a4 a5 : Int) (a6 a7 : Bool) (b0 b1 : Int) (b2 b3 : Bool) (b4 b5 : Int) (b6 b7 : Bool) (w : World) (ha : goodA a0 a1 a4 a5 = false) :
    Calls Try.prog 24 #[.agg #[.int .i64 a0, .int .i64 a1, .bool a2, .bool a3, .int .i64 a4, .int .i64 a5, .bool a6, .bool a7], .agg #[.int .i64 b0, .int .i64 b1, .bool b2, .bool b3, .int .i64 b4, .int .i64 b5, .bool b6, .bool b7]] w fun e w' => ∃ v, e = .returned v ∧ Kd.R k40 40 w' w.heap.size (fun _ => True) v [] ∧ Below w.heap.size w w' := by
  have hu40 := Try.underlying40
  have HGD := Aside0.mk ha
  go_enter Try.func24, Try.ntmps24
  go_wp2_with (fail)
  obtain ⟨hA, hB, hBel⟩ := boxes2 w #[.int .i64 a0, .int .i64 a1, .bool a2, .bool a3, .int .i64 a4, .int .i64 a5, .bool a6, .bool a7] #[.int .i64 b0, .int .i64 b1, .bool b2, .bool b3, .int .i64 b4, .int .i64 b5, .bool b6, .bool b7] 40
  obtain ⟨W1, hW1⟩ : ∃ W1, W1 = (w.alloc (.cells #[.int .i64 a0, .int .i64 a1, .bool a2, .bool a3, .int .i64 a4, .int .i64 a5, .bool a6, .bool a7] 40 (0, 0))).alloc (.cells #[.int .i64 b0, .int .i64 b1, .bool b2, .bool b3, .int .i64 b4, .int .i64 b5, .bool b6, .bool b7] 40 (0, 0)) := ⟨_, rfl⟩
  rw [← hW1] at hA hB hBel ⊢
  clear hW1
  have BA := Aside0.mk hA
  have BB := Aside0.mk hB
  have HB := Aside0.mk hBel
  clear hA hB hBel
  refine (igood_c a0 a1 a2 a3 a4 a5 a6 a7 W1).mono ?_
  rintro e w2 ⟨rfl, hb2⟩
  rw [ha]
  have HB2 := Aside0.mk (below_step HB.out hb2)
  clear hb2
  go_wp2
  go_ret
  exact ⟨_, rfl, Kd.R_nil _ _ _ _ _, HB2.out⟩
set_option maxRecDepth 100000 in
set_option maxHeartbeats 1600000 in
theorem iwithout_bad1 (a0 a1 : Int) (a2 a3 : Bool) (a4 a5 : Int) (a6 a7 : Bool) (b0 b1 : Int) (b2 b3 : Bool) (b4 b5 : Int) (b6 b7 : Bool) (w : World) (ha : goodA a0 a1 a4 a5 = true) (hb : goodA b0 b1 b4 b5 = false) :
    Calls Try.prog 24 #[.agg #[.int .i64 a0, .int .i64 a1, .bool a2, .bool a3, .int .i64 a4, .int .i64 a5, .bool a6, .bool a7], .agg #[.int .i64 b0, .int .i64 b1, .bool b2, .bool b3, .int .i64 b4, .int .i64 b5, .bool b6, .bool b7]] w fun e w' => ∃ v, e = .returned v ∧ Kd.R k40 40 w' w.heap.size (fun _ => True) v [] ∧ Below w.heap.size w w' := by
  have hu40 := Try.underlying40
  have HGD := Aside0.mk hb
  go_enter Try.func24, Try.ntmps24
  go_wp2_with (fail)
  obtain ⟨hA, hB, hBel⟩ := boxes2 w #[.int .i64 a0, .int .i64 a1, .bool a2, .bool a3, .int .i64 a4, .int .i64 a5, .bool a6, .bool a7] #[.int .i64 b0, .int .i64 b1, .bool b2, .bool b3, .int .i64 b4, .int .i64 b5, .bool b6, .bool b7] 40
  obtain ⟨W1, hW1⟩ : ∃ W1, W1 = (w.alloc (.cells #[.int .i64 a0, .int .i64 a1, .bool a2, .bool a3, .int .i64 a4, .int .i64 a5, .bool a6, .bool a7] 40 (0, 0))).alloc (.cells #[.int .i64 b0, .int .i64 b1, .bool b2, .bool b3, .int .i64 b4, .int .i64 b5, .bool b6, .bool b7] 40 (0, 0)) := ⟨_, rfl⟩
  rw [← hW1] at hA hB hBel ⊢
  clear hW1
  have BA := Aside0.mk hA
  have BB := Aside0.mk hB
  have HB := Aside0.mk hBel
  clear hA hB hBel
  refine (igood_c a0 a1 a2 a3 a4 a5 a6 a7 W1).mono ?_
  rintro e w2 ⟨rfl, hb2⟩
  rw [ha]
  have BB2 := Aside0.mk (blk_below BB.out hb2)
  have HB2 := Aside0.mk (below_step HB.out hb2)
  clear hb2
  obtain ⟨q0, q1, q2, q3, q4, q5, q6, q7⟩ := bx8 BB2.out
  go_wp2_with (fail)
  refine (igood_c b0 b1 b2 b3 b4 b5 b6 b7 _).mono ?_
  rintro e w3 ⟨rfl, hb3⟩
  rw [HGD.out]
  have HB3 := Aside0.mk (below_step HB2.out hb3)
  clear hb3
  go_wp2
  go_ret
  exact ⟨_, rfl, Kd.R_nil _ _ _ _ _, HB3.out⟩
set_option maxRecDepth 100000 in
set_option maxHeartbeats 1600000 in
theorem swithout_bad0 (a0 a1 : Int) (a2 a3 : Bool) (a4 a5 : Int) (a6 a7 : Bool) (b0 b1 : Int) (b2 b3 : Bool) (b4 b5 : Int) (b6 b7 : Bool) (w : World) (ha : goodA a0 a1 a4 a5 = false) :
    Calls Try.prog 26 #[.agg #[.int .i64 a0, .int .i64 a1, .bool a2, .bool a3, .int .i64 a4, .int .i64 a5, .bool a6, .bool a7], .agg #[.int .i64 b0, .int .i64 b1, .bool b2, .bool b3, .int .i64 b4, .int .i64 b5, .bool b6, .bool b7]] w fun e w' => ∃ v, e = .returned v ∧ Kd.R k40 40 w' w.heap.size (fun _ => True) v [] ∧ Below w.heap.size w w' := by
  have hu40 := Try.underlying40
  have HGD := Aside0.mk ha
  go_enter Try.func26, Try.ntmps26
  go_wp2_with (fail)
  obtain ⟨hA, hB, hBel⟩ := boxes2 w #[.int .i64 a0, .int .i64 a1, .bool a2, .bool a3, .int .i64 a4, .int .i64 a5, .bool a6, .bool a7] #[.int .i64 b0, .int .i64 b1, .bool b2, .bool b3, .int .i64 b4, .int .i64 b5, .bool b6, .bool b7] 40
  obtain ⟨W1, hW1⟩ : ∃ W1, W1 = (w.alloc (.cells #[.int .i64 a0, .int .i64 a1, .bool a2, .bool a3, .int .i64 a4, .int .i64 a5, .bool a6, .bool a7] 40 (0, 0))).alloc (.cells #[.int .i64 b0, .int .i64 b1, .bool b2, .bool b3, .int .i64 b4, .int .i64 b5, .bool b6, .bool b7] 40 (0, 0)) := ⟨_, rfl⟩
  rw [← hW1] at hA hB hBel ⊢
  clear hW1
  have BA := Aside0.mk hA
  have BB := Aside0.mk hB
  have HB := Aside0.mk hBel
  clear hA hB hBel
  refine (sgood_c a0 a1 a2 a3 a4 a5 a6 a7 W1).mono ?_
  rintro e w2 ⟨rfl, hb2⟩
  rw [ha]
  have HB2 := Aside0.mk (below_step HB.out hb2)
  clear hb2
  go_wp2
  go_ret
  exact ⟨_, rfl, Kd.R_nil _ _ _ _ _, HB2.out⟩
set_option maxRecDepth 100000 in
set_option maxHeartbeats 1600000 in
theorem swithout_bad1 (a0 a1 : Int) (a2 a3 : Bool) (a4 a5 : Int) (a6 a7 : Bool) (b0 b1 : Int) (b2 b3 : Bool) (b4 b5 : Int) (b6 b7 : Bool) (w : World) (ha : goodA a0 a1 a4 a5 = true) (hb : goodA b0 b1 b4 b5 = false) :
    Calls Try.prog 26 #[.agg #[.int .i64 a0, .int .i64 a1, .bool a2, .bool a3, .int .i64 a4, .int .i64 a5, .bool a6, .bool a7], .agg #[.int .i64 b0, .int .i64 b1, .bool b2, .bool b3, .int .i64 b4, .int .i64 b5, .bool b6, .bool b7]] w fun e w' => ∃ v, e = .returned v ∧ Kd.R k40 40 w' w.heap.size (fun _ => True) v [] ∧ Below w.heap.size w w' := by
  have hu40 := Try.underlying40
  have HGD := Aside0.mk hb
  go_enter Try.func26, Try.ntmps26
  go_wp2_with (fail)
  obtain ⟨hA, hB, hBel⟩ := boxes2 w #[.int .i64 a0, .int .i64 a1, .bool a2, .bool a3, .int .i64 a4, .int .i64 a5, .bool a6, .bool a7] #[.int .i64 b0, .int .i64 b1, .bool b2, .bool b3, .int .i64 b4, .int .i64 b5, .bool b6, .bool b7] 40
  obtain ⟨W1, hW1⟩ : ∃ W1, W1 = (w.alloc (.cells #[.int .i64 a0, .int .i64 a1, .bool a2, .bool a3, .int .i64 a4, .int .i64 a5, .bool a6, .bool a7] 40 (0, 0))).alloc (.cells #[.int .i64 b0, .int .i64 b1, .bool b2, .bool b3, .int .i64 b4, .int .i64 b5, .bool b6, .bool b7] 40 (0, 0)) := ⟨_, rfl⟩
  rw [← hW1] at hA hB hBel ⊢
  clear hW1
  have BA := Aside0.mk hA
  have BB := Aside0.mk hB
  have HB := Aside0.mk hBel
  clear hA hB hBel
  refine (sgood_c a0 a1 a2 a3 a4 a5 a6 a7 W1).mono ?_
  rintro e w2 ⟨rfl, hb2⟩
  rw [ha]
  have BB2 := Aside0.mk (blk_below BB.out hb2)
  have HB2 := Aside0.mk (below_step HB.out hb2)
  clear hb2
  obtain ⟨q0, q1, q2, q3, q4, q5, q6, q7⟩ := bx8 BB2.out
  go_wp2_with (fail)
  refine (sgood_c b0 b1 b2 b3 b4 b5 b6 b7 _).mono ?_
  rintro e w3 ⟨rfl, hb3⟩
  rw [HGD.out]
  have HB3 := Aside0.mk (below_step HB2.out hb3)
  clear hb3
  go_wp2
  go_ret
  exact ⟨_, rfl, Kd.R_nil _ _ _ _ _, HB3.out⟩
def wo (a0 a1 : Int) (a2 a3 : Bool) (a4 a5 : Int) (a6 a7 : Bool) (b0 b1 : Int) (b2 b3 : Bool) (b4 b5 : Int) (b6 b7 : Bool) : List S40 :=
  if goodA a0 a1 a4 a5 = true then (if goodA b0 b1 b4 b5 = true then (if mtB (mx (mn a0 a4) (mn b0 b4)) (mx (mn a1 a5) (mn b1 b5)) (mn (mx a0 a4) (mx b0 b4)) (mn (mx a1 a5) (mx b1 b5)) = true then pieces (mn a0 a4) (mn a1 a5) (mx a0 a4) (mx a1 a5) (mn b0 b4) (mn b1 b5) (mx b0 b4) (mx b1 b5) else [mkA (mn a0 a4) (mn a1 a5) (mx a0 a4) (mx a1 a5)]) else []) else []
theorem iwithout_c (a0 a1 : Int) (a2 a3 : Bool) (a4 a5 : Int) (a6 a7 : Bool) (b0 b1 : Int) (b2 b3 : Bool) (b4 b5 : Int) (b6 b7 : Bool) (w : World) :
    Calls Try.prog 24 #[.agg #[.int .i64 a0, .int .i64 a1, .bool a2, .bool a3, .int .i64 a4, .int .i64 a5, .bool a6, .bool a7], .agg #[.int .i64 b0, .int .i64 b1, .bool b2, .bool b3, .int .i64 b4, .int .i64 b5, .bool b6, .bool b7]] w fun e w' => ∃ v, e = .returned v ∧ Kd.R k40 40 w' w.heap.size (fun _ => True) v (wo a0 a1 a2 a3 a4 a5 a6 a7 b0 b1 b2 b3 b4 b5 b6 b7) ∧ Below w.heap.size w w' := by
  unfold wo
  by_cases ha : goodA a0 a1 a4 a5 = true
  · rw [if_pos ha]
    by_cases hb : goodA b0 b1 b4 b5 = true
    · rw [if_pos hb]
      by_cases hm : mtB (mx (mn a0 a4) (mn b0 b4)) (mx (mn a1 a5) (mn b1 b5)) (mn (mx a0 a4) (mx b0 b4)) (mn (mx a1 a5) (mx b1 b5)) = true
      · rw [if_pos hm]
        exact iwithout_meet a0 a1 a2 a3 a4 a5 a6 a7 b0 b1 b2 b3 b4 b5 b6 b7 w ha hb hm
      · rw [if_neg hm]
        exact iwithout_apart a0 a1 a2 a3 a4 a5 a6 a7 b0 b1 b2 b3 b4 b5 b6 b7 w ha hb (by simpa using hm)
    · rw [if_neg hb]
      exact iwithout_bad1 a0 a1 a2 a3 a4 a5 a6 a7 b0 b1 b2 b3 b4 b5 b6 b7 w ha (by simpa using hb)
  · rw [if_neg ha]
    exact iwithout_bad0 a0 a1 a2 a3 a4 a5 a6 a7 b0 b1 b2 b3 b4 b5 b6 b7 w (by simpa using ha)
theorem addO_congr {b c : Bool} {xs ys : List S40} {p q : S40} (h : b = c) (hx : xs = ys) (hp : b = true → p = q) : addO b xs p = addO c ys q := by
  subst h
  subst hx
  unfold addO
  split
  · rename_i hb; rw [hp hb]
  · rfl
theorem pieces_eq (x0 x1 x2 x3 y0 y1 y2 y3 : Int) (hx0 : x0 ≤ x2) (hx1 : x1 ≤ x3) (hy0 : y0 ≤ y2) (hy1 : y1 ≤ y3) (hm : mtB (mx x0 y0) (mx x1 y1) (mn x2 y2) (mn x3 y3) = true) :
    piecesS x0 x1 x2 x3 (mx x0 y0) (mx x1 y1) (mn x2 y2) (mn x3 y3) = pieces x0 x1 x2 x3 y0 y1 y2 y3 := by
  unfold mtB at hm
  rw [decide_eq_true_eq] at hm
  obtain ⟨h1, h2⟩ := hm
  have E : ∀ a b : Int, (a < b → mx a b = b) ∧ (¬ a < b → mx a b = a) := fun a b => ⟨fun h => if_pos h, fun h => if_neg h⟩
  have F : ∀ a b : Int, (b < a → mn a b = b) ∧ (¬ b < a → mn a b = a) := fun a b => ⟨fun h => if_pos h, fun h => if_neg h⟩
  unfold piecesS pieces
  refine addO_congr ?_ (addO_congr ?_ (addO_congr ?_ (addO_congr ?_ rfl ?_) ?_) ?_) ?_
  all_goals (try unfold mtB)
  all_goals (try rw [decide_eq_decide])
  all_goals (try intro hh)
  all_goals (try rw [decide_eq_true_eq] at hh)
  all_goals unfold mx mn at *
  all_goals (repeat' split)
  all_goals (repeat' split at h1)
  all_goals (repeat' split at h2)
  all_goals (try (repeat' split at hh))
  all_goals first
    | omega
    | (unfold mkA; congr 2 <;> omega)
    | rfl
theorem swithout_c (a0 a1 : Int) (a2 a3 : Bool) (a4 a5 : Int) (a6 a7 : Bool) (b0 b1 : Int) (b2 b3 : Bool) (b4 b5 : Int) (b6 b7 : Bool) (w : World) :
    Calls Try.prog 26 #[.agg #[.int .i64 a0, .int .i64 a1, .bool a2, .bool a3, .int .i64 a4, .int .i64 a5, .bool a6, .bool a7], .agg #[.int .i64 b0, .int .i64 b1, .bool b2, .bool b3, .int .i64 b4, .int .i64 b5, .bool b6, .bool b7]] w fun e w' => ∃ v, e = .returned v ∧ Kd.R k40 40 w' w.heap.size (fun _ => True) v (wo a0 a1 a2 a3 a4 a5 a6 a7 b0 b1 b2 b3 b4 b5 b6 b7) ∧ Below w.heap.size w w' := by
  unfold wo
  by_cases ha : goodA a0 a1 a4 a5 = true
  · rw [if_pos ha]
    by_cases hb : goodA b0 b1 b4 b5 = true
    · rw [if_pos hb]
      by_cases hm : mtB (mx (mn a0 a4) (mn b0 b4)) (mx (mn a1 a5) (mn b1 b5)) (mn (mx a0 a4) (mx b0 b4)) (mn (mx a1 a5) (mx b1 b5)) = true
      · rw [if_pos hm]
        have hle : ∀ p q : Int, mn p q ≤ mx p q := fun p q => by unfold mn mx; split <;> split <;> omega
        rw [← pieces_eq _ _ _ _ _ _ _ _ (hle _ _) (hle _ _) (hle _ _) (hle _ _) hm]
        exact swithout_meet a0 a1 a2 a3 a4 a5 a6 a7 b0 b1 b2 b3 b4 b5 b6 b7 w ha hb hm
      · rw [if_neg hm]
        exact swithout_apart a0 a1 a2 a3 a4 a5 a6 a7 b0 b1 b2 b3 b4 b5 b6 b7 w ha hb (by simpa using hm)
    · rw [if_neg hb]
      exact swithout_bad1 a0 a1 a2 a3 a4 a5 a6 a7 b0 b1 b2 b3 b4 b5 b6 b7 w ha (by simpa using hb)
  · rw [if_neg ha]
    exact swithout_bad0 a0 a1 a2 a3 a4 a5 a6 a7 b0 b1 b2 b3 b4 b5 b6 b7 w (by simpa using ha)

end Go.Proofs.Ytppenjoobcppjaa.PAr
