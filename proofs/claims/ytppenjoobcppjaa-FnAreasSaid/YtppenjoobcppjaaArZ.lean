-- Written by wip/myprint.py of this session, a program over the kit's print; Lean checks it. (laws.zAreas alone.)
import Derived.Test.YtppenjoobcppjaaPArx0
import Derived.Test.YtppenjoobcppjaaEv
import Derived.Laws.StructEq
namespace Go.Proofs.Ytppenjoobcppjaa.PAr
open Go.RowKit Go.Proofs.YtppenjoobcppjaaW.PrintWords Go.Proofs.YtppenjoobcppjaaW.PrintLast Go.Proofs.YtppenjoobcppjaaW.PrintMore Go.Proofs.Ytppenjoobcppjaa.Ev
attribute [local go_sem] max2_int min2_int max_two min_two max_three min_three max_four min_four
set_option linter.unusedVariables false
set_option linter.unusedSimpArgs false

set_option maxRecDepth 100000
theorem eqA38 (d : Nat) (w : World) (x0 y0 : Int) (x1 y1 : Int) (x2 y2 : Bool) (x3 y3 : Bool) :
    (Op.equalIn (d + 2) 38 (.agg #[.int .i64 x0, .int .i64 x1, .bool x2, .bool x3]) (.agg #[.int .i64 y0, .int .i64 y1, .bool y2, .bool y3])).run Try.prog w = .ok (x0 == y0 && (x1 == y1 && (x2 == y2 && (x3 == y3)))) w := by
  refine eqA_of Try.underlying38 (by kernel_rfl) ?_
  refine eqf_cons (by rfl) (by go_simp; rfl) (by go_simp; rfl) (by go_simp) ?_
  refine eqf_cons (by rfl) (by go_simp; rfl) (by go_simp; rfl) (by go_simp) ?_
  refine eqf_cons (by rfl) (by go_simp; rfl) (by go_simp; rfl) (by go_simp) ?_
  exact eqf_last (by rfl) (by go_simp; rfl) (by go_simp; rfl) (by go_simp)
theorem eqA40 (d : Nat) (w : World) (x0 y0 : Int) (x1 y1 : Int) (x2 y2 : Bool) (x3 y3 : Bool) (x4 y4 : Int) (x5 y5 : Int) (x6 y6 : Bool) (x7 y7 : Bool) :
    (Op.equalIn (d + 3) 40 (.agg #[.int .i64 x0, .int .i64 x1, .bool x2, .bool x3, .int .i64 x4, .int .i64 x5, .bool x6, .bool x7]) (.agg #[.int .i64 y0, .int .i64 y1, .bool y2, .bool y3, .int .i64 y4, .int .i64 y5, .bool y6, .bool y7])).run Try.prog w = .ok ((x0 == y0 && (x1 == y1 && (x2 == y2 && (x3 == y3)))) && ((x4 == y4 && (x5 == y5 && (x6 == y6 && (x7 == y7)))))) w := by
  refine eqA_of Try.underlying40 (by kernel_rfl) ?_
  refine eqf_cons (by rfl) (by go_simp) (by go_simp) (eqA38 (d + 0) w _ _ _ _ _ _ _ _) ?_
  exact eqf_last (by rfl) (by go_simp) (by go_simp) (eqA38 (d + 0) w _ _ _ _ _ _ _ _)
attribute [local go_sem high] eqA38 eqA40
/-! ### laws_zAreas: function 25 -/
def laws_zAreas.l0 : Nat → List (S40) → List (S40) → Int → Int → Option (Bool)
  | 0, _, _, _, _ => none
  | k + 1, x0, x1, x12, x13 => if x13 < x12 then (if 0 ≤ x13 then (if x13 < (x0.length : Int) then (if x13 < (x1.length : Int) then (if ((!(((rd_T40 x0 x13).f0.f0) == ((rd_T40 x1 x13).f0.f0)) || (!(((rd_T40 x0 x13).f0.f1) == ((rd_T40 x1 x13).f0.f1)) || (!(((rd_T40 x0 x13).f0.f2) == ((rd_T40 x1 x13).f0.f2)) || (!(((rd_T40 x0 x13).f0.f3) == ((rd_T40 x1 x13).f0.f3)))))) || ((!(((rd_T40 x0 x13).f1.f0) == ((rd_T40 x1 x13).f1.f0)) || (!(((rd_T40 x0 x13).f1.f1) == ((rd_T40 x1 x13).f1.f1)) || (!(((rd_T40 x0 x13).f1.f2) == ((rd_T40 x1 x13).f1.f2)) || (!(((rd_T40 x0 x13).f1.f3) == ((rd_T40 x1 x13).f1.f3)))))))) = true then (some false) else (laws_zAreas.l0 k x0 x1 x12 (wrap64 (x13 + 1)))) else (none)) else (none)) else (none)) else (some true)
def laws_zAreas.f (k : Nat) (l0 : List (S40)) (l1 : List (S40)) : Option (Bool) := if (l0.length : Int) = (l1.length : Int) then (laws_zAreas.l0 k l0 l1 (l0.length : Int) 0) else (some false)
theorem laws_zAreas.mono_l : ∀ k, (∀ y0 y1 y2 y3, LeO (laws_zAreas.l0 k y0 y1 y2 y3) (laws_zAreas.l0 (k + 1) y0 y1 y2 y3))
  | 0 => fun _ _ _ _ r h => by simp [laws_zAreas.l0] at h
  | k + 1 => by
    have ih0 := laws_zAreas.mono_l k
    · intro y0 y1 y2 y3
      unfold laws_zAreas.l0
      repeat' first
      | (with_reducible exact ih0 _ _ _ _)
      | (with_reducible exact LeO.refl _)
      | (with_reducible exact LeO.none _)
      | (with_reducible refine LeO.ite ?_ ?_)
      | (with_reducible refine LeO.bind ?_ (fun _ => ?_))
      | exact ih0 _ _ _ _
      | exact LeO.none _
      | refine LeO.ite ?_ ?_
      | refine LeO.bind ?_ (fun _ => ?_)
theorem laws_zAreas.mono : ∀ a0 a1 k, LeO (laws_zAreas.f k a0 a1) (laws_zAreas.f (k + 1) a0 a1) := by
  intro a0 a1 k
  have ih0 := laws_zAreas.mono_l k
  unfold laws_zAreas.f
  repeat' first
      | (with_reducible exact ih0 _ _ _ _)
      | (with_reducible exact LeO.refl _)
      | (with_reducible exact LeO.none _)
      | (with_reducible refine LeO.ite ?_ ?_)
      | (with_reducible refine LeO.bind ?_ (fun _ => ?_))
      | exact ih0 _ _ _ _
      | exact LeO.none _
      | refine LeO.ite ?_ ?_
      | refine LeO.bind ?_ (fun _ => ?_)
set_option maxHeartbeats 8000000 in
set_option maxRecDepth 100000 in
theorem laws_zAreas.calls (k : Nat) (A0 : Option Addr) (c0 : Nat) (l0 : List (S40)) (A1 : Option Addr) (c1 : Nat) (l1 : List (S40)) (r : Bool) (w : World) (hr0 : Kd.C k40 w A0 l0.length l0) (hc0 : l0.length ≤ c0) (hr1 : Kd.C k40 w A1 l1.length l1) (hc1 : l1.length ≤ c1) (h : laws_zAreas.f k l0 l1 = some r) :
    Calls Try.prog 25 #[.slice A0 l0.length c0, .slice A1 l1.length c1] w fun e w' => e = .returned (.bool r) ∧ Drawn0 w w' := by
  have hu40 := Try.underlying40
  have HR0 := Aside0.mk hr0
  have HC0 := Aside0.mk hc0
  clear hr0 hc0
  have HR1 := Aside0.mk hr1
  have HC1 := Aside0.mk hc1
  clear hr1 hc1
  have H : (if (l0.length : Int) = (l1.length : Int) then (laws_zAreas.l0 k l0 l1 (l0.length : Int) 0) else (some false)) = some r := h
  clear h
  by_cases c3 : (l0.length : Int) = (l1.length : Int)
  · rw [if_pos c3] at H
    have c3b0 : ((l0.length : Int) == (l1.length : Int)) = true := beq_iff_eq.mpr c3
    have c3b1 : ((l0.length : Int) != (l1.length : Int)) = false := bne_eq_false_iff_eq.mpr c3
    have c3b2 : (l0.length == l1.length) = true := by first | simpa using c3 | (simp at c3 ⊢; omega)
    clear c3
    have H' := Aside0.mk H
    clear H
    go_enter Try.func25, Try.ntmps25
    go_wp2
    repeat (go_quiet (fail); try go_wp2)
    go_loopg [13] k (fun kq v13 w' => ∃ (x13_1 : Int), v13 = .int .i64 x13_1 ∧ Aside0 (laws_zAreas.l0 kq l0 l1 (l0.length : Int) x13_1 = some r) ∧ Aside0 (kq ≤ k) ∧ Drawn0 w w')
    case atStart => exact ⟨(0), (by first | rfl | (simp; done) | (simp [*]; done)), H', ⟨Nat.le_refl _⟩, by repeat (first | exact Drawn0.refl _ | apply Drawn0.step)⟩
    case round =>
      clear H'
      try clear c1
      try clear c2
      try clear p2
      try clear c3
      try clear c3b0
      try clear c3b1
      try clear c3b2
      obtain ⟨x13_1, rfl, HA, HK1, ⟨m1, rfl⟩⟩ := hrel
      cases gk with
      | zero => exact absurd HA.out (by simp [laws_zAreas.l0])
      | succ k1 =>
        have H := HA.out
        clear HA
        simp only [laws_zAreas.l0] at H
        by_cases c4 : x13_1 < (l0.length : Int)
        · rw [if_pos c4] at H
          have c4b0 : decide (x13_1 < (l0.length : Int)) = true := decide_eq_true c4
          clear c4
          by_cases c5 : 0 ≤ x13_1
          · rw [if_pos c5] at H
            have c5b0 : decide (0 ≤ x13_1) = true := decide_eq_true c5
            clear c5
            by_cases c6 : x13_1 < (l0.length : Int)
            · rw [if_pos c6] at H
              have c6b0 : decide (x13_1 < (l0.length : Int)) = true := decide_eq_true c6
              clear c6
              by_cases c7 : x13_1 < (l1.length : Int)
              · rw [if_pos c7] at H
                have c7b0 : decide (x13_1 < (l1.length : Int)) = true := decide_eq_true c7
                clear c7
                by_cases c8 : ((!(((rd_T40 l0 x13_1).f0.f0) == ((rd_T40 l1 x13_1).f0.f0)) || (!(((rd_T40 l0 x13_1).f0.f1) == ((rd_T40 l1 x13_1).f0.f1)) || (!(((rd_T40 l0 x13_1).f0.f2) == ((rd_T40 l1 x13_1).f0.f2)) || (!(((rd_T40 l0 x13_1).f0.f3) == ((rd_T40 l1 x13_1).f0.f3)))))) || ((!(((rd_T40 l0 x13_1).f1.f0) == ((rd_T40 l1 x13_1).f1.f0)) || (!(((rd_T40 l0 x13_1).f1.f1) == ((rd_T40 l1 x13_1).f1.f1)) || (!(((rd_T40 l0 x13_1).f1.f2) == ((rd_T40 l1 x13_1).f1.f2)) || (!(((rd_T40 l0 x13_1).f1.f3) == ((rd_T40 l1 x13_1).f1.f3)))))))) = true
                · rw [if_pos c8] at H
                  have c8b0 : ((!(((rd_T40 l0 x13_1).f0.f0) == ((rd_T40 l1 x13_1).f0.f0)) || (!(((rd_T40 l0 x13_1).f0.f1) == ((rd_T40 l1 x13_1).f0.f1)) || (!(((rd_T40 l0 x13_1).f0.f2) == ((rd_T40 l1 x13_1).f0.f2)) || (!(((rd_T40 l0 x13_1).f0.f3) == ((rd_T40 l1 x13_1).f0.f3)))))) || ((!(((rd_T40 l0 x13_1).f1.f0) == ((rd_T40 l1 x13_1).f1.f0)) || (!(((rd_T40 l0 x13_1).f1.f1) == ((rd_T40 l1 x13_1).f1.f1)) || (!(((rd_T40 l0 x13_1).f1.f2) == ((rd_T40 l1 x13_1).f1.f2)) || (!(((rd_T40 l0 x13_1).f1.f3) == ((rd_T40 l1 x13_1).f1.f3)))))))) = true := c8
                  clear c8
                  obtain rfl := Option.some.inj H
                  have p118 : 0 ≤ (x13_1 : Int) := of_decide_eq_true (by first | (with_reducible assumption) | assumption)
                  have q118 : x13_1 < (l0.length : Int) := of_decide_eq_true (by first | (with_reducible assumption) | assumption)
                  obtain ⟨ad118, e118, hx118_0, hx118_1, hx118_2, hx118_3, hx118_4, hx118_5, hx118_6, hx118_7⟩ := at_T40 HR0.out x13_1 p118 q118
                  cases e118
                  replace p118 := eq_true p118
                  replace q118 := eq_true q118
                  have p119 : 0 ≤ (x13_1 : Int) := of_decide_eq_true (by first | (with_reducible assumption) | assumption)
                  have q119 : x13_1 < (l1.length : Int) := of_decide_eq_true (by first | (with_reducible assumption) | assumption)
                  obtain ⟨ad119, e119, hx119_0, hx119_1, hx119_2, hx119_3, hx119_4, hx119_5, hx119_6, hx119_7⟩ := at_T40 HR1.out x13_1 p119 q119
                  cases e119
                  replace p119 := eq_true p119
                  replace q119 := eq_true q119
                  go_wp2
                  repeat (go_quiet (fail); try go_wp2)
                  go_ret
                  exact ⟨by first | rfl | (simp; done) | (simp [*]; done), by repeat (first | exact Drawn0.refl _ | apply Drawn0.step)⟩
                · rw [if_neg c8] at H
                  have c8b0 : ((!(((rd_T40 l0 x13_1).f0.f0) == ((rd_T40 l1 x13_1).f0.f0)) || (!(((rd_T40 l0 x13_1).f0.f1) == ((rd_T40 l1 x13_1).f0.f1)) || (!(((rd_T40 l0 x13_1).f0.f2) == ((rd_T40 l1 x13_1).f0.f2)) || (!(((rd_T40 l0 x13_1).f0.f3) == ((rd_T40 l1 x13_1).f0.f3)))))) || ((!(((rd_T40 l0 x13_1).f1.f0) == ((rd_T40 l1 x13_1).f1.f0)) || (!(((rd_T40 l0 x13_1).f1.f1) == ((rd_T40 l1 x13_1).f1.f1)) || (!(((rd_T40 l0 x13_1).f1.f2) == ((rd_T40 l1 x13_1).f1.f2)) || (!(((rd_T40 l0 x13_1).f1.f3) == ((rd_T40 l1 x13_1).f1.f3)))))))) = false := by simpa using c8
                  clear c8
                  have H' := Aside0.mk H
                  clear H
                  have p118 : 0 ≤ (x13_1 : Int) := of_decide_eq_true (by first | (with_reducible assumption) | assumption)
                  have q118 : x13_1 < (l0.length : Int) := of_decide_eq_true (by first | (with_reducible assumption) | assumption)
                  obtain ⟨ad118, e118, hx118_0, hx118_1, hx118_2, hx118_3, hx118_4, hx118_5, hx118_6, hx118_7⟩ := at_T40 HR0.out x13_1 p118 q118
                  cases e118
                  replace p118 := eq_true p118
                  replace q118 := eq_true q118
                  have p119 : 0 ≤ (x13_1 : Int) := of_decide_eq_true (by first | (with_reducible assumption) | assumption)
                  have q119 : x13_1 < (l1.length : Int) := of_decide_eq_true (by first | (with_reducible assumption) | assumption)
                  obtain ⟨ad119, e119, hx119_0, hx119_1, hx119_2, hx119_3, hx119_4, hx119_5, hx119_6, hx119_7⟩ := at_T40 HR1.out x13_1 p119 q119
                  cases e119
                  replace p119 := eq_true p119
                  replace q119 := eq_true q119
                  go_wp2
                  repeat (go_quiet (fail); try go_wp2)
                  go_roundg k1
                  case measure => have := HK1.out; omega
                  case rel => exact ⟨(wrap64 (x13_1 + 1)), (by first | rfl | (simp; done) | (simp [*]; done)), H', ⟨by have := HK1.out; omega⟩, by repeat (first | exact Drawn0.refl _ | apply Drawn0.step)⟩
              · rw [if_neg c7] at H
                exact absurd H (by simp)
            · rw [if_neg c6] at H
              exact absurd H (by simp)
          · rw [if_neg c5] at H
            exact absurd H (by simp)
        · rw [if_neg c4] at H
          have c4b0 : decide (x13_1 < (l0.length : Int)) = false := decide_eq_false c4
          clear c4
          obtain rfl := Option.some.inj H
          go_wp2
          repeat (go_quiet (fail); try go_wp2)
          go_ret
          exact ⟨by first | rfl | (simp; done) | (simp [*]; done), by repeat (first | exact Drawn0.refl _ | apply Drawn0.step)⟩
  · rw [if_neg c3] at H
    have c3b0 : ((l0.length : Int) == (l1.length : Int)) = false := beq_eq_false_iff_ne.mpr c3
    have c3b1 : ((l0.length : Int) != (l1.length : Int)) = true := bne_iff_ne.mpr c3
    have c3b2 : (l0.length == l1.length) = false := by first | simpa using c3 | (simp at c3 ⊢; omega)
    obtain rfl := Option.some.inj H
    go_enter Try.func25, Try.ntmps25
    go_wp2
    repeat (go_quiet (fail); try go_wp2)
    go_ret
    exact ⟨by first | rfl | (simp; done) | (simp [*]; done), by repeat (first | exact Drawn0.refl _ | apply Drawn0.step)⟩

-- left out: function 78

-- left out: function 27

-- left out: function 76

theorem zA_l0 (l : List S40) (hl : l.length ≤ 1000) : ∀ (d i : Nat), l.length - i = d → i ≤ l.length → Evt (fun k => laws_zAreas.l0 k l l (l.length : Int) (i : Int)) true := by
  intro d
  induction d with
  | zero =>
    intro i hd hi
    refine Evt.succ ?_
    simp only [laws_zAreas.l0]
    exact Evt.neg (by omega) (Evt.ret _)
  | succ d ih =>
    intro i hd hi
    have hw : wrap64 ((i : Int) + 1) = ((i + 1 : Nat) : Int) := by rw [wrap_id (by omega) (by omega)]; rfl
    refine Evt.succ ?_
    simp only [laws_zAreas.l0, hw]
    exact Evt.pos (by omega) (Evt.pos (by omega) (Evt.pos (by omega) (Evt.pos (by omega) (Evt.neg (by simp) (ih (i + 1) (by omega) (by omega))))))
theorem zareas_c (l : List S40) (hl : l.length ≤ 1000) (A A1 : Option Addr) (c c1 : Nat) (W : World) (b b1 : Nat) (ok ok1 : Nat → Prop) (h : Kd.R k40 40 W b ok (.slice A l.length c) l) (h1 : Kd.R k40 40 W b1 ok1 (.slice A1 l.length c1) l) :
    Calls Try.prog 25 #[.slice A l.length c, .slice A1 l.length c1] W fun e w' => e = .returned (.bool true) ∧ Below W.heap.size W w' := by
  have he : Evt (fun k => laws_zAreas.f k l l) true := by
    unfold laws_zAreas.f
    exact Evt.pos rfl (zA_l0 l hl l.length 0 (by omega) (by omega))
  obtain ⟨k, hk⟩ := he.get
  refine (laws_zAreas.calls k A c l A1 c1 l true W (Kd.R_reads' h).2.2 (Kd.R_reads' h).2.1 (Kd.R_reads' h1).2.2 (Kd.R_reads' h1).2.1 hk).mono ?_
  rintro e w' h
  exact ⟨h.1, by first | exact h.2 | exact h.2.below⟩
end Go.Proofs.Ytppenjoobcppjaa.PAr
