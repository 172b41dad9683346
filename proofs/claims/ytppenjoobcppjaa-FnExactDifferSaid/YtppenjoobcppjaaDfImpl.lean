/- impl.Differ: the walk. -/
import Derived.Test.YtppenjoobcppjaaDfPure
import Derived.Deep.DrawnRows
import Derived.Deep.RegionHeld3
import Derived.Deep.RegionLaw
import Derived.Deep.DeepCutAuto
import Derived.StillTailTactics
namespace Go.Proofs.Ytppenjoobcppjaa.PDf
open Go.RowKit Go.Proofs.YtppenjoobcppjaaW.PrintWords Go.Proofs.YtppenjoobcppjaaW.PrintLast Go.Proofs.YtppenjoobcppjaaW.PrintMore
set_option linter.unusedVariables false
set_option linter.unusedSimpArgs false
attribute [local go_sem high] eqB133
theorem before_eq (x y : S133) : impl_place_before.f x.f0 x.f1 y.f0 y.f1 = some (bef x y) := by
  unfold impl_place_before.f bef
  split
  · congr 1; symm; rw [decide_eq_true_iff]; exact Or.inl (by assumption)
  · split
    · congr 1; rw [decide_eq_decide]; omega
    · congr 1; symm; rw [decide_eq_false_iff_not]; omega
theorem wrapN (i : Nat) (h : i < 1099511627776) : wrap64 ((i : Int) + 1) = ((i + 1 : Nat) : Int) := by
  rw [Int.natCast_succ]
  unfold wrap64
  omega
theorem bef_anti {x y : S133} (h : bef x y = true) : bef y x = false := by
  unfold bef at h ⊢
  rw [decide_eq_true_iff] at h
  rw [decide_eq_false_iff_not]
  omega
theorem before_c (x y : S133) (W : World) : Calls Try.prog 99 #[.agg #[.int .i64 x.f0, .int .i64 x.f1], .agg #[.int .i64 y.f0, .int .i64 y.f1]] W fun e w' => e = .returned (.bool (bef x y)) ∧ Below W.heap.size W w' := impl_place_before.calls _ _ _ _ _ W (before_eq x y)
set_option maxRecDepth 100000 in
set_option maxHeartbeats 3200000 in
theorem idiffer_no (k : Nat) (A0 : Option Addr) (c0 : Nat) (l0 : List (S133)) (A1 : Option Addr) (c1 : Nat) (l1 : List (S133)) (w : World) (hr0 : Kd.C k133 w A0 l0.length l0) (hc0 : l0.length ≤ c0) (hr1 : Kd.C k133 w A1 l1.length l1) (hc1 : l1.length ≤ c1) (hn0 : l0.length ≤ 1048576) (hn1 : l1.length ≤ 1048576) (ta tb : Bool) (hta : impl_rising.f k l0 = some ta) (htb : impl_rising.f k l1 = some tb) (hno : (ta && tb) = false) :
    Calls Try.prog 50 #[.slice A0 l0.length c0, .slice A1 l1.length c1] w fun e w' => ∃ v0_ : Value, e = .returned (v0_) ∧ Kd.R k133 133 w' w.heap.size (fun _ => True) v0_ [] ∧ Below w.heap.size w w' := by
  have HR0 := Aside0.mk hr0
  have HR1 := Aside0.mk hr1
  have HC := Aside0.mk (And.intro hc0 hc1)
  have HTA := Aside0.mk hta
  have HTB := Aside0.mk htb
  clear hr0 hr1 hc0 hc1 hta htb hn0 hn1
  go_enter Try.func50, Try.ntmps50
  go_wp2_with (fail)
  refine (impl_rising.calls k A0 c0 l0 ta w HR0.out HC.out.1 HTA.out).mono ?_
  rintro e w2 ⟨rfl, hd⟩
  have HB2 := Aside0.mk hd
  have HR2 := Aside0.mk (Kd.C_below HR1.out hd)
  clear hd HR0 HR1
  cases ta with
  | false =>
    go_wp2
    go_ret
    exact ⟨_, rfl, Kd.R_nil _ _ _ _ _, HB2.out⟩
  | true =>
    cases tb with
    | true => cases hno
    | false =>
      go_wp2_with (fail)
      refine (impl_rising.calls k A1 c1 l1 false w2 HR2.out HC.out.2 HTB.out).mono ?_
      rintro e w3 ⟨rfl, hd⟩
      have HB3 := Aside0.mk (below_step HB2.out hd)
      clear hd HB2
      go_wp2
      go_ret
      exact ⟨_, rfl, Kd.R_nil _ _ _ _ _, HB3.out⟩
set_option maxRecDepth 100000 in
set_option maxHeartbeats 6400000 in
theorem idiffer_yes (k : Nat) (A0 : Option Addr) (c0 : Nat) (l0 : List (S133)) (A1 : Option Addr) (c1 : Nat) (l1 : List (S133)) (w : World) (hr0 : Kd.C k133 w A0 l0.length l0) (hc0 : l0.length ≤ c0) (hr1 : Kd.C k133 w A1 l1.length l1) (hc1 : l1.length ≤ c1) (hn0 : l0.length ≤ 1048576) (hn1 : l1.length ≤ 1048576) (hta : impl_rising.f k l0 = some true) (htb : impl_rising.f k l1 = some true) :
    Calls Try.prog 50 #[.slice A0 l0.length c0, .slice A1 l1.length c1] w fun e w' => ∃ v0_ : Value, e = .returned (v0_) ∧ Kd.R k133 133 w' w.heap.size (fun _ => True) v0_ (dif l0 l1) ∧ Below w.heap.size w w' := by
  have hu72 := Try.underlying72
  have hu133 := Try.underlying133
  have HR0 := Aside0.mk hr0
  have HR1 := Aside0.mk hr1
  have HC := Aside0.mk (And.intro hc0 hc1)
  have HN := Aside0.mk (And.intro hn0 hn1)
  have HTA := Aside0.mk hta
  have HTB := Aside0.mk htb
  clear hr0 hr1 hc0 hc1 hta htb hn0 hn1
  go_enter Try.func50, Try.ntmps50
  go_wp2_with (fail)
  refine (impl_rising.calls k A0 c0 l0 true w HR0.out HC.out.1 HTA.out).mono ?_
  rintro e w2 ⟨rfl, hd⟩
  have HB2 := Aside0.mk hd
  have HR2 := Aside0.mk (Kd.C_below HR1.out hd)
  clear hd
  go_wp2_with (fail)
  refine (impl_rising.calls k A1 c1 l1 true w2 HR2.out HC.out.2 HTB.out).mono ?_
  rintro e w3 ⟨rfl, hd⟩
  have HB3 := Aside0.mk (below_step HB2.out hd)
  clear hd HB2 HR2 HTA HTB
  go_wp2_with ((with_reducible refine gate_dst (N := 17) rfl ?_); refine Kd.R_lit k133 w.heap.size 133 ?hg (N := 17) ?hd (xs := []) (inner := []) (ok := fun _ => True) (okp := fun _ => True) ?hr ?hp (fun _ hk => hk) trivial HB3.out HB3.out.size (by simp) ?_; (case hd => rfl); (case hg => rfl); (case hr => (first | (go_simp; done) | (go_simp; rfl))); (case hp => exact Reps.none _ _); intro v17 w4 ho4 hb4 hg4 hn4)
  clear hg4 hn4 HB3
  obtain ⟨A17, c17, rfl⟩ := Kd.R_slice ho4
  have HO4 := Aside0.mk ho4
  have HB4 := Aside0.mk hb4
  clear ho4 hb4
  try go_wp2
  go_loopg [5, 6, 7] (l0.length + l1.length) (fun kq v5 v6 v7 W => ∃ (i j : Nat) (xs : List S133) (A5 : Option Addr) (c5 : Nat), v5 = .slice A5 xs.length c5 ∧ v6 = .int .i64 (i : Int) ∧ v7 = .int .i64 (j : Int) ∧ Aside0 (i ≤ l0.length ∧ j ≤ l1.length ∧ (l0.length - i) + (l1.length - j) ≤ kq ∧ xs.length ≤ i + j) ∧ Aside0 (xs ++ D l0 l1 i j = dif l0 l1) ∧ Aside0 (Kd.R k133 133 W w.heap.size (fun _ => True) (.slice A5 xs.length c5) xs) ∧ Aside0 (Below w.heap.size w W))
  case atStart => exact ⟨0, 0, [], A17, c17, rfl, rfl, rfl, ⟨by simp⟩, ⟨rfl⟩, HO4, HB4⟩
  case round =>
    clear HB4 HO4
    obtain ⟨i, j, xs, A5, c5, rfl, rfl, rfl, HK, HX, HO, HB⟩ := hrel
    by_cases ci : i < l0.length
    · have HI := Aside0.mk ci
      by_cases cj : j < l1.length
      · have HJ := Aside0.mk cj
        clear ci cj
        cases hab : bef (rd_T133 l0 (i : Int)) (rd_T133 l1 (j : Int)) with
        | true =>
          have HAB := Aside0.mk hab
          have r0 : (i : Int) < (l0.length : Int) := by have := HI.out; omega
          obtain ⟨ad0, e0, hw0⟩ := at8N (W := w) HR0.out i HI.out
          cases e0
          have C0 := Aside0.mk (c8_below hw0 HB.out)
          replace hw0 := And.left hw0
          obtain ⟨x0_0, x0_1, x0_2, x0_3, x0_4, x0_5, x0_6, x0_7⟩ := C0.out
          have p0b := eq_true (Int.natCast_nonneg i)
          have r0b := eq_true r0
          have r0c : decide ((i : Int) < (l0.length : Int)) = true := decide_eq_true r0
          have r0d : decide ((i : Int) = (l0.length : Int)) = false := decide_eq_false (by omega)
          have r0e : ((i : Int) == (l0.length : Int)) = false := by (rw [beq_eq_false_iff_ne]; omega)
          clear r0
          have r1 : (j : Int) < (l1.length : Int) := by have := HJ.out; omega
          obtain ⟨ad1, e1, hw1⟩ := at8N (W := w) HR1.out j HJ.out
          cases e1
          have C1 := Aside0.mk (c8_below hw1 HB.out)
          replace hw1 := And.left hw1
          obtain ⟨x1_0, x1_1, x1_2, x1_3, x1_4, x1_5, x1_6, x1_7⟩ := C1.out
          have p1b := eq_true (Int.natCast_nonneg j)
          have r1b := eq_true r1
          have r1c : decide ((j : Int) < (l1.length : Int)) = true := decide_eq_true r1
          have r1d : decide ((j : Int) = (l1.length : Int)) = false := decide_eq_false (by omega)
          have r1e : ((j : Int) == (l1.length : Int)) = false := by (rw [beq_eq_false_iff_ne]; omega)
          clear r1
          have HQ1 : Aside0 (∀ W, Calls Try.prog 99 #[.agg #[.int .i64 ((rd_T133 l0 (i : Int)).f0), .int .i64 ((rd_T133 l0 (i : Int)).f1)], .agg #[.int .i64 ((rd_T133 l1 (j : Int)).f0), .int .i64 ((rd_T133 l1 (j : Int)).f1)]] W fun e w' => e = .returned (.bool true) ∧ Below W.heap.size W w') := ⟨fun W => by (have h := before_c (rd_T133 l0 (i : Int)) (rd_T133 l1 (j : Int)) W; rw [HAB.out] at h; exact h)⟩
          go_wp2
          go_still_tail 32, (by kernel_rfl)
          change wpList _ _ _ _ _ (World.drew wr)
          generalize hq : World.drew wr = w5
          have hb5 : Below wr.heap.size wr w5 := by (rw [← hq]; exact below_drew1 (Below.refl _ _))
          clear hq
          clear x0_0 x0_1 x0_2 x0_3 x0_4 x0_5 x0_6 x0_7
          replace C0 := Aside0.mk (c8_below C0.out hb5)
          obtain ⟨x0_0, x0_1, x0_2, x0_3, x0_4, x0_5, x0_6, x0_7⟩ := C0.out
          clear x1_0 x1_1 x1_2 x1_3 x1_4 x1_5 x1_6 x1_7
          replace C1 := Aside0.mk (c8_below C1.out hb5)
          obtain ⟨x1_0, x1_1, x1_2, x1_3, x1_4, x1_5, x1_6, x1_7⟩ := C1.out
          have HO5 := Aside0.mk (Kd.R_below HO.out hb5)
          have HB5 := Aside0.mk (below_step HB.out hb5)
          clear hb5 HO HB
          go_wp2_with (fail)
          refine (HQ1.out _).mono ?_
          rintro e w6 ⟨rfl, hb6⟩
          clear x0_0 x0_1 x0_2 x0_3 x0_4 x0_5 x0_6 x0_7
          replace C0 := Aside0.mk (c8_below C0.out hb6)
          obtain ⟨x0_0, x0_1, x0_2, x0_3, x0_4, x0_5, x0_6, x0_7⟩ := C0.out
          clear x1_0 x1_1 x1_2 x1_3 x1_4 x1_5 x1_6 x1_7
          replace C1 := Aside0.mk (c8_below C1.out hb6)
          obtain ⟨x1_0, x1_1, x1_2, x1_3, x1_4, x1_5, x1_6, x1_7⟩ := C1.out
          have HO6 := Aside0.mk (Kd.R_below HO5.out hb6)
          have HB6 := Aside0.mk (below_step HB5.out hb6)
          clear hb6 HO5 HB5
          go_wp2
          obtain ⟨y0, y1⟩ : (World.alloc w6 (Obj.cells #[.int .i64 0, .int .i64 0, .int .i64 0, .bool false, .int .i64 0, .int .i64 0, .string (⟨#[]⟩ : ByteArray), .bool false] 133 (0, 0))).cell? (ad0.add (i * 8)) = some (.int .i64 ((rd_T133 l0 (i : Int)).f0)) ∧ (World.alloc w6 (Obj.cells #[.int .i64 0, .int .i64 0, .int .i64 0, .bool false, .int .i64 0, .int .i64 0, .string (⟨#[]⟩ : ByteArray), .bool false] 133 (0, 0))).cell? ⟨(ad0.add (i * 8)).block, (ad0.add (i * 8)).off + 1, none⟩ = some (.int .i64 ((rd_T133 l0 (i : Int)).f1)) := ⟨((below_alloc (Below.refl _ _) _).cell (World.block_lt_of_cell? w6 _ x0_0)).trans x0_0, ((below_alloc (Below.refl _ _) _).cell (World.block_lt_of_cell? w6 _ x0_1)).trans x0_1⟩
          go_region
          clear y0 y1
          obtain ⟨w7, hw7⟩ : ∃ W, W = (World.alloc w6 (Obj.cells #[.int .i64 ((rd_T133 l0 (i : Int)).f0), .int .i64 ((rd_T133 l0 (i : Int)).f1), .int .i64 (0), .bool (false), .int .i64 (0), .int .i64 (0), .string ((⟨#[]⟩ : ByteArray)), .bool (false)] 133 (0, 0))).drew := ⟨_, rfl⟩
          rw [← hw7]
          obtain ⟨gx, hgx⟩ : ∃ g, g = w6.heap.size := ⟨_, rfl⟩
          rw [← hgx]
          have hb7 : Below w6.heap.size w6 w7 := by (rw [hw7]; exact below_drew1 (below_alloc (Below.refl _ _) _))
          have BX : Aside0 (w7.heap[gx]? = some (.cells #[.int .i64 ((rd_T133 l0 (i : Int)).f0), .int .i64 ((rd_T133 l0 (i : Int)).f1), .int .i64 (0), .bool (false), .int .i64 (0), .int .i64 (0), .string ((⟨#[]⟩ : ByteArray)), .bool (false)] 133 (0, 0))) := ⟨by (rw [hw7, hgx]; exact blk_new _ _)⟩
          clear hw7 hgx
          clear x0_0 x0_1 x0_2 x0_3 x0_4 x0_5 x0_6 x0_7
          replace C0 := Aside0.mk (c8_below C0.out hb7)
          obtain ⟨x0_0, x0_1, x0_2, x0_3, x0_4, x0_5, x0_6, x0_7⟩ := C0.out
          clear x1_0 x1_1 x1_2 x1_3 x1_4 x1_5 x1_6 x1_7
          replace C1 := Aside0.mk (c8_below C1.out hb7)
          obtain ⟨x1_0, x1_1, x1_2, x1_3, x1_4, x1_5, x1_6, x1_7⟩ := C1.out
          have HO7 := Aside0.mk (Kd.R_below HO6.out hb7)
          have HB7 := Aside0.mk (below_step HB6.out hb7)
          clear hb7 HO6 HB6
          go_wp2
          obtain ⟨q0, q1, q2, q3, q4, q5, q6, q7⟩ := bx8 BX.out
          obtain ⟨t, ht⟩ : ∃ t, eqq ((rd_T133 l0 (i : Int)).f0) ((rd_T133 l0 (i : Int)).f0) ((rd_T133 l0 (i : Int)).f1) ((rd_T133 l0 (i : Int)).f1) ((rd_T133 l0 (i : Int)).f2.f0) (0) ((rd_T133 l0 (i : Int)).f2.f1.f0) (false) ((rd_T133 l0 (i : Int)).f2.f1.f1) (0) ((rd_T133 l0 (i : Int)).f2.f1.f2) (0) ((rd_T133 l0 (i : Int)).f2.f2) ((⟨#[]⟩ : ByteArray)) ((rd_T133 l0 (i : Int)).f3) (false) = t := ⟨_, rfl⟩
          have HT : Aside0 (eqS (rd_T133 l0 (i : Int)) (bl (rd_T133 l0 (i : Int))) = t) := ⟨ht⟩
          cases t with
          | true =>
            go_quiet (fail)
            generalize hq : World.drewN w7 _ = w8
            have hb8 : Below w7.heap.size w7 w8 := by (rw [← hq]; exact pw_below_drewN (Below.refl _ _) _)
            clear hq
            clear q0 q1 q2 q3 q4 q5 q6 q7
            obtain ⟨q0, q1, q2, q3, q4, q5, q6, q7⟩ := bx8 (blk_below BX.out hb8)
            clear x0_0 x0_1 x0_2 x0_3 x0_4 x0_5 x0_6 x0_7
            replace C0 := Aside0.mk (c8_below C0.out hb8)
            obtain ⟨x0_0, x0_1, x0_2, x0_3, x0_4, x0_5, x0_6, x0_7⟩ := C0.out
            clear x1_0 x1_1 x1_2 x1_3 x1_4 x1_5 x1_6 x1_7
            replace C1 := Aside0.mk (c8_below C1.out hb8)
            obtain ⟨x1_0, x1_1, x1_2, x1_3, x1_4, x1_5, x1_6, x1_7⟩ := C1.out
            have HO8 := Aside0.mk (Kd.R_below HO7.out hb8)
            have HB8 := Aside0.mk (below_step HB7.out hb8)
            clear hb8 HO7 HB7
            go_wp2
            clear x0_0 x0_1 x0_2 x0_3 x0_4 x0_5 x0_6 x0_7 x1_0 x1_1 x1_2 x1_3 x1_4 x1_5 x1_6 x1_7 q0 q1 q2 q3 q4 q5 q6 q7
            go_roundg (gk - 1)
            case measure => have := HK.out; have := HI.out; have := HJ.out; omega
            case rel => exact ⟨(i + 1), j, xs, A5, c5, rfl, (congrArg (Value.int .i64) (wrapN i (by have := HN.out; have := HK.out; omega))), rfl, ⟨by have := HK.out; have := HI.out; have := HJ.out; omega⟩, ⟨by (have h := HX.out; rw [D_a l0 l1 i j HI.out HJ.out HAB.out, HT.out] at h; exact h)⟩, HO8, HB8⟩
          | false =>
            go_quiet (fail)
            generalize hq : World.drewN w7 _ = w8
            have hb8 : Below w7.heap.size w7 w8 := by (rw [← hq]; exact pw_below_drewN (Below.refl _ _) _)
            clear hq
            clear q0 q1 q2 q3 q4 q5 q6 q7
            obtain ⟨q0, q1, q2, q3, q4, q5, q6, q7⟩ := bx8 (blk_below BX.out hb8)
            clear x0_0 x0_1 x0_2 x0_3 x0_4 x0_5 x0_6 x0_7
            replace C0 := Aside0.mk (c8_below C0.out hb8)
            obtain ⟨x0_0, x0_1, x0_2, x0_3, x0_4, x0_5, x0_6, x0_7⟩ := C0.out
            clear x1_0 x1_1 x1_2 x1_3 x1_4 x1_5 x1_6 x1_7
            replace C1 := Aside0.mk (c8_below C1.out hb8)
            obtain ⟨x1_0, x1_1, x1_2, x1_3, x1_4, x1_5, x1_6, x1_7⟩ := C1.out
            have HO8 := Aside0.mk (Kd.R_below HO7.out hb8)
            have HB8 := Aside0.mk (below_step HB7.out hb8)
            clear hb8 HO7 HB7
            go_wp2_with (at_builtin; refine Kd.R_append_rows k133 (Rr := fun y cs => y = (bl (rd_T133 l0 (i : Int))) ∧ cs = cS (bl (rd_T133 l0 (i : Int)))) (w0 := w) w.heap.size rfl (.tmp 101) (.tmp 103) 72 133 (.agg #[.int .i64 0, .int .i64 0, .int .i64 0, .bool false, .int .i64 0, .int .i64 0, .string (⟨#[]⟩ : ByteArray), .bool false]) 72 rfl Try.underlying72 info133 rfl (by decide) (by decide) (.slice A5 xs.length c5) xs [(bl (rd_T133 l0 (i : Int)))] (some ⟨w8.heap.size, 0, none⟩) 1 1 (fun _ => True) (fun _ => False) rfl rfl (Kd.R_alloc HO8.out _) (litS w8 (bl (rd_T133 l0 (i : Int)))) (fun y cs h => by obtain ⟨rfl, rfl⟩ := h; exact k133_mkM _ _ _ _) (fun _ hk => hk.elim) (fun k hk => trivial) (below_alloc HB8.out _) (by have := HB8.out.size; simp; omega) (by have := HN.out; have := HK.out; omega) ?_; intro v30 w30 ho30 hb30 hg30 hat30)
            clear x0_0 x0_1 x0_2 x0_3 x0_4 x0_5 x0_6 x0_7 x1_0 x1_1 x1_2 x1_3 x1_4 x1_5 x1_6 x1_7 q0 q1 q2 q3 q4 q5 q6 q7
            clear hg30 hat30
            obtain ⟨A6, c6, rfl⟩ := Kd.R_slice ho30
            try go_wp2
            go_roundg (gk - 1)
            case measure => have := HK.out; have := HI.out; have := HJ.out; omega
            case rel => exact ⟨(i + 1), j, xs ++ [(bl (rd_T133 l0 (i : Int)))], A6, c6, rfl, (congrArg (Value.int .i64) (wrapN i (by have := HN.out; have := HK.out; omega))), rfl, ⟨by have := HK.out; have := HI.out; have := HJ.out; (rw [List.length_append]; simp only [List.length_cons, List.length_nil]); omega⟩, ⟨by (have h := HX.out; rw [D_a l0 l1 i j HI.out HJ.out HAB.out, HT.out, ← List.append_assoc] at h; exact h)⟩, ⟨ho30⟩, ⟨hb30⟩⟩
        | false =>
          cases hba : bef (rd_T133 l1 (j : Int)) (rd_T133 l0 (i : Int)) with
          | true =>
            have HAB := Aside0.mk hab
            have HBA := Aside0.mk hba
            have r0 : (i : Int) < (l0.length : Int) := by have := HI.out; omega
            obtain ⟨ad0, e0, hw0⟩ := at8N (W := w) HR0.out i HI.out
            cases e0
            have C0 := Aside0.mk (c8_below hw0 HB.out)
            replace hw0 := And.left hw0
            obtain ⟨x0_0, x0_1, x0_2, x0_3, x0_4, x0_5, x0_6, x0_7⟩ := C0.out
            have p0b := eq_true (Int.natCast_nonneg i)
            have r0b := eq_true r0
            have r0c : decide ((i : Int) < (l0.length : Int)) = true := decide_eq_true r0
            have r0d : decide ((i : Int) = (l0.length : Int)) = false := decide_eq_false (by omega)
            have r0e : ((i : Int) == (l0.length : Int)) = false := by (rw [beq_eq_false_iff_ne]; omega)
            clear r0
            have r1 : (j : Int) < (l1.length : Int) := by have := HJ.out; omega
            obtain ⟨ad1, e1, hw1⟩ := at8N (W := w) HR1.out j HJ.out
            cases e1
            have C1 := Aside0.mk (c8_below hw1 HB.out)
            replace hw1 := And.left hw1
            obtain ⟨x1_0, x1_1, x1_2, x1_3, x1_4, x1_5, x1_6, x1_7⟩ := C1.out
            have p1b := eq_true (Int.natCast_nonneg j)
            have r1b := eq_true r1
            have r1c : decide ((j : Int) < (l1.length : Int)) = true := decide_eq_true r1
            have r1d : decide ((j : Int) = (l1.length : Int)) = false := decide_eq_false (by omega)
            have r1e : ((j : Int) == (l1.length : Int)) = false := by (rw [beq_eq_false_iff_ne]; omega)
            clear r1
            have HQ1 : Aside0 (∀ W, Calls Try.prog 99 #[.agg #[.int .i64 ((rd_T133 l0 (i : Int)).f0), .int .i64 ((rd_T133 l0 (i : Int)).f1)], .agg #[.int .i64 ((rd_T133 l1 (j : Int)).f0), .int .i64 ((rd_T133 l1 (j : Int)).f1)]] W fun e w' => e = .returned (.bool false) ∧ Below W.heap.size W w') := ⟨fun W => by (have h := before_c (rd_T133 l0 (i : Int)) (rd_T133 l1 (j : Int)) W; rw [HAB.out] at h; exact h)⟩
            have HQ2 : Aside0 (∀ W, Calls Try.prog 99 #[.agg #[.int .i64 ((rd_T133 l1 (j : Int)).f0), .int .i64 ((rd_T133 l1 (j : Int)).f1)], .agg #[.int .i64 ((rd_T133 l0 (i : Int)).f0), .int .i64 ((rd_T133 l0 (i : Int)).f1)]] W fun e w' => e = .returned (.bool true) ∧ Below W.heap.size W w') := ⟨fun W => by (have h := before_c (rd_T133 l1 (j : Int)) (rd_T133 l0 (i : Int)) W; rw [HBA.out] at h; exact h)⟩
            go_wp2
            go_still_tail 32, (by kernel_rfl)
            change wpList _ _ _ _ _ (World.drew wr)
            generalize hq : World.drew wr = w5
            have hb5 : Below wr.heap.size wr w5 := by (rw [← hq]; exact below_drew1 (Below.refl _ _))
            clear hq
            clear x0_0 x0_1 x0_2 x0_3 x0_4 x0_5 x0_6 x0_7
            replace C0 := Aside0.mk (c8_below C0.out hb5)
            obtain ⟨x0_0, x0_1, x0_2, x0_3, x0_4, x0_5, x0_6, x0_7⟩ := C0.out
            clear x1_0 x1_1 x1_2 x1_3 x1_4 x1_5 x1_6 x1_7
            replace C1 := Aside0.mk (c8_below C1.out hb5)
            obtain ⟨x1_0, x1_1, x1_2, x1_3, x1_4, x1_5, x1_6, x1_7⟩ := C1.out
            have HO5 := Aside0.mk (Kd.R_below HO.out hb5)
            have HB5 := Aside0.mk (below_step HB.out hb5)
            clear hb5 HO HB
            go_wp2_with (fail)
            refine (HQ1.out _).mono ?_
            rintro e w6 ⟨rfl, hb6⟩
            clear x0_0 x0_1 x0_2 x0_3 x0_4 x0_5 x0_6 x0_7
            replace C0 := Aside0.mk (c8_below C0.out hb6)
            obtain ⟨x0_0, x0_1, x0_2, x0_3, x0_4, x0_5, x0_6, x0_7⟩ := C0.out
            clear x1_0 x1_1 x1_2 x1_3 x1_4 x1_5 x1_6 x1_7
            replace C1 := Aside0.mk (c8_below C1.out hb6)
            obtain ⟨x1_0, x1_1, x1_2, x1_3, x1_4, x1_5, x1_6, x1_7⟩ := C1.out
            have HO6 := Aside0.mk (Kd.R_below HO5.out hb6)
            have HB6 := Aside0.mk (below_step HB5.out hb6)
            clear hb6 HO5 HB5
            go_wp2
            go_still_tail 27, (by kernel_rfl)
            change wpList _ _ _ _ _ (World.drew w6)
            generalize hq : World.drew w6 = w7
            have hb7 : Below w6.heap.size w6 w7 := by (rw [← hq]; exact below_drew1 (Below.refl _ _))
            clear hq
            clear x0_0 x0_1 x0_2 x0_3 x0_4 x0_5 x0_6 x0_7
            replace C0 := Aside0.mk (c8_below C0.out hb7)
            obtain ⟨x0_0, x0_1, x0_2, x0_3, x0_4, x0_5, x0_6, x0_7⟩ := C0.out
            clear x1_0 x1_1 x1_2 x1_3 x1_4 x1_5 x1_6 x1_7
            replace C1 := Aside0.mk (c8_below C1.out hb7)
            obtain ⟨x1_0, x1_1, x1_2, x1_3, x1_4, x1_5, x1_6, x1_7⟩ := C1.out
            have HO7 := Aside0.mk (Kd.R_below HO6.out hb7)
            have HB7 := Aside0.mk (below_step HB6.out hb7)
            clear hb7 HO6 HB6
            go_wp2_with (fail)
            refine (HQ2.out _).mono ?_
            rintro e w8 ⟨rfl, hb8⟩
            clear x0_0 x0_1 x0_2 x0_3 x0_4 x0_5 x0_6 x0_7
            replace C0 := Aside0.mk (c8_below C0.out hb8)
            obtain ⟨x0_0, x0_1, x0_2, x0_3, x0_4, x0_5, x0_6, x0_7⟩ := C0.out
            clear x1_0 x1_1 x1_2 x1_3 x1_4 x1_5 x1_6 x1_7
            replace C1 := Aside0.mk (c8_below C1.out hb8)
            obtain ⟨x1_0, x1_1, x1_2, x1_3, x1_4, x1_5, x1_6, x1_7⟩ := C1.out
            have HO8 := Aside0.mk (Kd.R_below HO7.out hb8)
            have HB8 := Aside0.mk (below_step HB7.out hb8)
            clear hb8 HO7 HB7
            go_wp2
            obtain ⟨t, ht⟩ : ∃ t, eqq ((rd_T133 l1 (j : Int)).f0) ((rd_T133 l1 (j : Int)).f0) ((rd_T133 l1 (j : Int)).f1) ((rd_T133 l1 (j : Int)).f1) ((rd_T133 l1 (j : Int)).f2.f0) (0) ((rd_T133 l1 (j : Int)).f2.f1.f0) (false) ((rd_T133 l1 (j : Int)).f2.f1.f1) (0) ((rd_T133 l1 (j : Int)).f2.f1.f2) (0) ((rd_T133 l1 (j : Int)).f2.f2) ((⟨#[]⟩ : ByteArray)) ((rd_T133 l1 (j : Int)).f3) (false) = t := ⟨_, rfl⟩
            have HT : Aside0 (eqS (rd_T133 l1 (j : Int)) (bl (rd_T133 l1 (j : Int))) = t) := ⟨ht⟩
            cases t with
            | true =>
              go_quiet (fail)
              generalize hq : World.drewN w8 _ = w9
              have hb9 : Below w8.heap.size w8 w9 := by (rw [← hq]; exact pw_below_drewN (Below.refl _ _) _)
              clear hq
              clear x0_0 x0_1 x0_2 x0_3 x0_4 x0_5 x0_6 x0_7
              replace C0 := Aside0.mk (c8_below C0.out hb9)
              obtain ⟨x0_0, x0_1, x0_2, x0_3, x0_4, x0_5, x0_6, x0_7⟩ := C0.out
              clear x1_0 x1_1 x1_2 x1_3 x1_4 x1_5 x1_6 x1_7
              replace C1 := Aside0.mk (c8_below C1.out hb9)
              obtain ⟨x1_0, x1_1, x1_2, x1_3, x1_4, x1_5, x1_6, x1_7⟩ := C1.out
              have HO9 := Aside0.mk (Kd.R_below HO8.out hb9)
              have HB9 := Aside0.mk (below_step HB8.out hb9)
              clear hb9 HO8 HB8
              go_wp2
              clear x0_0 x0_1 x0_2 x0_3 x0_4 x0_5 x0_6 x0_7 x1_0 x1_1 x1_2 x1_3 x1_4 x1_5 x1_6 x1_7
              go_roundg (gk - 1)
              case measure => have := HK.out; have := HI.out; have := HJ.out; omega
              case rel => exact ⟨i, (j + 1), xs, A5, c5, rfl, rfl, (congrArg (Value.int .i64) (wrapN j (by have := HN.out; have := HK.out; omega))), ⟨by have := HK.out; have := HI.out; have := HJ.out; omega⟩, ⟨by (have h := HX.out; rw [D_b l0 l1 i j HI.out HJ.out HAB.out HBA.out, HT.out] at h; exact h)⟩, HO9, HB9⟩
            | false =>
              go_quiet (fail)
              generalize hq : World.drewN w8 _ = w9
              have hb9 : Below w8.heap.size w8 w9 := by (rw [← hq]; exact pw_below_drewN (Below.refl _ _) _)
              clear hq
              clear x0_0 x0_1 x0_2 x0_3 x0_4 x0_5 x0_6 x0_7
              replace C0 := Aside0.mk (c8_below C0.out hb9)
              obtain ⟨x0_0, x0_1, x0_2, x0_3, x0_4, x0_5, x0_6, x0_7⟩ := C0.out
              clear x1_0 x1_1 x1_2 x1_3 x1_4 x1_5 x1_6 x1_7
              replace C1 := Aside0.mk (c8_below C1.out hb9)
              obtain ⟨x1_0, x1_1, x1_2, x1_3, x1_4, x1_5, x1_6, x1_7⟩ := C1.out
              have HO9 := Aside0.mk (Kd.R_below HO8.out hb9)
              have HB9 := Aside0.mk (below_step HB8.out hb9)
              clear hb9 HO8 HB8
              go_wp2_with (at_builtin; refine Kd.R_append_rows k133 (Rr := fun y cs => y = (rd_T133 l1 (j : Int)) ∧ cs = cS (rd_T133 l1 (j : Int))) (w0 := w) w.heap.size rfl (.tmp 153) (.tmp 158) 72 133 (.agg #[.int .i64 0, .int .i64 0, .int .i64 0, .bool false, .int .i64 0, .int .i64 0, .string (⟨#[]⟩ : ByteArray), .bool false]) 72 rfl Try.underlying72 info133 rfl (by decide) (by decide) (.slice A5 xs.length c5) xs [(rd_T133 l1 (j : Int))] (some ⟨w9.heap.size, 0, none⟩) 1 1 (fun _ => True) (fun _ => False) rfl rfl (Kd.R_alloc HO9.out _) (litS w9 (rd_T133 l1 (j : Int))) (fun y cs h => by obtain ⟨rfl, rfl⟩ := h; exact k133_mkM _ _ _ _) (fun _ hk => hk.elim) (fun k hk => trivial) (below_alloc HB9.out _) (by have := HB9.out.size; simp; omega) (by have := HN.out; have := HK.out; omega) ?_; intro v30 w30 ho30 hb30 hg30 hat30)
              clear x0_0 x0_1 x0_2 x0_3 x0_4 x0_5 x0_6 x0_7 x1_0 x1_1 x1_2 x1_3 x1_4 x1_5 x1_6 x1_7
              clear hg30 hat30
              obtain ⟨A6, c6, rfl⟩ := Kd.R_slice ho30
              try go_wp2
              go_roundg (gk - 1)
              case measure => have := HK.out; have := HI.out; have := HJ.out; omega
              case rel => exact ⟨i, (j + 1), xs ++ [(rd_T133 l1 (j : Int))], A6, c6, rfl, rfl, (congrArg (Value.int .i64) (wrapN j (by have := HN.out; have := HK.out; omega))), ⟨by have := HK.out; have := HI.out; have := HJ.out; (rw [List.length_append]; simp only [List.length_cons, List.length_nil]); omega⟩, ⟨by (have h := HX.out; rw [D_b l0 l1 i j HI.out HJ.out HAB.out HBA.out, HT.out, ← List.append_assoc] at h; exact h)⟩, ⟨ho30⟩, ⟨hb30⟩⟩
          | false =>
            have HAB := Aside0.mk hab
            have HBA := Aside0.mk hba
            have r0 : (i : Int) < (l0.length : Int) := by have := HI.out; omega
            obtain ⟨ad0, e0, hw0⟩ := at8N (W := w) HR0.out i HI.out
            cases e0
            have C0 := Aside0.mk (c8_below hw0 HB.out)
            replace hw0 := And.left hw0
            obtain ⟨x0_0, x0_1, x0_2, x0_3, x0_4, x0_5, x0_6, x0_7⟩ := C0.out
            have p0b := eq_true (Int.natCast_nonneg i)
            have r0b := eq_true r0
            have r0c : decide ((i : Int) < (l0.length : Int)) = true := decide_eq_true r0
            have r0d : decide ((i : Int) = (l0.length : Int)) = false := decide_eq_false (by omega)
            have r0e : ((i : Int) == (l0.length : Int)) = false := by (rw [beq_eq_false_iff_ne]; omega)
            clear r0
            have r1 : (j : Int) < (l1.length : Int) := by have := HJ.out; omega
            obtain ⟨ad1, e1, hw1⟩ := at8N (W := w) HR1.out j HJ.out
            cases e1
            have C1 := Aside0.mk (c8_below hw1 HB.out)
            replace hw1 := And.left hw1
            obtain ⟨x1_0, x1_1, x1_2, x1_3, x1_4, x1_5, x1_6, x1_7⟩ := C1.out
            have p1b := eq_true (Int.natCast_nonneg j)
            have r1b := eq_true r1
            have r1c : decide ((j : Int) < (l1.length : Int)) = true := decide_eq_true r1
            have r1d : decide ((j : Int) = (l1.length : Int)) = false := decide_eq_false (by omega)
            have r1e : ((j : Int) == (l1.length : Int)) = false := by (rw [beq_eq_false_iff_ne]; omega)
            clear r1
            have HQ1 : Aside0 (∀ W, Calls Try.prog 99 #[.agg #[.int .i64 ((rd_T133 l0 (i : Int)).f0), .int .i64 ((rd_T133 l0 (i : Int)).f1)], .agg #[.int .i64 ((rd_T133 l1 (j : Int)).f0), .int .i64 ((rd_T133 l1 (j : Int)).f1)]] W fun e w' => e = .returned (.bool false) ∧ Below W.heap.size W w') := ⟨fun W => by (have h := before_c (rd_T133 l0 (i : Int)) (rd_T133 l1 (j : Int)) W; rw [HAB.out] at h; exact h)⟩
            have HQ2 : Aside0 (∀ W, Calls Try.prog 99 #[.agg #[.int .i64 ((rd_T133 l1 (j : Int)).f0), .int .i64 ((rd_T133 l1 (j : Int)).f1)], .agg #[.int .i64 ((rd_T133 l0 (i : Int)).f0), .int .i64 ((rd_T133 l0 (i : Int)).f1)]] W fun e w' => e = .returned (.bool false) ∧ Below W.heap.size W w') := ⟨fun W => by (have h := before_c (rd_T133 l1 (j : Int)) (rd_T133 l0 (i : Int)) W; rw [HBA.out] at h; exact h)⟩
            go_wp2
            go_still_tail 32, (by kernel_rfl)
            change wpList _ _ _ _ _ (World.drew wr)
            generalize hq : World.drew wr = w5
            have hb5 : Below wr.heap.size wr w5 := by (rw [← hq]; exact below_drew1 (Below.refl _ _))
            clear hq
            clear x0_0 x0_1 x0_2 x0_3 x0_4 x0_5 x0_6 x0_7
            replace C0 := Aside0.mk (c8_below C0.out hb5)
            obtain ⟨x0_0, x0_1, x0_2, x0_3, x0_4, x0_5, x0_6, x0_7⟩ := C0.out
            clear x1_0 x1_1 x1_2 x1_3 x1_4 x1_5 x1_6 x1_7
            replace C1 := Aside0.mk (c8_below C1.out hb5)
            obtain ⟨x1_0, x1_1, x1_2, x1_3, x1_4, x1_5, x1_6, x1_7⟩ := C1.out
            have HO5 := Aside0.mk (Kd.R_below HO.out hb5)
            have HB5 := Aside0.mk (below_step HB.out hb5)
            clear hb5 HO HB
            go_wp2_with (fail)
            refine (HQ1.out _).mono ?_
            rintro e w6 ⟨rfl, hb6⟩
            clear x0_0 x0_1 x0_2 x0_3 x0_4 x0_5 x0_6 x0_7
            replace C0 := Aside0.mk (c8_below C0.out hb6)
            obtain ⟨x0_0, x0_1, x0_2, x0_3, x0_4, x0_5, x0_6, x0_7⟩ := C0.out
            clear x1_0 x1_1 x1_2 x1_3 x1_4 x1_5 x1_6 x1_7
            replace C1 := Aside0.mk (c8_below C1.out hb6)
            obtain ⟨x1_0, x1_1, x1_2, x1_3, x1_4, x1_5, x1_6, x1_7⟩ := C1.out
            have HO6 := Aside0.mk (Kd.R_below HO5.out hb6)
            have HB6 := Aside0.mk (below_step HB5.out hb6)
            clear hb6 HO5 HB5
            go_wp2
            go_still_tail 27, (by kernel_rfl)
            change wpList _ _ _ _ _ (World.drew w6)
            generalize hq : World.drew w6 = w7
            have hb7 : Below w6.heap.size w6 w7 := by (rw [← hq]; exact below_drew1 (Below.refl _ _))
            clear hq
            clear x0_0 x0_1 x0_2 x0_3 x0_4 x0_5 x0_6 x0_7
            replace C0 := Aside0.mk (c8_below C0.out hb7)
            obtain ⟨x0_0, x0_1, x0_2, x0_3, x0_4, x0_5, x0_6, x0_7⟩ := C0.out
            clear x1_0 x1_1 x1_2 x1_3 x1_4 x1_5 x1_6 x1_7
            replace C1 := Aside0.mk (c8_below C1.out hb7)
            obtain ⟨x1_0, x1_1, x1_2, x1_3, x1_4, x1_5, x1_6, x1_7⟩ := C1.out
            have HO7 := Aside0.mk (Kd.R_below HO6.out hb7)
            have HB7 := Aside0.mk (below_step HB6.out hb7)
            clear hb7 HO6 HB6
            go_wp2_with (fail)
            refine (HQ2.out _).mono ?_
            rintro e w8 ⟨rfl, hb8⟩
            clear x0_0 x0_1 x0_2 x0_3 x0_4 x0_5 x0_6 x0_7
            replace C0 := Aside0.mk (c8_below C0.out hb8)
            obtain ⟨x0_0, x0_1, x0_2, x0_3, x0_4, x0_5, x0_6, x0_7⟩ := C0.out
            clear x1_0 x1_1 x1_2 x1_3 x1_4 x1_5 x1_6 x1_7
            replace C1 := Aside0.mk (c8_below C1.out hb8)
            obtain ⟨x1_0, x1_1, x1_2, x1_3, x1_4, x1_5, x1_6, x1_7⟩ := C1.out
            have HO8 := Aside0.mk (Kd.R_below HO7.out hb8)
            have HB8 := Aside0.mk (below_step HB7.out hb8)
            clear hb8 HO7 HB7
            go_wp2
            obtain ⟨t, ht⟩ : ∃ t, eqq ((rd_T133 l0 (i : Int)).f0) ((rd_T133 l1 (j : Int)).f0) ((rd_T133 l0 (i : Int)).f1) ((rd_T133 l1 (j : Int)).f1) ((rd_T133 l0 (i : Int)).f2.f0) ((rd_T133 l1 (j : Int)).f2.f0) ((rd_T133 l0 (i : Int)).f2.f1.f0) ((rd_T133 l1 (j : Int)).f2.f1.f0) ((rd_T133 l0 (i : Int)).f2.f1.f1) ((rd_T133 l1 (j : Int)).f2.f1.f1) ((rd_T133 l0 (i : Int)).f2.f1.f2) ((rd_T133 l1 (j : Int)).f2.f1.f2) ((rd_T133 l0 (i : Int)).f2.f2) ((rd_T133 l1 (j : Int)).f2.f2) ((rd_T133 l0 (i : Int)).f3) ((rd_T133 l1 (j : Int)).f3) = t := ⟨_, rfl⟩
            have HT : Aside0 (eqS (rd_T133 l0 (i : Int)) (rd_T133 l1 (j : Int)) = t) := ⟨ht⟩
            cases t with
            | true =>
              go_quiet (fail)
              generalize hq : World.drewN w8 _ = w9
              have hb9 : Below w8.heap.size w8 w9 := by (rw [← hq]; exact pw_below_drewN (Below.refl _ _) _)
              clear hq
              clear x0_0 x0_1 x0_2 x0_3 x0_4 x0_5 x0_6 x0_7
              replace C0 := Aside0.mk (c8_below C0.out hb9)
              obtain ⟨x0_0, x0_1, x0_2, x0_3, x0_4, x0_5, x0_6, x0_7⟩ := C0.out
              clear x1_0 x1_1 x1_2 x1_3 x1_4 x1_5 x1_6 x1_7
              replace C1 := Aside0.mk (c8_below C1.out hb9)
              obtain ⟨x1_0, x1_1, x1_2, x1_3, x1_4, x1_5, x1_6, x1_7⟩ := C1.out
              have HO9 := Aside0.mk (Kd.R_below HO8.out hb9)
              have HB9 := Aside0.mk (below_step HB8.out hb9)
              clear hb9 HO8 HB8
              go_wp2
              clear x0_0 x0_1 x0_2 x0_3 x0_4 x0_5 x0_6 x0_7 x1_0 x1_1 x1_2 x1_3 x1_4 x1_5 x1_6 x1_7
              go_roundg (gk - 1)
              case measure => have := HK.out; have := HI.out; have := HJ.out; omega
              case rel => exact ⟨(i + 1), (j + 1), xs, A5, c5, rfl, (congrArg (Value.int .i64) (wrapN i (by have := HN.out; have := HK.out; omega))), (congrArg (Value.int .i64) (wrapN j (by have := HN.out; have := HK.out; omega))), ⟨by have := HK.out; have := HI.out; have := HJ.out; omega⟩, ⟨by (have h := HX.out; rw [D_e l0 l1 i j HI.out HJ.out HAB.out HBA.out, HT.out] at h; exact h)⟩, HO9, HB9⟩
            | false =>
              go_quiet (fail)
              generalize hq : World.drewN w8 _ = w9
              have hb9 : Below w8.heap.size w8 w9 := by (rw [← hq]; exact pw_below_drewN (Below.refl _ _) _)
              clear hq
              clear x0_0 x0_1 x0_2 x0_3 x0_4 x0_5 x0_6 x0_7
              replace C0 := Aside0.mk (c8_below C0.out hb9)
              obtain ⟨x0_0, x0_1, x0_2, x0_3, x0_4, x0_5, x0_6, x0_7⟩ := C0.out
              clear x1_0 x1_1 x1_2 x1_3 x1_4 x1_5 x1_6 x1_7
              replace C1 := Aside0.mk (c8_below C1.out hb9)
              obtain ⟨x1_0, x1_1, x1_2, x1_3, x1_4, x1_5, x1_6, x1_7⟩ := C1.out
              have HO9 := Aside0.mk (Kd.R_below HO8.out hb9)
              have HB9 := Aside0.mk (below_step HB8.out hb9)
              clear hb9 HO8 HB8
              go_wp2_with (at_builtin; refine Kd.R_append_rows k133 (Rr := fun y cs => y = (rd_T133 l1 (j : Int)) ∧ cs = cS (rd_T133 l1 (j : Int))) (w0 := w) w.heap.size rfl (.tmp 37) (.tmp 42) 72 133 (.agg #[.int .i64 0, .int .i64 0, .int .i64 0, .bool false, .int .i64 0, .int .i64 0, .string (⟨#[]⟩ : ByteArray), .bool false]) 72 rfl Try.underlying72 info133 rfl (by decide) (by decide) (.slice A5 xs.length c5) xs [(rd_T133 l1 (j : Int))] (some ⟨w9.heap.size, 0, none⟩) 1 1 (fun _ => True) (fun _ => False) rfl rfl (Kd.R_alloc HO9.out _) (litS w9 (rd_T133 l1 (j : Int))) (fun y cs h => by obtain ⟨rfl, rfl⟩ := h; exact k133_mkM _ _ _ _) (fun _ hk => hk.elim) (fun k hk => trivial) (below_alloc HB9.out _) (by have := HB9.out.size; simp; omega) (by have := HN.out; have := HK.out; omega) ?_; intro v30 w30 ho30 hb30 hg30 hat30)
              clear x0_0 x0_1 x0_2 x0_3 x0_4 x0_5 x0_6 x0_7 x1_0 x1_1 x1_2 x1_3 x1_4 x1_5 x1_6 x1_7
              clear hg30 hat30
              obtain ⟨A6, c6, rfl⟩ := Kd.R_slice ho30
              try go_wp2
              go_roundg (gk - 1)
              case measure => have := HK.out; have := HI.out; have := HJ.out; omega
              case rel => exact ⟨(i + 1), (j + 1), xs ++ [(rd_T133 l1 (j : Int))], A6, c6, rfl, (congrArg (Value.int .i64) (wrapN i (by have := HN.out; have := HK.out; omega))), (congrArg (Value.int .i64) (wrapN j (by have := HN.out; have := HK.out; omega))), ⟨by have := HK.out; have := HI.out; have := HJ.out; (rw [List.length_append]; simp only [List.length_cons, List.length_nil]); omega⟩, ⟨by (have h := HX.out; rw [D_e l0 l1 i j HI.out HJ.out HAB.out HBA.out, HT.out, ← List.append_assoc] at h; exact h)⟩, ⟨ho30⟩, ⟨hb30⟩⟩
      · obtain rfl : j = l1.length := by have := HK.out.2.1; omega
        clear ci cj
        have r0 : (i : Int) < (l0.length : Int) := by have := HI.out; omega
        obtain ⟨ad0, e0, hw0⟩ := at8N (W := w) HR0.out i HI.out
        cases e0
        have C0 := Aside0.mk (c8_below hw0 HB.out)
        replace hw0 := And.left hw0
        obtain ⟨x0_0, x0_1, x0_2, x0_3, x0_4, x0_5, x0_6, x0_7⟩ := C0.out
        have p0b := eq_true (Int.natCast_nonneg i)
        have r0b := eq_true r0
        have r0c : decide ((i : Int) < (l0.length : Int)) = true := decide_eq_true r0
        have r0d : decide ((i : Int) = (l0.length : Int)) = false := decide_eq_false (by omega)
        have r0e : ((i : Int) == (l0.length : Int)) = false := by (rw [beq_eq_false_iff_ne]; omega)
        clear r0
        have r1c : decide ((l1.length : Int) < (l1.length : Int)) = false := decide_eq_false (by omega)
        have r1d : decide ((l1.length : Int) = (l1.length : Int)) = true := decide_eq_true rfl
        go_wp2
        go_quiet (fail)
        generalize hq : World.drewN wr _ = w5
        have hb5 : Below wr.heap.size wr w5 := by (rw [← hq]; exact pw_below_drewN (Below.refl _ _) _)
        clear hq
        clear x0_0 x0_1 x0_2 x0_3 x0_4 x0_5 x0_6 x0_7
        replace C0 := Aside0.mk (c8_below C0.out hb5)
        obtain ⟨x0_0, x0_1, x0_2, x0_3, x0_4, x0_5, x0_6, x0_7⟩ := C0.out
        have HO5 := Aside0.mk (Kd.R_below HO.out hb5)
        have HB5 := Aside0.mk (below_step HB.out hb5)
        clear hb5 HO HB
        go_wp2
        obtain ⟨y0, y1⟩ : (World.alloc w5 (Obj.cells #[.int .i64 0, .int .i64 0, .int .i64 0, .bool false, .int .i64 0, .int .i64 0, .string (⟨#[]⟩ : ByteArray), .bool false] 133 (0, 0))).cell? (ad0.add (i * 8)) = some (.int .i64 ((rd_T133 l0 (i : Int)).f0)) ∧ (World.alloc w5 (Obj.cells #[.int .i64 0, .int .i64 0, .int .i64 0, .bool false, .int .i64 0, .int .i64 0, .string (⟨#[]⟩ : ByteArray), .bool false] 133 (0, 0))).cell? ⟨(ad0.add (i * 8)).block, (ad0.add (i * 8)).off + 1, none⟩ = some (.int .i64 ((rd_T133 l0 (i : Int)).f1)) := ⟨((below_alloc (Below.refl _ _) _).cell (World.block_lt_of_cell? w5 _ x0_0)).trans x0_0, ((below_alloc (Below.refl _ _) _).cell (World.block_lt_of_cell? w5 _ x0_1)).trans x0_1⟩
        go_region
        clear y0 y1
        obtain ⟨w6, hw6⟩ : ∃ W, W = (World.alloc w5 (Obj.cells #[.int .i64 ((rd_T133 l0 (i : Int)).f0), .int .i64 ((rd_T133 l0 (i : Int)).f1), .int .i64 (0), .bool (false), .int .i64 (0), .int .i64 (0), .string ((⟨#[]⟩ : ByteArray)), .bool (false)] 133 (0, 0))).drew := ⟨_, rfl⟩
        rw [← hw6]
        obtain ⟨gx, hgx⟩ : ∃ g, g = w5.heap.size := ⟨_, rfl⟩
        rw [← hgx]
        have hb6 : Below w5.heap.size w5 w6 := by (rw [hw6]; exact below_drew1 (below_alloc (Below.refl _ _) _))
        have BX : Aside0 (w6.heap[gx]? = some (.cells #[.int .i64 ((rd_T133 l0 (i : Int)).f0), .int .i64 ((rd_T133 l0 (i : Int)).f1), .int .i64 (0), .bool (false), .int .i64 (0), .int .i64 (0), .string ((⟨#[]⟩ : ByteArray)), .bool (false)] 133 (0, 0))) := ⟨by (rw [hw6, hgx]; exact blk_new _ _)⟩
        clear hw6 hgx
        clear x0_0 x0_1 x0_2 x0_3 x0_4 x0_5 x0_6 x0_7
        replace C0 := Aside0.mk (c8_below C0.out hb6)
        obtain ⟨x0_0, x0_1, x0_2, x0_3, x0_4, x0_5, x0_6, x0_7⟩ := C0.out
        have HO6 := Aside0.mk (Kd.R_below HO5.out hb6)
        have HB6 := Aside0.mk (below_step HB5.out hb6)
        clear hb6 HO5 HB5
        go_wp2
        obtain ⟨q0, q1, q2, q3, q4, q5, q6, q7⟩ := bx8 BX.out
        obtain ⟨t, ht⟩ : ∃ t, eqq ((rd_T133 l0 (i : Int)).f0) ((rd_T133 l0 (i : Int)).f0) ((rd_T133 l0 (i : Int)).f1) ((rd_T133 l0 (i : Int)).f1) ((rd_T133 l0 (i : Int)).f2.f0) (0) ((rd_T133 l0 (i : Int)).f2.f1.f0) (false) ((rd_T133 l0 (i : Int)).f2.f1.f1) (0) ((rd_T133 l0 (i : Int)).f2.f1.f2) (0) ((rd_T133 l0 (i : Int)).f2.f2) ((⟨#[]⟩ : ByteArray)) ((rd_T133 l0 (i : Int)).f3) (false) = t := ⟨_, rfl⟩
        have HT : Aside0 (eqS (rd_T133 l0 (i : Int)) (bl (rd_T133 l0 (i : Int))) = t) := ⟨ht⟩
        cases t with
        | true =>
          go_quiet (fail)
          generalize hq : World.drewN w6 _ = w7
          have hb7 : Below w6.heap.size w6 w7 := by (rw [← hq]; exact pw_below_drewN (Below.refl _ _) _)
          clear hq
          clear q0 q1 q2 q3 q4 q5 q6 q7
          obtain ⟨q0, q1, q2, q3, q4, q5, q6, q7⟩ := bx8 (blk_below BX.out hb7)
          clear x0_0 x0_1 x0_2 x0_3 x0_4 x0_5 x0_6 x0_7
          replace C0 := Aside0.mk (c8_below C0.out hb7)
          obtain ⟨x0_0, x0_1, x0_2, x0_3, x0_4, x0_5, x0_6, x0_7⟩ := C0.out
          have HO7 := Aside0.mk (Kd.R_below HO6.out hb7)
          have HB7 := Aside0.mk (below_step HB6.out hb7)
          clear hb7 HO6 HB6
          go_wp2
          clear x0_0 x0_1 x0_2 x0_3 x0_4 x0_5 x0_6 x0_7 q0 q1 q2 q3 q4 q5 q6 q7
          go_roundg (gk - 1)
          case measure => have := HK.out; have := HI.out; omega
          case rel => exact ⟨(i + 1), l1.length, xs, A5, c5, rfl, (congrArg (Value.int .i64) (wrapN i (by have := HN.out; have := HK.out; omega))), rfl, ⟨by have := HK.out; have := HI.out; omega⟩, ⟨by (have h := HX.out; rw [D_a0 l0 l1 i HI.out, HT.out] at h; exact h)⟩, HO7, HB7⟩
        | false =>
          go_quiet (fail)
          generalize hq : World.drewN w6 _ = w7
          have hb7 : Below w6.heap.size w6 w7 := by (rw [← hq]; exact pw_below_drewN (Below.refl _ _) _)
          clear hq
          clear q0 q1 q2 q3 q4 q5 q6 q7
          obtain ⟨q0, q1, q2, q3, q4, q5, q6, q7⟩ := bx8 (blk_below BX.out hb7)
          clear x0_0 x0_1 x0_2 x0_3 x0_4 x0_5 x0_6 x0_7
          replace C0 := Aside0.mk (c8_below C0.out hb7)
          obtain ⟨x0_0, x0_1, x0_2, x0_3, x0_4, x0_5, x0_6, x0_7⟩ := C0.out
          have HO7 := Aside0.mk (Kd.R_below HO6.out hb7)
          have HB7 := Aside0.mk (below_step HB6.out hb7)
          clear hb7 HO6 HB6
          go_wp2_with (at_builtin; refine Kd.R_append_rows k133 (Rr := fun y cs => y = (bl (rd_T133 l0 (i : Int))) ∧ cs = cS (bl (rd_T133 l0 (i : Int)))) (w0 := w) w.heap.size rfl (.tmp 101) (.tmp 103) 72 133 (.agg #[.int .i64 0, .int .i64 0, .int .i64 0, .bool false, .int .i64 0, .int .i64 0, .string (⟨#[]⟩ : ByteArray), .bool false]) 72 rfl Try.underlying72 info133 rfl (by decide) (by decide) (.slice A5 xs.length c5) xs [(bl (rd_T133 l0 (i : Int)))] (some ⟨w7.heap.size, 0, none⟩) 1 1 (fun _ => True) (fun _ => False) rfl rfl (Kd.R_alloc HO7.out _) (litS w7 (bl (rd_T133 l0 (i : Int)))) (fun y cs h => by obtain ⟨rfl, rfl⟩ := h; exact k133_mkM _ _ _ _) (fun _ hk => hk.elim) (fun k hk => trivial) (below_alloc HB7.out _) (by have := HB7.out.size; simp; omega) (by have := HN.out; have := HK.out; omega) ?_; intro v30 w30 ho30 hb30 hg30 hat30)
          clear x0_0 x0_1 x0_2 x0_3 x0_4 x0_5 x0_6 x0_7 q0 q1 q2 q3 q4 q5 q6 q7
          clear hg30 hat30
          obtain ⟨A6, c6, rfl⟩ := Kd.R_slice ho30
          try go_wp2
          go_roundg (gk - 1)
          case measure => have := HK.out; have := HI.out; omega
          case rel => exact ⟨(i + 1), l1.length, xs ++ [(bl (rd_T133 l0 (i : Int)))], A6, c6, rfl, (congrArg (Value.int .i64) (wrapN i (by have := HN.out; have := HK.out; omega))), rfl, ⟨by have := HK.out; have := HI.out; (rw [List.length_append]; simp only [List.length_cons, List.length_nil]); omega⟩, ⟨by (have h := HX.out; rw [D_a0 l0 l1 i HI.out, HT.out, ← List.append_assoc] at h; exact h)⟩, ⟨ho30⟩, ⟨hb30⟩⟩
    · obtain rfl : i = l0.length := by have := HK.out.1; omega
      by_cases cj : j < l1.length
      · have HJ := Aside0.mk cj
        clear ci cj
        have r1 : (j : Int) < (l1.length : Int) := by have := HJ.out; omega
        obtain ⟨ad1, e1, hw1⟩ := at8N (W := w) HR1.out j HJ.out
        cases e1
        have C1 := Aside0.mk (c8_below hw1 HB.out)
        replace hw1 := And.left hw1
        obtain ⟨x1_0, x1_1, x1_2, x1_3, x1_4, x1_5, x1_6, x1_7⟩ := C1.out
        have p1b := eq_true (Int.natCast_nonneg j)
        have r1b := eq_true r1
        have r1c : decide ((j : Int) < (l1.length : Int)) = true := decide_eq_true r1
        have r1d : decide ((j : Int) = (l1.length : Int)) = false := decide_eq_false (by omega)
        have r1e : ((j : Int) == (l1.length : Int)) = false := by (rw [beq_eq_false_iff_ne]; omega)
        clear r1
        have r0c : decide ((l0.length : Int) < (l0.length : Int)) = false := decide_eq_false (by omega)
        have r0d : decide ((l0.length : Int) = (l0.length : Int)) = true := decide_eq_true rfl
        go_wp2
        go_quiet (fail)
        generalize hq : World.drewN wr _ = w5
        have hb5 : Below wr.heap.size wr w5 := by (rw [← hq]; exact pw_below_drewN (Below.refl _ _) _)
        clear hq
        clear x1_0 x1_1 x1_2 x1_3 x1_4 x1_5 x1_6 x1_7
        replace C1 := Aside0.mk (c8_below C1.out hb5)
        obtain ⟨x1_0, x1_1, x1_2, x1_3, x1_4, x1_5, x1_6, x1_7⟩ := C1.out
        have HO5 := Aside0.mk (Kd.R_below HO.out hb5)
        have HB5 := Aside0.mk (below_step HB.out hb5)
        clear hb5 HO HB
        go_wp2
        go_quiet (fail)
        generalize hq : World.drewN w5 _ = w6
        have hb6 : Below w5.heap.size w5 w6 := by (rw [← hq]; exact pw_below_drewN (Below.refl _ _) _)
        clear hq
        clear x1_0 x1_1 x1_2 x1_3 x1_4 x1_5 x1_6 x1_7
        replace C1 := Aside0.mk (c8_below C1.out hb6)
        obtain ⟨x1_0, x1_1, x1_2, x1_3, x1_4, x1_5, x1_6, x1_7⟩ := C1.out
        have HO6 := Aside0.mk (Kd.R_below HO5.out hb6)
        have HB6 := Aside0.mk (below_step HB5.out hb6)
        clear hb6 HO5 HB5
        go_wp2
        obtain ⟨t, ht⟩ : ∃ t, eqq ((rd_T133 l1 (j : Int)).f0) ((rd_T133 l1 (j : Int)).f0) ((rd_T133 l1 (j : Int)).f1) ((rd_T133 l1 (j : Int)).f1) ((rd_T133 l1 (j : Int)).f2.f0) (0) ((rd_T133 l1 (j : Int)).f2.f1.f0) (false) ((rd_T133 l1 (j : Int)).f2.f1.f1) (0) ((rd_T133 l1 (j : Int)).f2.f1.f2) (0) ((rd_T133 l1 (j : Int)).f2.f2) ((⟨#[]⟩ : ByteArray)) ((rd_T133 l1 (j : Int)).f3) (false) = t := ⟨_, rfl⟩
        have HT : Aside0 (eqS (rd_T133 l1 (j : Int)) (bl (rd_T133 l1 (j : Int))) = t) := ⟨ht⟩
        cases t with
        | true =>
          go_quiet (fail)
          generalize hq : World.drewN w6 _ = w7
          have hb7 : Below w6.heap.size w6 w7 := by (rw [← hq]; exact pw_below_drewN (Below.refl _ _) _)
          clear hq
          clear x1_0 x1_1 x1_2 x1_3 x1_4 x1_5 x1_6 x1_7
          replace C1 := Aside0.mk (c8_below C1.out hb7)
          obtain ⟨x1_0, x1_1, x1_2, x1_3, x1_4, x1_5, x1_6, x1_7⟩ := C1.out
          have HO7 := Aside0.mk (Kd.R_below HO6.out hb7)
          have HB7 := Aside0.mk (below_step HB6.out hb7)
          clear hb7 HO6 HB6
          go_wp2
          clear x1_0 x1_1 x1_2 x1_3 x1_4 x1_5 x1_6 x1_7
          go_roundg (gk - 1)
          case measure => have := HK.out; have := HJ.out; omega
          case rel => exact ⟨l0.length, (j + 1), xs, A5, c5, rfl, rfl, (congrArg (Value.int .i64) (wrapN j (by have := HN.out; have := HK.out; omega))), ⟨by have := HK.out; have := HJ.out; omega⟩, ⟨by (have h := HX.out; rw [D_b0 l0 l1 j HJ.out, HT.out] at h; exact h)⟩, HO7, HB7⟩
        | false =>
          go_quiet (fail)
          generalize hq : World.drewN w6 _ = w7
          have hb7 : Below w6.heap.size w6 w7 := by (rw [← hq]; exact pw_below_drewN (Below.refl _ _) _)
          clear hq
          clear x1_0 x1_1 x1_2 x1_3 x1_4 x1_5 x1_6 x1_7
          replace C1 := Aside0.mk (c8_below C1.out hb7)
          obtain ⟨x1_0, x1_1, x1_2, x1_3, x1_4, x1_5, x1_6, x1_7⟩ := C1.out
          have HO7 := Aside0.mk (Kd.R_below HO6.out hb7)
          have HB7 := Aside0.mk (below_step HB6.out hb7)
          clear hb7 HO6 HB6
          go_wp2_with (at_builtin; refine Kd.R_append_rows k133 (Rr := fun y cs => y = (rd_T133 l1 (j : Int)) ∧ cs = cS (rd_T133 l1 (j : Int))) (w0 := w) w.heap.size rfl (.tmp 153) (.tmp 158) 72 133 (.agg #[.int .i64 0, .int .i64 0, .int .i64 0, .bool false, .int .i64 0, .int .i64 0, .string (⟨#[]⟩ : ByteArray), .bool false]) 72 rfl Try.underlying72 info133 rfl (by decide) (by decide) (.slice A5 xs.length c5) xs [(rd_T133 l1 (j : Int))] (some ⟨w7.heap.size, 0, none⟩) 1 1 (fun _ => True) (fun _ => False) rfl rfl (Kd.R_alloc HO7.out _) (litS w7 (rd_T133 l1 (j : Int))) (fun y cs h => by obtain ⟨rfl, rfl⟩ := h; exact k133_mkM _ _ _ _) (fun _ hk => hk.elim) (fun k hk => trivial) (below_alloc HB7.out _) (by have := HB7.out.size; simp; omega) (by have := HN.out; have := HK.out; omega) ?_; intro v30 w30 ho30 hb30 hg30 hat30)
          clear x1_0 x1_1 x1_2 x1_3 x1_4 x1_5 x1_6 x1_7
          clear hg30 hat30
          obtain ⟨A6, c6, rfl⟩ := Kd.R_slice ho30
          try go_wp2
          go_roundg (gk - 1)
          case measure => have := HK.out; have := HJ.out; omega
          case rel => exact ⟨l0.length, (j + 1), xs ++ [(rd_T133 l1 (j : Int))], A6, c6, rfl, rfl, (congrArg (Value.int .i64) (wrapN j (by have := HN.out; have := HK.out; omega))), ⟨by have := HK.out; have := HJ.out; (rw [List.length_append]; simp only [List.length_cons, List.length_nil]); omega⟩, ⟨by (have h := HX.out; rw [D_b0 l0 l1 j HJ.out, HT.out, ← List.append_assoc] at h; exact h)⟩, ⟨ho30⟩, ⟨hb30⟩⟩
      · obtain rfl : j = l1.length := by have := HK.out.2.1; omega
        clear ci cj
        go_wp2
        go_ret
        have h := HX.out
        rw [D_end, List.append_nil] at h
        rw [← h]
        exact ⟨_, rfl, HO.out, HB.out⟩

end Go.Proofs.Ytppenjoobcppjaa.PDf
