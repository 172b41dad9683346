/- The walk of the law on Without. -/
import Derived.Test.YtppenjoobcppjaaArPure
import Derived.Deep.DrawnRows
import Derived.Deep.RegionHeld3
namespace Go.Proofs.Ytppenjoobcppjaa.PAr
open Go.RowKit Go.Proofs.YtppenjoobcppjaaW.PrintWords Go.Proofs.YtppenjoobcppjaaW.PrintLast Go.Proofs.YtppenjoobcppjaaW.PrintMore Go.Proofs.Ytppenjoobcppjaa.Ev
attribute [local go_sem ↓] Go.wp_at_zero Go.wp_at_succ
set_option linter.unusedVariables false
set_option linter.unusedSimpArgs false

theorem toArea_c (a0 a1 : Int) (a2 a3 : Bool) (a4 a5 : Int) (a6 a7 : Bool) (w : World) : Calls Try.prog 37 #[.agg #[.int .i64 a0, .int .i64 a1, .bool a2, .bool a3, .int .i64 a4, .int .i64 a5, .bool a6, .bool a7]] w fun e w' => e = .returned (.agg #[.int .i64 a0, .int .i64 a1, .bool a2, .bool a3, .int .i64 a4, .int .i64 a5, .bool a6, .bool a7]) ∧ Below w.heap.size w w' := by
  refine (laws_toArea.calls a0 a1 a2 a3 a4 a5 a6 a7 _ _ _ _ _ _ _ _ w rfl).mono ?_
  rintro e w' h
  exact ⟨h.1, by first | exact h.2 | exact h.2.below⟩
theorem eq_c (l : List S40) (hl : l.length ≤ 1000) (A A1 : Option Addr) (c c1 : Nat) (W : World) (b b1 : Nat) (ok ok1 : Nat → Prop) (h : Kd.R k40 40 W b ok (.slice A l.length c) l) (h1 : Kd.R k40 40 W b1 ok1 (.slice A1 l.length c1) l) :
    Calls Try.prog 38 #[.slice A l.length c, .slice A1 l.length c1] W fun e w' => e = .returned (.bool true) ∧ Below W.heap.size W w' := by
  obtain ⟨k, hk⟩ := (eqAreaS_ev l hl).get
  exact laws_eqAreaS.calls k A c l A1 c1 l true W (Kd.R_reads' h).2.2 (Kd.R_reads' h).2.1 (Kd.R_reads' h1).2.2 (Kd.R_reads' h1).2.1 hk
theorem mark_c (P0 : Nat → Prop) (l : List S40) (hl : l.length ≤ 1000) (A : Option Addr) (c : Nat) (w0 w : World) (hB : Below w0.heap.size w0 w) (ho : Kd.R k40 40 w w0.heap.size P0 (.slice A l.length c) l) :
    Calls Try.prog 39 #[.slice A l.length c, .int .i64 1] w fun e w' => e = .returned (.int .i64 (1 + 8 * (l.length : Int))) ∧ Kd.R k40 40 w' w0.heap.size (fun k => P0 k ∨ w.heap.size ≤ k) (.slice A l.length c) (mrow8 l.length 1) ∧ Below w0.heap.size w0 w' ∧ Kept w w' P0 := by
  obtain ⟨k, hk⟩ := (mark_ev l hl).get
  exact laws_markAreaS.calls k P0 (.slice A l.length c) l 1 _ _ w0 w hB ho hk
theorem held_c (n : Nat) (hl : n ≤ 1000) (A : Option Addr) (c : Nat) (W : World) (b : Nat) (ok : Nat → Prop) (h : Kd.R k40 40 W b ok (.slice A n c) (mrow8 n 1)) :
    Calls Try.prog 40 #[.slice A n c, .int .i64 1] W fun e w' => e = .returned (.int .i64 (1 + 8 * (n : Int))) ∧ Below W.heap.size W w' := by
  obtain ⟨k, hk⟩ := (held_ev n hl).get
  have h2 := Kd.R_reads' h
  rw [mrow8_length] at h2
  have := laws_heldAreaS.calls k A c (mrow8 n 1) 1 _ W (by rw [mrow8_length]; exact h2.2.2) (by rw [mrow8_length]; exact h2.2.1) hk
  rw [mrow8_length] at this
  refine this.mono ?_
  rintro e w' h
  exact ⟨h.1, by first | exact h.2 | exact h.2.below⟩

set_option maxRecDepth 100000 in
set_option maxHeartbeats 3200000 in
theorem law8 (a0 a1 : Int) (a2 a3 : Bool) (a4 a5 : Int) (a6 a7 : Bool) (b0 b1 : Int) (b2 b3 : Bool) (b4 b5 : Int) (b6 b7 : Bool) (w : World) :
    Calls Try.prog 8 #[.agg #[.int .i64 a0, .int .i64 a1, .bool a2, .bool a3, .int .i64 a4, .int .i64 a5, .bool a6, .bool a7], .agg #[.int .i64 b0, .int .i64 b1, .bool b2, .bool b3, .int .i64 b4, .int .i64 b5, .bool b6, .bool b7]] w fun e w' => e = .returned (.bool true) ∧ Below w.heap.size w w' := by
  have hu61 := Try.underlying61
  have hu40 := Try.underlying40
  obtain ⟨L, hL⟩ : ∃ L, L = wo a0 a1 a2 a3 a4 a5 a6 a7 b0 b1 b2 b3 b4 b5 b6 b7 := ⟨_, rfl⟩
  have hlen : L.length ≤ 4 := by rw [hL]; exact wo_len a0 a1 a2 a3 a4 a5 a6 a7 b0 b1 b2 b3 b4 b5 b6 b7
  have HLEN := Aside0.mk (show L.length ≤ 1000 by omega)
  have HSP := Aside0.mk (fun W => swithout_c a0 a1 a2 a3 a4 a5 a6 a7 b0 b1 b2 b3 b4 b5 b6 b7 W)
  have HIM := Aside0.mk (fun W => iwithout_c a0 a1 a2 a3 a4 a5 a6 a7 b0 b1 b2 b3 b4 b5 b6 b7 W)
  rw [← hL] at HSP HIM
  obtain ⟨total, htot⟩ : ∃ total : Int, total = 1 + 8 * (L.length : Int) := ⟨_, rfl⟩
  have HT := Aside0.mk (show 0 ≤ total by omega)
  have HTT := Aside0.mk htot
  clear hL htot hlen
  go_enter Try.func8, Try.ntmps8
  go_wp2
  obtain ⟨hA, hB, hBel⟩ := boxes2 w #[.int .i64 a0, .int .i64 a1, .bool a2, .bool a3, .int .i64 a4, .int .i64 a5, .bool a6, .bool a7] #[.int .i64 b0, .int .i64 b1, .bool b2, .bool b3, .int .i64 b4, .int .i64 b5, .bool b6, .bool b7] 61
  obtain ⟨W1, hW1⟩ : ∃ W1, W1 = (w.alloc (.cells #[.int .i64 a0, .int .i64 a1, .bool a2, .bool a3, .int .i64 a4, .int .i64 a5, .bool a6, .bool a7] 61 (0, 0))).alloc (.cells #[.int .i64 b0, .int .i64 b1, .bool b2, .bool b3, .int .i64 b4, .int .i64 b5, .bool b6, .bool b7] 61 (0, 0)) := ⟨_, rfl⟩
  rw [← hW1] at hA hB hBel ⊢
  clear hW1
  obtain ⟨gb, hgb⟩ : ∃ g, g = w.heap.size + 1 := ⟨_, rfl⟩
  rw [← hgb] at hB
  simp only [← hgb]
  obtain ⟨ga, hga⟩ : ∃ g, g = w.heap.size := ⟨_, rfl⟩
  have hA' : W1.heap[ga]? = some (.cells #[.int .i64 a0, .int .i64 a1, .bool a2, .bool a3, .int .i64 a4, .int .i64 a5, .bool a6, .bool a7] 61 (0, 0)) := by rw [hga]; exact hA
  simp only [← hga]
  have BA1 := Aside0.mk hA'
  have BB1 := Aside0.mk hB
  have HB1 := Aside0.mk hBel
  have HLA := Aside0.mk (And.intro (blk_lt hA') (blk_lt hB))
  clear hA hA' hB hBel hga hgb
  have HCH := Aside0.mk (Below.refl W1.heap.size W1)
  obtain ⟨q0_0, q0_1, q0_2, q0_3, q0_4, q0_5, q0_6, q0_7⟩ := bx8 BA1.out
  obtain ⟨q1_0, q1_1, q1_2, q1_3, q1_4, q1_5, q1_6, q1_7⟩ := bx8 BB1.out
  go_region_held3 (fun W => W.cell? ⟨ga, 0, none⟩ = some (.int .i64 a0) ∧ W.cell? ⟨ga, 1, none⟩ = some (.int .i64 a1) ∧ W.cell? ⟨ga, 2, none⟩ = some (.bool a2) ∧ W.cell? ⟨ga, 3, none⟩ = some (.bool a3) ∧ W.cell? ⟨ga, 4, none⟩ = some (.int .i64 a4) ∧ W.cell? ⟨ga, 5, none⟩ = some (.int .i64 a5) ∧ W.cell? ⟨ga, 6, none⟩ = some (.bool a6) ∧ W.cell? ⟨ga, 7, none⟩ = some (.bool a7) ∧ W.cell? ⟨gb, 0, none⟩ = some (.int .i64 b0) ∧ W.cell? ⟨gb, 1, none⟩ = some (.int .i64 b1) ∧ W.cell? ⟨gb, 2, none⟩ = some (.bool b2) ∧ W.cell? ⟨gb, 3, none⟩ = some (.bool b3) ∧ W.cell? ⟨gb, 4, none⟩ = some (.int .i64 b4) ∧ W.cell? ⟨gb, 5, none⟩ = some (.int .i64 b5) ∧ W.cell? ⟨gb, 6, none⟩ = some (.bool b6) ∧ W.cell? ⟨gb, 7, none⟩ = some (.bool b7))
    ((go_split_ands; (try simp only [World.cell?_drewN, World.cell?_drew]); refine ⟨?_, ?_, ?_, ?_, ?_, ?_, ?_, ?_, ?_, ?_, ?_, ?_, ?_, ?_, ?_, ?_⟩ <;> (first | (with_reducible assumption) | (refine pw_cell_below hbq ?_; (try simp only [World.cell?_drewN, World.cell?_drew]); with_reducible assumption))))
    (first
      | (go_at_call 37; refine (toArea_c _ _ _ _ _ _ _ _ _).mono ?_; rintro e wr1 ⟨rfl, hbq⟩; have HCH2 := Aside0.mk (show Below W1.heap.size W1 wr1 from below_step (by repeat (first | exact HCH.out | apply pw_below_drewN | apply below_drew1)) hbq); clear HCH; have HCH := HCH2; clear HCH2)
      | (go_at_call 26; refine (HSP.out _).mono ?_; rintro e wr1 ⟨v1, rfl, hr, hbq⟩; have HR1 := Aside0.mk (show Kd.R k40 40 wr1 w.heap.size (fun k => W1.heap.size ≤ k ∧ k < wr1.heap.size) v1 L from Kd.R_mono (Kd.R_lower (Kd.R_bound hr) (Nat.le_trans HB1.out.size HCH.out.size)) (fun k hk => ⟨Nat.le_trans HCH.out.size hk.2.1, hk.2.2.1⟩)); have HCH2 := Aside0.mk (show Below W1.heap.size W1 wr1 from below_step (by repeat (first | exact HCH.out | apply pw_below_drewN | apply below_drew1)) hbq); clear HCH; have HCH := HCH2; clear HCH2 hr))
  clear q0_0 q0_1 q0_2 q0_3 q0_4 q0_5 q0_6 q0_7 q1_0 q1_1 q1_2 q1_3 q1_4 q1_5 q1_6 q1_7
  have HLE1 := Aside0.mk (show W1.heap.size ≤ wr1.heap.size from HCH.out.size)
  have BAr1 := Aside0.mk (blk_below BA1.out HCH.out)
  have BBr1 := Aside0.mk (blk_below BB1.out HCH.out)
  have HBr1 := Aside0.mk (below_step HB1.out HCH.out)
  obtain ⟨A1, c1, hv1⟩ := Kd.R_slice HR1.out
  subst hv1
  clear HCH hbq BA1 BB1 HB1 
  have HWr1 := HR1
  clear HR1
  go_wp2
  have HCH := Aside0.mk (Below.refl wr1.heap.size wr1)
  obtain ⟨q0_0, q0_1, q0_2, q0_3, q0_4, q0_5, q0_6, q0_7⟩ := bx8 BAr1.out
  obtain ⟨q1_0, q1_1, q1_2, q1_3, q1_4, q1_5, q1_6, q1_7⟩ := bx8 BBr1.out
  go_region_held3 (fun W => W.cell? ⟨ga, 0, none⟩ = some (.int .i64 a0) ∧ W.cell? ⟨ga, 1, none⟩ = some (.int .i64 a1) ∧ W.cell? ⟨ga, 2, none⟩ = some (.bool a2) ∧ W.cell? ⟨ga, 3, none⟩ = some (.bool a3) ∧ W.cell? ⟨ga, 4, none⟩ = some (.int .i64 a4) ∧ W.cell? ⟨ga, 5, none⟩ = some (.int .i64 a5) ∧ W.cell? ⟨ga, 6, none⟩ = some (.bool a6) ∧ W.cell? ⟨ga, 7, none⟩ = some (.bool a7) ∧ W.cell? ⟨gb, 0, none⟩ = some (.int .i64 b0) ∧ W.cell? ⟨gb, 1, none⟩ = some (.int .i64 b1) ∧ W.cell? ⟨gb, 2, none⟩ = some (.bool b2) ∧ W.cell? ⟨gb, 3, none⟩ = some (.bool b3) ∧ W.cell? ⟨gb, 4, none⟩ = some (.int .i64 b4) ∧ W.cell? ⟨gb, 5, none⟩ = some (.int .i64 b5) ∧ W.cell? ⟨gb, 6, none⟩ = some (.bool b6) ∧ W.cell? ⟨gb, 7, none⟩ = some (.bool b7))
    ((go_split_ands; (try simp only [World.cell?_drewN, World.cell?_drew]); refine ⟨?_, ?_, ?_, ?_, ?_, ?_, ?_, ?_, ?_, ?_, ?_, ?_, ?_, ?_, ?_, ?_⟩ <;> (first | (with_reducible assumption) | (refine pw_cell_below hbq ?_; (try simp only [World.cell?_drewN, World.cell?_drew]); with_reducible assumption))))
    (first
      | (go_at_call 37; refine (toArea_c _ _ _ _ _ _ _ _ _).mono ?_; rintro e wr2 ⟨rfl, hbq⟩; have HCH2 := Aside0.mk (show Below wr1.heap.size wr1 wr2 from below_step (by repeat (first | exact HCH.out | apply pw_below_drewN | apply below_drew1)) hbq); clear HCH; have HCH := HCH2; clear HCH2)
      | (go_at_call 24; refine (HIM.out _).mono ?_; rintro e wr2 ⟨v2, rfl, hr, hbq⟩; have HR2 := Aside0.mk (show Kd.R k40 40 wr2 w.heap.size (fun k => wr1.heap.size ≤ k ∧ k < wr2.heap.size) v2 L from Kd.R_mono (Kd.R_lower (Kd.R_bound hr) (Nat.le_trans HBr1.out.size HCH.out.size)) (fun k hk => ⟨Nat.le_trans HCH.out.size hk.2.1, hk.2.2.1⟩)); have HCH2 := Aside0.mk (show Below wr1.heap.size wr1 wr2 from below_step (by repeat (first | exact HCH.out | apply pw_below_drewN | apply below_drew1)) hbq); clear HCH; have HCH := HCH2; clear HCH2 hr))
  clear q0_0 q0_1 q0_2 q0_3 q0_4 q0_5 q0_6 q0_7 q1_0 q1_1 q1_2 q1_3 q1_4 q1_5 q1_6 q1_7
  have HLE2 := Aside0.mk (show wr1.heap.size ≤ wr2.heap.size from HCH.out.size)
  have BAr2 := Aside0.mk (blk_below BAr1.out HCH.out)
  have BBr2 := Aside0.mk (blk_below BBr1.out HCH.out)
  have HBr2 := Aside0.mk (below_step HBr1.out HCH.out)
  have HWr2 := Aside0.mk (Kd.R_below HWr1.out HCH.out)
  obtain ⟨A2, c2, hv2⟩ := Kd.R_slice HR2.out
  subst hv2
  clear HCH hbq BAr1 BBr1 HBr1 HWr1
  have HGr2 := HR2
  clear HR2
  go_wp2_with (fail)
  refine (eq_c L HLEN.out A2 A1 c2 c1 _ _ _ _ _ HGr2.out HWr2.out).mono ?_
  rintro e w3 ⟨rfl, hb3⟩
  have BA3 := Aside0.mk (blk_below BAr2.out hb3)
  have BB3 := Aside0.mk (blk_below BBr2.out hb3)
  have HB3 := Aside0.mk (below_step HBr2.out hb3)
  have HW3 := Aside0.mk (Kd.R_below HWr2.out hb3)
  have HG3 := Aside0.mk (Kd.R_below HGr2.out hb3)
  clear hb3 BAr2 BBr2 HBr2 HWr2 HGr2
  go_wp2_with (fail)
  refine (mark_c _ L HLEN.out A2 c2 w _ HB3.out HG3.out).mono ?_
  rintro e w4 ⟨rfl, hr4, hb4, hk4⟩
  rw [← HTT.out]
  have HG4 := Aside0.mk hr4
  have HB4 := Aside0.mk hb4
  have HW4 := Aside0.mk (Kd.R_kept HW3.out hk4 (fun k hk hp => by have := hk.2; have := hp.1; omega))
  have BA4 := Aside0.mk (blk_kept BA3.out hk4 (fun hp => by have := HLA.out; have := HLE1.out; have := hp.1; omega))
  have BB4 := Aside0.mk (blk_kept BB3.out hk4 (fun hp => by have := HLA.out; have := HLE1.out; have := hp.1; omega))
  clear hr4 hb4 hk4 HW3 BA3 BB3 HB3 HG3
  go_wp2_with (fail)
  refine (held_c L.length HLEN.out A2 c2 _ _ _ HG4.out).mono ?_
  rintro e w5 ⟨rfl, hb5⟩
  have BA5 := Aside0.mk (blk_below BA4.out hb5)
  have BB5 := Aside0.mk (blk_below BB4.out hb5)
  have HB5 := Aside0.mk (below_step HB4.out hb5)
  have HW5 := Aside0.mk (Kd.R_below HW4.out hb5)
  have HG5 := Aside0.mk (Kd.R_below HG4.out hb5)
  clear hb5 BA4 BB4 HB4 HW4 HG4
  rw [← HTT.out]
  have ht0 := HT.out
  go_wp2
  have HCH := Aside0.mk (Below.refl w5.heap.size w5)
  obtain ⟨q0_0, q0_1, q0_2, q0_3, q0_4, q0_5, q0_6, q0_7⟩ := bx8 BA5.out
  obtain ⟨q1_0, q1_1, q1_2, q1_3, q1_4, q1_5, q1_6, q1_7⟩ := bx8 BB5.out
  go_region_held3 (fun W => W.cell? ⟨ga, 0, none⟩ = some (.int .i64 a0) ∧ W.cell? ⟨ga, 1, none⟩ = some (.int .i64 a1) ∧ W.cell? ⟨ga, 2, none⟩ = some (.bool a2) ∧ W.cell? ⟨ga, 3, none⟩ = some (.bool a3) ∧ W.cell? ⟨ga, 4, none⟩ = some (.int .i64 a4) ∧ W.cell? ⟨ga, 5, none⟩ = some (.int .i64 a5) ∧ W.cell? ⟨ga, 6, none⟩ = some (.bool a6) ∧ W.cell? ⟨ga, 7, none⟩ = some (.bool a7) ∧ W.cell? ⟨gb, 0, none⟩ = some (.int .i64 b0) ∧ W.cell? ⟨gb, 1, none⟩ = some (.int .i64 b1) ∧ W.cell? ⟨gb, 2, none⟩ = some (.bool b2) ∧ W.cell? ⟨gb, 3, none⟩ = some (.bool b3) ∧ W.cell? ⟨gb, 4, none⟩ = some (.int .i64 b4) ∧ W.cell? ⟨gb, 5, none⟩ = some (.int .i64 b5) ∧ W.cell? ⟨gb, 6, none⟩ = some (.bool b6) ∧ W.cell? ⟨gb, 7, none⟩ = some (.bool b7))
    ((go_split_ands; (try simp only [World.cell?_drewN, World.cell?_drew]); refine ⟨?_, ?_, ?_, ?_, ?_, ?_, ?_, ?_, ?_, ?_, ?_, ?_, ?_, ?_, ?_, ?_⟩ <;> (first | (with_reducible assumption) | (refine pw_cell_below hbq ?_; (try simp only [World.cell?_drewN, World.cell?_drew]); with_reducible assumption))))
    (first
      | (go_at_call 37; refine (toArea_c _ _ _ _ _ _ _ _ _).mono ?_; rintro e wr6 ⟨rfl, hbq⟩; have HCH2 := Aside0.mk (show Below w5.heap.size w5 wr6 from below_step (by repeat (first | exact HCH.out | apply pw_below_drewN | apply below_drew1)) hbq); clear HCH; have HCH := HCH2; clear HCH2)
      | (go_at_call 24; refine (HIM.out _).mono ?_; rintro e wr6 ⟨v6, rfl, hr, hbq⟩; have HR6 := Aside0.mk (show Kd.R k40 40 wr6 w.heap.size (fun k => w5.heap.size ≤ k ∧ k < wr6.heap.size) v6 L from Kd.R_mono (Kd.R_lower (Kd.R_bound hr) (Nat.le_trans HB5.out.size HCH.out.size)) (fun k hk => ⟨Nat.le_trans HCH.out.size hk.2.1, hk.2.2.1⟩)); have HCH2 := Aside0.mk (show Below w5.heap.size w5 wr6 from below_step (by repeat (first | exact HCH.out | apply pw_below_drewN | apply below_drew1)) hbq); clear HCH; have HCH := HCH2; clear HCH2 hr))
  clear q0_0 q0_1 q0_2 q0_3 q0_4 q0_5 q0_6 q0_7 q1_0 q1_1 q1_2 q1_3 q1_4 q1_5 q1_6 q1_7
  have HLE6 := Aside0.mk (show w5.heap.size ≤ wr6.heap.size from HCH.out.size)
  have BAr6 := Aside0.mk (blk_below BA5.out HCH.out)
  have BBr6 := Aside0.mk (blk_below BB5.out HCH.out)
  have HBr6 := Aside0.mk (below_step HB5.out HCH.out)
  have HWr6 := Aside0.mk (Kd.R_below HW5.out HCH.out)
  have HGr6 := Aside0.mk (Kd.R_below HG5.out HCH.out)
  obtain ⟨A6, c6, hv6⟩ := Kd.R_slice HR6.out
  subst hv6
  clear HCH hbq BA5 BB5 HB5 HW5 HG5
  have HHr6 := HR6
  clear HR6
  go_wp2_with (fail)
  refine (eq_c L HLEN.out A6 A1 c6 c1 _ _ _ _ _ HHr6.out HWr6.out).mono ?_
  rintro e w7 ⟨rfl, hb7⟩
  have BA7 := Aside0.mk (blk_below BAr6.out hb7)
  have BB7 := Aside0.mk (blk_below BBr6.out hb7)
  have HB7 := Aside0.mk (below_step HBr6.out hb7)
  have HW7 := Aside0.mk (Kd.R_below HWr6.out hb7)
  have HG7 := Aside0.mk (Kd.R_below HGr6.out hb7)
  have HH7 := Aside0.mk (Kd.R_below HHr6.out hb7)
  clear hb7 BAr6 BBr6 HBr6 HWr6 HGr6 HHr6
  go_wp2_with (fail)
  refine (held_c L.length HLEN.out A2 c2 _ _ _ HG7.out).mono ?_
  rintro e w8 ⟨rfl, hb8⟩
  rw [← HTT.out]
  have HB8 := Aside0.mk (below_step HB7.out hb8)
  clear hb8 BA7 BB7 HB7 HW7 HG7 HH7
  go_wp2
  go_ret
  exact ⟨rfl, HB8.out⟩
end Go.Proofs.Ytppenjoobcppjaa.PAr
