/- The law on ReadSeparated: the walk of its own text. -/
import Derived.Test.YtppenjoobcppjaaRsMark
namespace Go.Proofs.Ytppenjoobcppjaa.PRs
open Go.RowKit Go.Proofs.YtppenjoobcppjaaW.PrintWords Go.Proofs.YtppenjoobcppjaaW.PrintLast Go.Proofs.YtppenjoobcppjaaW.PrintMore Go.Proofs.Ytppenjoobcppjaa.Ev
set_option linter.unusedVariables false
set_option linter.unusedSimpArgs false

abbrev SS := Kd.slice 9 Kd.string
def Fits (l : List (List ByteArray)) : Prop := l.length ≤ 20001 ∧ ∀ i, i < l.length → (rd_L1 l i).length ≤ 20001
set_option maxRecDepth 100000 in
set_option maxHeartbeats 1600000 in
theorem markRes_calls (P0 : Nat → Prop) (x y : Int) (A : Option Addr) (c : Nat) (l0 : List (List ByteArray)) (w0 w : World) (hB : Below w0.heap.size w0 w) (ho : Kd.S SS 111 w w0.heap.size P0 (.slice A l0.length c) l0) (hf : Fits l0) :
    Calls Try.prog 35 #[.agg #[.int .i64 x, .int .i64 y, .slice A l0.length c], .int .i64 1] w fun e w' => e = .returned (.int .i64 (1 + (off l0 l0.length : Int))) ∧ (∃ ms, Marked l0 ms ∧ Kd.S SS 111 w' w0.heap.size (fun k => P0 k ∨ w.heap.size ≤ k) (.slice A l0.length c) ms) ∧ Below w0.heap.size w0 w' ∧ Kept w w' P0 := by
  have hu54 := Try.underlying54
  have HB := Aside0.mk hB
  have HO := Aside0.mk ho
  have HF := Aside0.mk hf
  clear hB ho hf
  go_enter Try.func35, Try.ntmps35
  go_wp2_with (first | ((with_reducible refine gate_dst (N := 2) rfl ?_); refine box_event ?hg (N := 2) ?hd (cs := #[.int .i64 x, .int .i64 y, .slice A l0.length c]) (t := 54) ?hr ?_; (case hd => rfl); (case hg => rfl); (case hr => first | (go_simp; done) | (go_simp; rfl)); intro gb hg w5 hbox hb; have HW5 := Aside0.mk hb; have hcz2 : w5.cell? ⟨gb, 2, none⟩ = some (.slice A l0.length c) := (blk_cell hbox 2).trans rfl; have hfz2 := blk_frozen hbox 2; clear hbox hb hg) | (go_at_call 87; refine (markSS_calls P0 A c l0 w0 w5 (below_step HB.out HW5.out) (Kd.S_below HO.out HW5.out) HF.out.1 HF.out.2).mono ?_; rintro e w6 ⟨rfl, hm6, hb6, hk6⟩))
  go_ret
  obtain ⟨ms, hms, hs⟩ := hm6
  exact ⟨rfl, ⟨ms, hms, Kd.S_mono hs (fun k hk => hk.elim (fun h => .inl h) (fun h => .inr (Nat.le_trans HW5.out.size h)))⟩, hb6, Kept.then_ (Kept.of_below HW5.out P0) hk6 (fun k h => .inl h)⟩

section
variable (t mk : ByteArray) (r1 r2 : Int) (rs : List (List ByteArray))
theorem spec_c (W : World) {k : Nat} (hk : spec_ReadSeparated.f k t mk = some (r1, r2, rs)) :
    Calls Try.prog 32 #[.string t, .string mk] W fun e w' => (∃ A c, e = .returned (.agg #[.int .i64 r1, .int .i64 r2, .slice A rs.length c]) ∧ Kd.S SS 111 w' W.heap.size (fun _ => True) (.slice A rs.length c) rs) ∧ Below W.heap.size W w' := by
  refine (spec_ReadSeparated.calls k t mk r1 r2 rs W hk).mono ?_
  rintro e w' ⟨v, rfl, hs, hb⟩
  obtain ⟨A2, c2, rfl⟩ := Kd.S_slice hs
  exact ⟨⟨A2, c2, rfl, hs⟩, hb⟩
theorem impl_c (W : World) {k : Nat} (hk : impl_ReadSeparated.f k t mk = some (r1, r2, rs)) :
    Calls Try.prog 33 #[.string t, .string mk] W fun e w' => (∃ A c, e = .returned (.agg #[.int .i64 r1, .int .i64 r2, .slice A rs.length c]) ∧ Kd.S SS 111 w' W.heap.size (fun _ => True) (.slice A rs.length c) rs) ∧ Below W.heap.size W w' := by
  refine (impl_ReadSeparated.calls k t mk r1 r2 rs W hk).mono ?_
  rintro e w' ⟨v, rfl, hs, hb⟩
  obtain ⟨A2, c2, rfl⟩ := Kd.S_slice hs
  exact ⟨⟨A2, c2, rfl, hs⟩, hb⟩
theorem eq_c (A : Option Addr) (c : Nat) (A1 : Option Addr) (c1 : Nat) (W : World) (b b1 : Nat) (ok ok1 : Nat → Prop) (hf : Fits rs) (h : Kd.S SS 111 W b ok (.slice A rs.length c) rs) (h1 : Kd.S SS 111 W b1 ok1 (.slice A1 rs.length c1) rs) :
    Calls Try.prog 34 #[.agg #[.int .i64 r1, .int .i64 r2, .slice A rs.length c], .agg #[.int .i64 r1, .int .i64 r2, .slice A1 rs.length c1]] W fun e w' => e = .returned (.bool true) ∧ Below W.heap.size W w' := by
  obtain ⟨k, hk⟩ := (eqRes_ev r1 r2 rs hf.1 hf.2).get
  exact laws_eqSeparatedRes.calls k r1 r2 A c rs r1 r2 A1 c1 rs true W (Kd.S_reads' h).2.2 (Kd.S_reads' h).2.1 (Kd.S_reads' h1).2.2 (Kd.S_reads' h1).2.1 hk
theorem held_c (A : Option Addr) (c n : Nat) (ms : List (List ByteArray)) (W : World) (b : Nat) (ok : Nat → Prop) (hf : Fits rs) (hm : Marked rs ms) (hn : n = rs.length) (h : Kd.S SS 111 W b ok (.slice A n c) ms) :
    Calls Try.prog 36 #[.agg #[.int .i64 r1, .int .i64 r2, .slice A n c], .int .i64 1] W fun e w' => e = .returned (.int .i64 (1 + (off rs rs.length : Int))) ∧ Below W.heap.size W w' := by
  obtain ⟨k, hk⟩ := (heldRes_ev r1 r2 rs ms hf.1 hf.2 hm).get
  obtain rfl : n = ms.length := by rw [hn, hm.1]
  exact laws_heldSeparatedRes.calls k r1 r2 A c ms 1 _ W (Kd.S_reads' h).2.2 (Kd.S_reads' h).2.1 hk
end

theorem bx {W : World} {g : Nat} {a b c : Value} (h : W.heap[g]? = some (.cells #[a, b, c] 54 (0, 0))) : W.cell? ⟨g, 0, none⟩ = some a ∧ W.cell? ⟨g, 1, none⟩ = some b ∧ W.cell? ⟨g, 2, none⟩ = some c :=
  ⟨(blk_cell h 0).trans rfl, (blk_cell h 1).trans rfl, (blk_cell h 2).trans rfl⟩
set_option maxRecDepth 100000 in
set_option maxHeartbeats 3200000 in
theorem law7 (t mk : ByteArray) (w : World) (_ : t.size ≤ 140737488351232) (_ : mk.size ≤ 140737488351232) :
    Calls Try.prog 7 #[.string t, .string mk] w fun e w' => e = .returned (.bool true) ∧ Below w.heap.size w w' := by
  have hu54 := Try.underlying54
  by_cases ht : (t.size : Int) > 1048576
  · go_enter Try.func7, Try.ntmps7
    go_wp2
    go_ret
    exact ⟨rfl, Below.refl _ _⟩
  by_cases hm : (mk.size : Int) > 1048576
  · go_enter Try.func7, Try.ntmps7
    go_wp2
    go_ret
    exact ⟨rfl, Below.refl _ _⟩
  obtain ⟨⟨r1, r2, rs⟩, hi, hs, hl, hc⟩ := read_ev t mk
  obtain ⟨ki, hki⟩ := hi.get
  obtain ⟨ks, hks⟩ := hs.get
  have hfit : Fits rs := ⟨hl, fun i hi => by
    have : rd_L1 rs i ∈ rs := by
      unfold rd_L1
      rw [Int.toNat_natCast, getD_lt _ _ _ hi]
      exact List.getElem_mem hi
    exact hc _ this⟩
  have HF := Aside0.mk hfit
  have HSP := Aside0.mk (fun W => spec_c t mk r1 r2 rs W hks)
  have HIM := Aside0.mk (fun W => impl_c t mk r1 r2 rs W hki)
  obtain ⟨total, htot⟩ : ∃ total : Int, total = 1 + (off rs rs.length : Int) := ⟨_, rfl⟩
  have HT := Aside0.mk (show 0 ≤ total by omega)
  clear hi hs hl hc hki hks hfit
  go_enter Try.func7, Try.ntmps7
  go_wp2_with (fail)
  refine (HSP.out _).mono ?_
  rintro e w1 ⟨⟨A1, c1, rfl, hs1⟩, hb1⟩
  have HB1 := Aside0.mk hb1
  have HW1 := Aside0.mk (Kd.S_mono (ok' := fun k => k < w1.heap.size) (Kd.S_bound hs1) (fun k hk => hk.2.2.1))
  clear hb1 hs1
  go_wp2_with (fail)
  -- the specification's box
  have hbx1 := blk_new w1 (Obj.cells #[.int .i64 r1, .int .i64 r2, .slice A1 rs.length c1] 54 (0, 0))
  have hba1 := below_alloc (Below.refl w1.heap.size w1) (Obj.cells #[.int .i64 r1, .int .i64 r2, .slice A1 rs.length c1] 54 (0, 0))
  obtain ⟨x1, hx1⟩ : ∃ x1, x1 = w1.alloc (Obj.cells #[.int .i64 r1, .int .i64 r2, .slice A1 rs.length c1] 54 (0, 0)) := ⟨_, rfl⟩
  rw [← hx1] at hbx1 hba1 ⊢
  clear hx1
  obtain ⟨g1, hg1⟩ : ∃ g1, g1 = w1.heap.size := ⟨_, rfl⟩
  rw [← hg1] at hbx1 ⊢
  have HP1 := Aside0.mk (show g1 < x1.heap.size from blk_lt hbx1)
  have HG1 := Aside0.mk hg1
  have BA1 := Aside0.mk hbx1
  have HBx1 := Aside0.mk (below_step HB1.out hba1)
  have HWx1 := Aside0.mk (Kd.S_below HW1.out hba1)
  clear hbx1 hba1 hg1 HB1 HW1
  refine (HIM.out _).mono ?_
  rintro e w2 ⟨⟨A2, c2, rfl, hs2⟩, hb2⟩
  have HB2 := Aside0.mk (below_step HBx1.out hb2)
  have HW2 := Aside0.mk (Kd.S_below HWx1.out hb2)
  have HS2 := Aside0.mk (Kd.S_mono (ok' := fun k => x1.heap.size ≤ k ∧ k < w2.heap.size) (Kd.S_lower (Kd.S_bound hs2) HBx1.out.size) (fun k hk => ⟨hk.2.1, hk.2.2.1⟩))
  have BA2 := Aside0.mk (blk_below BA1.out hb2)
  clear hb2 hs2 HBx1 HWx1 BA1
  obtain ⟨q0, q1, q2⟩ := bx (blk_alloc BA2.out (Obj.cells #[.int .i64 r1, .int .i64 r2, .slice A2 rs.length c2] 54 (0, 0)))
  go_wp2_with (fail)
  clear q0 q1 q2
  have hbx2 := blk_new w2 (Obj.cells #[.int .i64 r1, .int .i64 r2, .slice A2 rs.length c2] 54 (0, 0))
  have hba2 := below_alloc (Below.refl w2.heap.size w2) (Obj.cells #[.int .i64 r1, .int .i64 r2, .slice A2 rs.length c2] 54 (0, 0))
  obtain ⟨x2, hx2⟩ : ∃ x2, x2 = w2.alloc (Obj.cells #[.int .i64 r1, .int .i64 r2, .slice A2 rs.length c2] 54 (0, 0)) := ⟨_, rfl⟩
  rw [← hx2] at hbx2 hba2 ⊢
  clear hx2
  obtain ⟨g2, hg2⟩ : ∃ g2, g2 = w2.heap.size := ⟨_, rfl⟩
  rw [← hg2] at hbx2 ⊢
  have HG2 := Aside0.mk hg2
  have BAx2 := Aside0.mk (blk_below BA2.out hba2)
  have BBx2 := Aside0.mk hbx2
  have HBx2 := Aside0.mk (below_step HB2.out hba2)
  have HWx2 := Aside0.mk (Kd.S_below HW2.out hba2)
  have HSx2 := Aside0.mk (Kd.S_below HS2.out hba2)
  clear hbx2 hba2 hg2 HB2 HW2 HS2 BA2
  -- equal
  refine (eq_c r1 r2 rs A2 c2 A1 c1 x2 _ _ _ _ HF.out HSx2.out HWx2.out).mono ?_
  rintro e w3 ⟨rfl, hb3⟩
  have HB3 := Aside0.mk (below_step HBx2.out hb3)
  have HW3 := Aside0.mk (Kd.S_below HWx2.out hb3)
  have HS3 := Aside0.mk (Kd.S_below HSx2.out hb3)
  have BA3 := Aside0.mk (blk_below BAx2.out hb3)
  have BB3 := Aside0.mk (blk_below BBx2.out hb3)
  clear hb3 HBx2 HWx2 HSx2 BAx2 BBx2
  obtain ⟨q0, q1, q2⟩ := bx BB3.out
  go_wp2_with (fail)
  clear q0 q1 q2
  -- the marks
  refine (markRes_calls _ r1 r2 A2 c2 rs w w3 HB3.out HS3.out HF.out).mono ?_
  rintro e w4 ⟨rfl, ⟨ms, hms, hs4⟩, hb4, hk4⟩
  rw [← htot]
  have HMS := Aside0.mk hms
  have HB4 := Aside0.mk hb4
  have HS4 := Aside0.mk hs4
  have HW4 := Aside0.mk (Kd.S_kept HW3.out hk4 (fun k hk hp => by have := HG1.out; have := HP1.out; omega))
  have BA4 := Aside0.mk (blk_kept BA3.out hk4 (fun hp => by have := HP1.out; omega))
  have BB4 := Aside0.mk (blk_kept BB3.out hk4 (fun hp => by have := HG2.out; omega))
  clear hms hs4 hb4 hk4 HB3 HW3 HS3 BA3 BB3
  obtain ⟨q0, q1, q2⟩ := bx BB4.out
  go_wp2_with (fail)
  clear q0 q1 q2
  refine (held_c r1 r2 rs A2 c2 rs.length ms w4 _ _ HF.out HMS.out rfl HS4.out).mono ?_
  rintro e w5 ⟨rfl, hb5⟩
  rw [← htot]
  have HB5 := Aside0.mk (below_step HB4.out hb5)
  have HW5 := Aside0.mk (Kd.S_below HW4.out hb5)
  have HS5 := Aside0.mk (Kd.S_below HS4.out hb5)
  have BA5 := Aside0.mk (blk_below BA4.out hb5)
  have BB5 := Aside0.mk (blk_below BB4.out hb5)
  have ht0 := HT.out
  clear hb5 HB4 HW4 HS4 BA4 BB4
  go_wp2_with (fail)
  -- again
  refine (HIM.out _).mono ?_
  rintro e w6 ⟨⟨A6, c6, rfl, hs6⟩, hb6⟩
  have HB6 := Aside0.mk (below_step HB5.out hb6)
  have HW6 := Aside0.mk (Kd.S_below HW5.out hb6)
  have HS6 := Aside0.mk (Kd.S_below HS5.out hb6)
  have HH6 := Aside0.mk hs6
  have BA6 := Aside0.mk (blk_below BA5.out hb6)
  have BB6 := Aside0.mk (blk_below BB5.out hb6)
  clear hb6 hs6 HB5 HW5 HS5 BA5 BB5
  obtain ⟨q0, q1, q2⟩ := bx (blk_alloc BA6.out (Obj.cells #[.int .i64 r1, .int .i64 r2, .slice A6 rs.length c6] 54 (0, 0)))
  go_wp2_with (fail)
  clear q0 q1 q2
  have hba6 := below_alloc (Below.refl w6.heap.size w6) (Obj.cells #[.int .i64 r1, .int .i64 r2, .slice A6 rs.length c6] 54 (0, 0))
  obtain ⟨x6, hx6⟩ : ∃ x6, x6 = w6.alloc (Obj.cells #[.int .i64 r1, .int .i64 r2, .slice A6 rs.length c6] 54 (0, 0)) := ⟨_, rfl⟩
  rw [← hx6] at hba6 ⊢
  clear hx6
  have HBx6 := Aside0.mk (below_step HB6.out hba6)
  have HWx6 := Aside0.mk (Kd.S_below HW6.out hba6)
  have HSx6 := Aside0.mk (Kd.S_below HS6.out hba6)
  have HHx6 := Aside0.mk (Kd.S_below HH6.out hba6)
  have BBx6 := Aside0.mk (blk_below BB6.out hba6)
  clear hba6 HB6 HW6 HS6 HH6 BA6 BB6
  refine (eq_c r1 r2 rs A6 c6 A1 c1 x6 _ _ _ _ HF.out HHx6.out HWx6.out).mono ?_
  rintro e w7 ⟨rfl, hb7⟩
  have HB7 := Aside0.mk (below_step HBx6.out hb7)
  have HS7 := Aside0.mk (Kd.S_below HSx6.out hb7)
  have BB7 := Aside0.mk (blk_below BBx6.out hb7)
  clear hb7 HBx6 HWx6 HSx6 HHx6 BBx6
  obtain ⟨q0, q1, q2⟩ := bx BB7.out
  go_wp2_with (fail)
  clear q0 q1 q2
  refine (held_c r1 r2 rs A2 c2 rs.length ms w7 _ _ HF.out HMS.out rfl HS7.out).mono ?_
  rintro e w8 ⟨rfl, hb8⟩
  rw [← htot]
  have HB8 := Aside0.mk (below_step HB7.out hb8)
  clear hb8 HB7 HS7 BB7
  go_wp2
  go_ret
  exact ⟨rfl, HB8.out⟩
end Go.Proofs.Ytppenjoobcppjaa.PRs
