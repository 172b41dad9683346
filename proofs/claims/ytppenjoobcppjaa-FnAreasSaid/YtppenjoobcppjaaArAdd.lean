/- The closure of Without: it appends an area to what it captured, if it is told to. -/
import Derived.Test.YtppenjoobcppjaaArMeet
import Derived.Deep.DrawnRows
import Derived.Deep.RegionHeld3
import Derived.Deep.RegionLaw
import Derived.Deep.DeepCutAuto
namespace Go.Proofs.Ytppenjoobcppjaa.PAr
open Go.RowKit Go.Proofs.YtppenjoobcppjaaW.PrintWords Go.Proofs.YtppenjoobcppjaaW.PrintLast Go.Proofs.YtppenjoobcppjaaW.PrintMore
attribute [local go_sem ↓] Go.wp_at_zero Go.wp_at_succ
set_option linter.unusedVariables false
set_option linter.unusedSimpArgs false

def mkA (a b c d : Int) : S40 := ⟨⟨a, b, false, false⟩, ⟨c, d, false, false⟩⟩
def cellsA (a b c d : Int) : List Value := [.int .i64 a, .int .i64 b, .bool false, .bool false, .int .i64 c, .int .i64 d, .bool false, .bool false]
theorem info40 : (Try.prog.info? 40).map (fun i => (i.zero, i.size, i.bytes)) = some (some (.agg #[.int .i64 0, .int .i64 0, .bool false, .bool false, .int .i64 0, .int .i64 0, .bool false, .bool false]), 8, 48) := by kernel_rfl
theorem lit1 (W : World) (a b c d : Int) : ReadsRow (fun x cs => x = mkA a b c d ∧ cs = cellsA a b c d) 8 (W.alloc (.cells #[.int .i64 a, .int .i64 b, .bool false, .bool false, .int .i64 c, .int .i64 d, .bool false, .bool false] 40 (0, 0))) (some ⟨W.heap.size, 0, none⟩) 1 [mkA a b c d] := by
  refine ⟨rfl, by omega, fun _ => ⟨_, rfl, fun j p hj => ?_⟩⟩
  have hj0 : j = 0 := by
    have := (List.getElem?_eq_some_iff.1 hj).1
    simpa using this
  subst hj0
  obtain rfl : mkA a b c d = p := by simpa using hj
  refine ⟨cellsA a b c d, rfl, ⟨rfl, rfl⟩, fun i u hu => ?_⟩
  have h := blk_cell (blk_new W (.cells #[.int .i64 a, .int .i64 b, .bool false, .bool false, .int .i64 c, .int .i64 d, .bool false, .bool false] 40 (0, 0))) i
  have e : (Addr.mk W.heap.size 0 none).add (0 * 8 + i) = ⟨W.heap.size, i, none⟩ := by (unfold Addr.add; split <;> simp_all)
  rw [e, h]
  have hu2 : (#[Value.int .i64 a, .int .i64 b, .bool false, .bool false, .int .i64 c, .int .i64 d, .bool false, .bool false] : Array Value)[i]? = some u := by rw [← hu]; simp [cellsA]
  exact hu2
theorem e40 : ∀ q, q ∈ 40 :: k40.E → q ≠ 45 := by
  intro q hq
  simp [k40, k38, Kd.iso, Kd.pair, Kd.int, Kd.bool, Kd.scalar] at hq
  omega
def Acc (w0 : World) (h0 g : Nat) (xs : List S40) (W : World) : Prop :=
  ∃ v, W.heap[g]? = some (.cells #[v] 45 (0, 0)) ∧ Kd.R k40 40 W w0.heap.size (fun k => h0 ≤ k) v xs ∧ Below w0.heap.size w0 W ∧ w0.heap.size ≤ h0 ∧ h0 ≤ g
set_option maxRecDepth 100000 in
set_option maxHeartbeats 1600000 in
theorem add_no (w0 W : World) (h0 g : Nat) (xs : List S40) (a b c d : Int) (h : Acc w0 h0 g xs W) :
    Calls Try.prog 75 #[.agg #[.int .i64 a, .int .i64 b, .int .i64 c, .int .i64 d], .bool false, .pointer (some ⟨g, 0, none⟩)] W fun e w' => (∃ v, e = .returned v) ∧ Acc w0 h0 g xs w' ∧ Kept W w' (fun k => h0 ≤ k) := by
  obtain ⟨v, hv, hR, hB, h1, h2⟩ := h
  have HV := Aside0.mk hv
  have HR := Aside0.mk hR
  have HB := Aside0.mk hB
  clear hv hR hB
  go_enter Try.func75, Try.ntmps75
  go_wp2
  go_end0
  exact ⟨⟨_, rfl⟩, ⟨v, blk_alloc HV.out _, Kd.R_alloc HR.out _, below_alloc HB.out _, h1, h2⟩, (Kept.refl _ _).alloc _⟩
set_option maxRecDepth 100000 in
set_option maxHeartbeats 1600000 in
theorem add_yes (w0 W : World) (h0 g : Nat) (xs : List S40) (a b c d : Int) (h : Acc w0 h0 g xs W) (hl : xs.length ≤ 10) :
    Calls Try.prog 75 #[.agg #[.int .i64 a, .int .i64 b, .int .i64 c, .int .i64 d], .bool true, .pointer (some ⟨g, 0, none⟩)] W fun e w' => (∃ v, e = .returned v) ∧ Acc w0 h0 g (xs ++ [mkA a b c d]) w' ∧ Kept W w' (fun k => h0 ≤ k) := by
  obtain ⟨v, hv, hR, hB, h1, h2⟩ := h
  obtain ⟨A, cp, rfl⟩ := Kd.R_slice hR
  have hu45 := Try.underlying45
  have hlt := blk_lt hv
  have HV := Aside0.mk hv
  have HR := Aside0.mk hR
  have HB := Aside0.mk hB
  have HH := Aside0.mk (And.intro h1 h2)
  have hgv : W.cell? ⟨g, 0, none⟩ = some (.slice A xs.length cp) := (blk_cell hv 0).trans rfl
  have hne : W.heap.size ≠ g := by omega
  clear hv hR hB
  go_enter Try.func75, Try.ntmps75
  go_upto_region 2 with (fail)
  obtain ⟨z0, z1, z2, z3⟩ := bx4 (blk_new W (.cells #[.int .i64 a, .int .i64 b, .int .i64 c, .int .i64 d] 101 (0, 0)))
  have hgv1 := pw_cell_below (below_alloc (Below.refl W.heap.size W) (.cells #[.int .i64 a, .int .i64 b, .int .i64 c, .int .i64 d] 101 (0, 0))) hgv
  go_region_law (first
    | (refine Kd.R_append_rows_step k40 (Rr := fun x cs => x = mkA a b c d ∧ cs = cellsA a b c d) (w0 := w0) w0.heap.size (by rfl) (.tmp 6) (.tmp 9) 45 40 (.agg #[.int .i64 0, .int .i64 0, .bool false, .bool false, .int .i64 0, .int .i64 0, .bool false, .bool false]) 48 rfl Try.underlying45 info40 rfl (by decide) (by decide) (.slice A xs.length cp) xs [mkA a b c d] (some ⟨w8.heap.size, 0, none⟩) 1 1 (fun k => h0 ≤ k) (fun _ => False) (by rfl) (by rfl) (by (with_reducible repeat (first | refine Kd.R_drewN ?_ _ | refine Kd.R_drew ?_ | refine Kd.R_alloc ?_ _)); exact HR8.out) (by first | exact lit1 w8 a b c d | exact (lit1 w8 a b c d)) (fun x cs h => by obtain ⟨rfl, rfl⟩ := h; exact k40_mkM _ _ _ _) (fun _ hk => hk.elim) (fun k hk => by have := HSZ.out; have := HH.out.2; simp at hk; omega) (by repeat (first | (with_reducible first | exact HB8.out | apply below_alloc | apply pw_below_drewN | apply below_drew1) | exact HB8.out)) (by have := HB8.out.size; simp; omega) (by omega) ?_; intro v10 w10 ho10 hb10 hg10 hat10; obtain ⟨A10, c10, rfl⟩ := Kd.R_slice ho10; have HO10 := Aside0.mk ho10; have HB10 := Aside0.mk hb10; have HG10 := Aside0.mk hg10; have HV10 := Aside0.mk (show w10.heap[g]? = some (.cells #[.slice A xs.length cp] 45 (0, 0)) from blk_grown (by (with_reducible repeat (first | refine blk_drewN ?_ _ | refine blk_drew ?_ | refine blk_alloc ?_ _)); exact HV8.out) hg10 (fun e => ((Kd.R_types HR8.out HV8.out e40).1 g e.symm).2 rfl)); have hgv10 : w10.cell? ⟨g, 0, none⟩ = some (.slice A xs.length cp) := (blk_cell HV10.out 0).trans rfl; have hgf10 := blk_frozen HV10.out 0; clear ho10 hb10 hg10)
    | (go_simp; go_at_call 74; refine (area_c _ _ _ _ _).mono ?_; rintro e w8 ⟨rfl, hb8⟩; have HR8 := Aside0.mk (show Kd.R k40 40 w8 w0.heap.size (fun k => h0 ≤ k) (.slice A xs.length cp) xs from Kd.R_below (by (with_reducible repeat (first | refine Kd.R_drewN ?_ _ | refine Kd.R_drew ?_ | refine Kd.R_alloc ?_ _)); exact HR.out) hb8); have HB8 := Aside0.mk (show Below w0.heap.size w0 w8 from below_step (by repeat (first | (with_reducible first | exact HB.out | apply below_alloc | apply pw_below_drewN | apply below_drew1) | exact HB.out)) hb8); have HV8 := Aside0.mk (show w8.heap[g]? = some (.cells #[.slice A xs.length cp] 45 (0, 0)) from blk_below (by (with_reducible repeat (first | refine blk_drewN ?_ _ | refine blk_drew ?_ | refine blk_alloc ?_ _)); exact HV.out) hb8); have HSZ := Aside0.mk (show g < w8.heap.size from blk_lt HV8.out); have hgv8 : w8.cell? ⟨g, 0, none⟩ = some (.slice A xs.length cp) := (blk_cell HV8.out 0).trans rfl; have hgv8a := fun o => pw_cell_below (below_alloc (Below.refl w8.heap.size w8) o) hgv8; have HK8 := Aside0.mk (show Kept W w8 (fun k => h0 ≤ k) from Kept.below (by repeat (first | exact Kept.refl _ _ | apply Kept.alloc | apply Kept.drewN | apply Kept.drew)) hb8); clear hb8))
  all_goals go_end0
  all_goals
    have hle : h0 ≤ g := HH.out.2
    have hr := HO10.out
    simp only [List.length_append, List.length_singleton] at hr
    exact ⟨⟨_, rfl⟩, ⟨_, blk_put HV10.out 0 _ rfl, Kd.R_set hr HV10.out e40 0 _, below_set HB10.out (by have := HH.out; omega), HH.out.1, HH.out.2⟩, Kept.setCell (Kept.of_grown HG10.out (by repeat (first | exact HK8.out | apply Kept.alloc | apply Kept.drewN | apply Kept.drew)) (fun k e => .inl (HR8.out.1 k e))) (p := ⟨g, 0, none⟩) (.inl hle) _⟩
end Go.Proofs.Ytppenjoobcppjaa.PAr
