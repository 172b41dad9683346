/- Refs and areas that are drawn: that there are some. -/
import Derived.Test.YtppenjoobcppjaaWdDraw
import Derived.Test.YtppenjoobcppjaaArFa
namespace Go.Proofs.Ytppenjoobcppjaa.PAr
open Go.RowKit Go.Proofs.YtppenjoobcppjaaW.PrintWords Go.Proofs.YtppenjoobcppjaaW.PrintLast Go.Proofs.YtppenjoobcppjaaW.PrintMore
open Go.Proofs.Ytppenjoobcppjaa.PFnWorkdays (Cur Bytes pick_c one_c)
attribute [local go_sem ↓] Go.wp_at_zero Go.wp_at_succ
set_option linter.unusedVariables false
set_option linter.unusedSimpArgs false

section
variable {w0 W W2 : World} {g : Nat} {code : List Int} {m m' : Int}
theorem Cur.mono (h : Cur w0 W g code m) (hm : m ≤ m') : Cur w0 W g code m' := by
  obtain ⟨n, s, h0, h1, hI⟩ := h
  exact ⟨n, s, h0, by omega, hI⟩
theorem Cur.below (h : Cur w0 W g code m) (hb : Below W.heap.size W W2) : Cur w0 W2 g code m := by
  obtain ⟨n, s, h0, h1, hI⟩ := h
  exact ⟨n, s, h0, h1, hI.below hb⟩
theorem Cur.alloc (h : Cur w0 W g code m) (o : Obj) : Cur w0 (W.alloc o) g code m := Cur.below h (below_alloc (Below.refl _ _) o)
theorem Cur.far (h : Cur w0 W g code m) {p : Addr} (hne : g ≠ p.block) (u : Value) : Cur w0 (W.setCell p u) g code m := by
  obtain ⟨n, s, h0, h1, hI⟩ := h
  exact ⟨n, s, h0, h1, hI.far hne u⟩
theorem Cur.drew (h : Cur w0 W g code m) : Cur w0 W.drew g code m := h
theorem Cur.lt (h : Cur w0 W g code m) : g < W.heap.size := by
  obtain ⟨n, s, h0, h1, hI⟩ := h
  exact hI.lt
theorem Cur.ge (h : Cur w0 W g code m) : w0.heap.size ≤ g := by
  obtain ⟨n, s, h0, h1, hI⟩ := h
  exact hI.ge
end
theorem kblk {W W2 : World} {g g' : Nat} {o : Obj} (hb : W.heap[g']? = some o) (hk : KeepBut W W2 g none) (hne : g' ≠ g) : W2.heap[g']? = some o := KeepBut.blk hk hb hne (by simp)
theorem put4 {W : World} {g t : Nat} {c0 c1 c2 c3 : Value} (h : W.heap[g]? = some (.cells #[c0, c1, c2, c3] t (0, 0))) (v0 v1 v2 v3 : Value) :
    ((((W.setCell ⟨g, 0, none⟩ v0).setCell ⟨g, 1, none⟩ v1).setCell ⟨g, 2, none⟩ v2).setCell ⟨g, 3, none⟩ v3).heap[g]? = some (.cells #[v0, v1, v2, v3] t (0, 0)) :=
  blk_put (cs := #[v0, v1, v2, c3]) (blk_put (cs := #[v0, v1, c2, c3]) (blk_put (cs := #[v0, c1, c2, c3]) (blk_put h 0 v0 rfl) 1 v1 rfl) 2 v2 rfl) 3 v3 rfl
theorem frozen4 {W : World} {g t : Nat} {cs : Array Value} (hb : W.heap[g]? = some (.cells cs t (0, 0))) :
    W.frozen? ⟨g, 0, none⟩ = false ∧ W.frozen? ⟨g, 1, none⟩ = false ∧ W.frozen? ⟨g, 2, none⟩ = false ∧ W.frozen? ⟨g, 3, none⟩ = false :=
  ⟨blk_frozen hb 0, blk_frozen hb 1, blk_frozen hb 2, blk_frozen hb 3⟩
theorem set4_below {w W : World} {g : Nat} (h : Below w.heap.size w W) (hg : w.heap.size ≤ g) (v0 v1 v2 v3 : Value) : Below w.heap.size w ((((W.setCell ⟨g, 0, none⟩ v0).setCell ⟨g, 1, none⟩ v1).setCell ⟨g, 2, none⟩ v2).setCell ⟨g, 3, none⟩ v3) := below_set (below_set (below_set (below_set h hg) hg) hg) hg
theorem set4_keep {w W : World} {g g' : Nat} (h : KeepBut w W g none) (hg : w.heap.size ≤ g') (v0 v1 v2 v3 : Value) : KeepBut w ((((W.setCell ⟨g', 0, none⟩ v0).setCell ⟨g', 1, none⟩ v1).setCell ⟨g', 2, none⟩ v2).setCell ⟨g', 3, none⟩ v3) g none := keep_far (keep_far (keep_far (keep_far h hg _) hg _) hg _) hg _
theorem set4_cur {w W : World} {g g' : Nat} {code : List Int} {m : Int} (h : Cur w W g code m) (hg : g ≠ g') (v0 v1 v2 v3 : Value) : Cur w ((((W.setCell ⟨g', 0, none⟩ v0).setCell ⟨g', 1, none⟩ v1).setCell ⟨g', 2, none⟩ v2).setCell ⟨g', 3, none⟩ v3) g code m := Cur.far (Cur.far (Cur.far (Cur.far h hg _) hg _) hg _) hg _
theorem bx3 {W : World} {g t : Nat} {a b c : Value} (hb : W.heap[g]? = some (.cells #[a, b, c] t (0, 0))) : W.cell? ⟨g, 0, none⟩ = some a ∧ W.cell? ⟨g, 1, none⟩ = some b ∧ W.cell? ⟨g, 2, none⟩ = some c :=
  ⟨(blk_cell hb 0).trans rfl, (blk_cell hb 1).trans rfl, (blk_cell hb 2).trans rfl⟩
theorem boxes3' (w : World) (A B C : Array Value) (t u : Nat) : let W := ((w.alloc (.cells A t (0, 0))).alloc (.cells B t (0, 0))).alloc (.cells C u (0, 0))
    W.heap[w.heap.size]? = some (.cells A t (0, 0)) ∧ W.heap[w.heap.size + 1]? = some (.cells B t (0, 0)) ∧ W.heap[w.heap.size + 2]? = some (.cells C u (0, 0)) ∧ Below w.heap.size w W ∧ W.heap.size = w.heap.size + 3 := by
  refine ⟨blk_alloc (blk_alloc (blk_new w _) _) _, ?_, ?_, below_alloc (below_alloc (below_alloc (Below.refl _ _) _) _) _, ?_⟩
  · have h := blk_alloc (blk_new (w.alloc (.cells A t (0, 0))) (.cells B t (0, 0))) (.cells C u (0, 0))
    rwa [size_alloc] at h
  · have h := blk_new ((w.alloc (.cells A t (0, 0))).alloc (.cells B t (0, 0))) (.cells C u (0, 0))
    rwa [size_alloc, size_alloc] at h
  · rw [size_alloc, size_alloc, size_alloc]
/-- What a drawing call leaves: the reader has read on, nothing else of what was there has turned. -/
def After (w0 W : World) (g : Nat) (code : List Int) (m : Int) (w' : World) : Prop := Cur w0 w' g code m ∧ Below w0.heap.size w0 w' ∧ KeepBut W w' g none

set_option maxRecDepth 100000 in
set_option maxHeartbeats 3200000 in
theorem ref_c (code : List Int) (hby : Bytes code) (g : Nat) (w0 w1 : World) (m : Int) (hC : Cur w0 w1 g code m) (hB : Below w0.heap.size w0 w1) (hm : m ≤ 1000) :
    Calls Try.prog 126 #[.pointer (some ⟨g, 0, none⟩)] w1 fun e w' => (∃ a b c d, e = .returned (.agg #[.int .i64 a, .int .i64 b, .bool c, .bool d])) ∧ Cur w0 w' g code (m + 20) ∧ Below w0.heap.size w0 w' ∧ KeepBut w1 w' g none := by
  have HBY := Aside0.mk hby
  have HC1 := Aside0.mk hC
  have HB1 := Aside0.mk hB
  have HK1 := Aside0.mk (KeepBut.refl w1 g none)
  have hu38 := Try.underlying38
  have hu40 := Try.underlying40
  have hu81 := Try.underlying81
  clear hC hB hby
  go_enter Try.func126, Try.ntmps126
  go_wp2_with (fail)
  have hnew := blk_new w1 (.cells #[.int .i64 0, .int .i64 0, .bool false, .bool false] 38 (0, 0))
  obtain ⟨gBR, hgBR⟩ : ∃ g, g = w1.heap.size := ⟨_, rfl⟩
  rw [← hgBR] at hnew ⊢
  have NBR := Aside0.mk (show gBR ≠ g by have := Cur.lt HC1.out; omega)
  have GBR := Aside0.mk (show w1.heap.size ≤ gBR ∧ w0.heap.size ≤ gBR by have := HK1.out.1; have := HB1.out.size; omega)
  have BR2 := Aside0.mk hnew
  have HC2 := Aside0.mk (Cur.alloc HC1.out (.cells #[.int .i64 0, .int .i64 0, .bool false, .bool false] 38 (0, 0)))
  have HB2 := Aside0.mk (below_alloc HB1.out (.cells #[.int .i64 0, .int .i64 0, .bool false, .bool false] 38 (0, 0)))
  have HK2 := Aside0.mk (keep_alloc HK1.out (.cells #[.int .i64 0, .int .i64 0, .bool false, .bool false] 38 (0, 0)))
  obtain ⟨w2, hw2⟩ : ∃ W, W = w1.alloc (.cells #[.int .i64 0, .int .i64 0, .bool false, .bool false] 38 (0, 0)) := ⟨_, rfl⟩
  rw [← hw2] at HC2 HB2 HK2 BR2 ⊢
  clear hnew hgBR hw2 HC1 HB1 HK1 
  have hcp := HC2.out
  have hbp := HB2.out
  have hkp := HK2.out
  have hp_BR := BR2.out
  refine (pick_c code HBY.out 9 g w0 _ _ hcp hbp (by omega) (by omega)).mono ?_
  rintro e w3 ⟨⟨p1, rfl, p10, p11⟩, hc3, hb3, hk3⟩
  have BR3 := Aside0.mk (kblk hp_BR hk3 NBR.out)
  have HC3 := Aside0.mk hc3
  have HB3 := Aside0.mk hb3
  have HK3 := Aside0.mk (KeepBut.trans hkp hk3 (.inl rfl))
  clear hcp hbp hkp hc3 hb3 hk3 HC2 HB2 HK2 hp_BR BR2
  go_wp2_with (fail)
  have hcp := HC3.out
  have hbp := HB3.out
  have hkp := HK3.out
  have hp_BR := BR3.out
  refine (pick_c code HBY.out 9 g w0 _ _ hcp hbp (by omega) (by omega)).mono ?_
  rintro e w4 ⟨⟨p2, rfl, p20, p21⟩, hc4, hb4, hk4⟩
  have BR4 := Aside0.mk (kblk hp_BR hk4 NBR.out)
  have HC4 := Aside0.mk hc4
  have HB4 := Aside0.mk hb4
  have HK4 := Aside0.mk (KeepBut.trans hkp hk4 (.inl rfl))
  clear hcp hbp hkp hc4 hb4 hk4 HC3 HB3 HK3 hp_BR BR3
  go_wp2_with (fail)
  have hcp := HC4.out
  have hbp := HB4.out
  have hkp := HK4.out
  have hp_BR := BR4.out
  refine (one_c code HBY.out 3 g w0 _ _ hcp hbp (by omega) (by omega)).mono ?_
  rintro e w5 ⟨⟨b1, rfl⟩, hc5, hb5, hk5⟩
  have BR5 := Aside0.mk (kblk hp_BR hk5 NBR.out)
  have HC5 := Aside0.mk hc5
  have HB5 := Aside0.mk hb5
  have HK5 := Aside0.mk (KeepBut.trans hkp hk5 (.inl rfl))
  clear hcp hbp hkp hc5 hb5 hk5 HC4 HB4 HK4 hp_BR BR4
  go_wp2_with (fail)
  have hcp := HC5.out
  have hbp := HB5.out
  have hkp := HK5.out
  have hp_BR := BR5.out
  refine (one_c code HBY.out 3 g w0 _ _ hcp hbp (by omega) (by omega)).mono ?_
  rintro e w6 ⟨⟨b2, rfl⟩, hc6, hb6, hk6⟩
  have BR6 := Aside0.mk (kblk hp_BR hk6 NBR.out)
  have HC6 := Aside0.mk hc6
  have HB6 := Aside0.mk hb6
  have HK6 := Aside0.mk (KeepBut.trans hkp hk6 (.inl rfl))
  clear hcp hbp hkp hc6 hb6 hk6 HC5 HB5 HK5 hp_BR BR5
  go_wp2_with (fail)
  have hnew := blk_new w6 (.cells #[.int .i64 (1 + p1), .int .i64 (1 + p2), .bool b1, .bool b2] 38 (0, 0))
  obtain ⟨gBO, hgBO⟩ : ∃ g, g = w6.heap.size := ⟨_, rfl⟩
  rw [← hgBO] at hnew ⊢
  have NBO := Aside0.mk (show gBO ≠ g by have := Cur.lt HC6.out; omega)
  have GBO := Aside0.mk (show w1.heap.size ≤ gBO ∧ w0.heap.size ≤ gBO by have := HK6.out.1; have := HB6.out.size; omega)
  have EBOBR := Aside0.mk (show gBO ≠ gBR by have := blk_lt BR6.out; omega)
  have BR7 := Aside0.mk (blk_alloc BR6.out (.cells #[.int .i64 (1 + p1), .int .i64 (1 + p2), .bool b1, .bool b2] 38 (0, 0)))
  have BO7 := Aside0.mk hnew
  have HC7 := Aside0.mk (Cur.alloc HC6.out (.cells #[.int .i64 (1 + p1), .int .i64 (1 + p2), .bool b1, .bool b2] 38 (0, 0)))
  have HB7 := Aside0.mk (below_alloc HB6.out (.cells #[.int .i64 (1 + p1), .int .i64 (1 + p2), .bool b1, .bool b2] 38 (0, 0)))
  have HK7 := Aside0.mk (keep_alloc HK6.out (.cells #[.int .i64 (1 + p1), .int .i64 (1 + p2), .bool b1, .bool b2] 38 (0, 0)))
  obtain ⟨w7, hw7⟩ : ∃ W, W = w6.alloc (.cells #[.int .i64 (1 + p1), .int .i64 (1 + p2), .bool b1, .bool b2] 38 (0, 0)) := ⟨_, rfl⟩
  rw [← hw7] at HC7 HB7 HK7 BR7 BO7 ⊢
  clear hnew hgBO hw7 HC6 HB6 HK6 BR6
  have hcp := HC7.out
  have hbp := HB7.out
  have hkp := HK7.out
  have hp_BR := BR7.out
  have hp_BO := BO7.out
  refine (pick_c code HBY.out 9 g w0 _ _ hcp hbp (by omega) (by omega)).mono ?_
  rintro e w8 ⟨⟨p3, rfl, p30, p31⟩, hc8, hb8, hk8⟩
  have BR8 := Aside0.mk (kblk hp_BR hk8 NBR.out)
  have BO8 := Aside0.mk (kblk hp_BO hk8 NBO.out)
  have HC8 := Aside0.mk hc8
  have HB8 := Aside0.mk hb8
  have HK8 := Aside0.mk (KeepBut.trans hkp hk8 (.inl rfl))
  clear hcp hbp hkp hc8 hb8 hk8 HC7 HB7 HK7 hp_BR BR7 hp_BO BO7
  by_cases hp0 : p3 = 0
  · obtain rfl := hp0
    go_wp2_with (fail)
    have hcp := HC8.out
    have hbp := HB8.out
    have hkp := HK8.out
    have hp_BR := BR8.out
    have hp_BO := BO8.out
    refine (pick_c code HBY.out 1000 g w0 _ _ hcp hbp (by omega) (by omega)).mono ?_
    rintro e w9 ⟨⟨p4, rfl, p40, p41⟩, hc9, hb9, hk9⟩
    have BR9 := Aside0.mk (kblk hp_BR hk9 NBR.out)
    have BO9 := Aside0.mk (kblk hp_BO hk9 NBO.out)
    have HC9 := Aside0.mk hc9
    have HB9 := Aside0.mk hb9
    have HK9 := Aside0.mk (KeepBut.trans hkp hk9 (.inl rfl))
    clear hcp hbp hkp hc9 hb9 hk9 HC8 HB8 HK8 hp_BR BR8 hp_BO BO8
    obtain ⟨q0_0, q0_1, q0_2, q0_3⟩ := bx4 BO9.out
    obtain ⟨zBO0, zBO1, zBO2, zBO3⟩ := frozen4 BO9.out
    go_wp2_with (fail)
    clear q0_0 q0_1 q0_2 q0_3 zBO0 zBO1 zBO2 zBO3 
    have BR10 := Aside0.mk (blk_far (p := ⟨gBO, 0, none⟩) BR9.out EBOBR.out.symm (.int .i64 (1 + p4)))
    have BO10 := Aside0.mk (show (w9.setCell ⟨gBO, 0, none⟩ (.int .i64 (1 + p4))).heap[gBO]? = some (.cells #[.int .i64 (1 + p4), .int .i64 (1 + p2), .bool b1, .bool b2] 38 (0, 0)) from blk_put BO9.out 0 _ rfl)
    have HC10 := Aside0.mk (Cur.far (p := ⟨gBO, 0, none⟩) HC9.out NBO.out.symm (.int .i64 (1 + p4)))
    have HB10 := Aside0.mk (show Below w0.heap.size w0 (w9.setCell ⟨gBO, 0, none⟩ (.int .i64 (1 + p4))) from below_set HB9.out GBO.out.2)
    have HK10 := Aside0.mk (keep_far (p := ⟨gBO, 0, none⟩) HK9.out GBO.out.1 (.int .i64 (1 + p4)))
    obtain ⟨w10, hw10⟩ : ∃ W, W = (w9.setCell ⟨gBO, 0, none⟩ (.int .i64 (1 + p4))) := ⟨_, rfl⟩
    rw [← hw10] at HC10 HB10 HK10 BR10 BO10 ⊢
    clear hw10 HC9 HB9 HK9 BR9 BO9
    have hcp := HC10.out
    have hbp := HB10.out
    have hkp := HK10.out
    have hp_BR := BR10.out
    have hp_BO := BO10.out
    refine (pick_c code HBY.out 200 g w0 _ _ hcp hbp (by omega) (by omega)).mono ?_
    rintro e w11 ⟨⟨p5, rfl, p50, p51⟩, hc11, hb11, hk11⟩
    have BR11 := Aside0.mk (kblk hp_BR hk11 NBR.out)
    have BO11 := Aside0.mk (kblk hp_BO hk11 NBO.out)
    have HC11 := Aside0.mk hc11
    have HB11 := Aside0.mk hb11
    have HK11 := Aside0.mk (KeepBut.trans hkp hk11 (.inl rfl))
    clear hcp hbp hkp hc11 hb11 hk11 HC10 HB10 HK10 hp_BR BR10 hp_BO BO10
    obtain ⟨f0, f1, f2, f3⟩ := frozen4 BR11.out
    obtain ⟨q0_0, q0_1, q0_2, q0_3⟩ := bx4 BO11.out
    obtain ⟨q1_0, q1_1, q1_2, q1_3⟩ := bx4 BR11.out
    have hxx := EBOBR.out
    obtain ⟨y0, y1, y2, y3⟩ := frozen4 BO11.out
    go_wp2
    refine bodyPost_ret (results_cell_row rfl _ _ gBR 38 #[.int .i64 (1 + p4), .int .i64 (1 + p5), .bool b1, .bool b2] (0, 0) _ rfl (put4 (blk_far (p := ⟨gBO, 1, none⟩) BR11.out hxx.symm (.int .i64 (1 + p5))) _ _ _ _) Try.underlying38 rfl (by kernel_rfl)) rfl ?_
    exact ⟨⟨(1 + p4), (1 + p5), b1, b2, rfl⟩, set4_cur (Cur.mono (Cur.far (p := ⟨gBO, 1, none⟩) HC11.out NBO.out.symm (.int .i64 (1 + p5))) (by omega)) NBR.out.symm _ _ _ _, set4_below (below_set HB11.out GBO.out.2) GBR.out.2 _ _ _ _, set4_keep (keep_far (p := ⟨gBO, 1, none⟩) HK11.out GBO.out.1 (.int .i64 (1 + p5))) GBR.out.1 _ _ _ _⟩
  by_cases hp1 : p3 = 1
  · obtain rfl := hp1
    go_wp2_with (fail)
    have hcp := HC8.out
    have hbp := HB8.out
    have hkp := HK8.out
    have hp_BR := BR8.out
    have hp_BO := BO8.out
    refine (pick_c code HBY.out 2 g w0 _ _ hcp hbp (by omega) (by omega)).mono ?_
    rintro e w9 ⟨⟨p4, rfl, p40, p41⟩, hc9, hb9, hk9⟩
    have BR9 := Aside0.mk (kblk hp_BR hk9 NBR.out)
    have BO9 := Aside0.mk (kblk hp_BO hk9 NBO.out)
    have HC9 := Aside0.mk hc9
    have HB9 := Aside0.mk hb9
    have HK9 := Aside0.mk (KeepBut.trans hkp hk9 (.inl rfl))
    clear hcp hbp hkp hc9 hb9 hk9 HC8 HB8 HK8 hp_BR BR8 hp_BO BO8
    obtain ⟨q0_0, q0_1, q0_2, q0_3⟩ := bx4 BO9.out
    obtain ⟨zBO0, zBO1, zBO2, zBO3⟩ := frozen4 BO9.out
    go_wp2_with (fail)
    clear q0_0 q0_1 q0_2 q0_3 zBO0 zBO1 zBO2 zBO3 
    have BR10 := Aside0.mk (blk_far (p := ⟨gBO, 0, none⟩) BR9.out EBOBR.out.symm (.int .i64 (1000 - p4)))
    have BO10 := Aside0.mk (show (w9.setCell ⟨gBO, 0, none⟩ (.int .i64 (1000 - p4))).heap[gBO]? = some (.cells #[.int .i64 (1000 - p4), .int .i64 (1 + p2), .bool b1, .bool b2] 38 (0, 0)) from blk_put BO9.out 0 _ rfl)
    have HC10 := Aside0.mk (Cur.far (p := ⟨gBO, 0, none⟩) HC9.out NBO.out.symm (.int .i64 (1000 - p4)))
    have HB10 := Aside0.mk (show Below w0.heap.size w0 (w9.setCell ⟨gBO, 0, none⟩ (.int .i64 (1000 - p4))) from below_set HB9.out GBO.out.2)
    have HK10 := Aside0.mk (keep_far (p := ⟨gBO, 0, none⟩) HK9.out GBO.out.1 (.int .i64 (1000 - p4)))
    obtain ⟨w10, hw10⟩ : ∃ W, W = (w9.setCell ⟨gBO, 0, none⟩ (.int .i64 (1000 - p4))) := ⟨_, rfl⟩
    rw [← hw10] at HC10 HB10 HK10 BR10 BO10 ⊢
    clear hw10 HC9 HB9 HK9 BR9 BO9
    have hcp := HC10.out
    have hbp := HB10.out
    have hkp := HK10.out
    have hp_BR := BR10.out
    have hp_BO := BO10.out
    refine (pick_c code HBY.out 2 g w0 _ _ hcp hbp (by omega) (by omega)).mono ?_
    rintro e w11 ⟨⟨p5, rfl, p50, p51⟩, hc11, hb11, hk11⟩
    have BR11 := Aside0.mk (kblk hp_BR hk11 NBR.out)
    have BO11 := Aside0.mk (kblk hp_BO hk11 NBO.out)
    have HC11 := Aside0.mk hc11
    have HB11 := Aside0.mk hb11
    have HK11 := Aside0.mk (KeepBut.trans hkp hk11 (.inl rfl))
    clear hcp hbp hkp hc11 hb11 hk11 HC10 HB10 HK10 hp_BR BR10 hp_BO BO10
    obtain ⟨f0, f1, f2, f3⟩ := frozen4 BR11.out
    obtain ⟨q0_0, q0_1, q0_2, q0_3⟩ := bx4 BO11.out
    obtain ⟨q1_0, q1_1, q1_2, q1_3⟩ := bx4 BR11.out
    have hxx := EBOBR.out
    obtain ⟨y0, y1, y2, y3⟩ := frozen4 BO11.out
    go_wp2
    refine bodyPost_ret (results_cell_row rfl _ _ gBR 38 #[.int .i64 (1000 - p4), .int .i64 (200 - p5), .bool b1, .bool b2] (0, 0) _ rfl (put4 (blk_far (p := ⟨gBO, 1, none⟩) BR11.out hxx.symm (.int .i64 (200 - p5))) _ _ _ _) Try.underlying38 rfl (by kernel_rfl)) rfl ?_
    exact ⟨⟨(1000 - p4), (200 - p5), b1, b2, rfl⟩, set4_cur (Cur.mono (Cur.far (p := ⟨gBO, 1, none⟩) HC11.out NBO.out.symm (.int .i64 (200 - p5))) (by omega)) NBR.out.symm _ _ _ _, set4_below (below_set HB11.out GBO.out.2) GBR.out.2 _ _ _ _, set4_keep (keep_far (p := ⟨gBO, 1, none⟩) HK11.out GBO.out.1 (.int .i64 (200 - p5))) GBR.out.1 _ _ _ _⟩
  have d0 : (p3 == 0) = false := by simpa using hp0
  have d1 : (p3 == 1) = false := by simpa using hp1
  have d2 : decide (p3 = 0) = false := decide_eq_false hp0
  have d3 : decide (p3 = 1) = false := decide_eq_false hp1
  clear hp0 hp1
  obtain ⟨f0, f1, f2, f3⟩ := frozen4 BR8.out
  obtain ⟨q0_0, q0_1, q0_2, q0_3⟩ := bx4 BO8.out
  obtain ⟨q1_0, q1_1, q1_2, q1_3⟩ := bx4 BR8.out
  have hxx := EBOBR.out
  obtain ⟨y0, y1, y2, y3⟩ := frozen4 BO8.out
  go_wp2
  refine bodyPost_ret (results_cell_row rfl _ _ gBR 38 #[.int .i64 (1 + p1), .int .i64 (1 + p2), .bool b1, .bool b2] (0, 0) _ rfl (put4 BR8.out _ _ _ _) Try.underlying38 rfl (by kernel_rfl)) rfl ?_
  exact ⟨⟨(1 + p1), (1 + p2), b1, b2, rfl⟩, set4_cur (Cur.mono HC8.out (by omega)) NBR.out.symm _ _ _ _, set4_below HB8.out GBR.out.2 _ _ _ _, set4_keep HK8.out GBR.out.1 _ _ _ _⟩
theorem odd_boxes (W : World) (A : Array Value) : let W2 := (W.alloc (.cells A 38 (0, 0))).alloc (.cells #[.int .i64 0, .int .i64 0, .bool false, .bool false] 38 (0, 0))
    W2.heap[W.heap.size]? = some (.cells A 38 (0, 0)) ∧ W2.heap[W.heap.size + 1]? = some (.cells #[.int .i64 0, .int .i64 0, .bool false, .bool false] 38 (0, 0)) ∧ W2.heap.size = W.heap.size + 2 := by
  refine ⟨blk_alloc (blk_new W _) _, ?_, ?_⟩
  · have h := blk_new (W.alloc (.cells A 38 (0, 0))) (.cells #[.int .i64 0, .int .i64 0, .bool false, .bool false] 38 (0, 0))
    rwa [size_alloc] at h
  · rw [size_alloc, size_alloc]
set_option maxRecDepth 100000 in
set_option maxHeartbeats 3200000 in
theorem odd_c (code : List Int) (hby : Bytes code) (g : Nat) (w0 w1 : World) (m : Int) (a0 a1 : Int) (a2 a3 : Bool) (hC : Cur w0 w1 g code m) (hB : Below w0.heap.size w0 w1) (hm : m ≤ 1000) :
    Calls Try.prog 125 #[.pointer (some ⟨g, 0, none⟩), .agg #[.int .i64 a0, .int .i64 a1, .bool a2, .bool a3]] w1 fun e w' => (∃ a b c d, e = .returned (.agg #[.int .i64 a, .int .i64 b, .bool c, .bool d])) ∧ Cur w0 w' g code (m + 20) ∧ Below w0.heap.size w0 w' ∧ KeepBut w1 w' g none := by
  have HBY := Aside0.mk hby
  have HC1 := Aside0.mk hC
  have HB1 := Aside0.mk hB
  have HK1 := Aside0.mk (KeepBut.refl w1 g none)
  have hu38 := Try.underlying38
  have hu40 := Try.underlying40
  have hu81 := Try.underlying81
  clear hC hB hby
  go_enter Try.func125, Try.ntmps125
  go_wp2_with (fail)
  have hbo := blk_alloc (blk_new w1 (.cells #[.int .i64 a0, .int .i64 a1, .bool a2, .bool a3] 38 (0, 0))) (.cells #[.int .i64 0, .int .i64 0, .bool false, .bool false] 38 (0, 0))
  have hbr := blk_new (w1.alloc (.cells #[.int .i64 a0, .int .i64 a1, .bool a2, .bool a3] 38 (0, 0))) (.cells #[.int .i64 0, .int .i64 0, .bool false, .bool false] 38 (0, 0))
  have HC2 := Aside0.mk (Cur.alloc (Cur.alloc HC1.out (.cells #[.int .i64 a0, .int .i64 a1, .bool a2, .bool a3] 38 (0, 0))) (.cells #[.int .i64 0, .int .i64 0, .bool false, .bool false] 38 (0, 0)))
  have HB2 := Aside0.mk (below_alloc (below_alloc HB1.out (.cells #[.int .i64 a0, .int .i64 a1, .bool a2, .bool a3] 38 (0, 0))) (.cells #[.int .i64 0, .int .i64 0, .bool false, .bool false] 38 (0, 0)))
  have HK2 := Aside0.mk (keep_alloc (keep_alloc HK1.out (.cells #[.int .i64 a0, .int .i64 a1, .bool a2, .bool a3] 38 (0, 0))) (.cells #[.int .i64 0, .int .i64 0, .bool false, .bool false] 38 (0, 0)))
  rw [size_alloc] at hbr
  obtain ⟨w2, hw2⟩ : ∃ x, x = (w1.alloc (.cells #[.int .i64 a0, .int .i64 a1, .bool a2, .bool a3] 38 (0, 0))).alloc (.cells #[.int .i64 0, .int .i64 0, .bool false, .bool false] 38 (0, 0)) := ⟨_, rfl⟩
  obtain ⟨gBR, hgBR⟩ : ∃ g, g = w1.heap.size + 1 := ⟨_, rfl⟩
  obtain ⟨gBO, hgBO⟩ : ∃ g, g = w1.heap.size := ⟨_, rfl⟩
  rw [← hw2] at hbo hbr HC2 HB2 HK2 ⊢
  rw [← hgBR] at hbr
  rw [← hgBO] at hbo
  simp only [← hgBR]
  simp only [← hgBO]
  have NBO := Aside0.mk (show gBO ≠ g by have := Cur.lt HC1.out; omega)
  have NBR := Aside0.mk (show gBR ≠ g by have := Cur.lt HC1.out; omega)
  have GBO := Aside0.mk (show w1.heap.size ≤ gBO ∧ w0.heap.size ≤ gBO by have := HK1.out.1; have := HB1.out.size; omega)
  have GBR := Aside0.mk (show w1.heap.size ≤ gBR ∧ w0.heap.size ≤ gBR by have := HK1.out.1; have := HB1.out.size; omega)
  have EBRBO := Aside0.mk (show gBR ≠ gBO by omega)
  have BO2 := Aside0.mk hbo
  have BR2 := Aside0.mk hbr
  clear hw2 hgBO hgBR hbo hbr HC1 HB1 HK1
  have hcp := HC2.out
  have hbp := HB2.out
  have hkp := HK2.out
  have hp_BO := BO2.out
  have hp_BR := BR2.out
  refine (pick_c code HBY.out 30 g w0 _ _ hcp hbp (by omega) (by omega)).mono ?_
  rintro e w3 ⟨⟨p1, rfl, p10, p11⟩, hc3, hb3, hk3⟩
  have BO3 := Aside0.mk (kblk hp_BO hk3 NBO.out)
  have BR3 := Aside0.mk (kblk hp_BR hk3 NBR.out)
  have HC3 := Aside0.mk hc3
  have HB3 := Aside0.mk hb3
  have HK3 := Aside0.mk (KeepBut.trans hkp hk3 (.inl rfl))
  clear hcp hbp hkp hc3 hb3 hk3 HC2 HB2 HK2 hp_BO BO2 hp_BR BR2
  by_cases hp0 : p1 = 0
  · obtain rfl := hp0
    go_wp2_with (fail)
    have hnew := blk_new w3 (.cells #[.int .i64 (0), .int .i64 (1001), .int .i64 (-3)] 3 (0, 0))
    obtain ⟨gBS, hgBS⟩ : ∃ g, g = w3.heap.size := ⟨_, rfl⟩
    rw [← hgBS] at hnew ⊢
    have NBS := Aside0.mk (show gBS ≠ g by have := Cur.lt HC3.out; omega)
    have GBS := Aside0.mk (show w1.heap.size ≤ gBS ∧ w0.heap.size ≤ gBS by have := HK3.out.1; have := HB3.out.size; omega)
    have EBSBO := Aside0.mk (show gBS ≠ gBO by have := blk_lt BO3.out; omega)
    have EBSBR := Aside0.mk (show gBS ≠ gBR by have := blk_lt BR3.out; omega)
    have BO4 := Aside0.mk (blk_alloc BO3.out (.cells #[.int .i64 (0), .int .i64 (1001), .int .i64 (-3)] 3 (0, 0)))
    have BR4 := Aside0.mk (blk_alloc BR3.out (.cells #[.int .i64 (0), .int .i64 (1001), .int .i64 (-3)] 3 (0, 0)))
    have BS4 := Aside0.mk hnew
    have HC4 := Aside0.mk (Cur.alloc HC3.out (.cells #[.int .i64 (0), .int .i64 (1001), .int .i64 (-3)] 3 (0, 0)))
    have HB4 := Aside0.mk (below_alloc HB3.out (.cells #[.int .i64 (0), .int .i64 (1001), .int .i64 (-3)] 3 (0, 0)))
    have HK4 := Aside0.mk (keep_alloc HK3.out (.cells #[.int .i64 (0), .int .i64 (1001), .int .i64 (-3)] 3 (0, 0)))
    obtain ⟨w4, hw4⟩ : ∃ W, W = w3.alloc (.cells #[.int .i64 (0), .int .i64 (1001), .int .i64 (-3)] 3 (0, 0)) := ⟨_, rfl⟩
    rw [← hw4] at HC4 HB4 HK4 BO4 BR4 BS4 ⊢
    clear hnew hgBS hw4 HC3 HB3 HK3 BO3 BR3
    have hcp := HC4.out
    have hbp := HB4.out
    have hkp := HK4.out
    have hp_BO := BO4.out
    have hp_BR := BR4.out
    have hp_BS := BS4.out
    refine (pick_c code HBY.out 3 g w0 _ _ hcp hbp (by omega) (by omega)).mono ?_
    rintro e w5 ⟨⟨p2, rfl, p20, p21⟩, hc5, hb5, hk5⟩
    have BO5 := Aside0.mk (kblk hp_BO hk5 NBO.out)
    have BR5 := Aside0.mk (kblk hp_BR hk5 NBR.out)
    have BS5 := Aside0.mk (kblk hp_BS hk5 NBS.out)
    have HC5 := Aside0.mk hc5
    have HB5 := Aside0.mk hb5
    have HK5 := Aside0.mk (KeepBut.trans hkp hk5 (.inl rfl))
    clear hcp hbp hkp hc5 hb5 hk5 HC4 HB4 HK4 hp_BO BO4 hp_BR BR4 hp_BS BS4
    have hcase : p2 = 0 ∨ p2 = 1 ∨ p2 = 2 := by omega
    rcases hcase with hcase | hcase | hcase
    · obtain rfl := hcase
      obtain ⟨x0, x1, x2⟩ := bx3 BS5.out
      obtain ⟨f0, f1, f2, f3⟩ := frozen4 BR5.out
      obtain ⟨q0_0, q0_1, q0_2, q0_3⟩ := bx4 BO5.out
      obtain ⟨q1_0, q1_1, q1_2, q1_3⟩ := bx4 BR5.out
      have hxx := EBRBO.out.symm
      obtain ⟨y0, y1, y2, y3⟩ := frozen4 BO5.out
      go_wp2
      refine bodyPost_ret (results_cell_row rfl _ _ gBR 38 #[.int .i64 (0), .int .i64 a1, .bool a2, .bool a3] (0, 0) _ rfl (put4 (blk_far (p := ⟨gBO, 0, none⟩) BR5.out hxx.symm (.int .i64 (0))) _ _ _ _) Try.underlying38 rfl (by kernel_rfl)) rfl ?_
      exact ⟨⟨(0), a1, a2, a3, rfl⟩, set4_cur (Cur.mono (Cur.far (p := ⟨gBO, 0, none⟩) HC5.out NBO.out.symm (.int .i64 (0))) (by omega)) NBR.out.symm _ _ _ _, set4_below (below_set HB5.out GBO.out.2) GBR.out.2 _ _ _ _, set4_keep (keep_far (p := ⟨gBO, 0, none⟩) HK5.out GBO.out.1 (.int .i64 (0))) GBR.out.1 _ _ _ _⟩
    · obtain rfl := hcase
      obtain ⟨x0, x1, x2⟩ := bx3 BS5.out
      obtain ⟨f0, f1, f2, f3⟩ := frozen4 BR5.out
      obtain ⟨q0_0, q0_1, q0_2, q0_3⟩ := bx4 BO5.out
      obtain ⟨q1_0, q1_1, q1_2, q1_3⟩ := bx4 BR5.out
      have hxx := EBRBO.out.symm
      obtain ⟨y0, y1, y2, y3⟩ := frozen4 BO5.out
      go_wp2
      refine bodyPost_ret (results_cell_row rfl _ _ gBR 38 #[.int .i64 (1001), .int .i64 a1, .bool a2, .bool a3] (0, 0) _ rfl (put4 (blk_far (p := ⟨gBO, 0, none⟩) BR5.out hxx.symm (.int .i64 (1001))) _ _ _ _) Try.underlying38 rfl (by kernel_rfl)) rfl ?_
      exact ⟨⟨(1001), a1, a2, a3, rfl⟩, set4_cur (Cur.mono (Cur.far (p := ⟨gBO, 0, none⟩) HC5.out NBO.out.symm (.int .i64 (1001))) (by omega)) NBR.out.symm _ _ _ _, set4_below (below_set HB5.out GBO.out.2) GBR.out.2 _ _ _ _, set4_keep (keep_far (p := ⟨gBO, 0, none⟩) HK5.out GBO.out.1 (.int .i64 (1001))) GBR.out.1 _ _ _ _⟩
    · obtain rfl := hcase
      obtain ⟨x0, x1, x2⟩ := bx3 BS5.out
      obtain ⟨f0, f1, f2, f3⟩ := frozen4 BR5.out
      obtain ⟨q0_0, q0_1, q0_2, q0_3⟩ := bx4 BO5.out
      obtain ⟨q1_0, q1_1, q1_2, q1_3⟩ := bx4 BR5.out
      have hxx := EBRBO.out.symm
      obtain ⟨y0, y1, y2, y3⟩ := frozen4 BO5.out
      go_wp2
      refine bodyPost_ret (results_cell_row rfl _ _ gBR 38 #[.int .i64 (-3), .int .i64 a1, .bool a2, .bool a3] (0, 0) _ rfl (put4 (blk_far (p := ⟨gBO, 0, none⟩) BR5.out hxx.symm (.int .i64 (-3))) _ _ _ _) Try.underlying38 rfl (by kernel_rfl)) rfl ?_
      exact ⟨⟨(-3), a1, a2, a3, rfl⟩, set4_cur (Cur.mono (Cur.far (p := ⟨gBO, 0, none⟩) HC5.out NBO.out.symm (.int .i64 (-3))) (by omega)) NBR.out.symm _ _ _ _, set4_below (below_set HB5.out GBO.out.2) GBR.out.2 _ _ _ _, set4_keep (keep_far (p := ⟨gBO, 0, none⟩) HK5.out GBO.out.1 (.int .i64 (-3))) GBR.out.1 _ _ _ _⟩
  by_cases hp1 : p1 = 1
  · obtain rfl := hp1
    go_wp2_with (fail)
    have hnew := blk_new w3 (.cells #[.int .i64 (0), .int .i64 (201), .int .i64 (-1)] 3 (0, 0))
    obtain ⟨gBS, hgBS⟩ : ∃ g, g = w3.heap.size := ⟨_, rfl⟩
    rw [← hgBS] at hnew ⊢
    have NBS := Aside0.mk (show gBS ≠ g by have := Cur.lt HC3.out; omega)
    have GBS := Aside0.mk (show w1.heap.size ≤ gBS ∧ w0.heap.size ≤ gBS by have := HK3.out.1; have := HB3.out.size; omega)
    have EBSBO := Aside0.mk (show gBS ≠ gBO by have := blk_lt BO3.out; omega)
    have EBSBR := Aside0.mk (show gBS ≠ gBR by have := blk_lt BR3.out; omega)
    have BO4 := Aside0.mk (blk_alloc BO3.out (.cells #[.int .i64 (0), .int .i64 (201), .int .i64 (-1)] 3 (0, 0)))
    have BR4 := Aside0.mk (blk_alloc BR3.out (.cells #[.int .i64 (0), .int .i64 (201), .int .i64 (-1)] 3 (0, 0)))
    have BS4 := Aside0.mk hnew
    have HC4 := Aside0.mk (Cur.alloc HC3.out (.cells #[.int .i64 (0), .int .i64 (201), .int .i64 (-1)] 3 (0, 0)))
    have HB4 := Aside0.mk (below_alloc HB3.out (.cells #[.int .i64 (0), .int .i64 (201), .int .i64 (-1)] 3 (0, 0)))
    have HK4 := Aside0.mk (keep_alloc HK3.out (.cells #[.int .i64 (0), .int .i64 (201), .int .i64 (-1)] 3 (0, 0)))
    obtain ⟨w4, hw4⟩ : ∃ W, W = w3.alloc (.cells #[.int .i64 (0), .int .i64 (201), .int .i64 (-1)] 3 (0, 0)) := ⟨_, rfl⟩
    rw [← hw4] at HC4 HB4 HK4 BO4 BR4 BS4 ⊢
    clear hnew hgBS hw4 HC3 HB3 HK3 BO3 BR3
    have hcp := HC4.out
    have hbp := HB4.out
    have hkp := HK4.out
    have hp_BO := BO4.out
    have hp_BR := BR4.out
    have hp_BS := BS4.out
    refine (pick_c code HBY.out 3 g w0 _ _ hcp hbp (by omega) (by omega)).mono ?_
    rintro e w5 ⟨⟨p2, rfl, p20, p21⟩, hc5, hb5, hk5⟩
    have BO5 := Aside0.mk (kblk hp_BO hk5 NBO.out)
    have BR5 := Aside0.mk (kblk hp_BR hk5 NBR.out)
    have BS5 := Aside0.mk (kblk hp_BS hk5 NBS.out)
    have HC5 := Aside0.mk hc5
    have HB5 := Aside0.mk hb5
    have HK5 := Aside0.mk (KeepBut.trans hkp hk5 (.inl rfl))
    clear hcp hbp hkp hc5 hb5 hk5 HC4 HB4 HK4 hp_BO BO4 hp_BR BR4 hp_BS BS4
    have hcase : p2 = 0 ∨ p2 = 1 ∨ p2 = 2 := by omega
    rcases hcase with hcase | hcase | hcase
    · obtain rfl := hcase
      obtain ⟨x0, x1, x2⟩ := bx3 BS5.out
      obtain ⟨f0, f1, f2, f3⟩ := frozen4 BR5.out
      obtain ⟨q0_0, q0_1, q0_2, q0_3⟩ := bx4 BO5.out
      obtain ⟨q1_0, q1_1, q1_2, q1_3⟩ := bx4 BR5.out
      have hxx := EBRBO.out.symm
      obtain ⟨y0, y1, y2, y3⟩ := frozen4 BO5.out
      go_wp2
      refine bodyPost_ret (results_cell_row rfl _ _ gBR 38 #[.int .i64 a0, .int .i64 (0), .bool a2, .bool a3] (0, 0) _ rfl (put4 (blk_far (p := ⟨gBO, 1, none⟩) BR5.out hxx.symm (.int .i64 (0))) _ _ _ _) Try.underlying38 rfl (by kernel_rfl)) rfl ?_
      exact ⟨⟨a0, (0), a2, a3, rfl⟩, set4_cur (Cur.mono (Cur.far (p := ⟨gBO, 1, none⟩) HC5.out NBO.out.symm (.int .i64 (0))) (by omega)) NBR.out.symm _ _ _ _, set4_below (below_set HB5.out GBO.out.2) GBR.out.2 _ _ _ _, set4_keep (keep_far (p := ⟨gBO, 1, none⟩) HK5.out GBO.out.1 (.int .i64 (0))) GBR.out.1 _ _ _ _⟩
    · obtain rfl := hcase
      obtain ⟨x0, x1, x2⟩ := bx3 BS5.out
      obtain ⟨f0, f1, f2, f3⟩ := frozen4 BR5.out
      obtain ⟨q0_0, q0_1, q0_2, q0_3⟩ := bx4 BO5.out
      obtain ⟨q1_0, q1_1, q1_2, q1_3⟩ := bx4 BR5.out
      have hxx := EBRBO.out.symm
      obtain ⟨y0, y1, y2, y3⟩ := frozen4 BO5.out
      go_wp2
      refine bodyPost_ret (results_cell_row rfl _ _ gBR 38 #[.int .i64 a0, .int .i64 (201), .bool a2, .bool a3] (0, 0) _ rfl (put4 (blk_far (p := ⟨gBO, 1, none⟩) BR5.out hxx.symm (.int .i64 (201))) _ _ _ _) Try.underlying38 rfl (by kernel_rfl)) rfl ?_
      exact ⟨⟨a0, (201), a2, a3, rfl⟩, set4_cur (Cur.mono (Cur.far (p := ⟨gBO, 1, none⟩) HC5.out NBO.out.symm (.int .i64 (201))) (by omega)) NBR.out.symm _ _ _ _, set4_below (below_set HB5.out GBO.out.2) GBR.out.2 _ _ _ _, set4_keep (keep_far (p := ⟨gBO, 1, none⟩) HK5.out GBO.out.1 (.int .i64 (201))) GBR.out.1 _ _ _ _⟩
    · obtain rfl := hcase
      obtain ⟨x0, x1, x2⟩ := bx3 BS5.out
      obtain ⟨f0, f1, f2, f3⟩ := frozen4 BR5.out
      obtain ⟨q0_0, q0_1, q0_2, q0_3⟩ := bx4 BO5.out
      obtain ⟨q1_0, q1_1, q1_2, q1_3⟩ := bx4 BR5.out
      have hxx := EBRBO.out.symm
      obtain ⟨y0, y1, y2, y3⟩ := frozen4 BO5.out
      go_wp2
      refine bodyPost_ret (results_cell_row rfl _ _ gBR 38 #[.int .i64 a0, .int .i64 (-1), .bool a2, .bool a3] (0, 0) _ rfl (put4 (blk_far (p := ⟨gBO, 1, none⟩) BR5.out hxx.symm (.int .i64 (-1))) _ _ _ _) Try.underlying38 rfl (by kernel_rfl)) rfl ?_
      exact ⟨⟨a0, (-1), a2, a3, rfl⟩, set4_cur (Cur.mono (Cur.far (p := ⟨gBO, 1, none⟩) HC5.out NBO.out.symm (.int .i64 (-1))) (by omega)) NBR.out.symm _ _ _ _, set4_below (below_set HB5.out GBO.out.2) GBR.out.2 _ _ _ _, set4_keep (keep_far (p := ⟨gBO, 1, none⟩) HK5.out GBO.out.1 (.int .i64 (-1))) GBR.out.1 _ _ _ _⟩
  have d0 : (p1 == 0) = false := by simpa using hp0
  have d1 : (p1 == 1) = false := by simpa using hp1
  have d2 : decide (p1 = 0) = false := decide_eq_false hp0
  have d3 : decide (p1 = 1) = false := decide_eq_false hp1
  clear hp0 hp1
  obtain ⟨f0, f1, f2, f3⟩ := frozen4 BR3.out
  obtain ⟨q0_0, q0_1, q0_2, q0_3⟩ := bx4 BO3.out
  obtain ⟨q1_0, q1_1, q1_2, q1_3⟩ := bx4 BR3.out
  have hxx := EBRBO.out.symm
  obtain ⟨y0, y1, y2, y3⟩ := frozen4 BO3.out
  go_wp2
  refine bodyPost_ret (results_cell_row rfl _ _ gBR 38 #[.int .i64 a0, .int .i64 a1, .bool a2, .bool a3] (0, 0) _ rfl (put4 BR3.out _ _ _ _) Try.underlying38 rfl (by kernel_rfl)) rfl ?_
  exact ⟨⟨a0, a1, a2, a3, rfl⟩, set4_cur (Cur.mono HC3.out (by omega)) NBR.out.symm _ _ _ _, set4_below HB3.out GBR.out.2 _ _ _ _, set4_keep HK3.out GBR.out.1 _ _ _ _⟩
theorem frozen8x {W : World} {g t : Nat} {cs : Array Value} (hb : W.heap[g]? = some (.cells cs t (0, 0))) : True := trivial
theorem set8_keep {w W : World} {g g' : Nat} (h : KeepBut w W g none) (hg : w.heap.size ≤ g') (v0 v1 v2 v3 v4 v5 v6 v7 : Value) : KeepBut w ((((((((W.setCell ⟨g', 0, none⟩ v0).setCell ⟨g', 1, none⟩ v1).setCell ⟨g', 2, none⟩ v2).setCell ⟨g', 3, none⟩ v3).setCell ⟨g', 4, none⟩ v4).setCell ⟨g', 5, none⟩ v5).setCell ⟨g', 6, none⟩ v6).setCell ⟨g', 7, none⟩ v7) g none := keep_far (keep_far (keep_far (keep_far (keep_far (keep_far (keep_far (keep_far h hg _) hg _) hg _) hg _) hg _) hg _) hg _) hg _
theorem set8_cur {w W : World} {g g' : Nat} {code : List Int} {m : Int} (h : Cur w W g code m) (hg : g ≠ g') (v0 v1 v2 v3 v4 v5 v6 v7 : Value) : Cur w ((((((((W.setCell ⟨g', 0, none⟩ v0).setCell ⟨g', 1, none⟩ v1).setCell ⟨g', 2, none⟩ v2).setCell ⟨g', 3, none⟩ v3).setCell ⟨g', 4, none⟩ v4).setCell ⟨g', 5, none⟩ v5).setCell ⟨g', 6, none⟩ v6).setCell ⟨g', 7, none⟩ v7) g code m := Cur.far (Cur.far (Cur.far (Cur.far (Cur.far (Cur.far (Cur.far (Cur.far h hg _) hg _) hg _) hg _) hg _) hg _) hg _) hg _
set_option maxRecDepth 100000 in
set_option maxHeartbeats 3200000 in
theorem drawarea_c (code : List Int) (hby : Bytes code) (g : Nat) (w0 w1 : World) (m : Int) (hC : Cur w0 w1 g code m) (hB : Below w0.heap.size w0 w1) (hm : m ≤ 900) :
    Calls Try.prog 111 #[.pointer (some ⟨g, 0, none⟩)] w1 fun e w' => (∃ a0 a1 a2 a3 a4 a5 a6 a7, e = .returned (.agg #[.int .i64 a0, .int .i64 a1, .bool a2, .bool a3, .int .i64 a4, .int .i64 a5, .bool a6, .bool a7])) ∧ Cur w0 w' g code (m + 80) ∧ Below w0.heap.size w0 w' ∧ KeepBut w1 w' g none := by
  have HBY := Aside0.mk hby
  have HC1 := Aside0.mk hC
  have HB1 := Aside0.mk hB
  have HK1 := Aside0.mk (KeepBut.refl w1 g none)
  have hu38 := Try.underlying38
  have hu40 := Try.underlying40
  have hu81 := Try.underlying81
  clear hC hB hby
  go_enter Try.func111, Try.ntmps111
  go_wp2_with (fail)
  have hnew := blk_new w1 (.cells #[.int .i64 0, .int .i64 0, .bool false, .bool false, .int .i64 0, .int .i64 0, .bool false, .bool false] 40 (0, 0))
  obtain ⟨gBR, hgBR⟩ : ∃ g, g = w1.heap.size := ⟨_, rfl⟩
  rw [← hgBR] at hnew ⊢
  have NBR := Aside0.mk (show gBR ≠ g by have := Cur.lt HC1.out; omega)
  have GBR := Aside0.mk (show w1.heap.size ≤ gBR ∧ w0.heap.size ≤ gBR by have := HK1.out.1; have := HB1.out.size; omega)
  have BR2 := Aside0.mk hnew
  have HC2 := Aside0.mk (Cur.alloc HC1.out (.cells #[.int .i64 0, .int .i64 0, .bool false, .bool false, .int .i64 0, .int .i64 0, .bool false, .bool false] 40 (0, 0)))
  have HB2 := Aside0.mk (below_alloc HB1.out (.cells #[.int .i64 0, .int .i64 0, .bool false, .bool false, .int .i64 0, .int .i64 0, .bool false, .bool false] 40 (0, 0)))
  have HK2 := Aside0.mk (keep_alloc HK1.out (.cells #[.int .i64 0, .int .i64 0, .bool false, .bool false, .int .i64 0, .int .i64 0, .bool false, .bool false] 40 (0, 0)))
  obtain ⟨w2, hw2⟩ : ∃ W, W = w1.alloc (.cells #[.int .i64 0, .int .i64 0, .bool false, .bool false, .int .i64 0, .int .i64 0, .bool false, .bool false] 40 (0, 0)) := ⟨_, rfl⟩
  rw [← hw2] at HC2 HB2 HK2 BR2 ⊢
  clear hnew hgBR hw2 HC1 HB1 HK1 
  have hcp := HC2.out
  have hbp := HB2.out
  have hkp := HK2.out
  have hp_BR := BR2.out
  refine (ref_c code HBY.out g w0 _ _ hcp hbp (by omega)).mono ?_
  rintro e w3 ⟨⟨a0, a1, a2, a3, rfl⟩, hc3, hb3, hk3⟩
  have BR3 := Aside0.mk (kblk hp_BR hk3 NBR.out)
  have HC3 := Aside0.mk hc3
  have HB3 := Aside0.mk hb3
  have HK3 := Aside0.mk (KeepBut.trans hkp hk3 (.inl rfl))
  clear hcp hbp hkp hc3 hb3 hk3 HC2 HB2 HK2 hp_BR BR2
  go_wp2_with (fail)
  have hcp := HC3.out
  have hbp := HB3.out
  have hkp := HK3.out
  have hp_BR := BR3.out
  refine (odd_c code HBY.out g w0 _ _ a0 a1 a2 a3 hcp hbp (by omega)).mono ?_
  rintro e w4 ⟨⟨c0, c1, c2, c3, rfl⟩, hc4, hb4, hk4⟩
  have BR4 := Aside0.mk (kblk hp_BR hk4 NBR.out)
  have HC4 := Aside0.mk hc4
  have HB4 := Aside0.mk hb4
  have HK4 := Aside0.mk (KeepBut.trans hkp hk4 (.inl rfl))
  clear hcp hbp hkp hc4 hb4 hk4 HC3 HB3 HK3 hp_BR BR3
  go_wp2_with (fail)
  have hcp := HC4.out
  have hbp := HB4.out
  have hkp := HK4.out
  have hp_BR := BR4.out
  refine (ref_c code HBY.out g w0 _ _ hcp hbp (by omega)).mono ?_
  rintro e w5 ⟨⟨b0, b1, b2, b3, rfl⟩, hc5, hb5, hk5⟩
  have BR5 := Aside0.mk (kblk hp_BR hk5 NBR.out)
  have HC5 := Aside0.mk hc5
  have HB5 := Aside0.mk hb5
  have HK5 := Aside0.mk (KeepBut.trans hkp hk5 (.inl rfl))
  clear hcp hbp hkp hc5 hb5 hk5 HC4 HB4 HK4 hp_BR BR4
  go_wp2_with (fail)
  have hcp := HC5.out
  have hbp := HB5.out
  have hkp := HK5.out
  have hp_BR := BR5.out
  refine (odd_c code HBY.out g w0 _ _ b0 b1 b2 b3 hcp hbp (by omega)).mono ?_
  rintro e w6 ⟨⟨d0, d1, d2, d3, rfl⟩, hc6, hb6, hk6⟩
  have BR6 := Aside0.mk (kblk hp_BR hk6 NBR.out)
  have HC6 := Aside0.mk hc6
  have HB6 := Aside0.mk hb6
  have HK6 := Aside0.mk (KeepBut.trans hkp hk6 (.inl rfl))
  clear hcp hbp hkp hc6 hb6 hk6 HC5 HB5 HK5 hp_BR BR5
  go_upto_region 2 with (fail)
  have hnew := blk_new w6 (.cells #[.int .i64 c0, .int .i64 c1, .bool c2, .bool c3, .int .i64 d0, .int .i64 d1, .bool d2, .bool d3] 40 (0, 0))
  obtain ⟨gBO, hgBO⟩ : ∃ g, g = w6.heap.size := ⟨_, rfl⟩
  rw [← hgBO] at hnew ⊢
  have NBO := Aside0.mk (show gBO ≠ g by have := Cur.lt HC6.out; omega)
  have GBO := Aside0.mk (show w1.heap.size ≤ gBO ∧ w0.heap.size ≤ gBO by have := HK6.out.1; have := HB6.out.size; omega)
  have EBOBR := Aside0.mk (show gBO ≠ gBR by have := blk_lt BR6.out; omega)
  have BR7 := Aside0.mk (blk_alloc BR6.out (.cells #[.int .i64 c0, .int .i64 c1, .bool c2, .bool c3, .int .i64 d0, .int .i64 d1, .bool d2, .bool d3] 40 (0, 0)))
  have BO7 := Aside0.mk hnew
  have HC7 := Aside0.mk (Cur.alloc HC6.out (.cells #[.int .i64 c0, .int .i64 c1, .bool c2, .bool c3, .int .i64 d0, .int .i64 d1, .bool d2, .bool d3] 40 (0, 0)))
  have HB7 := Aside0.mk (below_alloc HB6.out (.cells #[.int .i64 c0, .int .i64 c1, .bool c2, .bool c3, .int .i64 d0, .int .i64 d1, .bool d2, .bool d3] 40 (0, 0)))
  have HK7 := Aside0.mk (keep_alloc HK6.out (.cells #[.int .i64 c0, .int .i64 c1, .bool c2, .bool c3, .int .i64 d0, .int .i64 d1, .bool d2, .bool d3] 40 (0, 0)))
  obtain ⟨w7, hw7⟩ : ∃ W, W = w6.alloc (.cells #[.int .i64 c0, .int .i64 c1, .bool c2, .bool c3, .int .i64 d0, .int .i64 d1, .bool d2, .bool d3] 40 (0, 0)) := ⟨_, rfl⟩
  rw [← hw7] at HC7 HB7 HK7 BR7 BO7 ⊢
  clear hnew hgBO hw7 HC6 HB6 HK6 BR6
  obtain ⟨f0, f1, f2, f3, f4, f5, f6, f7⟩ := frozen8 BR7.out
  obtain ⟨q0_0, q0_1, q0_2, q0_3, q0_4, q0_5, q0_6, q0_7⟩ := bx8 BR7.out
  obtain ⟨q1_0, q1_1, q1_2, q1_3, q1_4, q1_5, q1_6, q1_7⟩ := bx8 BO7.out
  have hxx := EBOBR.out
  go_wp2
  refine bodyPost_ret (results_cell_row rfl _ _ gBR 40 #[.int .i64 c0, .int .i64 c1, .bool c2, .bool c3, .int .i64 d0, .int .i64 d1, .bool d2, .bool d3] (0, 0) _ rfl (put8 BR7.out _ _ _ _ _ _ _ _) Try.underlying40 rfl (by kernel_rfl)) rfl ?_
  exact ⟨⟨c0, c1, c2, c3, d0, d1, d2, d3, rfl⟩, set8_cur (Cur.mono HC7.out (by omega)) NBR.out.symm _ _ _ _ _ _ _ _, below8 HB7.out GBR.out.2 _ _ _ _ _ _ _ _, set8_keep HK7.out GBR.out.1 _ _ _ _ _ _ _ _⟩
set_option maxRecDepth 100000 in
set_option maxHeartbeats 3200000 in
theorem l3areas_c (A : Option Addr) (c : Nat) (code : List Int) (w : World) (hr : Kd.C (Kd.int .u8) w A code.length code) (hcap : code.length ≤ c) (hby : Bytes code) :
    Calls Try.prog 70 #[.slice A code.length c] w fun e w' => (∃ a0 a1 a2 a3 a4 a5 a6 a7 b0 b1 b2 b3 b4 b5 b6 b7, e = .returned (.tuple #[.agg #[.int .i64 a0, .int .i64 a1, .bool a2, .bool a3, .int .i64 a4, .int .i64 a5, .bool a6, .bool a7], .agg #[.int .i64 b0, .int .i64 b1, .bool b2, .bool b3, .int .i64 b4, .int .i64 b5, .bool b6, .bool b7]])) ∧ Below w.heap.size w w' := by
  have hu81 := Try.underlying81
  have hu40 := Try.underlying40
  have HR := Aside0.mk hr
  have HBY := Aside0.mk hby
  clear hr hby
  go_enter Try.func70, Try.ntmps70
  go_wp2_with (fail)
  obtain ⟨hA, hB, hZ, hBel, hsz⟩ := boxes3' w #[.int .i64 0, .int .i64 0, .bool false, .bool false, .int .i64 0, .int .i64 0, .bool false, .bool false] #[.int .i64 0, .int .i64 0, .bool false, .bool false, .int .i64 0, .int .i64 0, .bool false, .bool false] #[.slice A code.length c, .int .i64 0, .int .u64 0] 40 81
  have hC : Cur w (((w.alloc (.cells #[.int .i64 0, .int .i64 0, .bool false, .bool false, .int .i64 0, .int .i64 0, .bool false, .bool false] 40 (0, 0))).alloc (.cells #[.int .i64 0, .int .i64 0, .bool false, .bool false, .int .i64 0, .int .i64 0, .bool false, .bool false] 40 (0, 0))).alloc (.cells #[.slice A code.length c, .int .i64 0, .int .u64 0] 81 (0, 0))) (w.heap.size + 2) code 0 := ⟨0, 0, by omega, by omega, ⟨A, c, hZ, by omega, HR.out⟩⟩
  obtain ⟨w1, hw1⟩ : ∃ x, x = ((w.alloc (.cells #[.int .i64 0, .int .i64 0, .bool false, .bool false, .int .i64 0, .int .i64 0, .bool false, .bool false] 40 (0, 0))).alloc (.cells #[.int .i64 0, .int .i64 0, .bool false, .bool false, .int .i64 0, .int .i64 0, .bool false, .bool false] 40 (0, 0))).alloc (.cells #[.slice A code.length c, .int .i64 0, .int .u64 0] 81 (0, 0)) := ⟨_, rfl⟩
  rw [← hw1] at hA hB hBel hsz hC ⊢
  clear hw1 hZ
  obtain ⟨g, hg⟩ : ∃ x, x = w.heap.size + 1 + 1 := ⟨_, rfl⟩
  obtain ⟨g3, hg3⟩ : ∃ x, x = w.heap.size + 1 := ⟨_, rfl⟩
  obtain ⟨g2, hg2⟩ : ∃ x, x = w.heap.size := ⟨_, rfl⟩
  rw [show w.heap.size + 2 = g by omega] at hC
  rw [← hg3] at hB
  have hA' : w1.heap[g2]? = some (.cells #[.int .i64 0, .int .i64 0, .bool false, .bool false, .int .i64 0, .int .i64 0, .bool false, .bool false] 40 (0, 0)) := by rw [hg2]; exact hA
  simp only [← hg]
  simp only [← hg3]
  simp only [← hg2]
  have HG := Aside0.mk (show w.heap.size ≤ g2 ∧ w.heap.size ≤ g3 ∧ g2 ≠ g3 ∧ g2 ≠ g ∧ g3 ≠ g by omega)
  have B21 := Aside0.mk hA'
  have B31 := Aside0.mk hB
  have HB1 := Aside0.mk hBel
  have HC1 := Aside0.mk hC
  clear hA hA' hB hBel hsz hC hg hg3 hg2
  refine (drawarea_c code HBY.out g w _ 0 HC1.out HB1.out (by omega)).mono ?_
  rintro e w2 ⟨⟨a0, a1, a2, a3, a4, a5, a6, a7, rfl⟩, hc2, hb2, hk2⟩
  have B22 := Aside0.mk (kblk B21.out hk2 HG.out.2.2.2.1)
  have B32 := Aside0.mk (kblk B31.out hk2 HG.out.2.2.2.2)
  have HB2 := Aside0.mk hb2
  have HC2 := Aside0.mk hc2
  clear hc2 hb2 hk2 B21 B31 HB1 HC1
  go_upto_region 3 with (fail)
  have hbx := blk_new w2 (.cells #[.int .i64 a0, .int .i64 a1, .bool a2, .bool a3, .int .i64 a4, .int .i64 a5, .bool a6, .bool a7] 40 (0, 0))
  have B23 := Aside0.mk (blk_alloc B22.out (.cells #[.int .i64 a0, .int .i64 a1, .bool a2, .bool a3, .int .i64 a4, .int .i64 a5, .bool a6, .bool a7] 40 (0, 0)))
  have B33 := Aside0.mk (blk_alloc B32.out (.cells #[.int .i64 a0, .int .i64 a1, .bool a2, .bool a3, .int .i64 a4, .int .i64 a5, .bool a6, .bool a7] 40 (0, 0)))
  have HB3 := Aside0.mk (below_alloc HB2.out (.cells #[.int .i64 a0, .int .i64 a1, .bool a2, .bool a3, .int .i64 a4, .int .i64 a5, .bool a6, .bool a7] 40 (0, 0)))
  have HC3 := Aside0.mk (Cur.alloc HC2.out (.cells #[.int .i64 a0, .int .i64 a1, .bool a2, .bool a3, .int .i64 a4, .int .i64 a5, .bool a6, .bool a7] 40 (0, 0)))
  obtain ⟨w3, hw3⟩ : ∃ x, x = w2.alloc (.cells #[.int .i64 a0, .int .i64 a1, .bool a2, .bool a3, .int .i64 a4, .int .i64 a5, .bool a6, .bool a7] 40 (0, 0)) := ⟨_, rfl⟩
  have hn5 : w2.heap.size ≠ g := by have := Cur.lt HC2.out; omega
  have hn52 : w2.heap.size ≠ g2 := by have := blk_lt B22.out; omega
  have hn53 : w2.heap.size ≠ g3 := by have := blk_lt B32.out; omega
  obtain ⟨g5, hg5⟩ : ∃ x, x = w2.heap.size := ⟨_, rfl⟩
  rw [← hg5] at hbx hn5 hn52 hn53
  simp only [← hg5]
  rw [← hw3] at hbx B23 B33 HB3 HC3 ⊢
  have HN5 := Aside0.mk hn5
  clear hw3 hg5 B22 B32 HB2 HC2
  obtain ⟨q0, q1, q2, q3, q4, q5, q6, q7⟩ := bx8 hbx
  have hn2 : g2 ≠ g5 := hn52.symm
  have hn3 : g3 ≠ g5 := hn53.symm
  have hn23 := HG.out.2.2.1
  go_region_held3 (fun W => W.cell? ⟨g5, 0, none⟩ = some (.int .i64 a0) ∧ W.cell? ⟨g5, 1, none⟩ = some (.int .i64 a1) ∧ W.cell? ⟨g5, 2, none⟩ = some (.bool a2) ∧ W.cell? ⟨g5, 3, none⟩ = some (.bool a3) ∧ W.cell? ⟨g5, 4, none⟩ = some (.int .i64 a4) ∧ W.cell? ⟨g5, 5, none⟩ = some (.int .i64 a5) ∧ W.cell? ⟨g5, 6, none⟩ = some (.bool a6) ∧ W.cell? ⟨g5, 7, none⟩ = some (.bool a7))
    ((go_split_ands; (try simp only [World.cell?_drewN, World.cell?_drew]); refine ⟨?_, ?_, ?_, ?_, ?_, ?_, ?_, ?_⟩ <;> (first | (with_reducible assumption) | (with_reducible refine far8 ?_ ?_ _ _ _ _ _ _ _ _ <;> with_reducible assumption) | (refine keep_cell hk20 ?_ HN5.out; (try simp only [World.cell?_drewN, World.cell?_drew]); with_reducible assumption))))
    (first
      | (go_at_call 111; refine (drawarea_c code HBY.out g w _ _ (Cur.drew HC3.out) (below_drew1 HB3.out) (by omega)).mono ?_; rintro e w20 ⟨⟨b0, b1, b2, b3, b4, b5, b6, b7, rfl⟩, hc20, hb20, hk20⟩; have B220 := Aside0.mk (kblk (show w3.drew.heap[g2]? = some (.cells #[.int .i64 0, .int .i64 0, .bool false, .bool false, .int .i64 0, .int .i64 0, .bool false, .bool false] 40 (0, 0)) from B23.out) hk20 HG.out.2.2.2.1); have B320 := Aside0.mk (kblk (show w3.drew.heap[g3]? = some (.cells #[.int .i64 0, .int .i64 0, .bool false, .bool false, .int .i64 0, .int .i64 0, .bool false, .bool false] 40 (0, 0)) from B33.out) hk20 HG.out.2.2.2.2); obtain ⟨x0, x1, x2, x3, x4, x5, x6, x7⟩ := bx8 B220.out; obtain ⟨y0, y1, y2, y3, y4, y5, y6, y7⟩ := frozen8 B220.out; obtain ⟨z0, z1, z2, z3, z4, z5, z6, z7⟩ := bx8 B320.out; obtain ⟨f0, f1, f2, f3, f4, f5, f6, f7⟩ := frozen8 B320.out; have HB20 := Aside0.mk hb20))
  all_goals go_wp2
  all_goals (first
    | (refine bodyPost_ret (results_cc rfl _ _ g2 g3 40 40 #[.int .i64 a0, .int .i64 a1, .bool a2, .bool a3, .int .i64 a4, .int .i64 a5, .bool a6, .bool a7] #[.int .i64 b0, .int .i64 b1, .bool b2, .bool b3, .int .i64 b4, .int .i64 b5, .bool b6, .bool b7] (0, 0) (0, 0) _ _ rfl (set8_far (put8 B220.out _ _ _ _ _ _ _ _) hn23 _ _ _ _ _ _ _ _) Try.underlying40 rfl (by kernel_rfl) rfl (put8 (set8_far B320.out hn23.symm _ _ _ _ _ _ _ _) _ _ _ _ _ _ _ _) Try.underlying40 rfl (by kernel_rfl)) rfl ?_
       exact ⟨⟨a0, a1, a2, a3, a4, a5, a6, a7, b0, b1, b2, b3, b4, b5, b6, b7, rfl⟩, below8 (below8 HB20.out HG.out.1 _ _ _ _ _ _ _ _) HG.out.2.1 _ _ _ _ _ _ _ _⟩)
    | (refine bodyPost_ret (results_cc rfl _ _ g2 g3 40 40 #[.int .i64 a0, .int .i64 a1, .bool a2, .bool a3, .int .i64 a4, .int .i64 a5, .bool a6, .bool a7] #[.int .i64 b0, .int .i64 b1, .bool b2, .bool b3, .int .i64 b4, .int .i64 b5, .bool b6, .bool b7] (0, 0) (0, 0) _ _ rfl (put8 (set8_far B220.out hn23 _ _ _ _ _ _ _ _) _ _ _ _ _ _ _ _) Try.underlying40 rfl (by kernel_rfl) rfl (set8_far (put8 B320.out _ _ _ _ _ _ _ _) hn23.symm _ _ _ _ _ _ _ _) Try.underlying40 rfl (by kernel_rfl)) rfl ?_
       exact ⟨⟨a0, a1, a2, a3, a4, a5, a6, a7, b0, b1, b2, b3, b4, b5, b6, b7, rfl⟩, below8 (below8 HB20.out HG.out.2.1 _ _ _ _ _ _ _ _) HG.out.1 _ _ _ _ _ _ _ _⟩))

set_option maxRecDepth 100000 in
set_option maxHeartbeats 3200000 in
theorem drawwithout_c (A : Option Addr) (c : Nat) (code : List Int) (w : World) (hr : Kd.C (Kd.int .u8) w A code.length code) (hcap : code.length ≤ c) (hby : Bytes code) :
    Calls Try.prog 22 #[.slice A code.length c] w fun e w' => (∃ a0 a1 a2 a3 a4 a5 a6 a7 b0 b1 b2 b3 b4 b5 b6 b7, e = .returned (.tuple #[.agg #[.int .i64 a0, .int .i64 a1, .bool a2, .bool a3, .int .i64 a4, .int .i64 a5, .bool a6, .bool a7], .agg #[.int .i64 b0, .int .i64 b1, .bool b2, .bool b3, .int .i64 b4, .int .i64 b5, .bool b6, .bool b7]])) ∧ Below w.heap.size w w' := by
  have hu40 := Try.underlying40
  have HR := Aside0.mk hr
  clear hr
  go_enter Try.func22, Try.ntmps22
  go_wp2_with (fail)
  obtain ⟨hA, hB, hBel⟩ := boxes2 w #[.int .i64 0, .int .i64 0, .bool false, .bool false, .int .i64 0, .int .i64 0, .bool false, .bool false] #[.int .i64 0, .int .i64 0, .bool false, .bool false, .int .i64 0, .int .i64 0, .bool false, .bool false] 40
  have HC := Aside0.mk (Kd.C_below HR.out hBel)
  obtain ⟨w1, hw1⟩ : ∃ x, x = (w.alloc (.cells #[.int .i64 0, .int .i64 0, .bool false, .bool false, .int .i64 0, .int .i64 0, .bool false, .bool false] 40 (0, 0))).alloc (.cells #[.int .i64 0, .int .i64 0, .bool false, .bool false, .int .i64 0, .int .i64 0, .bool false, .bool false] 40 (0, 0)) := ⟨_, rfl⟩
  rw [← hw1] at hA hB hBel HC ⊢
  clear hw1
  obtain ⟨g3, hg3⟩ : ∃ x, x = w.heap.size + 1 := ⟨_, rfl⟩
  obtain ⟨g2, hg2⟩ : ∃ x, x = w.heap.size := ⟨_, rfl⟩
  rw [← hg3] at hB
  have hA' : w1.heap[g2]? = some (.cells #[.int .i64 0, .int .i64 0, .bool false, .bool false, .int .i64 0, .int .i64 0, .bool false, .bool false] 40 (0, 0)) := by rw [hg2]; exact hA
  simp only [← hg3]
  simp only [← hg2]
  have HG := Aside0.mk (show w.heap.size ≤ g2 ∧ w.heap.size ≤ g3 ∧ g2 ≠ g3 by omega)
  have B21 := Aside0.mk hA'
  have B31 := Aside0.mk hB
  have HB1 := Aside0.mk hBel
  clear hA hA' hB hBel hg3 hg2
  refine (l3areas_c A c code w1 HC.out hcap hby).mono ?_
  rintro e w2 ⟨⟨a0, a1, a2, a3, a4, a5, a6, a7, b0, b1, b2, b3, b4, b5, b6, b7, rfl⟩, hb2⟩
  have B22 := Aside0.mk (blk_below B21.out hb2)
  have B32 := Aside0.mk (blk_below B31.out hb2)
  have HB2 := Aside0.mk (below_step HB1.out hb2)
  clear hb2
  obtain ⟨x0, x1, x2, x3, x4, x5, x6, x7⟩ := bx8 B22.out
  obtain ⟨y0, y1, y2, y3, y4, y5, y6, y7⟩ := frozen8 B22.out
  obtain ⟨z0, z1, z2, z3, z4, z5, z6, z7⟩ := bx8 B32.out
  obtain ⟨f0, f1, f2, f3, f4, f5, f6, f7⟩ := frozen8 B32.out
  have hn23 := HG.out.2.2
  go_wp2
  refine bodyPost_ret (results_cc rfl _ _ g2 g3 40 40 #[.int .i64 a0, .int .i64 a1, .bool a2, .bool a3, .int .i64 a4, .int .i64 a5, .bool a6, .bool a7] #[.int .i64 b0, .int .i64 b1, .bool b2, .bool b3, .int .i64 b4, .int .i64 b5, .bool b6, .bool b7] (0, 0) (0, 0) _ _ rfl (set8_far (put8 B22.out _ _ _ _ _ _ _ _) hn23 _ _ _ _ _ _ _ _) Try.underlying40 rfl (by kernel_rfl) rfl (put8 (set8_far B32.out hn23.symm _ _ _ _ _ _ _ _) _ _ _ _ _ _ _ _) Try.underlying40 rfl (by kernel_rfl)) rfl ?_
  exact ⟨⟨a0, a1, a2, a3, a4, a5, a6, a7, b0, b1, b2, b3, b4, b5, b6, b7, rfl⟩, below8 (below8 HB2.out HG.out.1 _ _ _ _ _ _ _ _) HG.out.2.1 _ _ _ _ _ _ _ _⟩

end Go.Proofs.Ytppenjoobcppjaa.PAr
