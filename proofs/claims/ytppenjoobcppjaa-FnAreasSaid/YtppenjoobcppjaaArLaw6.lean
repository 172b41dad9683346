/- The walk of the law on areas. -/
import Derived.Test.YtppenjoobcppjaaArGeo
import Derived.Test.YtppenjoobcppjaaArDraw
import Derived.Test.YtppenjoobcppjaaArZ
namespace Go.Proofs.Ytppenjoobcppjaa.PAr
open Go.RowKit Go.Proofs.YtppenjoobcppjaaW.PrintWords Go.Proofs.YtppenjoobcppjaaW.PrintLast Go.Proofs.YtppenjoobcppjaaW.PrintMore Go.Proofs.Ytppenjoobcppjaa.Ev
open Go.Proofs.Ytppenjoobcppjaa.PFnWorkdays (Bytes)
attribute [local go_sem ↓] Go.wp_at_zero Go.wp_at_succ
attribute [local go_sem high] eqA38 eqA40
set_option linter.unusedVariables false
set_option linter.unusedSimpArgs false

def psum (L : List S40) (i : Nat) : Int := ssum (L.take i)
theorem rd40 (L : List S40) (i : Nat) : rd_T40 L (i : Int) = L.getD i z40 := by unfold rd_T40; rw [Int.toNat_natCast]
theorem getD_mem40 (L : List S40) (i : Nat) (h : i < L.length) : L.getD i z40 ∈ L := by
  rw [List.getD_eq_getElem?_getD, List.getElem?_eq_getElem h]
  exact List.getElem_mem h
theorem psum_succ (L : List S40) (i : Nat) (h : i < L.length) : psum L (i + 1) = psum L i + cl (L.getD i z40) := by
  unfold psum
  rw [List.take_succ_eq_append_getElem h, ssum_append, List.getD_eq_getElem?_getD, List.getElem?_eq_getElem h]
  simp [ssum]
theorem cl_bd {p : S40} (h : gd p) : -1000000 ≤ cl p ∧ cl p ≤ 1000000 := by
  have b := goodA_bds h
  unfold cl cellsOf
  exact mul_small (by omega) (by omega) (by omega) (by omega)
theorem psum_bd (L : List S40) (h : ∀ p ∈ L, gd p) : ∀ i, i ≤ L.length → -1000000 * (i : Int) ≤ psum L i ∧ psum L i ≤ 1000000 * (i : Int) := by
  intro i
  induction i with
  | zero => intro _; simp [psum, ssum]
  | succ i ih =>
    intro hi
    have h1 := ih (by omega)
    have h2 := cl_bd (h _ (getD_mem40 L i (by omega)))
    rw [psum_succ L i (by omega)]
    omega
theorem mn_self (a : Int) : mn a a = a := by unfold mn; split <;> rfl
theorem mx_self (a : Int) : mx a a = a := by unfold mx; split <;> rfl
/-- What the law asks of what is without. -/
def Fine (L : List S40) (y0 y1 y2 y3 M0 tot : Int) : Prop := (∀ p ∈ L, gd p ∧ apn p y0 y1 y2 y3) ∧ PW L ∧ M0 + ssum L = tot ∧ L.length ≤ 4 ∧ -1000000 ≤ M0 ∧ M0 ≤ 1000000
theorem fine_yes {a0 a1 a4 a5 b0 b1 b4 b5 : Int} (ha : goodA a0 a1 a4 a5 = true) (hb : goodA b0 b1 b4 b5 = true) (hm : mtB (mx (mn a0 a4) (mn b0 b4)) (mx (mn a1 a5) (mn b1 b5)) (mn (mx a0 a4) (mx b0 b4)) (mn (mx a1 a5) (mx b1 b5)) = true) :
    Fine (pieces (mn a0 a4) (mn a1 a5) (mx a0 a4) (mx a1 a5) (mn b0 b4) (mn b1 b5) (mx b0 b4) (mx b1 b5)) (mn b0 b4) (mn b1 b5) (mx b0 b4) (mx b1 b5) (cellsOf (mn (mx (mn a0 a4) (mn b0 b4)) (mn (mx a0 a4) (mx b0 b4))) (mn (mx (mn a1 a5) (mn b1 b5)) (mn (mx a1 a5) (mx b1 b5))) (mx (mx (mn a0 a4) (mn b0 b4)) (mn (mx a0 a4) (mx b0 b4))) (mx (mx (mn a1 a5) (mn b1 b5)) (mn (mx a1 a5) (mx b1 b5)))) (cellsOf (mn a0 a4) (mn a1 a5) (mx a0 a4) (mx a1 a5)) := by
  have ga := goodA_normal ha
  have gb := goodA_normal hb
  unfold goodA at ga gb
  rw [decide_eq_true_eq] at ga gb
  have hle : ∀ p q : Int, mn p q ≤ mx p q := fun p q => by unfold mn mx; split <;> split <;> omega
  have l0 := hle a0 a4
  have l1 := hle a1 a5
  have l2 := hle b0 b4
  have l3 := hle b1 b5
  have g := geo_meet _ _ _ _ _ _ _ _ ga.1 l0 ga.2.2.2.2.2.1 ga.2.2.1 l1 ga.2.2.2.2.2.2.2 gb.1 l2 gb.2.2.2.2.2.1 gb.2.2.1 l3 gb.2.2.2.2.2.2.2 hm
  have hm2 := hm
  rw [mtB_iff] at hm2
  rw [mn_le hm2.1, mn_le hm2.2, mx_le hm2.1, mx_le hm2.2]
  refine ⟨g.1, g.2.1, g.2.2, ?_, ?_⟩
  · unfold pieces
    exact addO_len _ _ _ (addO_len _ _ _ (addO_len _ _ _ (addO_len _ _ _ (by simp : ([] : List S40).length ≤ 0))))
  · have c1 := mx_cases (mn a0 a4) (mn b0 b4)
    have c2 := mx_cases (mn a1 a5) (mn b1 b5)
    have c3 := mn_cases (mx a0 a4) (mx b0 b4)
    have c4 := mn_cases (mx a1 a5) (mx b1 b5)
    unfold cellsOf
    exact mul_small (by omega) (by omega) (by omega) (by omega)
theorem fine_no {a0 a1 a4 a5 b0 b1 b4 b5 : Int} (ha : goodA a0 a1 a4 a5 = true) (hb : goodA b0 b1 b4 b5 = true) (hm : mtB (mx (mn a0 a4) (mn b0 b4)) (mx (mn a1 a5) (mn b1 b5)) (mn (mx a0 a4) (mx b0 b4)) (mn (mx a1 a5) (mx b1 b5)) = false) :
    Fine [mkA (mn a0 a4) (mn a1 a5) (mx a0 a4) (mx a1 a5)] (mn b0 b4) (mn b1 b5) (mx b0 b4) (mx b1 b5) 0 (cellsOf (mn a0 a4) (mn a1 a5) (mx a0 a4) (mx a1 a5)) := by
  have ga := goodA_normal ha
  have hle : ∀ p q : Int, mn p q ≤ mx p q := fun p q => by unfold mn mx; split <;> split <;> omega
  refine ⟨?_, ?_, ?_, by simp, by omega, by omega⟩
  · intro p hp
    rw [List.mem_singleton.1 hp]
    refine ⟨ga, ?_⟩
    unfold apn mkA
    simp only [mn_normal, mx_normal]
    exact hm
  · intro i j hj hi
    simp at hi
    omega
  · simp only [ssum]
    rw [cl_mk (hle _ _) (hle _ _)]
    unfold cellsOf
    omega
theorem hull_good {a0 a1 a4 a5 b0 b1 b4 b5 : Int} (ha : goodA a0 a1 a4 a5 = true) (hb : goodA b0 b1 b4 b5 = true) : goodA (mn (mn a0 a4) (mn b0 b4)) (mn (mn a1 a5) (mn b1 b5)) (mx (mx a0 a4) (mx b0 b4)) (mx (mx a1 a5) (mx b1 b5)) = true := by
  have ga := goodA_normal ha
  have gb := goodA_normal hb
  unfold goodA at ga gb ⊢
  rw [decide_eq_true_eq] at ga gb ⊢
  have c1 := mn_cases (mn a0 a4) (mn b0 b4)
  have c2 := mn_cases (mn a1 a5) (mn b1 b5)
  have c3 := mx_cases (mx a0 a4) (mx b0 b4)
  have c4 := mx_cases (mx a1 a5) (mx b1 b5)
  omega
/-- The hull meets what it holds in just that. -/
theorem hull_in (x0 x2 y0 y2 : Int) (h : x0 ≤ x2) (k : y0 ≤ y2) : mx (mn (mn x0 y0) (mx x2 y2)) x0 = x0 ∧ mn (mx (mn x0 y0) (mx x2 y2)) x2 = x2 ∧ mx (mn (mn x0 y0) (mx x2 y2)) y0 = y0 ∧ mn (mx (mn x0 y0) (mx x2 y2)) y2 = y2 := by
  have c1 := mn_cases x0 y0
  have c2 := mx_cases x2 y2
  rw [mn_le (show mn x0 y0 ≤ mx x2 y2 by omega), mx_le (show mn x0 y0 ≤ mx x2 y2 by omega)]
  refine ⟨?_, ?_, ?_, ?_⟩
  · unfold mx; split <;> omega
  · unfold mn; split <;> omega
  · unfold mx; split <;> omega
  · unfold mn; split <;> omega

theorem nat0 : (([] : List S40).length : Int) = 0 := rfl

set_option maxRecDepth 100000 in
set_option maxHeartbeats 3200000 in
theorem law6 (A : Option Addr) (c : Nat) (code : List Int) (w : World) (hr : Kd.C (Kd.int .u8) w A code.length code) (hcap : code.length ≤ c) (hby : Bytes code) :
    Calls Try.prog 6 #[.slice A code.length c] w fun e w' => e = .returned (.bool true) ∧ Below w.heap.size w w' := by
  by_cases hbig : (code.length : Int) > 1048576
  · clear hr
    go_enter Try.func6, Try.ntmps6
    go_wp2
    go_ret
    exact ⟨rfl, Below.refl _ _⟩
  have hu22 := Try.underlying22
  have hu40 := Try.underlying40
  have hu45 := Try.underlying45
  have HR := Aside0.mk hr
  have HBY := Aside0.mk hby
  have hbg : ¬ 1048576 < (code.length : Int) := by omega
  have hbg2 : decide (1048576 < (code.length : Int)) = false := decide_eq_false hbg
  clear hr hby
  clear hbig hbg
  go_enter Try.func6, Try.ntmps6
  go_wp2_with (fail)
  refine (drawwithout_c A c code w HR.out hcap HBY.out).mono ?_
  rintro e w1 ⟨⟨a0, a1, a2, a3, a4, a5, a6, a7, b0, b1, b2, b3, b4, b5, b6, b7, rfl⟩, hb1⟩
  go_wp2_with (fail)
  have hA := blk_alloc (blk_new w1 (.cells #[.int .i64 a0, .int .i64 a1, .bool a2, .bool a3, .int .i64 a4, .int .i64 a5, .bool a6, .bool a7] 40 (0, 0))) (.cells #[.int .i64 b0, .int .i64 b1, .bool b2, .bool b3, .int .i64 b4, .int .i64 b5, .bool b6, .bool b7] 40 (0, 0))
  have hB := blk_new (w1.alloc (.cells #[.int .i64 a0, .int .i64 a1, .bool a2, .bool a3, .int .i64 a4, .int .i64 a5, .bool a6, .bool a7] 40 (0, 0))) (.cells #[.int .i64 b0, .int .i64 b1, .bool b2, .bool b3, .int .i64 b4, .int .i64 b5, .bool b6, .bool b7] 40 (0, 0))
  have hBel := below_alloc (below_alloc hb1 (.cells #[.int .i64 a0, .int .i64 a1, .bool a2, .bool a3, .int .i64 a4, .int .i64 a5, .bool a6, .bool a7] 40 (0, 0))) (.cells #[.int .i64 b0, .int .i64 b1, .bool b2, .bool b3, .int .i64 b4, .int .i64 b5, .bool b6, .bool b7] 40 (0, 0))
  rw [size_alloc] at hB
  obtain ⟨w2, hw2⟩ : ∃ x, x = (w1.alloc (.cells #[.int .i64 a0, .int .i64 a1, .bool a2, .bool a3, .int .i64 a4, .int .i64 a5, .bool a6, .bool a7] 40 (0, 0))).alloc (.cells #[.int .i64 b0, .int .i64 b1, .bool b2, .bool b3, .int .i64 b4, .int .i64 b5, .bool b6, .bool b7] 40 (0, 0)) := ⟨_, rfl⟩
  rw [← hw2] at hA hB hBel ⊢
  obtain ⟨gb, hgb⟩ : ∃ g, g = w1.heap.size + 1 := ⟨_, rfl⟩
  obtain ⟨ga, hga⟩ : ∃ g, g = w1.heap.size := ⟨_, rfl⟩
  rw [← hgb] at hB
  rw [← hga] at hA
  simp only [← hgb]
  simp only [← hga]
  have BA2 := Aside0.mk hA
  have BB2 := Aside0.mk hB
  have HB2 := Aside0.mk hBel
  clear hw2 hgb hga hA hB hBel hb1
  by_cases hga : goodA a0 a1 a4 a5 = true
  · by_cases hgb : goodA b0 b1 b4 b5 = true
    · have HGA := Aside0.mk hga
      have HGB := Aside0.mk hgb
      clear hga hgb
      obtain ⟨tot, htot⟩ : ∃ z, z = cellsOf (mn a0 a4) (mn a1 a5) (mx a0 a4) (mx a1 a5) := ⟨_, rfl⟩
      have HTOT := Aside0.mk htot
      obtain ⟨L, hL⟩ : ∃ L, L = wo a0 a1 a2 a3 a4 a5 a6 a7 b0 b1 b2 b3 b4 b5 b6 b7 := ⟨_, rfl⟩
      have HIM := Aside0.mk (fun W => iwithout_c a0 a1 a2 a3 a4 a5 a6 a7 b0 b1 b2 b3 b4 b5 b6 b7 W)
      have HSP := Aside0.mk (fun W => swithout_c a0 a1 a2 a3 a4 a5 a6 a7 b0 b1 b2 b3 b4 b5 b6 b7 W)
      rw [← hL] at HIM HSP
      unfold wo at hL
      rw [if_pos HGA.out, if_pos HGB.out] at hL
      by_cases hmt : mtB (mx (mn a0 a4) (mn b0 b4)) (mx (mn a1 a5) (mn b1 b5)) (mn (mx a0 a4) (mx b0 b4)) (mn (mx a1 a5) (mx b1 b5)) = true
      · obtain ⟨M0, hM0⟩ : ∃ z, z = cellsOf (mn (mx (mn a0 a4) (mn b0 b4)) (mn (mx a0 a4) (mx b0 b4))) (mn (mx (mn a1 a5) (mn b1 b5)) (mn (mx a1 a5) (mx b1 b5))) (mx (mx (mn a0 a4) (mn b0 b4)) (mn (mx a0 a4) (mx b0 b4))) (mx (mx (mn a1 a5) (mn b1 b5)) (mn (mx a1 a5) (mx b1 b5))) := ⟨_, rfl⟩
        have HM0 := Aside0.mk hM0
        have HMT := Aside0.mk hmt
        rw [if_pos hmt] at hL
        have HFN := Aside0.mk (show Fine L (mn b0 b4) (mn b1 b5) (mx b0 b4) (mx b1 b5) M0 tot by rw [hL, hM0, htot]; exact fine_yes HGA.out HGB.out hmt)
        have HLEN := Aside0.mk (show L.length ≤ 1000 by have := HFN.out.2.2.2.1; omega)
        have HGM := Aside0.mk (show goodA (mx (mn a0 a4) (mn b0 b4)) (mx (mn a1 a5) (mn b1 b5)) (mn (mx a0 a4) (mx b0 b4)) (mn (mx a1 a5) (mx b1 b5)) = true by
          have ga := goodA_normal HGA.out
          have gb := goodA_normal HGB.out
          unfold goodA at ga gb ⊢
          rw [decide_eq_true_eq] at ga gb ⊢
          have c1 := mx_cases (mn a0 a4) (mn b0 b4)
          have c2 := mx_cases (mn a1 a5) (mn b1 b5)
          have c3 := mn_cases (mx a0 a4) (mx b0 b4)
          have c4 := mn_cases (mx a1 a5) (mx b1 b5)
          omega)
        clear hL htot hM0 hmt
        refine (imeet_in a0 a1 a2 a3 a4 a5 a6 a7 b0 b1 b2 b3 b4 b5 b6 b7 _ HGA.out HGB.out).mono ?_
        rintro e w3 ⟨rfl, hb3⟩
        have BA3 := Aside0.mk (blk_below BA2.out hb3)
        have BB3 := Aside0.mk (blk_below BB2.out hb3)
        have HB3 := Aside0.mk (below_step HB2.out hb3)
        clear hb3 BA2 BB2 HB2
        rw [HMT.out, mtV_yes HMT.out]
        obtain ⟨m0, hm0⟩ : ∃ z, z = mx (mn a0 a4) (mn b0 b4) := ⟨_, rfl⟩
        obtain ⟨m1, hm1⟩ : ∃ z, z = mx (mn a1 a5) (mn b1 b5) := ⟨_, rfl⟩
        obtain ⟨m2, hm2⟩ : ∃ z, z = mn (mx a0 a4) (mx b0 b4) := ⟨_, rfl⟩
        obtain ⟨m3, hm3⟩ : ∃ z, z = mn (mx a1 a5) (mx b1 b5) := ⟨_, rfl⟩
        rw [← hm0, ← hm1, ← hm2, ← hm3]
        have HM := Aside0.mk (And.intro hm0 (And.intro hm1 (And.intro hm2 hm3)))
        clear hm0 hm1 hm2 hm3
        obtain ⟨q0_0, q0_1, q0_2, q0_3, q0_4, q0_5, q0_6, q0_7⟩ := bx8 (blk_alloc BA3.out (.cells #[.int .i64 m0, .int .i64 m1, .bool false, .bool false, .int .i64 m2, .int .i64 m3, .bool false, .bool false] 40 (0, 0)))
        obtain ⟨q1_0, q1_1, q1_2, q1_3, q1_4, q1_5, q1_6, q1_7⟩ := bx8 (blk_alloc BB3.out (.cells #[.int .i64 m0, .int .i64 m1, .bool false, .bool false, .int .i64 m2, .int .i64 m3, .bool false, .bool false] 40 (0, 0)))
        go_wp2_with (fail)
        clear q0_0 q0_1 q0_2 q0_3 q0_4 q0_5 q0_6 q0_7 q1_0 q1_1 q1_2 q1_3 q1_4 q1_5 q1_6 q1_7 
        have hnew := blk_new w3 (.cells #[.int .i64 m0, .int .i64 m1, .bool false, .bool false, .int .i64 m2, .int .i64 m3, .bool false, .bool false] 40 (0, 0))
        have hba := below_alloc (Below.refl w3.heap.size w3) (.cells #[.int .i64 m0, .int .i64 m1, .bool false, .bool false, .int .i64 m2, .int .i64 m3, .bool false, .bool false] 40 (0, 0))
        obtain ⟨w4, hw4⟩ : ∃ x, x = w3.alloc (.cells #[.int .i64 m0, .int .i64 m1, .bool false, .bool false, .int .i64 m2, .int .i64 m3, .bool false, .bool false] 40 (0, 0)) := ⟨_, rfl⟩
        obtain ⟨gBM, hgBM⟩ : ∃ g, g = w3.heap.size := ⟨_, rfl⟩
        rw [← hw4] at hnew hba ⊢
        rw [← hgBM] at hnew ⊢
        have BA4 := Aside0.mk (blk_below BA3.out hba)
        have BB4 := Aside0.mk (blk_below BB3.out hba)
        have BM4 := Aside0.mk hnew
        have HB4 := Aside0.mk (below_step HB3.out hba)
        clear hnew hba hw4 hgBM HB3 BA3 BB3
        refine (HIM.out _).mono ?_
        rintro e w5 ⟨v5, rfl, hr5, hb5⟩
        have BA5 := Aside0.mk (blk_below BA4.out hb5)
        have BB5 := Aside0.mk (blk_below BB4.out hb5)
        have BM5 := Aside0.mk (blk_below BM4.out hb5)
        have HB5 := Aside0.mk (below_step HB4.out hb5)
        have HW5 := Aside0.mk hr5
        clear hb5 hr5 BA4 BB4 BM4 HB4
        obtain ⟨A1, c1, rfl⟩ := Kd.R_slice HW5.out
        obtain ⟨q0_0, q0_1, q0_2, q0_3, q0_4, q0_5, q0_6, q0_7⟩ := bx8 BA5.out
        obtain ⟨q1_0, q1_1, q1_2, q1_3, q1_4, q1_5, q1_6, q1_7⟩ := bx8 BB5.out
        go_wp2_with (fail)
        clear q0_0 q0_1 q0_2 q0_3 q0_4 q0_5 q0_6 q0_7 q1_0 q1_1 q1_2 q1_3 q1_4 q1_5 q1_6 q1_7 
        refine (HSP.out _).mono ?_
        rintro e w6 ⟨v6, rfl, hr6, hb6⟩
        have BA6 := Aside0.mk (blk_below BA5.out hb6)
        have BB6 := Aside0.mk (blk_below BB5.out hb6)
        have BM6 := Aside0.mk (blk_below BM5.out hb6)
        have HB6 := Aside0.mk (below_step HB5.out hb6)
        have HW6 := Aside0.mk (Kd.R_below HW5.out hb6)
        have HV6 := Aside0.mk hr6
        clear hb6 hr6 HW5 BA5 BB5 BM5 HB5
        obtain ⟨A2, c2, rfl⟩ := Kd.R_slice HV6.out
        go_wp2_with (fail)
        refine (zareas_c L HLEN.out A1 A2 c1 c2 _ _ _ _ _ HW6.out HV6.out).mono ?_
        rintro e w7 ⟨rfl, hb7⟩
        have BA7 := Aside0.mk (blk_below BA6.out hb7)
        have BB7 := Aside0.mk (blk_below BB6.out hb7)
        have BM7 := Aside0.mk (blk_below BM6.out hb7)
        have HB7 := Aside0.mk (below_step HB6.out hb7)
        have HW7 := Aside0.mk (Kd.R_below HW6.out hb7)
        clear hb7 BA6 BB6 BM6 HW6 HB6
        clear HV6
        obtain ⟨q0_0, q0_1, q0_2, q0_3, q0_4, q0_5, q0_6, q0_7⟩ := bx8 BA7.out
        go_wp2_with (fail)
        clear q0_0 q0_1 q0_2 q0_3 q0_4 q0_5 q0_6 q0_7 
        refine (sgood_c a0 a1 a2 a3 a4 a5 a6 a7 _).mono ?_
        rintro e w8 ⟨rfl, hb8⟩
        have BA8 := Aside0.mk (blk_below BA7.out hb8)
        have BB8 := Aside0.mk (blk_below BB7.out hb8)
        have BM8 := Aside0.mk (blk_below BM7.out hb8)
        have HB8 := Aside0.mk (below_step HB7.out hb8)
        have HW8 := Aside0.mk (Kd.R_below HW7.out hb8)
        clear hb8 BA7 BB7 BM7 HW7 HB7
        rw [HGA.out]
        obtain ⟨q0_0, q0_1, q0_2, q0_3, q0_4, q0_5, q0_6, q0_7⟩ := bx8 BB8.out
        go_wp2_with (fail)
        clear q0_0 q0_1 q0_2 q0_3 q0_4 q0_5 q0_6 q0_7 
        refine (sgood_c b0 b1 b2 b3 b4 b5 b6 b7 _).mono ?_
        rintro e w9 ⟨rfl, hb9⟩
        have BA9 := Aside0.mk (blk_below BA8.out hb9)
        have BB9 := Aside0.mk (blk_below BB8.out hb9)
        have BM9 := Aside0.mk (blk_below BM8.out hb9)
        have HB9 := Aside0.mk (below_step HB8.out hb9)
        have HW9 := Aside0.mk (Kd.R_below HW8.out hb9)
        clear hb9 BA8 BB8 BM8 HW8 HB8
        rw [HGB.out]
        obtain ⟨q0_0, q0_1, q0_2, q0_3, q0_4, q0_5, q0_6, q0_7⟩ := bx8 BM9.out
        go_wp2_with (fail)
        clear q0_0 q0_1 q0_2 q0_3 q0_4 q0_5 q0_6 q0_7 
        have hgm : goodA m0 m1 m2 m3 = true := by rw [HM.out.1, HM.out.2.1, HM.out.2.2.1, HM.out.2.2.2]; exact HGM.out
        refine (cellsIn_c m0 m1 false false m2 m3 false false _ hgm).mono ?_
        rintro e w10 ⟨rfl, hb10⟩
        have BA10 := Aside0.mk (blk_below BA9.out hb10)
        have BB10 := Aside0.mk (blk_below BB9.out hb10)
        have BM10 := Aside0.mk (blk_below BM9.out hb10)
        have HB10 := Aside0.mk (below_step HB9.out hb10)
        have HW10 := Aside0.mk (Kd.R_below HW9.out hb10)
        clear hb10 BA9 BB9 BM9 HW9 HB9
        rw [show cellsOf (mn m0 m2) (mn m1 m3) (mx m0 m2) (mx m1 m3) = M0 by rw [HM0.out, HM.out.1, HM.out.2.1, HM.out.2.2.1, HM.out.2.2.2]]
        clear hgm
        have hcp : L.length ≤ c1 := (Kd.R_reads' HW10.out).2.1
        have hl4 : L.length ≤ 4 := HFN.out.2.2.2.1
        go_wp2
        clear BM10
        go_loopg [8, 72] L.length (fun d v8 v72 wr => ∃ (i : Nat) (mny : Int), v8 = .int .i64 mny ∧ v72 = .int .i64 i ∧ i + d = L.length ∧ Aside0 (mny = M0 + psum L i) ∧ Aside0 (wr.heap[ga]? = some (.cells #[.int .i64 a0, .int .i64 a1, .bool a2, .bool a3, .int .i64 a4, .int .i64 a5, .bool a6, .bool a7] 40 (0, 0))) ∧ Aside0 (wr.heap[gb]? = some (.cells #[.int .i64 b0, .int .i64 b1, .bool b2, .bool b3, .int .i64 b4, .int .i64 b5, .bool b6, .bool b7] 40 (0, 0))) ∧ Aside0 (Below w.heap.size w wr) ∧ Aside0 (Kd.R k40 40 wr w4.heap.size (fun _ => True) (.slice A1 L.length c1) L))
        case atStart => exact ⟨0, _, rfl, rfl, by omega, ⟨by first | (simp [psum, ssum]; done) | (rw [HM0.out]; simp [psum, ssum])⟩, BA10, BB10, HB10, HW10⟩
        case round =>
          clear BA10 BB10 HB10 HW10
          obtain ⟨i, mny, rfl, rfl, hid, HMNY, BA20, BB20, HB20, HW20⟩ := hrel
          obtain ⟨w20, hw20⟩ : ∃ x, x = wr := ⟨_, rfl⟩
          subst hw20
          by_cases hlt : i < L.length
          · obtain ⟨ad, e, g0, g1, g2, g3, g4, g5, g6, g7⟩ := at_T40 (Kd.R_reads' HW20.out).2.2 (i : Int) (by omega) (by omega)
            subst e
            have HXF := Aside0.mk (HFN.out.1 _ (getD_mem40 L i hlt))
            obtain ⟨X, hX⟩ : ∃ X, X = rd_T40 L (i : Int) := ⟨_, rfl⟩
            rw [← hX] at g0 g1 g2 g3 g4 g5 g6 g7
            have HX := Aside0.mk (hX.trans (rd40 L i))
            rw [← HX.out] at HXF
            clear hX
            obtain ⟨⟨p0, p1, p2, p3⟩, ⟨p4, p5, p6, p7⟩⟩ := X
            simp only [Int.toNat_natCast] at g0 g1 g2 g3 g4 g5 g6 g7
            have mb : -5000000 ≤ mny ∧ mny ≤ 5000000 := by have := psum_bd L (fun p hp => (HFN.out.1 p hp).1) i (by omega); have := HMNY.out; have := HFN.out.2.2.2.2; omega
            obtain ⟨mb0, mb1⟩ := mb
            go_wp2_with (fail)
            clear g0 g1 g2 g3 g4 g5 g6 g7
            have hnew := blk_new w20 (.cells #[.int .i64 p0, .int .i64 p1, .bool p2, .bool p3, .int .i64 p4, .int .i64 p5, .bool p6, .bool p7] 40 (0, 0))
            have hba := below_alloc (Below.refl w20.heap.size w20) (.cells #[.int .i64 p0, .int .i64 p1, .bool p2, .bool p3, .int .i64 p4, .int .i64 p5, .bool p6, .bool p7] 40 (0, 0))
            obtain ⟨w21, hw21⟩ : ∃ x, x = w20.alloc (.cells #[.int .i64 p0, .int .i64 p1, .bool p2, .bool p3, .int .i64 p4, .int .i64 p5, .bool p6, .bool p7] 40 (0, 0)) := ⟨_, rfl⟩
            obtain ⟨gBX, hgBX⟩ : ∃ g, g = w20.heap.size := ⟨_, rfl⟩
            rw [← hw21] at hnew hba ⊢
            rw [← hgBX] at hnew ⊢
            have BA21 := Aside0.mk (blk_below BA20.out hba)
            have BB21 := Aside0.mk (blk_below BB20.out hba)
            have HW21 := Aside0.mk (Kd.R_below HW20.out hba)
            have BX21 := Aside0.mk hnew
            have HB21 := Aside0.mk (below_step HB20.out hba)
            clear hnew hba hw21 hgBX HB20 BA20 BB20 HW20
            refine (cellsIn_c p0 p1 p2 p3 p4 p5 p6 p7 _ HXF.out.1).mono ?_
            rintro e w22 ⟨rfl, hb22⟩
            have BA22 := Aside0.mk (blk_below BA21.out hb22)
            have BB22 := Aside0.mk (blk_below BB21.out hb22)
            have BX22 := Aside0.mk (blk_below BX21.out hb22)
            have HB22 := Aside0.mk (below_step HB21.out hb22)
            have HW22 := Aside0.mk (Kd.R_below HW21.out hb22)
            clear hb22 BA21 BB21 BX21 HW21 HB21
            obtain ⟨cX, hcX⟩ : ∃ z, z = cellsOf (mn p0 p4) (mn p1 p5) (mx p0 p4) (mx p1 p5) := ⟨_, rfl⟩
            rw [← hcX]
            have cb : -1000000 ≤ cX ∧ cX ≤ 1000000 := by rw [hcX]; exact cl_bd HXF.out.1
            obtain ⟨cb0, cb1⟩ := cb
            have hcl : cl ⟨⟨p0, p1, p2, p3⟩, ⟨p4, p5, p6, p7⟩⟩ = cX := hcX.symm
            have HCX := Aside0.mk (show mny + cX = M0 + psum L (i + 1) by rw [psum_succ L i hlt, HMNY.out, ← HX.out, hcl]; omega)
            clear hcX hcl
            obtain ⟨q0_0, q0_1, q0_2, q0_3, q0_4, q0_5, q0_6, q0_7⟩ := bx8 BX22.out
            obtain ⟨q1_0, q1_1, q1_2, q1_3, q1_4, q1_5, q1_6, q1_7⟩ := bx8 BB22.out
            go_wp2_with (fail)
            clear q0_0 q0_1 q0_2 q0_3 q0_4 q0_5 q0_6 q0_7 q1_0 q1_1 q1_2 q1_3 q1_4 q1_5 q1_6 q1_7 
            refine (smeet_in p0 p1 p2 p3 p4 p5 p6 p7 b0 b1 b2 b3 b4 b5 b6 b7 _ HXF.out.1 HGB.out).mono ?_
            rintro e w23 ⟨rfl, hb23⟩
            have BA23 := Aside0.mk (blk_below BA22.out hb23)
            have BB23 := Aside0.mk (blk_below BB22.out hb23)
            have BX23 := Aside0.mk (blk_below BX22.out hb23)
            have HB23 := Aside0.mk (below_step HB22.out hb23)
            have HW23 := Aside0.mk (Kd.R_below HW22.out hb23)
            clear hb23 BA22 BB22 BX22 HW22 HB22
            have hap : mtB (mx (mn p0 p4) (mn b0 b4)) (mx (mn p1 p5) (mn b1 b5)) (mn (mx p0 p4) (mx b0 b4)) (mn (mx p1 p5) (mx b1 b5)) = false := HXF.out.2
            rw [hap, mtV_no (by rw [hap]; exact Bool.false_ne_true)]
            clear hap
            have hic : (i : Int) ≤ (c1 : Int) := by omega
            have hi0 : (0 : Int) ≤ (i : Int) := by omega
            go_wp2
            have hnew := blk_new w23 (.cells #[.int .i64 0, .int .i64 0, .bool false, .bool false, .int .i64 0, .int .i64 0, .bool false, .bool false] 40 (0, 0))
            have hba := below_alloc (Below.refl w23.heap.size w23) (.cells #[.int .i64 0, .int .i64 0, .bool false, .bool false, .int .i64 0, .int .i64 0, .bool false, .bool false] 40 (0, 0))
            obtain ⟨w24, hw24⟩ : ∃ x, x = w23.alloc (.cells #[.int .i64 0, .int .i64 0, .bool false, .bool false, .int .i64 0, .int .i64 0, .bool false, .bool false] 40 (0, 0)) := ⟨_, rfl⟩
            obtain ⟨gBZ, hgBZ⟩ : ∃ g, g = w23.heap.size := ⟨_, rfl⟩
            rw [← hw24] at hnew hba ⊢
            rw [← hgBZ] at hnew ⊢
            have BA24 := Aside0.mk (blk_below BA23.out hba)
            have BB24 := Aside0.mk (blk_below BB23.out hba)
            have BX24 := Aside0.mk (blk_below BX23.out hba)
            have HW24 := Aside0.mk (Kd.R_below HW23.out hba)
            have BZ24 := Aside0.mk hnew
            have HB24 := Aside0.mk (below_step HB23.out hba)
            clear hnew hba hw24 hgBZ HB23 BA23 BB23 BX23 HW23
            clear BZ24
            go_loopg [92] i (fun d v92 wr => ∃ (j : Nat), v92 = .int .i64 j ∧ j + d = i ∧ Aside0 (wr.heap[ga]? = some (.cells #[.int .i64 a0, .int .i64 a1, .bool a2, .bool a3, .int .i64 a4, .int .i64 a5, .bool a6, .bool a7] 40 (0, 0))) ∧ Aside0 (wr.heap[gb]? = some (.cells #[.int .i64 b0, .int .i64 b1, .bool b2, .bool b3, .int .i64 b4, .int .i64 b5, .bool b6, .bool b7] 40 (0, 0))) ∧ Aside0 (wr.heap[gBX]? = some (.cells #[.int .i64 p0, .int .i64 p1, .bool p2, .bool p3, .int .i64 p4, .int .i64 p5, .bool p6, .bool p7] 40 (0, 0))) ∧ Aside0 (Below w.heap.size w wr) ∧ Aside0 (Kd.R k40 40 wr w4.heap.size (fun _ => True) (.slice (some ad) L.length c1) L))
            case atStart => exact ⟨0, rfl, by omega, BA24, BB24, BX24, HB24, HW24⟩
            case round =>
              clear BA24 BB24 BX24 HB24 HW24
              obtain ⟨j, rfl, hjd, BA40, BB40, BX40, HB40, HW40⟩ := hrel
              obtain ⟨w40, hw40⟩ : ∃ x, x = wr := ⟨_, rfl⟩
              subst hw40
              by_cases hjt : j < i
              · obtain ⟨ad2, e2, g0, g1, g2, g3, g4, g5, g6, g7⟩ := at_T40 (Kd.R_reads' HW40.out).2.2 (j : Int) (by omega) (by omega)
                cases e2
                have HYF := Aside0.mk (HFN.out.1 _ (getD_mem40 L j (by omega))).1
                have HAP := Aside0.mk (HFN.out.2.1 i j hjt hlt)
                rw [← HX.out] at HAP
                obtain ⟨Y, hY⟩ : ∃ Y, Y = rd_T40 L (j : Int) := ⟨_, rfl⟩
                rw [← hY] at g0 g1 g2 g3 g4 g5 g6 g7
                have HY := Aside0.mk (hY.trans (rd40 L j))
                rw [← HY.out] at HYF HAP
                clear hY HY
                obtain ⟨⟨r0, r1, r2, r3⟩, ⟨r4, r5, r6, r7⟩⟩ := Y
                simp only [Int.toNat_natCast] at g0 g1 g2 g3 g4 g5 g6 g7
                obtain ⟨q0_0, q0_1, q0_2, q0_3, q0_4, q0_5, q0_6, q0_7⟩ := bx8 (blk_alloc BX40.out (.cells #[.int .i64 r0, .int .i64 r1, .bool r2, .bool r3, .int .i64 r4, .int .i64 r5, .bool r6, .bool r7] 40 (0, 0)))
                go_wp2_with (fail)
                clear g0 g1 g2 g3 g4 g5 g6 g7 q0_0 q0_1 q0_2 q0_3 q0_4 q0_5 q0_6 q0_7
                have hnew := blk_new w40 (.cells #[.int .i64 r0, .int .i64 r1, .bool r2, .bool r3, .int .i64 r4, .int .i64 r5, .bool r6, .bool r7] 40 (0, 0))
                have hba := below_alloc (Below.refl w40.heap.size w40) (.cells #[.int .i64 r0, .int .i64 r1, .bool r2, .bool r3, .int .i64 r4, .int .i64 r5, .bool r6, .bool r7] 40 (0, 0))
                obtain ⟨w41, hw41⟩ : ∃ x, x = w40.alloc (.cells #[.int .i64 r0, .int .i64 r1, .bool r2, .bool r3, .int .i64 r4, .int .i64 r5, .bool r6, .bool r7] 40 (0, 0)) := ⟨_, rfl⟩
                obtain ⟨gBY, hgBY⟩ : ∃ g, g = w40.heap.size := ⟨_, rfl⟩
                rw [← hw41] at hnew hba ⊢
                rw [← hgBY] at hnew ⊢
                have BA41 := Aside0.mk (blk_below BA40.out hba)
                have BB41 := Aside0.mk (blk_below BB40.out hba)
                have BX41 := Aside0.mk (blk_below BX40.out hba)
                have HW41 := Aside0.mk (Kd.R_below HW40.out hba)
                have BY41 := Aside0.mk hnew
                have HB41 := Aside0.mk (below_step HB40.out hba)
                clear hnew hba hw41 hgBY HB40 BA40 BB40 BX40 HW40
                clear BY41
                refine (smeet_in p0 p1 p2 p3 p4 p5 p6 p7 r0 r1 r2 r3 r4 r5 r6 r7 _ HXF.out.1 HYF.out).mono ?_
                rintro e w42 ⟨rfl, hb42⟩
                have BA42 := Aside0.mk (blk_below BA41.out hb42)
                have BB42 := Aside0.mk (blk_below BB41.out hb42)
                have BX42 := Aside0.mk (blk_below BX41.out hb42)
                have HB42 := Aside0.mk (below_step HB41.out hb42)
                have HW42 := Aside0.mk (Kd.R_below HW41.out hb42)
                clear hb42 BA41 BB41 BX41 HW41 HB41
                have hap : mtB (mx (mn p0 p4) (mn r0 r4)) (mx (mn p1 p5) (mn r1 r5)) (mn (mx p0 p4) (mx r0 r4)) (mn (mx p1 p5) (mx r1 r5)) = false := HAP.out
                rw [hap, mtV_no (by rw [hap]; exact Bool.false_ne_true)]
                clear hap
                go_wp2
                have hnew := blk_new w42 (.cells #[.int .i64 0, .int .i64 0, .bool false, .bool false, .int .i64 0, .int .i64 0, .bool false, .bool false] 40 (0, 0))
                have hba := below_alloc (Below.refl w42.heap.size w42) (.cells #[.int .i64 0, .int .i64 0, .bool false, .bool false, .int .i64 0, .int .i64 0, .bool false, .bool false] 40 (0, 0))
                obtain ⟨w43, hw43⟩ : ∃ x, x = w42.alloc (.cells #[.int .i64 0, .int .i64 0, .bool false, .bool false, .int .i64 0, .int .i64 0, .bool false, .bool false] 40 (0, 0)) := ⟨_, rfl⟩
                obtain ⟨gBZ, hgBZ⟩ : ∃ g, g = w42.heap.size := ⟨_, rfl⟩
                rw [← hw43] at hnew hba ⊢
                rw [← hgBZ] at hnew ⊢
                have BA43 := Aside0.mk (blk_below BA42.out hba)
                have BB43 := Aside0.mk (blk_below BB42.out hba)
                have BX43 := Aside0.mk (blk_below BX42.out hba)
                have HW43 := Aside0.mk (Kd.R_below HW42.out hba)
                have BZ43 := Aside0.mk hnew
                have HB43 := Aside0.mk (below_step HB42.out hba)
                clear hnew hba hw43 hgBZ HB42 BA42 BB42 BX42 HW42
                go_roundg (i - j - 1)
                case measure => omega
                case rel => exact ⟨j + 1, by go_num, by omega, BA43, BB43, BX43, HB43, HW43⟩
              · have hij : j = i := by omega
                go_wp2
                go_roundg (L.length - i - 1)
                case measure => omega
                case rel => exact ⟨i + 1, _, rfl, by go_num, by omega, HCX, BA40, BB40, HB40, HW40⟩
          · have hil : i = L.length := by omega
            have htt : mny = tot := by rw [HMNY.out, hil]; unfold psum; rw [List.take_length]; exact HFN.out.2.2.1
            subst htt
            clear HMNY hil HW20
            obtain ⟨q0_0, q0_1, q0_2, q0_3, q0_4, q0_5, q0_6, q0_7⟩ := bx8 BA20.out
            obtain ⟨q1_0, q1_1, q1_2, q1_3, q1_4, q1_5, q1_6, q1_7⟩ := bx8 BB20.out
            go_wp2_with (fail)
            clear q0_0 q0_1 q0_2 q0_3 q0_4 q0_5 q0_6 q0_7 q1_0 q1_1 q1_2 q1_3 q1_4 q1_5 q1_6 q1_7 
            refine (ihull_in a0 a1 a2 a3 a4 a5 a6 a7 b0 b1 b2 b3 b4 b5 b6 b7 _ ⟨HGA.out, HGB.out⟩).mono ?_
            rintro e w21 ⟨rfl, hb21⟩
            have BA21 := Aside0.mk (blk_below BA20.out hb21)
            have BB21 := Aside0.mk (blk_below BB20.out hb21)
            have HB21 := Aside0.mk (below_step HB20.out hb21)
            clear hb21 BA20 BB20 HB20
            obtain ⟨h0, hh0⟩ : ∃ z, z = mn (mn a0 a4) (mn b0 b4) := ⟨_, rfl⟩
            obtain ⟨h1, hh1⟩ : ∃ z, z = mn (mn a1 a5) (mn b1 b5) := ⟨_, rfl⟩
            obtain ⟨h2, hh2⟩ : ∃ z, z = mx (mx a0 a4) (mx b0 b4) := ⟨_, rfl⟩
            obtain ⟨h3, hh3⟩ : ∃ z, z = mx (mx a1 a5) (mx b1 b5) := ⟨_, rfl⟩
            rw [← hh0, ← hh1, ← hh2, ← hh3]
            have HH := Aside0.mk (And.intro hh0 (And.intro hh1 (And.intro hh2 hh3)))
            clear hh0 hh1 hh2 hh3
            obtain ⟨q0_0, q0_1, q0_2, q0_3, q0_4, q0_5, q0_6, q0_7⟩ := bx8 (blk_alloc BA21.out (.cells #[.int .i64 h0, .int .i64 h1, .bool false, .bool false, .int .i64 h2, .int .i64 h3, .bool false, .bool false] 40 (0, 0)))
            go_wp2_with (fail)
            clear q0_0 q0_1 q0_2 q0_3 q0_4 q0_5 q0_6 q0_7 
            have hnew := blk_new w21 (.cells #[.int .i64 h0, .int .i64 h1, .bool false, .bool false, .int .i64 h2, .int .i64 h3, .bool false, .bool false] 40 (0, 0))
            have hba := below_alloc (Below.refl w21.heap.size w21) (.cells #[.int .i64 h0, .int .i64 h1, .bool false, .bool false, .int .i64 h2, .int .i64 h3, .bool false, .bool false] 40 (0, 0))
            obtain ⟨w22, hw22⟩ : ∃ x, x = w21.alloc (.cells #[.int .i64 h0, .int .i64 h1, .bool false, .bool false, .int .i64 h2, .int .i64 h3, .bool false, .bool false] 40 (0, 0)) := ⟨_, rfl⟩
            obtain ⟨gBH, hgBH⟩ : ∃ g, g = w21.heap.size := ⟨_, rfl⟩
            rw [← hw22] at hnew hba ⊢
            rw [← hgBH] at hnew ⊢
            have BA22 := Aside0.mk (blk_below BA21.out hba)
            have BB22 := Aside0.mk (blk_below BB21.out hba)
            have BH22 := Aside0.mk hnew
            have HB22 := Aside0.mk (below_step HB21.out hba)
            clear hnew hba hw22 hgBH HB21 BA21 BB21
            have HGH : Aside0 (goodA h0 h1 h2 h3 = true) := ⟨by rw [HH.out.1, HH.out.2.1, HH.out.2.2.1, HH.out.2.2.2]; exact hull_good HGA.out HGB.out⟩
            have hle : ∀ p q : Int, mn p q ≤ mx p q := fun p q => by unfold mn mx; split <;> split <;> omega
            have HI0 := Aside0.mk (hull_in (mn a0 a4) (mx a0 a4) (mn b0 b4) (mx b0 b4) (hle _ _) (hle _ _))
            have HI1 := Aside0.mk (hull_in (mn a1 a5) (mx a1 a5) (mn b1 b5) (mx b1 b5) (hle _ _) (hle _ _))
            have HOKA := Aside0.mk (show mtB (mn a0 a4) (mn a1 a5) (mx a0 a4) (mx a1 a5) = true by rw [mtB_iff]; exact ⟨hle _ _, hle _ _⟩)
            have HOKB := Aside0.mk (show mtB (mn b0 b4) (mn b1 b5) (mx b0 b4) (mx b1 b5) = true by rw [mtB_iff]; exact ⟨hle _ _, hle _ _⟩)
            clear hle
            rw [← HH.out.1, ← HH.out.2.2.1] at HI0
            rw [← HH.out.2.1, ← HH.out.2.2.2] at HI1
            refine (imeet_in h0 h1 false false h2 h3 false false a0 a1 a2 a3 a4 a5 a6 a7 _ HGH.out HGA.out).mono ?_
            rintro e w23 ⟨rfl, hb23⟩
            have BA23 := Aside0.mk (blk_below BA22.out hb23)
            have BB23 := Aside0.mk (blk_below BB22.out hb23)
            have BH23 := Aside0.mk (blk_below BH22.out hb23)
            have HB23 := Aside0.mk (below_step HB22.out hb23)
            clear hb23 BA22 BB22 BH22 HB22
            rw [HI0.out.1, HI0.out.2.1, HI1.out.1, HI1.out.2.1, HOKA.out, mtV_yes HOKA.out]
            obtain ⟨x0, hx0⟩ : ∃ z, z = mn a0 a4 := ⟨_, rfl⟩
            obtain ⟨x1, hx1⟩ : ∃ z, z = mn a1 a5 := ⟨_, rfl⟩
            obtain ⟨x2, hx2⟩ : ∃ z, z = mx a0 a4 := ⟨_, rfl⟩
            obtain ⟨x3, hx3⟩ : ∃ z, z = mx a1 a5 := ⟨_, rfl⟩
            rw [← hx0, ← hx1, ← hx2, ← hx3]
            have HXX := Aside0.mk (And.intro hx0 (And.intro hx1 (And.intro hx2 hx3)))
            clear hx0 hx1 hx2 hx3
            obtain ⟨q0_0, q0_1, q0_2, q0_3, q0_4, q0_5, q0_6, q0_7⟩ := bx8 (blk_alloc BB23.out (.cells #[.int .i64 x0, .int .i64 x1, .bool false, .bool false, .int .i64 x2, .int .i64 x3, .bool false, .bool false] 40 (0, 0)))
            obtain ⟨q1_0, q1_1, q1_2, q1_3, q1_4, q1_5, q1_6, q1_7⟩ := bx8 (blk_alloc BH23.out (.cells #[.int .i64 x0, .int .i64 x1, .bool false, .bool false, .int .i64 x2, .int .i64 x3, .bool false, .bool false] 40 (0, 0)))
            go_wp2_with (fail)
            clear q0_0 q0_1 q0_2 q0_3 q0_4 q0_5 q0_6 q0_7 q1_0 q1_1 q1_2 q1_3 q1_4 q1_5 q1_6 q1_7 
            have hnew := blk_new w23 (.cells #[.int .i64 x0, .int .i64 x1, .bool false, .bool false, .int .i64 x2, .int .i64 x3, .bool false, .bool false] 40 (0, 0))
            have hba := below_alloc (Below.refl w23.heap.size w23) (.cells #[.int .i64 x0, .int .i64 x1, .bool false, .bool false, .int .i64 x2, .int .i64 x3, .bool false, .bool false] 40 (0, 0))
            obtain ⟨w24, hw24⟩ : ∃ x, x = w23.alloc (.cells #[.int .i64 x0, .int .i64 x1, .bool false, .bool false, .int .i64 x2, .int .i64 x3, .bool false, .bool false] 40 (0, 0)) := ⟨_, rfl⟩
            obtain ⟨gBP, hgBP⟩ : ∃ g, g = w23.heap.size := ⟨_, rfl⟩
            rw [← hw24] at hnew hba ⊢
            rw [← hgBP] at hnew ⊢
            have BA24 := Aside0.mk (blk_below BA23.out hba)
            have BB24 := Aside0.mk (blk_below BB23.out hba)
            have BH24 := Aside0.mk (blk_below BH23.out hba)
            have BP24 := Aside0.mk hnew
            have HB24 := Aside0.mk (below_step HB23.out hba)
            clear hnew hba hw24 hgBP HB23 BA23 BB23 BH23
            refine (imeet_in h0 h1 false false h2 h3 false false b0 b1 b2 b3 b4 b5 b6 b7 _ HGH.out HGB.out).mono ?_
            rintro e w25 ⟨rfl, hb25⟩
            have BA25 := Aside0.mk (blk_below BA24.out hb25)
            have BB25 := Aside0.mk (blk_below BB24.out hb25)
            have BH25 := Aside0.mk (blk_below BH24.out hb25)
            have BP25 := Aside0.mk (blk_below BP24.out hb25)
            have HB25 := Aside0.mk (below_step HB24.out hb25)
            clear hb25 BA24 BB24 BH24 BP24 HB24
            rw [HI0.out.2.2.1, HI0.out.2.2.2, HI1.out.2.2.1, HI1.out.2.2.2, HOKB.out, mtV_yes HOKB.out]
            obtain ⟨y0, hy0⟩ : ∃ z, z = mn b0 b4 := ⟨_, rfl⟩
            obtain ⟨y1, hy1⟩ : ∃ z, z = mn b1 b5 := ⟨_, rfl⟩
            obtain ⟨y2, hy2⟩ : ∃ z, z = mx b0 b4 := ⟨_, rfl⟩
            obtain ⟨y3, hy3⟩ : ∃ z, z = mx b1 b5 := ⟨_, rfl⟩
            rw [← hy0, ← hy1, ← hy2, ← hy3]
            have HYY := Aside0.mk (And.intro hy0 (And.intro hy1 (And.intro hy2 hy3)))
            clear hy0 hy1 hy2 hy3
            go_upto_region 31 with (fail)
            have hnew := blk_new w25 (.cells #[.int .i64 y0, .int .i64 y1, .bool false, .bool false, .int .i64 y2, .int .i64 y3, .bool false, .bool false] 40 (0, 0))
            have hba := below_alloc (Below.refl w25.heap.size w25) (.cells #[.int .i64 y0, .int .i64 y1, .bool false, .bool false, .int .i64 y2, .int .i64 y3, .bool false, .bool false] 40 (0, 0))
            obtain ⟨w26, hw26⟩ : ∃ x, x = w25.alloc (.cells #[.int .i64 y0, .int .i64 y1, .bool false, .bool false, .int .i64 y2, .int .i64 y3, .bool false, .bool false] 40 (0, 0)) := ⟨_, rfl⟩
            obtain ⟨gBQ, hgBQ⟩ : ∃ g, g = w25.heap.size := ⟨_, rfl⟩
            rw [← hw26] at hnew hba ⊢
            rw [← hgBQ] at hnew ⊢
            have BA26 := Aside0.mk (blk_below BA25.out hba)
            have BB26 := Aside0.mk (blk_below BB25.out hba)
            have BH26 := Aside0.mk (blk_below BH25.out hba)
            have BP26 := Aside0.mk (blk_below BP25.out hba)
            have BQ26 := Aside0.mk hnew
            have HB26 := Aside0.mk (below_step HB25.out hba)
            clear hnew hba hw26 hgBQ HB25 BA25 BB25 BH25 BP25
            have HCA := Aside0.mk (fun W => cellsIn_c a0 a1 a2 a3 a4 a5 a6 a7 W HGA.out)
            rw [← HTOT.out] at HCA
            have HSA := Aside0.mk (fun W => shull_in a0 a1 a2 a3 a4 a5 a6 a7 a0 a1 a2 a3 a4 a5 a6 a7 W ⟨HGA.out, HGA.out⟩)
            have HSB := Aside0.mk (fun W => shull_in b0 b1 b2 b3 b4 b5 b6 b7 b0 b1 b2 b3 b4 b5 b6 b7 W ⟨HGB.out, HGB.out⟩)
            simp only [mn_self, mx_self] at HSA HSB
            simp only [← HXX.out.1, ← HXX.out.2.1, ← HXX.out.2.2.1, ← HXX.out.2.2.2] at HSA
            simp only [← HYY.out.1, ← HYY.out.2.1, ← HYY.out.2.2.1, ← HYY.out.2.2.2] at HSB
            obtain ⟨q0_0, q0_1, q0_2, q0_3, q0_4, q0_5, q0_6, q0_7⟩ := bx8 BA26.out
            obtain ⟨q1_0, q1_1, q1_2, q1_3, q1_4, q1_5, q1_6, q1_7⟩ := bx8 BB26.out
            obtain ⟨q2_0, q2_1, q2_2, q2_3, q2_4, q2_5, q2_6, q2_7⟩ := bx8 BP26.out
            obtain ⟨q3_0, q3_1, q3_2, q3_3, q3_4, q3_5, q3_6, q3_7⟩ := bx8 BQ26.out
            have HCH := Aside0.mk (Below.refl w26.heap.size w26)
            go_region_held3 (fun W => W.cell? ⟨ga, 0, none⟩ = some (.int .i64 a0) ∧ W.cell? ⟨ga, 1, none⟩ = some (.int .i64 a1) ∧ W.cell? ⟨ga, 2, none⟩ = some (.bool a2) ∧ W.cell? ⟨ga, 3, none⟩ = some (.bool a3) ∧ W.cell? ⟨ga, 4, none⟩ = some (.int .i64 a4) ∧ W.cell? ⟨ga, 5, none⟩ = some (.int .i64 a5) ∧ W.cell? ⟨ga, 6, none⟩ = some (.bool a6) ∧ W.cell? ⟨ga, 7, none⟩ = some (.bool a7) ∧ W.cell? ⟨gb, 0, none⟩ = some (.int .i64 b0) ∧ W.cell? ⟨gb, 1, none⟩ = some (.int .i64 b1) ∧ W.cell? ⟨gb, 2, none⟩ = some (.bool b2) ∧ W.cell? ⟨gb, 3, none⟩ = some (.bool b3) ∧ W.cell? ⟨gb, 4, none⟩ = some (.int .i64 b4) ∧ W.cell? ⟨gb, 5, none⟩ = some (.int .i64 b5) ∧ W.cell? ⟨gb, 6, none⟩ = some (.bool b6) ∧ W.cell? ⟨gb, 7, none⟩ = some (.bool b7) ∧ W.cell? ⟨gBP, 0, none⟩ = some (.int .i64 x0) ∧ W.cell? ⟨gBP, 1, none⟩ = some (.int .i64 x1) ∧ W.cell? ⟨gBP, 2, none⟩ = some (.bool false) ∧ W.cell? ⟨gBP, 3, none⟩ = some (.bool false) ∧ W.cell? ⟨gBP, 4, none⟩ = some (.int .i64 x2) ∧ W.cell? ⟨gBP, 5, none⟩ = some (.int .i64 x3) ∧ W.cell? ⟨gBP, 6, none⟩ = some (.bool false) ∧ W.cell? ⟨gBP, 7, none⟩ = some (.bool false) ∧ W.cell? ⟨gBQ, 0, none⟩ = some (.int .i64 y0) ∧ W.cell? ⟨gBQ, 1, none⟩ = some (.int .i64 y1) ∧ W.cell? ⟨gBQ, 2, none⟩ = some (.bool false) ∧ W.cell? ⟨gBQ, 3, none⟩ = some (.bool false) ∧ W.cell? ⟨gBQ, 4, none⟩ = some (.int .i64 y2) ∧ W.cell? ⟨gBQ, 5, none⟩ = some (.int .i64 y3) ∧ W.cell? ⟨gBQ, 6, none⟩ = some (.bool false) ∧ W.cell? ⟨gBQ, 7, none⟩ = some (.bool false))
              ((go_split_ands; (try simp only [World.cell?_drewN, World.cell?_drew]); refine ⟨?_, ?_, ?_, ?_, ?_, ?_, ?_, ?_, ?_, ?_, ?_, ?_, ?_, ?_, ?_, ?_, ?_, ?_, ?_, ?_, ?_, ?_, ?_, ?_, ?_, ?_, ?_, ?_, ?_, ?_, ?_, ?_⟩ <;> (first | (with_reducible assumption) | ((with_reducible refine pw_cell_below hbq ?_); (try simp only [World.cell?_drewN, World.cell?_drew]); with_reducible assumption))))
              (first
                | (go_at_call 29; (with_reducible refine (HCA.out _).mono ?_); rintro e wq ⟨rfl, hbq⟩; have HCH2 := Aside0.mk (show Below w26.heap.size w26 wq from below_step (by repeat (first | exact HCH.out | apply pw_below_drewN | apply below_drew1)) hbq); clear HCH; have HCH := HCH2; clear HCH2)
                | (go_at_call 31; (with_reducible refine (HSA.out _).mono ?_); rintro e wq ⟨rfl, hbq⟩; have HCH2 := Aside0.mk (show Below w26.heap.size w26 wq from below_step (by repeat (first | exact HCH.out | apply pw_below_drewN | apply below_drew1)) hbq); clear HCH; have HCH := HCH2; clear HCH2)
                | (go_at_call 31; (with_reducible refine (HSB.out _).mono ?_); rintro e wq ⟨rfl, hbq⟩; have HCH2 := Aside0.mk (show Below w26.heap.size w26 wq from below_step (by repeat (first | exact HCH.out | apply pw_below_drewN | apply below_drew1)) hbq); clear HCH; have HCH := HCH2; clear HCH2))
            all_goals go_wp2
            all_goals go_ret
            all_goals exact ⟨by first | rfl | simp, below_step HB26.out HCH.out⟩
      · obtain ⟨M0, hM0⟩ : ∃ z : Int, z = 0 := ⟨_, rfl⟩
        have hmt' : mtB (mx (mn a0 a4) (mn b0 b4)) (mx (mn a1 a5) (mn b1 b5)) (mn (mx a0 a4) (mx b0 b4)) (mn (mx a1 a5) (mx b1 b5)) = false := by simpa using hmt
        have HMT := Aside0.mk hmt'
        rw [if_neg hmt] at hL
        have HFN := Aside0.mk (show Fine L (mn b0 b4) (mn b1 b5) (mx b0 b4) (mx b1 b5) M0 tot by rw [hL, hM0, htot]; exact fine_no HGA.out HGB.out hmt')
        have HLEN := Aside0.mk (show L.length ≤ 1000 by have := HFN.out.2.2.2.1; omega)
        have HM0 := Aside0.mk hM0
        clear hL htot hmt hmt' hM0
        refine (imeet_in a0 a1 a2 a3 a4 a5 a6 a7 b0 b1 b2 b3 b4 b5 b6 b7 _ HGA.out HGB.out).mono ?_
        rintro e w3 ⟨rfl, hb3⟩
        have BA3 := Aside0.mk (blk_below BA2.out hb3)
        have BB3 := Aside0.mk (blk_below BB2.out hb3)
        have HB3 := Aside0.mk (below_step HB2.out hb3)
        clear hb3 BA2 BB2 HB2
        rw [HMT.out, mtV_no (by rw [HMT.out]; exact Bool.false_ne_true)]
        obtain ⟨q0_0, q0_1, q0_2, q0_3, q0_4, q0_5, q0_6, q0_7⟩ := bx8 (blk_alloc BA3.out (.cells #[.int .i64 0, .int .i64 0, .bool false, .bool false, .int .i64 0, .int .i64 0, .bool false, .bool false] 40 (0, 0)))
        obtain ⟨q1_0, q1_1, q1_2, q1_3, q1_4, q1_5, q1_6, q1_7⟩ := bx8 (blk_alloc BB3.out (.cells #[.int .i64 0, .int .i64 0, .bool false, .bool false, .int .i64 0, .int .i64 0, .bool false, .bool false] 40 (0, 0)))
        go_wp2_with (fail)
        clear q0_0 q0_1 q0_2 q0_3 q0_4 q0_5 q0_6 q0_7 q1_0 q1_1 q1_2 q1_3 q1_4 q1_5 q1_6 q1_7 
        have hnew := blk_new w3 (.cells #[.int .i64 0, .int .i64 0, .bool false, .bool false, .int .i64 0, .int .i64 0, .bool false, .bool false] 40 (0, 0))
        have hba := below_alloc (Below.refl w3.heap.size w3) (.cells #[.int .i64 0, .int .i64 0, .bool false, .bool false, .int .i64 0, .int .i64 0, .bool false, .bool false] 40 (0, 0))
        obtain ⟨w4, hw4⟩ : ∃ x, x = w3.alloc (.cells #[.int .i64 0, .int .i64 0, .bool false, .bool false, .int .i64 0, .int .i64 0, .bool false, .bool false] 40 (0, 0)) := ⟨_, rfl⟩
        obtain ⟨gBM, hgBM⟩ : ∃ g, g = w3.heap.size := ⟨_, rfl⟩
        rw [← hw4] at hnew hba ⊢
        rw [← hgBM] at hnew ⊢
        have BA4 := Aside0.mk (blk_below BA3.out hba)
        have BB4 := Aside0.mk (blk_below BB3.out hba)
        have BM4 := Aside0.mk hnew
        have HB4 := Aside0.mk (below_step HB3.out hba)
        clear hnew hba hw4 hgBM HB3 BA3 BB3
        refine (HIM.out _).mono ?_
        rintro e w5 ⟨v5, rfl, hr5, hb5⟩
        have BA5 := Aside0.mk (blk_below BA4.out hb5)
        have BB5 := Aside0.mk (blk_below BB4.out hb5)
        have BM5 := Aside0.mk (blk_below BM4.out hb5)
        have HB5 := Aside0.mk (below_step HB4.out hb5)
        have HW5 := Aside0.mk hr5
        clear hb5 hr5 BA4 BB4 BM4 HB4
        obtain ⟨A1, c1, rfl⟩ := Kd.R_slice HW5.out
        obtain ⟨q0_0, q0_1, q0_2, q0_3, q0_4, q0_5, q0_6, q0_7⟩ := bx8 BA5.out
        obtain ⟨q1_0, q1_1, q1_2, q1_3, q1_4, q1_5, q1_6, q1_7⟩ := bx8 BB5.out
        go_wp2_with (fail)
        clear q0_0 q0_1 q0_2 q0_3 q0_4 q0_5 q0_6 q0_7 q1_0 q1_1 q1_2 q1_3 q1_4 q1_5 q1_6 q1_7 
        refine (HSP.out _).mono ?_
        rintro e w6 ⟨v6, rfl, hr6, hb6⟩
        have BA6 := Aside0.mk (blk_below BA5.out hb6)
        have BB6 := Aside0.mk (blk_below BB5.out hb6)
        have BM6 := Aside0.mk (blk_below BM5.out hb6)
        have HB6 := Aside0.mk (below_step HB5.out hb6)
        have HW6 := Aside0.mk (Kd.R_below HW5.out hb6)
        have HV6 := Aside0.mk hr6
        clear hb6 hr6 HW5 BA5 BB5 BM5 HB5
        obtain ⟨A2, c2, rfl⟩ := Kd.R_slice HV6.out
        go_wp2_with (fail)
        refine (zareas_c L HLEN.out A1 A2 c1 c2 _ _ _ _ _ HW6.out HV6.out).mono ?_
        rintro e w7 ⟨rfl, hb7⟩
        have BA7 := Aside0.mk (blk_below BA6.out hb7)
        have BB7 := Aside0.mk (blk_below BB6.out hb7)
        have BM7 := Aside0.mk (blk_below BM6.out hb7)
        have HB7 := Aside0.mk (below_step HB6.out hb7)
        have HW7 := Aside0.mk (Kd.R_below HW6.out hb7)
        clear hb7 BA6 BB6 BM6 HW6 HB6
        clear HV6
        obtain ⟨q0_0, q0_1, q0_2, q0_3, q0_4, q0_5, q0_6, q0_7⟩ := bx8 BA7.out
        go_wp2_with (fail)
        clear q0_0 q0_1 q0_2 q0_3 q0_4 q0_5 q0_6 q0_7 
        refine (sgood_c a0 a1 a2 a3 a4 a5 a6 a7 _).mono ?_
        rintro e w8 ⟨rfl, hb8⟩
        have BA8 := Aside0.mk (blk_below BA7.out hb8)
        have BB8 := Aside0.mk (blk_below BB7.out hb8)
        have BM8 := Aside0.mk (blk_below BM7.out hb8)
        have HB8 := Aside0.mk (below_step HB7.out hb8)
        have HW8 := Aside0.mk (Kd.R_below HW7.out hb8)
        clear hb8 BA7 BB7 BM7 HW7 HB7
        rw [HGA.out]
        obtain ⟨q0_0, q0_1, q0_2, q0_3, q0_4, q0_5, q0_6, q0_7⟩ := bx8 BB8.out
        go_wp2_with (fail)
        clear q0_0 q0_1 q0_2 q0_3 q0_4 q0_5 q0_6 q0_7 
        refine (sgood_c b0 b1 b2 b3 b4 b5 b6 b7 _).mono ?_
        rintro e w9 ⟨rfl, hb9⟩
        have BA9 := Aside0.mk (blk_below BA8.out hb9)
        have BB9 := Aside0.mk (blk_below BB8.out hb9)
        have BM9 := Aside0.mk (blk_below BM8.out hb9)
        have HB9 := Aside0.mk (below_step HB8.out hb9)
        have HW9 := Aside0.mk (Kd.R_below HW8.out hb9)
        clear hb9 BA8 BB8 BM8 HW8 HB8
        rw [HGB.out]
        have hcp : L.length ≤ c1 := (Kd.R_reads' HW9.out).2.1
        have hl4 : L.length ≤ 4 := HFN.out.2.2.2.1
        go_wp2
        clear BM9
        go_loopg [8, 72] L.length (fun d v8 v72 wr => ∃ (i : Nat) (mny : Int), v8 = .int .i64 mny ∧ v72 = .int .i64 i ∧ i + d = L.length ∧ Aside0 (mny = M0 + psum L i) ∧ Aside0 (wr.heap[ga]? = some (.cells #[.int .i64 a0, .int .i64 a1, .bool a2, .bool a3, .int .i64 a4, .int .i64 a5, .bool a6, .bool a7] 40 (0, 0))) ∧ Aside0 (wr.heap[gb]? = some (.cells #[.int .i64 b0, .int .i64 b1, .bool b2, .bool b3, .int .i64 b4, .int .i64 b5, .bool b6, .bool b7] 40 (0, 0))) ∧ Aside0 (Below w.heap.size w wr) ∧ Aside0 (Kd.R k40 40 wr w4.heap.size (fun _ => True) (.slice A1 L.length c1) L))
        case atStart => exact ⟨0, _, rfl, rfl, by omega, ⟨by first | (simp [psum, ssum]; done) | (rw [HM0.out]; simp [psum, ssum])⟩, BA9, BB9, HB9, HW9⟩
        case round =>
          clear BA9 BB9 HB9 HW9
          obtain ⟨i, mny, rfl, rfl, hid, HMNY, BA20, BB20, HB20, HW20⟩ := hrel
          obtain ⟨w20, hw20⟩ : ∃ x, x = wr := ⟨_, rfl⟩
          subst hw20
          by_cases hlt : i < L.length
          · obtain ⟨ad, e, g0, g1, g2, g3, g4, g5, g6, g7⟩ := at_T40 (Kd.R_reads' HW20.out).2.2 (i : Int) (by omega) (by omega)
            subst e
            have HXF := Aside0.mk (HFN.out.1 _ (getD_mem40 L i hlt))
            obtain ⟨X, hX⟩ : ∃ X, X = rd_T40 L (i : Int) := ⟨_, rfl⟩
            rw [← hX] at g0 g1 g2 g3 g4 g5 g6 g7
            have HX := Aside0.mk (hX.trans (rd40 L i))
            rw [← HX.out] at HXF
            clear hX
            obtain ⟨⟨p0, p1, p2, p3⟩, ⟨p4, p5, p6, p7⟩⟩ := X
            simp only [Int.toNat_natCast] at g0 g1 g2 g3 g4 g5 g6 g7
            have mb : -5000000 ≤ mny ∧ mny ≤ 5000000 := by have := psum_bd L (fun p hp => (HFN.out.1 p hp).1) i (by omega); have := HMNY.out; have := HFN.out.2.2.2.2; omega
            obtain ⟨mb0, mb1⟩ := mb
            go_wp2_with (fail)
            clear g0 g1 g2 g3 g4 g5 g6 g7
            have hnew := blk_new w20 (.cells #[.int .i64 p0, .int .i64 p1, .bool p2, .bool p3, .int .i64 p4, .int .i64 p5, .bool p6, .bool p7] 40 (0, 0))
            have hba := below_alloc (Below.refl w20.heap.size w20) (.cells #[.int .i64 p0, .int .i64 p1, .bool p2, .bool p3, .int .i64 p4, .int .i64 p5, .bool p6, .bool p7] 40 (0, 0))
            obtain ⟨w21, hw21⟩ : ∃ x, x = w20.alloc (.cells #[.int .i64 p0, .int .i64 p1, .bool p2, .bool p3, .int .i64 p4, .int .i64 p5, .bool p6, .bool p7] 40 (0, 0)) := ⟨_, rfl⟩
            obtain ⟨gBX, hgBX⟩ : ∃ g, g = w20.heap.size := ⟨_, rfl⟩
            rw [← hw21] at hnew hba ⊢
            rw [← hgBX] at hnew ⊢
            have BA21 := Aside0.mk (blk_below BA20.out hba)
            have BB21 := Aside0.mk (blk_below BB20.out hba)
            have HW21 := Aside0.mk (Kd.R_below HW20.out hba)
            have BX21 := Aside0.mk hnew
            have HB21 := Aside0.mk (below_step HB20.out hba)
            clear hnew hba hw21 hgBX HB20 BA20 BB20 HW20
            refine (cellsIn_c p0 p1 p2 p3 p4 p5 p6 p7 _ HXF.out.1).mono ?_
            rintro e w22 ⟨rfl, hb22⟩
            have BA22 := Aside0.mk (blk_below BA21.out hb22)
            have BB22 := Aside0.mk (blk_below BB21.out hb22)
            have BX22 := Aside0.mk (blk_below BX21.out hb22)
            have HB22 := Aside0.mk (below_step HB21.out hb22)
            have HW22 := Aside0.mk (Kd.R_below HW21.out hb22)
            clear hb22 BA21 BB21 BX21 HW21 HB21
            obtain ⟨cX, hcX⟩ : ∃ z, z = cellsOf (mn p0 p4) (mn p1 p5) (mx p0 p4) (mx p1 p5) := ⟨_, rfl⟩
            rw [← hcX]
            have cb : -1000000 ≤ cX ∧ cX ≤ 1000000 := by rw [hcX]; exact cl_bd HXF.out.1
            obtain ⟨cb0, cb1⟩ := cb
            have hcl : cl ⟨⟨p0, p1, p2, p3⟩, ⟨p4, p5, p6, p7⟩⟩ = cX := hcX.symm
            have HCX := Aside0.mk (show mny + cX = M0 + psum L (i + 1) by rw [psum_succ L i hlt, HMNY.out, ← HX.out, hcl]; omega)
            clear hcX hcl
            obtain ⟨q0_0, q0_1, q0_2, q0_3, q0_4, q0_5, q0_6, q0_7⟩ := bx8 BX22.out
            obtain ⟨q1_0, q1_1, q1_2, q1_3, q1_4, q1_5, q1_6, q1_7⟩ := bx8 BB22.out
            go_wp2_with (fail)
            clear q0_0 q0_1 q0_2 q0_3 q0_4 q0_5 q0_6 q0_7 q1_0 q1_1 q1_2 q1_3 q1_4 q1_5 q1_6 q1_7 
            refine (smeet_in p0 p1 p2 p3 p4 p5 p6 p7 b0 b1 b2 b3 b4 b5 b6 b7 _ HXF.out.1 HGB.out).mono ?_
            rintro e w23 ⟨rfl, hb23⟩
            have BA23 := Aside0.mk (blk_below BA22.out hb23)
            have BB23 := Aside0.mk (blk_below BB22.out hb23)
            have BX23 := Aside0.mk (blk_below BX22.out hb23)
            have HB23 := Aside0.mk (below_step HB22.out hb23)
            have HW23 := Aside0.mk (Kd.R_below HW22.out hb23)
            clear hb23 BA22 BB22 BX22 HW22 HB22
            have hap : mtB (mx (mn p0 p4) (mn b0 b4)) (mx (mn p1 p5) (mn b1 b5)) (mn (mx p0 p4) (mx b0 b4)) (mn (mx p1 p5) (mx b1 b5)) = false := HXF.out.2
            rw [hap, mtV_no (by rw [hap]; exact Bool.false_ne_true)]
            clear hap
            have hic : (i : Int) ≤ (c1 : Int) := by omega
            have hi0 : (0 : Int) ≤ (i : Int) := by omega
            go_wp2
            have hnew := blk_new w23 (.cells #[.int .i64 0, .int .i64 0, .bool false, .bool false, .int .i64 0, .int .i64 0, .bool false, .bool false] 40 (0, 0))
            have hba := below_alloc (Below.refl w23.heap.size w23) (.cells #[.int .i64 0, .int .i64 0, .bool false, .bool false, .int .i64 0, .int .i64 0, .bool false, .bool false] 40 (0, 0))
            obtain ⟨w24, hw24⟩ : ∃ x, x = w23.alloc (.cells #[.int .i64 0, .int .i64 0, .bool false, .bool false, .int .i64 0, .int .i64 0, .bool false, .bool false] 40 (0, 0)) := ⟨_, rfl⟩
            obtain ⟨gBZ, hgBZ⟩ : ∃ g, g = w23.heap.size := ⟨_, rfl⟩
            rw [← hw24] at hnew hba ⊢
            rw [← hgBZ] at hnew ⊢
            have BA24 := Aside0.mk (blk_below BA23.out hba)
            have BB24 := Aside0.mk (blk_below BB23.out hba)
            have BX24 := Aside0.mk (blk_below BX23.out hba)
            have HW24 := Aside0.mk (Kd.R_below HW23.out hba)
            have BZ24 := Aside0.mk hnew
            have HB24 := Aside0.mk (below_step HB23.out hba)
            clear hnew hba hw24 hgBZ HB23 BA23 BB23 BX23 HW23
            clear BZ24
            go_loopg [92] i (fun d v92 wr => ∃ (j : Nat), v92 = .int .i64 j ∧ j + d = i ∧ Aside0 (wr.heap[ga]? = some (.cells #[.int .i64 a0, .int .i64 a1, .bool a2, .bool a3, .int .i64 a4, .int .i64 a5, .bool a6, .bool a7] 40 (0, 0))) ∧ Aside0 (wr.heap[gb]? = some (.cells #[.int .i64 b0, .int .i64 b1, .bool b2, .bool b3, .int .i64 b4, .int .i64 b5, .bool b6, .bool b7] 40 (0, 0))) ∧ Aside0 (wr.heap[gBX]? = some (.cells #[.int .i64 p0, .int .i64 p1, .bool p2, .bool p3, .int .i64 p4, .int .i64 p5, .bool p6, .bool p7] 40 (0, 0))) ∧ Aside0 (Below w.heap.size w wr) ∧ Aside0 (Kd.R k40 40 wr w4.heap.size (fun _ => True) (.slice (some ad) L.length c1) L))
            case atStart => exact ⟨0, rfl, by omega, BA24, BB24, BX24, HB24, HW24⟩
            case round =>
              clear BA24 BB24 BX24 HB24 HW24
              obtain ⟨j, rfl, hjd, BA40, BB40, BX40, HB40, HW40⟩ := hrel
              obtain ⟨w40, hw40⟩ : ∃ x, x = wr := ⟨_, rfl⟩
              subst hw40
              by_cases hjt : j < i
              · obtain ⟨ad2, e2, g0, g1, g2, g3, g4, g5, g6, g7⟩ := at_T40 (Kd.R_reads' HW40.out).2.2 (j : Int) (by omega) (by omega)
                cases e2
                have HYF := Aside0.mk (HFN.out.1 _ (getD_mem40 L j (by omega))).1
                have HAP := Aside0.mk (HFN.out.2.1 i j hjt hlt)
                rw [← HX.out] at HAP
                obtain ⟨Y, hY⟩ : ∃ Y, Y = rd_T40 L (j : Int) := ⟨_, rfl⟩
                rw [← hY] at g0 g1 g2 g3 g4 g5 g6 g7
                have HY := Aside0.mk (hY.trans (rd40 L j))
                rw [← HY.out] at HYF HAP
                clear hY HY
                obtain ⟨⟨r0, r1, r2, r3⟩, ⟨r4, r5, r6, r7⟩⟩ := Y
                simp only [Int.toNat_natCast] at g0 g1 g2 g3 g4 g5 g6 g7
                obtain ⟨q0_0, q0_1, q0_2, q0_3, q0_4, q0_5, q0_6, q0_7⟩ := bx8 (blk_alloc BX40.out (.cells #[.int .i64 r0, .int .i64 r1, .bool r2, .bool r3, .int .i64 r4, .int .i64 r5, .bool r6, .bool r7] 40 (0, 0)))
                go_wp2_with (fail)
                clear g0 g1 g2 g3 g4 g5 g6 g7 q0_0 q0_1 q0_2 q0_3 q0_4 q0_5 q0_6 q0_7
                have hnew := blk_new w40 (.cells #[.int .i64 r0, .int .i64 r1, .bool r2, .bool r3, .int .i64 r4, .int .i64 r5, .bool r6, .bool r7] 40 (0, 0))
                have hba := below_alloc (Below.refl w40.heap.size w40) (.cells #[.int .i64 r0, .int .i64 r1, .bool r2, .bool r3, .int .i64 r4, .int .i64 r5, .bool r6, .bool r7] 40 (0, 0))
                obtain ⟨w41, hw41⟩ : ∃ x, x = w40.alloc (.cells #[.int .i64 r0, .int .i64 r1, .bool r2, .bool r3, .int .i64 r4, .int .i64 r5, .bool r6, .bool r7] 40 (0, 0)) := ⟨_, rfl⟩
                obtain ⟨gBY, hgBY⟩ : ∃ g, g = w40.heap.size := ⟨_, rfl⟩
                rw [← hw41] at hnew hba ⊢
                rw [← hgBY] at hnew ⊢
                have BA41 := Aside0.mk (blk_below BA40.out hba)
                have BB41 := Aside0.mk (blk_below BB40.out hba)
                have BX41 := Aside0.mk (blk_below BX40.out hba)
                have HW41 := Aside0.mk (Kd.R_below HW40.out hba)
                have BY41 := Aside0.mk hnew
                have HB41 := Aside0.mk (below_step HB40.out hba)
                clear hnew hba hw41 hgBY HB40 BA40 BB40 BX40 HW40
                clear BY41
                refine (smeet_in p0 p1 p2 p3 p4 p5 p6 p7 r0 r1 r2 r3 r4 r5 r6 r7 _ HXF.out.1 HYF.out).mono ?_
                rintro e w42 ⟨rfl, hb42⟩
                have BA42 := Aside0.mk (blk_below BA41.out hb42)
                have BB42 := Aside0.mk (blk_below BB41.out hb42)
                have BX42 := Aside0.mk (blk_below BX41.out hb42)
                have HB42 := Aside0.mk (below_step HB41.out hb42)
                have HW42 := Aside0.mk (Kd.R_below HW41.out hb42)
                clear hb42 BA41 BB41 BX41 HW41 HB41
                have hap : mtB (mx (mn p0 p4) (mn r0 r4)) (mx (mn p1 p5) (mn r1 r5)) (mn (mx p0 p4) (mx r0 r4)) (mn (mx p1 p5) (mx r1 r5)) = false := HAP.out
                rw [hap, mtV_no (by rw [hap]; exact Bool.false_ne_true)]
                clear hap
                go_wp2
                have hnew := blk_new w42 (.cells #[.int .i64 0, .int .i64 0, .bool false, .bool false, .int .i64 0, .int .i64 0, .bool false, .bool false] 40 (0, 0))
                have hba := below_alloc (Below.refl w42.heap.size w42) (.cells #[.int .i64 0, .int .i64 0, .bool false, .bool false, .int .i64 0, .int .i64 0, .bool false, .bool false] 40 (0, 0))
                obtain ⟨w43, hw43⟩ : ∃ x, x = w42.alloc (.cells #[.int .i64 0, .int .i64 0, .bool false, .bool false, .int .i64 0, .int .i64 0, .bool false, .bool false] 40 (0, 0)) := ⟨_, rfl⟩
                obtain ⟨gBZ, hgBZ⟩ : ∃ g, g = w42.heap.size := ⟨_, rfl⟩
                rw [← hw43] at hnew hba ⊢
                rw [← hgBZ] at hnew ⊢
                have BA43 := Aside0.mk (blk_below BA42.out hba)
                have BB43 := Aside0.mk (blk_below BB42.out hba)
                have BX43 := Aside0.mk (blk_below BX42.out hba)
                have HW43 := Aside0.mk (Kd.R_below HW42.out hba)
                have BZ43 := Aside0.mk hnew
                have HB43 := Aside0.mk (below_step HB42.out hba)
                clear hnew hba hw43 hgBZ HB42 BA42 BB42 BX42 HW42
                go_roundg (i - j - 1)
                case measure => omega
                case rel => exact ⟨j + 1, by go_num, by omega, BA43, BB43, BX43, HB43, HW43⟩
              · have hij : j = i := by omega
                go_wp2
                go_roundg (L.length - i - 1)
                case measure => omega
                case rel => exact ⟨i + 1, _, rfl, by go_num, by omega, HCX, BA40, BB40, HB40, HW40⟩
          · have hil : i = L.length := by omega
            have htt : mny = tot := by rw [HMNY.out, hil]; unfold psum; rw [List.take_length]; exact HFN.out.2.2.1
            subst htt
            clear HMNY hil HW20
            obtain ⟨q0_0, q0_1, q0_2, q0_3, q0_4, q0_5, q0_6, q0_7⟩ := bx8 BA20.out
            obtain ⟨q1_0, q1_1, q1_2, q1_3, q1_4, q1_5, q1_6, q1_7⟩ := bx8 BB20.out
            go_wp2_with (fail)
            clear q0_0 q0_1 q0_2 q0_3 q0_4 q0_5 q0_6 q0_7 q1_0 q1_1 q1_2 q1_3 q1_4 q1_5 q1_6 q1_7 
            refine (ihull_in a0 a1 a2 a3 a4 a5 a6 a7 b0 b1 b2 b3 b4 b5 b6 b7 _ ⟨HGA.out, HGB.out⟩).mono ?_
            rintro e w21 ⟨rfl, hb21⟩
            have BA21 := Aside0.mk (blk_below BA20.out hb21)
            have BB21 := Aside0.mk (blk_below BB20.out hb21)
            have HB21 := Aside0.mk (below_step HB20.out hb21)
            clear hb21 BA20 BB20 HB20
            obtain ⟨h0, hh0⟩ : ∃ z, z = mn (mn a0 a4) (mn b0 b4) := ⟨_, rfl⟩
            obtain ⟨h1, hh1⟩ : ∃ z, z = mn (mn a1 a5) (mn b1 b5) := ⟨_, rfl⟩
            obtain ⟨h2, hh2⟩ : ∃ z, z = mx (mx a0 a4) (mx b0 b4) := ⟨_, rfl⟩
            obtain ⟨h3, hh3⟩ : ∃ z, z = mx (mx a1 a5) (mx b1 b5) := ⟨_, rfl⟩
            rw [← hh0, ← hh1, ← hh2, ← hh3]
            have HH := Aside0.mk (And.intro hh0 (And.intro hh1 (And.intro hh2 hh3)))
            clear hh0 hh1 hh2 hh3
            obtain ⟨q0_0, q0_1, q0_2, q0_3, q0_4, q0_5, q0_6, q0_7⟩ := bx8 (blk_alloc BA21.out (.cells #[.int .i64 h0, .int .i64 h1, .bool false, .bool false, .int .i64 h2, .int .i64 h3, .bool false, .bool false] 40 (0, 0)))
            go_wp2_with (fail)
            clear q0_0 q0_1 q0_2 q0_3 q0_4 q0_5 q0_6 q0_7 
            have hnew := blk_new w21 (.cells #[.int .i64 h0, .int .i64 h1, .bool false, .bool false, .int .i64 h2, .int .i64 h3, .bool false, .bool false] 40 (0, 0))
            have hba := below_alloc (Below.refl w21.heap.size w21) (.cells #[.int .i64 h0, .int .i64 h1, .bool false, .bool false, .int .i64 h2, .int .i64 h3, .bool false, .bool false] 40 (0, 0))
            obtain ⟨w22, hw22⟩ : ∃ x, x = w21.alloc (.cells #[.int .i64 h0, .int .i64 h1, .bool false, .bool false, .int .i64 h2, .int .i64 h3, .bool false, .bool false] 40 (0, 0)) := ⟨_, rfl⟩
            obtain ⟨gBH, hgBH⟩ : ∃ g, g = w21.heap.size := ⟨_, rfl⟩
            rw [← hw22] at hnew hba ⊢
            rw [← hgBH] at hnew ⊢
            have BA22 := Aside0.mk (blk_below BA21.out hba)
            have BB22 := Aside0.mk (blk_below BB21.out hba)
            have BH22 := Aside0.mk hnew
            have HB22 := Aside0.mk (below_step HB21.out hba)
            clear hnew hba hw22 hgBH HB21 BA21 BB21
            have HGH : Aside0 (goodA h0 h1 h2 h3 = true) := ⟨by rw [HH.out.1, HH.out.2.1, HH.out.2.2.1, HH.out.2.2.2]; exact hull_good HGA.out HGB.out⟩
            have hle : ∀ p q : Int, mn p q ≤ mx p q := fun p q => by unfold mn mx; split <;> split <;> omega
            have HI0 := Aside0.mk (hull_in (mn a0 a4) (mx a0 a4) (mn b0 b4) (mx b0 b4) (hle _ _) (hle _ _))
            have HI1 := Aside0.mk (hull_in (mn a1 a5) (mx a1 a5) (mn b1 b5) (mx b1 b5) (hle _ _) (hle _ _))
            have HOKA := Aside0.mk (show mtB (mn a0 a4) (mn a1 a5) (mx a0 a4) (mx a1 a5) = true by rw [mtB_iff]; exact ⟨hle _ _, hle _ _⟩)
            have HOKB := Aside0.mk (show mtB (mn b0 b4) (mn b1 b5) (mx b0 b4) (mx b1 b5) = true by rw [mtB_iff]; exact ⟨hle _ _, hle _ _⟩)
            clear hle
            rw [← HH.out.1, ← HH.out.2.2.1] at HI0
            rw [← HH.out.2.1, ← HH.out.2.2.2] at HI1
            refine (imeet_in h0 h1 false false h2 h3 false false a0 a1 a2 a3 a4 a5 a6 a7 _ HGH.out HGA.out).mono ?_
            rintro e w23 ⟨rfl, hb23⟩
            have BA23 := Aside0.mk (blk_below BA22.out hb23)
            have BB23 := Aside0.mk (blk_below BB22.out hb23)
            have BH23 := Aside0.mk (blk_below BH22.out hb23)
            have HB23 := Aside0.mk (below_step HB22.out hb23)
            clear hb23 BA22 BB22 BH22 HB22
            rw [HI0.out.1, HI0.out.2.1, HI1.out.1, HI1.out.2.1, HOKA.out, mtV_yes HOKA.out]
            obtain ⟨x0, hx0⟩ : ∃ z, z = mn a0 a4 := ⟨_, rfl⟩
            obtain ⟨x1, hx1⟩ : ∃ z, z = mn a1 a5 := ⟨_, rfl⟩
            obtain ⟨x2, hx2⟩ : ∃ z, z = mx a0 a4 := ⟨_, rfl⟩
            obtain ⟨x3, hx3⟩ : ∃ z, z = mx a1 a5 := ⟨_, rfl⟩
            rw [← hx0, ← hx1, ← hx2, ← hx3]
            have HXX := Aside0.mk (And.intro hx0 (And.intro hx1 (And.intro hx2 hx3)))
            clear hx0 hx1 hx2 hx3
            obtain ⟨q0_0, q0_1, q0_2, q0_3, q0_4, q0_5, q0_6, q0_7⟩ := bx8 (blk_alloc BB23.out (.cells #[.int .i64 x0, .int .i64 x1, .bool false, .bool false, .int .i64 x2, .int .i64 x3, .bool false, .bool false] 40 (0, 0)))
            obtain ⟨q1_0, q1_1, q1_2, q1_3, q1_4, q1_5, q1_6, q1_7⟩ := bx8 (blk_alloc BH23.out (.cells #[.int .i64 x0, .int .i64 x1, .bool false, .bool false, .int .i64 x2, .int .i64 x3, .bool false, .bool false] 40 (0, 0)))
            go_wp2_with (fail)
            clear q0_0 q0_1 q0_2 q0_3 q0_4 q0_5 q0_6 q0_7 q1_0 q1_1 q1_2 q1_3 q1_4 q1_5 q1_6 q1_7 
            have hnew := blk_new w23 (.cells #[.int .i64 x0, .int .i64 x1, .bool false, .bool false, .int .i64 x2, .int .i64 x3, .bool false, .bool false] 40 (0, 0))
            have hba := below_alloc (Below.refl w23.heap.size w23) (.cells #[.int .i64 x0, .int .i64 x1, .bool false, .bool false, .int .i64 x2, .int .i64 x3, .bool false, .bool false] 40 (0, 0))
            obtain ⟨w24, hw24⟩ : ∃ x, x = w23.alloc (.cells #[.int .i64 x0, .int .i64 x1, .bool false, .bool false, .int .i64 x2, .int .i64 x3, .bool false, .bool false] 40 (0, 0)) := ⟨_, rfl⟩
            obtain ⟨gBP, hgBP⟩ : ∃ g, g = w23.heap.size := ⟨_, rfl⟩
            rw [← hw24] at hnew hba ⊢
            rw [← hgBP] at hnew ⊢
            have BA24 := Aside0.mk (blk_below BA23.out hba)
            have BB24 := Aside0.mk (blk_below BB23.out hba)
            have BH24 := Aside0.mk (blk_below BH23.out hba)
            have BP24 := Aside0.mk hnew
            have HB24 := Aside0.mk (below_step HB23.out hba)
            clear hnew hba hw24 hgBP HB23 BA23 BB23 BH23
            refine (imeet_in h0 h1 false false h2 h3 false false b0 b1 b2 b3 b4 b5 b6 b7 _ HGH.out HGB.out).mono ?_
            rintro e w25 ⟨rfl, hb25⟩
            have BA25 := Aside0.mk (blk_below BA24.out hb25)
            have BB25 := Aside0.mk (blk_below BB24.out hb25)
            have BH25 := Aside0.mk (blk_below BH24.out hb25)
            have BP25 := Aside0.mk (blk_below BP24.out hb25)
            have HB25 := Aside0.mk (below_step HB24.out hb25)
            clear hb25 BA24 BB24 BH24 BP24 HB24
            rw [HI0.out.2.2.1, HI0.out.2.2.2, HI1.out.2.2.1, HI1.out.2.2.2, HOKB.out, mtV_yes HOKB.out]
            obtain ⟨y0, hy0⟩ : ∃ z, z = mn b0 b4 := ⟨_, rfl⟩
            obtain ⟨y1, hy1⟩ : ∃ z, z = mn b1 b5 := ⟨_, rfl⟩
            obtain ⟨y2, hy2⟩ : ∃ z, z = mx b0 b4 := ⟨_, rfl⟩
            obtain ⟨y3, hy3⟩ : ∃ z, z = mx b1 b5 := ⟨_, rfl⟩
            rw [← hy0, ← hy1, ← hy2, ← hy3]
            have HYY := Aside0.mk (And.intro hy0 (And.intro hy1 (And.intro hy2 hy3)))
            clear hy0 hy1 hy2 hy3
            go_upto_region 31 with (fail)
            have hnew := blk_new w25 (.cells #[.int .i64 y0, .int .i64 y1, .bool false, .bool false, .int .i64 y2, .int .i64 y3, .bool false, .bool false] 40 (0, 0))
            have hba := below_alloc (Below.refl w25.heap.size w25) (.cells #[.int .i64 y0, .int .i64 y1, .bool false, .bool false, .int .i64 y2, .int .i64 y3, .bool false, .bool false] 40 (0, 0))
            obtain ⟨w26, hw26⟩ : ∃ x, x = w25.alloc (.cells #[.int .i64 y0, .int .i64 y1, .bool false, .bool false, .int .i64 y2, .int .i64 y3, .bool false, .bool false] 40 (0, 0)) := ⟨_, rfl⟩
            obtain ⟨gBQ, hgBQ⟩ : ∃ g, g = w25.heap.size := ⟨_, rfl⟩
            rw [← hw26] at hnew hba ⊢
            rw [← hgBQ] at hnew ⊢
            have BA26 := Aside0.mk (blk_below BA25.out hba)
            have BB26 := Aside0.mk (blk_below BB25.out hba)
            have BH26 := Aside0.mk (blk_below BH25.out hba)
            have BP26 := Aside0.mk (blk_below BP25.out hba)
            have BQ26 := Aside0.mk hnew
            have HB26 := Aside0.mk (below_step HB25.out hba)
            clear hnew hba hw26 hgBQ HB25 BA25 BB25 BH25 BP25
            have HCA := Aside0.mk (fun W => cellsIn_c a0 a1 a2 a3 a4 a5 a6 a7 W HGA.out)
            rw [← HTOT.out] at HCA
            have HSA := Aside0.mk (fun W => shull_in a0 a1 a2 a3 a4 a5 a6 a7 a0 a1 a2 a3 a4 a5 a6 a7 W ⟨HGA.out, HGA.out⟩)
            have HSB := Aside0.mk (fun W => shull_in b0 b1 b2 b3 b4 b5 b6 b7 b0 b1 b2 b3 b4 b5 b6 b7 W ⟨HGB.out, HGB.out⟩)
            simp only [mn_self, mx_self] at HSA HSB
            simp only [← HXX.out.1, ← HXX.out.2.1, ← HXX.out.2.2.1, ← HXX.out.2.2.2] at HSA
            simp only [← HYY.out.1, ← HYY.out.2.1, ← HYY.out.2.2.1, ← HYY.out.2.2.2] at HSB
            obtain ⟨q0_0, q0_1, q0_2, q0_3, q0_4, q0_5, q0_6, q0_7⟩ := bx8 BA26.out
            obtain ⟨q1_0, q1_1, q1_2, q1_3, q1_4, q1_5, q1_6, q1_7⟩ := bx8 BB26.out
            obtain ⟨q2_0, q2_1, q2_2, q2_3, q2_4, q2_5, q2_6, q2_7⟩ := bx8 BP26.out
            obtain ⟨q3_0, q3_1, q3_2, q3_3, q3_4, q3_5, q3_6, q3_7⟩ := bx8 BQ26.out
            have HCH := Aside0.mk (Below.refl w26.heap.size w26)
            go_region_held3 (fun W => W.cell? ⟨ga, 0, none⟩ = some (.int .i64 a0) ∧ W.cell? ⟨ga, 1, none⟩ = some (.int .i64 a1) ∧ W.cell? ⟨ga, 2, none⟩ = some (.bool a2) ∧ W.cell? ⟨ga, 3, none⟩ = some (.bool a3) ∧ W.cell? ⟨ga, 4, none⟩ = some (.int .i64 a4) ∧ W.cell? ⟨ga, 5, none⟩ = some (.int .i64 a5) ∧ W.cell? ⟨ga, 6, none⟩ = some (.bool a6) ∧ W.cell? ⟨ga, 7, none⟩ = some (.bool a7) ∧ W.cell? ⟨gb, 0, none⟩ = some (.int .i64 b0) ∧ W.cell? ⟨gb, 1, none⟩ = some (.int .i64 b1) ∧ W.cell? ⟨gb, 2, none⟩ = some (.bool b2) ∧ W.cell? ⟨gb, 3, none⟩ = some (.bool b3) ∧ W.cell? ⟨gb, 4, none⟩ = some (.int .i64 b4) ∧ W.cell? ⟨gb, 5, none⟩ = some (.int .i64 b5) ∧ W.cell? ⟨gb, 6, none⟩ = some (.bool b6) ∧ W.cell? ⟨gb, 7, none⟩ = some (.bool b7) ∧ W.cell? ⟨gBP, 0, none⟩ = some (.int .i64 x0) ∧ W.cell? ⟨gBP, 1, none⟩ = some (.int .i64 x1) ∧ W.cell? ⟨gBP, 2, none⟩ = some (.bool false) ∧ W.cell? ⟨gBP, 3, none⟩ = some (.bool false) ∧ W.cell? ⟨gBP, 4, none⟩ = some (.int .i64 x2) ∧ W.cell? ⟨gBP, 5, none⟩ = some (.int .i64 x3) ∧ W.cell? ⟨gBP, 6, none⟩ = some (.bool false) ∧ W.cell? ⟨gBP, 7, none⟩ = some (.bool false) ∧ W.cell? ⟨gBQ, 0, none⟩ = some (.int .i64 y0) ∧ W.cell? ⟨gBQ, 1, none⟩ = some (.int .i64 y1) ∧ W.cell? ⟨gBQ, 2, none⟩ = some (.bool false) ∧ W.cell? ⟨gBQ, 3, none⟩ = some (.bool false) ∧ W.cell? ⟨gBQ, 4, none⟩ = some (.int .i64 y2) ∧ W.cell? ⟨gBQ, 5, none⟩ = some (.int .i64 y3) ∧ W.cell? ⟨gBQ, 6, none⟩ = some (.bool false) ∧ W.cell? ⟨gBQ, 7, none⟩ = some (.bool false))
              ((go_split_ands; (try simp only [World.cell?_drewN, World.cell?_drew]); refine ⟨?_, ?_, ?_, ?_, ?_, ?_, ?_, ?_, ?_, ?_, ?_, ?_, ?_, ?_, ?_, ?_, ?_, ?_, ?_, ?_, ?_, ?_, ?_, ?_, ?_, ?_, ?_, ?_, ?_, ?_, ?_, ?_⟩ <;> (first | (with_reducible assumption) | ((with_reducible refine pw_cell_below hbq ?_); (try simp only [World.cell?_drewN, World.cell?_drew]); with_reducible assumption))))
              (first
                | (go_at_call 29; (with_reducible refine (HCA.out _).mono ?_); rintro e wq ⟨rfl, hbq⟩; have HCH2 := Aside0.mk (show Below w26.heap.size w26 wq from below_step (by repeat (first | exact HCH.out | apply pw_below_drewN | apply below_drew1)) hbq); clear HCH; have HCH := HCH2; clear HCH2)
                | (go_at_call 31; (with_reducible refine (HSA.out _).mono ?_); rintro e wq ⟨rfl, hbq⟩; have HCH2 := Aside0.mk (show Below w26.heap.size w26 wq from below_step (by repeat (first | exact HCH.out | apply pw_below_drewN | apply below_drew1)) hbq); clear HCH; have HCH := HCH2; clear HCH2)
                | (go_at_call 31; (with_reducible refine (HSB.out _).mono ?_); rintro e wq ⟨rfl, hbq⟩; have HCH2 := Aside0.mk (show Below w26.heap.size w26 wq from below_step (by repeat (first | exact HCH.out | apply pw_below_drewN | apply below_drew1)) hbq); clear HCH; have HCH := HCH2; clear HCH2))
            all_goals go_wp2
            all_goals go_ret
            all_goals exact ⟨by first | rfl | simp, below_step HB26.out HCH.out⟩
    · have HGD := Aside0.mk (And.intro hga (show goodA b0 b1 b4 b5 = false by simpa using hgb))
      clear hga hgb
      refine (imeet_bad1 a0 a1 a2 a3 a4 a5 a6 a7 b0 b1 b2 b3 b4 b5 b6 b7 _ HGD.out).mono ?_
      rintro e w3 ⟨rfl, hb3⟩
      have BA3 := Aside0.mk (blk_below BA2.out hb3)
      have BB3 := Aside0.mk (blk_below BB2.out hb3)
      have HB3 := Aside0.mk (below_step HB2.out hb3)
      clear hb3 BA2 BB2 HB2
      obtain ⟨q0_0, q0_1, q0_2, q0_3, q0_4, q0_5, q0_6, q0_7⟩ := bx8 (blk_alloc BA3.out (.cells #[.int .i64 0, .int .i64 0, .bool false, .bool false, .int .i64 0, .int .i64 0, .bool false, .bool false] 40 (0, 0)))
      obtain ⟨q1_0, q1_1, q1_2, q1_3, q1_4, q1_5, q1_6, q1_7⟩ := bx8 (blk_alloc BB3.out (.cells #[.int .i64 0, .int .i64 0, .bool false, .bool false, .int .i64 0, .int .i64 0, .bool false, .bool false] 40 (0, 0)))
      go_wp2_with (fail)
      clear q0_0 q0_1 q0_2 q0_3 q0_4 q0_5 q0_6 q0_7 q1_0 q1_1 q1_2 q1_3 q1_4 q1_5 q1_6 q1_7 
      have hnew := blk_new w3 (.cells #[.int .i64 0, .int .i64 0, .bool false, .bool false, .int .i64 0, .int .i64 0, .bool false, .bool false] 40 (0, 0))
      have hba := below_alloc (Below.refl w3.heap.size w3) (.cells #[.int .i64 0, .int .i64 0, .bool false, .bool false, .int .i64 0, .int .i64 0, .bool false, .bool false] 40 (0, 0))
      obtain ⟨w4, hw4⟩ : ∃ x, x = w3.alloc (.cells #[.int .i64 0, .int .i64 0, .bool false, .bool false, .int .i64 0, .int .i64 0, .bool false, .bool false] 40 (0, 0)) := ⟨_, rfl⟩
      obtain ⟨gBM, hgBM⟩ : ∃ g, g = w3.heap.size := ⟨_, rfl⟩
      rw [← hw4] at hnew hba ⊢
      rw [← hgBM] at hnew ⊢
      have BA4 := Aside0.mk (blk_below BA3.out hba)
      have BB4 := Aside0.mk (blk_below BB3.out hba)
      have BM4 := Aside0.mk hnew
      have HB4 := Aside0.mk (below_step HB3.out hba)
      clear hnew hba hw4 hgBM HB3 BA3 BB3
      refine (iwithout_bad1 a0 a1 a2 a3 a4 a5 a6 a7 b0 b1 b2 b3 b4 b5 b6 b7 _ HGD.out.1 HGD.out.2).mono ?_
      rintro e w5 ⟨v5, rfl, hr5, hb5⟩
      have BA5 := Aside0.mk (blk_below BA4.out hb5)
      have BB5 := Aside0.mk (blk_below BB4.out hb5)
      have HB5 := Aside0.mk (below_step HB4.out hb5)
      have HW5 := Aside0.mk hr5
      clear hb5 hr5 BA4 BB4 HB4
      obtain ⟨A1, c1, rfl⟩ := Kd.R_slice HW5.out
      obtain ⟨q0_0, q0_1, q0_2, q0_3, q0_4, q0_5, q0_6, q0_7⟩ := bx8 BA5.out
      obtain ⟨q1_0, q1_1, q1_2, q1_3, q1_4, q1_5, q1_6, q1_7⟩ := bx8 BB5.out
      go_wp2_with (fail)
      clear q0_0 q0_1 q0_2 q0_3 q0_4 q0_5 q0_6 q0_7 q1_0 q1_1 q1_2 q1_3 q1_4 q1_5 q1_6 q1_7 
      refine (swithout_bad1 a0 a1 a2 a3 a4 a5 a6 a7 b0 b1 b2 b3 b4 b5 b6 b7 _ HGD.out.1 HGD.out.2).mono ?_
      rintro e w6 ⟨v6, rfl, hr6, hb6⟩
      have BA6 := Aside0.mk (blk_below BA5.out hb6)
      have BB6 := Aside0.mk (blk_below BB5.out hb6)
      have HB6 := Aside0.mk (below_step HB5.out hb6)
      have HW6 := Aside0.mk (Kd.R_below HW5.out hb6)
      have HV6 := Aside0.mk hr6
      clear hb6 hr6 HW5 BA5 BB5 HB5
      obtain ⟨A2, c2, rfl⟩ := Kd.R_slice HV6.out
      go_wp2_with (fail)
      refine (zareas_c [] (by simp) A1 A2 c1 c2 _ _ _ _ _ HW6.out HV6.out).mono ?_
      rintro e w7 ⟨rfl, hb7⟩
      have BA7 := Aside0.mk (blk_below BA6.out hb7)
      have BB7 := Aside0.mk (blk_below BB6.out hb7)
      have HB7 := Aside0.mk (below_step HB6.out hb7)
      clear hb7 BA6 BB6 HB6
      clear HW6 HV6
      obtain ⟨q0_0, q0_1, q0_2, q0_3, q0_4, q0_5, q0_6, q0_7⟩ := bx8 BA7.out
      go_wp2_with (fail)
      clear q0_0 q0_1 q0_2 q0_3 q0_4 q0_5 q0_6 q0_7 
      refine (sgood_c a0 a1 a2 a3 a4 a5 a6 a7 _).mono ?_
      rintro e w8 ⟨rfl, hb8⟩
      have BA8 := Aside0.mk (blk_below BA7.out hb8)
      have BB8 := Aside0.mk (blk_below BB7.out hb8)
      have HB8 := Aside0.mk (below_step HB7.out hb8)
      clear hb8 BA7 BB7 HB7
      rw [HGD.out.1]
      obtain ⟨q0_0, q0_1, q0_2, q0_3, q0_4, q0_5, q0_6, q0_7⟩ := bx8 BB8.out
      go_wp2_with (fail)
      clear q0_0 q0_1 q0_2 q0_3 q0_4 q0_5 q0_6 q0_7 
      refine (sgood_c b0 b1 b2 b3 b4 b5 b6 b7 _).mono ?_
      rintro e w9 ⟨rfl, hb9⟩
      have BA9 := Aside0.mk (blk_below BA8.out hb9)
      have BB9 := Aside0.mk (blk_below BB8.out hb9)
      have HB9 := Aside0.mk (below_step HB8.out hb9)
      clear hb9 BA8 BB8 HB8
      rw [HGD.out.2]
      obtain ⟨q0_0, q0_1, q0_2, q0_3, q0_4, q0_5, q0_6, q0_7⟩ := bx8 BA9.out
      obtain ⟨q1_0, q1_1, q1_2, q1_3, q1_4, q1_5, q1_6, q1_7⟩ := bx8 BB9.out
      go_wp2_with (fail)
      clear q0_0 q0_1 q0_2 q0_3 q0_4 q0_5 q0_6 q0_7 q1_0 q1_1 q1_2 q1_3 q1_4 q1_5 q1_6 q1_7 
      refine (ihull_bad1 a0 a1 a2 a3 a4 a5 a6 a7 b0 b1 b2 b3 b4 b5 b6 b7 _ HGD.out).mono ?_
      rintro e w10 ⟨rfl, hb10⟩
      have BA10 := Aside0.mk (blk_below BA9.out hb10)
      have BB10 := Aside0.mk (blk_below BB9.out hb10)
      have HB10 := Aside0.mk (below_step HB9.out hb10)
      clear hb10 BA9 BB9 HB9
      go_wp2
      go_ret
      exact ⟨by first | rfl | simp, HB10.out⟩
  · have HGD := Aside0.mk (show goodA a0 a1 a4 a5 = false by simpa using hga)
    clear hga
    refine (imeet_bad0 a0 a1 a2 a3 a4 a5 a6 a7 b0 b1 b2 b3 b4 b5 b6 b7 _ HGD.out).mono ?_
    rintro e w3 ⟨rfl, hb3⟩
    have BA3 := Aside0.mk (blk_below BA2.out hb3)
    have BB3 := Aside0.mk (blk_below BB2.out hb3)
    have HB3 := Aside0.mk (below_step HB2.out hb3)
    clear hb3 BA2 BB2 HB2
    obtain ⟨q0_0, q0_1, q0_2, q0_3, q0_4, q0_5, q0_6, q0_7⟩ := bx8 (blk_alloc BA3.out (.cells #[.int .i64 0, .int .i64 0, .bool false, .bool false, .int .i64 0, .int .i64 0, .bool false, .bool false] 40 (0, 0)))
    obtain ⟨q1_0, q1_1, q1_2, q1_3, q1_4, q1_5, q1_6, q1_7⟩ := bx8 (blk_alloc BB3.out (.cells #[.int .i64 0, .int .i64 0, .bool false, .bool false, .int .i64 0, .int .i64 0, .bool false, .bool false] 40 (0, 0)))
    go_wp2_with (fail)
    clear q0_0 q0_1 q0_2 q0_3 q0_4 q0_5 q0_6 q0_7 q1_0 q1_1 q1_2 q1_3 q1_4 q1_5 q1_6 q1_7 
    have hnew := blk_new w3 (.cells #[.int .i64 0, .int .i64 0, .bool false, .bool false, .int .i64 0, .int .i64 0, .bool false, .bool false] 40 (0, 0))
    have hba := below_alloc (Below.refl w3.heap.size w3) (.cells #[.int .i64 0, .int .i64 0, .bool false, .bool false, .int .i64 0, .int .i64 0, .bool false, .bool false] 40 (0, 0))
    obtain ⟨w4, hw4⟩ : ∃ x, x = w3.alloc (.cells #[.int .i64 0, .int .i64 0, .bool false, .bool false, .int .i64 0, .int .i64 0, .bool false, .bool false] 40 (0, 0)) := ⟨_, rfl⟩
    obtain ⟨gBM, hgBM⟩ : ∃ g, g = w3.heap.size := ⟨_, rfl⟩
    rw [← hw4] at hnew hba ⊢
    rw [← hgBM] at hnew ⊢
    have BA4 := Aside0.mk (blk_below BA3.out hba)
    have BB4 := Aside0.mk (blk_below BB3.out hba)
    have BM4 := Aside0.mk hnew
    have HB4 := Aside0.mk (below_step HB3.out hba)
    clear hnew hba hw4 hgBM HB3 BA3 BB3
    refine (iwithout_bad0 a0 a1 a2 a3 a4 a5 a6 a7 b0 b1 b2 b3 b4 b5 b6 b7 _ HGD.out).mono ?_
    rintro e w5 ⟨v5, rfl, hr5, hb5⟩
    have BA5 := Aside0.mk (blk_below BA4.out hb5)
    have BB5 := Aside0.mk (blk_below BB4.out hb5)
    have HB5 := Aside0.mk (below_step HB4.out hb5)
    have HW5 := Aside0.mk hr5
    clear hb5 hr5 BA4 BB4 HB4
    obtain ⟨A1, c1, rfl⟩ := Kd.R_slice HW5.out
    obtain ⟨q0_0, q0_1, q0_2, q0_3, q0_4, q0_5, q0_6, q0_7⟩ := bx8 BA5.out
    obtain ⟨q1_0, q1_1, q1_2, q1_3, q1_4, q1_5, q1_6, q1_7⟩ := bx8 BB5.out
    go_wp2_with (fail)
    clear q0_0 q0_1 q0_2 q0_3 q0_4 q0_5 q0_6 q0_7 q1_0 q1_1 q1_2 q1_3 q1_4 q1_5 q1_6 q1_7 
    refine (swithout_bad0 a0 a1 a2 a3 a4 a5 a6 a7 b0 b1 b2 b3 b4 b5 b6 b7 _ HGD.out).mono ?_
    rintro e w6 ⟨v6, rfl, hr6, hb6⟩
    have BA6 := Aside0.mk (blk_below BA5.out hb6)
    have BB6 := Aside0.mk (blk_below BB5.out hb6)
    have HB6 := Aside0.mk (below_step HB5.out hb6)
    have HW6 := Aside0.mk (Kd.R_below HW5.out hb6)
    have HV6 := Aside0.mk hr6
    clear hb6 hr6 HW5 BA5 BB5 HB5
    obtain ⟨A2, c2, rfl⟩ := Kd.R_slice HV6.out
    go_wp2_with (fail)
    refine (zareas_c [] (by simp) A1 A2 c1 c2 _ _ _ _ _ HW6.out HV6.out).mono ?_
    rintro e w7 ⟨rfl, hb7⟩
    have BA7 := Aside0.mk (blk_below BA6.out hb7)
    have BB7 := Aside0.mk (blk_below BB6.out hb7)
    have HB7 := Aside0.mk (below_step HB6.out hb7)
    clear hb7 BA6 BB6 HB6
    clear HW6 HV6
    obtain ⟨q0_0, q0_1, q0_2, q0_3, q0_4, q0_5, q0_6, q0_7⟩ := bx8 BA7.out
    go_wp2_with (fail)
    clear q0_0 q0_1 q0_2 q0_3 q0_4 q0_5 q0_6 q0_7 
    refine (sgood_c a0 a1 a2 a3 a4 a5 a6 a7 _).mono ?_
    rintro e w8 ⟨rfl, hb8⟩
    have BA8 := Aside0.mk (blk_below BA7.out hb8)
    have BB8 := Aside0.mk (blk_below BB7.out hb8)
    have HB8 := Aside0.mk (below_step HB7.out hb8)
    clear hb8 BA7 BB7 HB7
    rw [HGD.out]
    obtain ⟨q0_0, q0_1, q0_2, q0_3, q0_4, q0_5, q0_6, q0_7⟩ := bx8 BA8.out
    obtain ⟨q1_0, q1_1, q1_2, q1_3, q1_4, q1_5, q1_6, q1_7⟩ := bx8 BB8.out
    go_wp2_with (fail)
    clear q0_0 q0_1 q0_2 q0_3 q0_4 q0_5 q0_6 q0_7 q1_0 q1_1 q1_2 q1_3 q1_4 q1_5 q1_6 q1_7 
    refine (ihull_bad0 a0 a1 a2 a3 a4 a5 a6 a7 b0 b1 b2 b3 b4 b5 b6 b7 _ HGD.out).mono ?_
    rintro e w9 ⟨rfl, hb9⟩
    have BA9 := Aside0.mk (blk_below BA8.out hb9)
    have BB9 := Aside0.mk (blk_below BB8.out hb9)
    have HB9 := Aside0.mk (below_step HB8.out hb9)
    clear hb9 BA8 BB8 HB8
    go_wp2
    go_ret
    exact ⟨by first | rfl | simp, HB9.out⟩
end Go.Proofs.Ytppenjoobcppjaa.PAr
