/- The law on Standing: the walk of its own text. -/
import Derived.Test.YtppenjoobcppjaaHsMark
import Derived.Test.YtppenjoobcppjaaHsStand
import Derived.Test.YtppenjoobcppjaaPHistx7
namespace Go.Proofs.Ytppenjoobcppjaa.PHist
open Go.RowKit Go.Proofs.YtppenjoobcppjaaW.PrintWords Go.Proofs.YtppenjoobcppjaaW.PrintLast Go.Proofs.YtppenjoobcppjaaW.PrintMore Go.Proofs.Ytppenjoobcppjaa.Ev
set_option linter.unusedVariables false
set_option linter.unusedSimpArgs false

/-! ### the law's helpers on bools -/
theorem eqBoolS_l0 (l : List Bool) (hl : l.length ≤ 1048576) : ∀ (d i : Nat), l.length - i = d → i ≤ l.length → Evt (fun k => laws_eqBoolS.l0 k l l (i : Int)) true := by
  intro d
  induction d with
  | zero =>
    intro i hd hi
    refine Evt.succ ?_
    simp only [laws_eqBoolS.l0]
    exact Evt.neg (by omega) (Evt.ret _)
  | succ d ih =>
    intro i hd hi
    have hw : wrap64 ((i : Int) + 1) = ((i + 1 : Nat) : Int) := by rw [wrap_id (by omega) (by omega)]; rfl
    refine Evt.succ ?_
    simp only [laws_eqBoolS.l0, hw]
    refine Evt.pos (by omega) (Evt.pos (by omega) (Evt.pos (by omega) (Evt.neg (by simp) (ih (i + 1) (by omega) (by omega)))))
theorem eqBoolS_ev (l : List Bool) (hl : l.length ≤ 1048576) : ∃ k, laws_eqBoolS.f k l l = some true := by
  refine Evt.get (g := fun k => laws_eqBoolS.f k l l) ?_
  unfold laws_eqBoolS.f
  exact Evt.pos rfl (eqBoolS_l0 l hl l.length 0 (by omega) (by omega))
/-- The marks of bools. -/
def bmarks (n : Nat) : List Bool := (List.range n).map fun (i : Nat) => (Int.tmod (1 + (i : Int)) 3 == 0)
theorem bmarks_length (n : Nat) : (bmarks n).length = n := by simp [bmarks]
theorem bmarks_at (n i : Nat) (h : i < n) : (bmarks n).getD i false = (Int.tmod (1 + (i : Int)) 3 == 0) := by
  rw [getD_lt _ _ _ (by rw [bmarks_length]; exact h)]
  simp [bmarks]
theorem markBoolS_l0 (n : Nat) (hl : n ≤ 1048576) : ∀ (d i : Nat) (l : List Bool), n - i = d → i ≤ n → l.length = n → (∀ j, j < i → l.getD j false = (bmarks n).getD j false) →
    Evt (fun k => laws_markBoolS.l0 k l (1 + (i : Int)) (i : Int)) (1 + (n : Int), bmarks n) := by
  intro d
  induction d with
  | zero =>
    intro i l hd hi hn hj
    have : i = n := by omega
    subst this
    have e : l = bmarks i := by
      apply List.ext_getElem
      · rw [hn, bmarks_length]
      · intro j h1 h2
        have := hj j (by omega)
        rwa [getD_lt _ _ _ h1, getD_lt _ _ _ h2] at this
    refine Evt.succ ?_
    simp only [laws_markBoolS.l0]
    exact Evt.neg (by omega) ((Evt.ret _).cast (by rw [e]))
  | succ d ih =>
    intro i l hd hi hn hj
    have hw : wrap64 ((i : Int) + 1) = ((i + 1 : Nat) : Int) := by rw [wrap_id (by omega) (by omega)]; rfl
    have hw2 : wrap64 (1 + (i : Int) + 1) = 1 + ((i + 1 : Nat) : Int) := by rw [wrap_id (by omega) (by omega)]; omega
    refine Evt.succ ?_
    simp only [laws_markBoolS.l0, hw, hw2, Int.toNat_natCast]
    refine Evt.pos (by omega) (Evt.pos (by omega) ?_)
    refine ih (i + 1) _ (by omega) (by omega) (by rw [List.length_set]; exact hn) (fun j hji => ?_)
    by_cases e : i = j
    · subst e
      rw [getD_set_self _ _ _ _ (by omega), bmarks_at n i (by omega)]
    · rw [getD_set_ne _ _ _ _ _ e]
      exact hj j (by omega)
theorem markBoolS_ev (l : List Bool) (hl : l.length ≤ 1048576) : ∃ k, laws_markBoolS.f k l 1 = some (1 + (l.length : Int), bmarks l.length) := by
  refine Evt.get (g := fun k => laws_markBoolS.f k l 1) ?_
  exact markBoolS_l0 l.length hl l.length 0 l (by omega) (by omega) rfl (fun j hj => by omega)
theorem heldBoolS_l0 (n : Nat) (hl : n ≤ 1048576) : ∀ (d i : Nat), n - i = d → i ≤ n → Evt (fun k => laws_heldBoolS.l0 k (bmarks n) (1 + (i : Int)) (i : Int)) (1 + (n : Int)) := by
  intro d
  induction d with
  | zero =>
    intro i hd hi
    have : i = n := by omega
    subst this
    refine Evt.succ ?_
    simp only [laws_heldBoolS.l0, bmarks_length]
    exact Evt.neg (by omega) (Evt.ret _)
  | succ d ih =>
    intro i hd hi
    have hw : wrap64 ((i : Int) + 1) = ((i + 1 : Nat) : Int) := by rw [wrap_id (by omega) (by omega)]; rfl
    have hw2 : wrap64 (1 + (i : Int) + 1) = 1 + ((i + 1 : Nat) : Int) := by rw [wrap_id (by omega) (by omega)]; omega
    have hrd : rdOf false (bmarks n) (i : Int) = (Int.tmod (1 + (i : Int)) 3 == 0) := by
      unfold rdOf
      rw [Int.toNat_natCast, bmarks_at n i (by omega)]
    refine Evt.succ ?_
    simp only [laws_heldBoolS.l0, hw, hw2, bmarks_length, hrd]
    exact Evt.pos (by omega) (Evt.pos (by omega) (Evt.neg (by simp) (ih (i + 1) (by omega) (by omega))))
theorem heldBoolS_ev (n : Nat) (hl : n ≤ 1048576) : ∃ k, laws_heldBoolS.f k (bmarks n) 1 = some (1 + (n : Int)) := by
  refine Evt.get (g := fun k => laws_heldBoolS.f k (bmarks n) 1) ?_
  exact heldBoolS_l0 n hl n 0 (by omega) (by omega)

/-! ### what the two come to -/
def stR (l : List S93) : List Bool := if okS l = true then stList l else []
theorem stR_length (l : List S93) : (stR l).length ≤ l.length := by
  unfold stR
  split
  · simp [stList]
  · simp
theorem stList_eq {l : List S93} {bs : List Bool} (hS : Stood l bs 0) (hu : Undos l) : bs = stList l := by
  have hl := hS.1
  apply List.ext_getElem
  · rw [hl]; simp [stList]
  · intro i h1 h2
    have := stands_at hS hu i (by omega)
    rw [getD_lt _ _ _ h1] at this
    simp only [stList, List.getElem_map, List.getElem_range]
    exact this.symm
theorem specStanding_ev (l : List S93) (hl : l.length ≤ 1048576) (hc : ∀ i, i < l.length → (rd_T93 l i).f1.length ≤ 1048576) : ∃ k, spec_Standing.f k l = some (stR l) := by
  refine Evt.get (g := fun k => spec_Standing.f k l) ?_
  unfold spec_Standing.f stR
  refine Evt.bind (steps_ev l (by omega) (fun i hi => by have := hc i hi; omega)) ?_
  by_cases h : okS l = true
  · refine Evt.pos h ?_
    rw [if_pos h]
    obtain ⟨bs, hb, hS⟩ := standing_ev l (by omega)
    rw [← stList_eq hS (undos_okS h)]
    exact Evt.bind hb (Evt.ret _)
  · refine Evt.neg h ?_
    rw [if_neg h]
    exact Evt.ret _
theorem asSaid_k (l : List S93) (hl : l.length ≤ 1048576) (hc : ∀ i, i < l.length → (rd_T93 l i).f1.length ≤ 1048576) : ∃ k, impl_asSaid.f k l = some (okS l) :=
  (asSaid_ev l (by omega) (fun i hi => by have := hc i hi; omega)).get
theorem implStanding_calls (A0 : Option Addr) (c0 : Nat) (l : List S93) (w : World) (hr0 : Kd.C k93 w A0 l.length l) (hc0 : l.length ≤ c0) (hl : l.length ≤ 1048576) (hc : ∀ i, i < l.length → (rd_T93 l i).f1.length ≤ 1048576) :
    Calls Try.prog 42 #[.slice A0 l.length c0] w fun e w' => (∃ v, e = .returned v ∧ Kd.R Kd.bool 4 w' w.heap.size (fun _ => True) v (stR l)) ∧ Below w.heap.size w w' := by
  obtain ⟨k, hk⟩ := asSaid_k l hl hc
  exact standing42 A0 c0 l w hr0 hc0 k (okS l) hk (fun h => undos_okS h)

theorem toStepS_c (A : Option Addr) (c : Nat) (l : List S89) (W : World) (hr : Kd.C k89 W A l.length l) (hcap : l.length ≤ c) (hl : l.length ≤ 1048576) (hc : ∀ j, j < l.length → (rd_T89 l j).f1.length ≤ 1048576) :
    Calls Try.prog 17 #[.slice A l.length c] W fun e w' => (∃ A2 c2, e = .returned (.slice A2 (l.map cvSt).length c2) ∧ Kd.S k93 93 w' W.heap.size (fun _ => True) (.slice A2 (l.map cvSt).length c2) (l.map cvSt)) ∧ Below W.heap.size W w' := by
  obtain ⟨k, hk⟩ := (toStepS_ev l hl hc).get
  refine (laws_toStepS.calls k A c l _ W hr hcap hk).mono ?_
  rintro e w' ⟨v, rfl, hs, hb⟩
  obtain ⟨A2, c2, rfl⟩ := Kd.S_slice hs
  exact ⟨⟨A2, c2, rfl, hs⟩, hb⟩
theorem specStanding_c (A : Option Addr) (c : Nat) (l : List S93) (W : World) (hr : Kd.C k93 W A l.length l) (hcap : l.length ≤ c) (hl : l.length ≤ 1048576) (hc : ∀ j, j < l.length → (rd_T93 l j).f1.length ≤ 1048576) :
    Calls Try.prog 41 #[.slice A l.length c] W fun e w' => (∃ A2 c2, e = .returned (.slice A2 (stR l).length c2) ∧ Kd.R Kd.bool 4 w' W.heap.size (fun _ => True) (.slice A2 (stR l).length c2) (stR l)) ∧ Below W.heap.size W w' := by
  obtain ⟨k, hk⟩ := specStanding_ev l hl hc
  refine (spec_Standing.calls k A c l _ W hr hcap hk).mono ?_
  rintro e w' ⟨v, rfl, hs, hb⟩
  obtain ⟨A2, c2, rfl⟩ := Kd.R_slice hs
  exact ⟨⟨A2, c2, rfl, hs⟩, hb⟩
theorem implStanding_c (A : Option Addr) (c : Nat) (l : List S93) (W : World) (hr : Kd.C k93 W A l.length l) (hcap : l.length ≤ c) (hl : l.length ≤ 1048576) (hc : ∀ j, j < l.length → (rd_T93 l j).f1.length ≤ 1048576) :
    Calls Try.prog 42 #[.slice A l.length c] W fun e w' => (∃ A2 c2, e = .returned (.slice A2 (stR l).length c2) ∧ Kd.R Kd.bool 4 w' W.heap.size (fun _ => True) (.slice A2 (stR l).length c2) (stR l)) ∧ Below W.heap.size W w' := by
  refine (implStanding_calls A c l W hr hcap hl hc).mono ?_
  rintro e w' ⟨⟨v, rfl, hs⟩, hb⟩
  obtain ⟨A2, c2, rfl⟩ := Kd.R_slice hs
  exact ⟨⟨A2, c2, rfl, hs⟩, hb⟩
theorem eqBoolS_c (A : Option Addr) (c : Nat) (A1 : Option Addr) (c1 : Nat) (l : List Bool) (W : World) (hr : Kd.C Kd.bool W A l.length l) (hcap : l.length ≤ c) (hr1 : Kd.C Kd.bool W A1 l.length l) (hcap1 : l.length ≤ c1) (hl : l.length ≤ 1048576) :
    Calls Try.prog 43 #[.slice A l.length c, .slice A1 l.length c1] W fun e w' => e = .returned (.bool true) ∧ Below W.heap.size W w' := by
  obtain ⟨k, hk⟩ := eqBoolS_ev l hl
  exact (laws_eqBoolS.calls k A c l A1 c1 l true W hr hcap hr1 hcap1 hk).mono fun e w' ⟨he, hd⟩ => ⟨he, hd.below⟩
theorem heldBoolS_c (A : Option Addr) (c n : Nat) (W : World) (hr : Kd.C Kd.bool W A (bmarks n).length (bmarks n)) (hcap : (bmarks n).length ≤ c) (hn : n ≤ 1048576) :
    Calls Try.prog 46 #[.slice A (bmarks n).length c, .int .i64 1] W fun e w' => e = .returned (.int .i64 (1 + (n : Int))) ∧ Below W.heap.size W w' := by
  obtain ⟨k, hk⟩ := heldBoolS_ev n hn
  exact (laws_heldBoolS.calls k A c (bmarks n) 1 _ W hr hcap hk).mono fun e w' ⟨he, hd⟩ => ⟨he, hd.below⟩

theorem heldBoolS_d (A : Option Addr) (c n : Nat) (W : World) (b : Nat) (ok : Nat → Prop) (hr : Kd.R Kd.bool 4 W b ok (.slice A n c) (bmarks n)) (hn : n ≤ 1048576) :
    Calls Try.prog 46 #[.slice A n c, .int .i64 1] W fun e w' => e = .returned (.int .i64 (1 + (n : Int))) ∧ Below W.heap.size W w' := by
  have e := bmarks_length n
  have h := Kd.R_reads' hr
  have h2 := heldBoolS_c A c n W h.2.2 (by omega) hn
  rw [e] at h2
  exact h2

set_option maxRecDepth 100000 in
set_option maxHeartbeats 3200000 in
theorem law9 (A0 : Option Addr) (c0 : Nat) (l0 : List S89) (w : World) (hr0 : Kd.C k89 w A0 l0.length l0) (hc0 : l0.length ≤ c0) (hg : l0.length ≤ maxLen ∧ ∀ y ∈ l0, good89 y) :
    Calls Try.prog 9 #[.slice A0 l0.length c0] w fun e w' => e = .returned (.bool true) ∧ Below w.heap.size w w' := by
  obtain ⟨r, hr, hr2⟩ := szStepS_ev l0 hg.1 hg.2
  obtain ⟨k, hk⟩ := hr.get
  have HSZ := Aside0.mk (laws_szStepS.calls k A0 c0 l0 1048576 r w hr0 hc0 hk)
  clear hr hk hg
  by_cases hneg : r < 0
  · clear hr2
    go_enter Try.func9, Try.ntmps9
    go_wp2_with (go_at_call 15; refine HSZ.out.mono ?_; rintro e w2 ⟨rfl, hb2⟩)
    go_ret
    exact ⟨rfl, hb2⟩
  · obtain ⟨hl, hc⟩ := hr2 (by omega)
    have hl' : (l0.map cvSt).length ≤ 1048576 := by rw [List.length_map]; exact hl
    have hc' : ∀ j, j < (l0.map cvSt).length → (rd_T93 (l0.map cvSt) j).f1.length ≤ 1048576 := by
      intro j hj
      rw [List.length_map] at hj
      rw [cvSt_len l0 j hj]
      exact hc j hj
    have hrl := stR_length (l0.map cvSt)
    have HR0 := Aside0.mk hr0
    have HC0 := Aside0.mk hc0
    have HL := Aside0.mk hl
    have HC := Aside0.mk hc
    have HL' := Aside0.mk hl'
    have HC' := Aside0.mk hc'
    have HRL := Aside0.mk (show (stR (l0.map cvSt)).length ≤ 1048576 by omega)
    clear hr0 hc0 hl hc hl' hc' hrl hr2
    obtain ⟨ls, hls⟩ : ∃ ls, ls = l0.map cvSt := ⟨_, rfl⟩
    obtain ⟨bs, hbs⟩ : ∃ bs, bs = stR ls := ⟨_, rfl⟩
    rw [← hls] at HL' HC' HRL
    rw [← hbs] at HRL
    have hto := fun W h => toStepS_c A0 c0 l0 W h HC0.out HL.out HC.out
    rw [← hls] at hto
    have hsp := fun A c W h1 h2 => specStanding_c A c ls W h1 h2 HL'.out HC'.out
    have him := fun A c W h1 h2 => implStanding_c A c ls W h1 h2 HL'.out HC'.out
    rw [← hbs] at hsp him
    have HTO := Aside0.mk hto
    have HSP := Aside0.mk hsp
    have HIM := Aside0.mk him
    clear hto hsp him hls hbs
    go_enter Try.func9, Try.ntmps9
    go_wp2_with (fail)
    refine HSZ.out.mono ?_
    rintro e w1 ⟨rfl, hb1⟩
    have HB1 := Aside0.mk hb1
    clear hb1
    go_wp2_with (fail)
    refine (HTO.out w1 (Kd.C_below HR0.out HB1.out)).mono ?_
    rintro e w2 ⟨⟨A2, c2, rfl, hs2⟩, hb2⟩
    have HB2 := Aside0.mk (below_step HB1.out hb2)
    have HS2 := Aside0.mk hs2
    clear hb2 hs2
    go_wp2_with (fail)
    refine (HSP.out A2 c2 w2 (Kd.S_reads' HS2.out).2.2 (Kd.S_reads' HS2.out).2.1).mono ?_
    rintro e w3 ⟨⟨A3, c3, rfl, hs3⟩, hb3⟩
    have HB3 := Aside0.mk (below_step HB2.out hb3)
    have HS3 := Aside0.mk hs3
    clear hb3 hs3
    go_wp2_with (fail)
    -- x0
    refine (HTO.out w3 (Kd.C_below HR0.out HB3.out)).mono ?_
    rintro e w4 ⟨⟨A4, c4, rfl, hs4⟩, hb4⟩
    have HB4 := Aside0.mk (below_step HB3.out hb4)
    have HS4 := Aside0.mk hs4
    have HW4 := Aside0.mk (Kd.R_mono (ok' := fun k => k < w4.heap.size) (Kd.R_bound (Kd.R_below HS3.out hb4)) (fun k hk => hk.2.2.1))
    have HZ34 := Aside0.mk hb4.size
    clear hb4 hs4 HS3 HS2
    go_wp2_with (fail)
    -- g0
    refine (HIM.out A4 c4 w4 (Kd.S_reads' HS4.out).2.2 (Kd.S_reads' HS4.out).2.1).mono ?_
    rintro e w5 ⟨⟨A5, c5, rfl, hs5⟩, hb5⟩
    have HB5 := Aside0.mk (below_step HB4.out hb5)
    have HS5 := Aside0.mk hs5
    have HW5 := Aside0.mk (Kd.R_below HW4.out hb5)
    have HX5 := Aside0.mk (Kd.S_below HS4.out hb5)
    have HZ35 := Aside0.mk (Nat.le_trans HZ34.out (Nat.le_refl _))
    clear hb5 hs5 HW4 HS4
    go_wp2_with (fail)
    -- eq
    refine (eqBoolS_c A5 c5 A3 c3 bs w5 (Kd.R_reads' HS5.out).2.2 (Kd.R_reads' HS5.out).2.1 (Kd.R_reads' HW5.out).2.2 (Kd.R_reads' HW5.out).2.1 HRL.out).mono ?_
    rintro e w6 ⟨rfl, hb6⟩
    have HB6 := Aside0.mk (below_step HB5.out hb6)
    have HG6 := Aside0.mk (Kd.R_below HS5.out hb6)
    have HW6 := Aside0.mk (Kd.R_below HW5.out hb6)
    have HX6 := Aside0.mk (Kd.S_below HX5.out hb6)
    clear hb6 HS5 HW5 HX5
    go_wp2_with (fail)
    -- the copy
    refine (HTO.out w6 (Kd.C_below HR0.out HB6.out)).mono ?_
    rintro e w7 ⟨⟨A7, c7, rfl, hs7⟩, hb7⟩
    have HB7 := Aside0.mk (below_step HB6.out hb7)
    have HS7 := Aside0.mk hs7
    have HG7 := Aside0.mk (Kd.R_below HG6.out hb7)
    have HW7 := Aside0.mk (Kd.R_below HW6.out hb7)
    have HX7 := Aside0.mk (Kd.S_below HX6.out hb7)
    clear hb7 hs7 HG6 HW6 HX6
    go_wp2_with (fail)
    obtain ⟨ke, hke⟩ := (eqStepS_ev ls HL'.out HC'.out).get
    refine (laws_eqStepS.calls ke A4 c4 ls A7 c7 ls true w7 (Kd.S_reads' HX7.out).2.2 (Kd.S_reads' HX7.out).2.1 (Kd.S_reads' HS7.out).2.2 (Kd.S_reads' HS7.out).2.1 hke).mono ?_
    rintro e w8 ⟨rfl, hb8⟩
    have HB8 := Aside0.mk (below_step HB7.out hb8)
    have HG8 := Aside0.mk (Kd.R_below HG7.out hb8)
    have HW8 := Aside0.mk (Kd.R_below HW7.out hb8)
    have HX8 := Aside0.mk (Kd.S_below HX7.out hb8)
    clear hb8 hke HG7 HW7 HX7 HS7
    go_wp2_with (fail)
    -- the marks in x0
    refine (markStepS_calls _ A4 c4 ls 1 w w8 HB8.out (Kd.S_lower (Kd.S_bound HX8.out) HB3.out.size) HL'.out HC'.out (by omega) (by omega)).mono ?_
    rintro e w9 ⟨⟨r9, rfl, hr9⟩, hb9, hk9⟩
    have hty : ∀ (k : Nat), (∃ q, q ∈ (4 : Nat) :: Kd.bool.E ∧ ∃ cells, w8.heap[k]? = some (.cells cells q (0, 0))) → ¬ (∃ q, q ∈ (93 : Nat) :: k93.E ∧ ∃ cells, w8.heap[k]? = some (.cells cells q (0, 0))) := by
      rintro k ⟨q, hq, cells, hc⟩ ⟨q', hq', cells', hc'⟩
      rw [hc] at hc'
      injection hc' with hc'
      injection hc' with _ hc'
      subst hc'
      have h1 : q = 4 := by simpa [Kd.bool, Kd.scalar] using hq
      subst h1
      revert hq'
      decide
    have HB9 := Aside0.mk hb9
    have HG9 := Aside0.mk (Kd.R_kept (Kd.R_bound HG8.out) hk9 (fun k hk hp => hty k hk.2.2.2 hp.2.2.2))
    have HW9 := Aside0.mk (Kd.R_mono (ok' := fun k => k < w4.heap.size) (Kd.R_kept (Kd.R_bound HW8.out) hk9 (fun k hk hp => hty k hk.2.2.2 hp.2.2.2)) (fun k hk => hk.1))
    clear hb9 hk9 HG8 HW8 HX8 hty
    go_wp2_with (fail)
    refine (eqBoolS_c A5 c5 A3 c3 bs w9 (Kd.R_reads' HG9.out).2.2 (Kd.R_reads' HG9.out).2.1 (Kd.R_reads' HW9.out).2.2 (Kd.R_reads' HW9.out).2.1 HRL.out).mono ?_
    rintro e w10 ⟨rfl, hb10⟩
    have HB10 := Aside0.mk (below_step HB9.out hb10)
    have HG10 := Aside0.mk (Kd.R_below HG9.out hb10)
    have HW10 := Aside0.mk (Kd.R_below HW9.out hb10)
    clear hb10 HG9 HW9
    go_wp2_with (fail)
    -- the marks in g0
    obtain ⟨km, hkm⟩ := markBoolS_ev bs HRL.out
    have HGT := Aside0.mk (Kd.R_tight rfl (Kd.R_lower HG10.out HB4.out.size))
    refine (laws_markBoolS.calls km _ _ bs 1 _ _ w w10 HB10.out HGT.out hkm).mono ?_
    rintro e w11 ⟨rfl, hg11, hb11, hk11⟩
    have HB11 := Aside0.mk hb11
    have HG11 := Aside0.mk hg11
    have HW11 := Aside0.mk (Kd.R_kept HW10.out hk11 (fun k hk hp => by have := Kd.R_base HG10.out k hp.symm; omega))
    clear hb11 hg11 hk11 hkm HGT HG10 HW10
    go_wp2_with (fail)
    refine (heldBoolS_d A5 c5 bs.length w11 _ _ HG11.out HRL.out).mono ?_
    rintro e w12 ⟨rfl, hb12⟩
    have HB12 := Aside0.mk (below_step HB11.out hb12)
    have HG12 := Aside0.mk (Kd.R_below HG11.out hb12)
    have HW12 := Aside0.mk (Kd.R_below HW11.out hb12)
    clear hb12 HG11 HW11
    go_wp2_with (fail)
    -- behind another call
    refine (HTO.out w12 (Kd.C_below HR0.out HB12.out)).mono ?_
    rintro e w13 ⟨⟨A13, c13, rfl, hs13⟩, hb13⟩
    have HB13 := Aside0.mk (below_step HB12.out hb13)
    have HS13 := Aside0.mk hs13
    have HG13 := Aside0.mk (Kd.R_below HG12.out hb13)
    have HW13 := Aside0.mk (Kd.R_below HW12.out hb13)
    clear hb13 hs13 HG12 HW12
    go_wp2_with (fail)
    refine (HIM.out A13 c13 w13 (Kd.S_reads' HS13.out).2.2 (Kd.S_reads' HS13.out).2.1).mono ?_
    rintro e w14 ⟨⟨A14, c14, rfl, hs14⟩, hb14⟩
    have HB14 := Aside0.mk (below_step HB13.out hb14)
    have HH14 := Aside0.mk hs14
    have HG14 := Aside0.mk (Kd.R_below HG13.out hb14)
    have HW14 := Aside0.mk (Kd.R_below HW13.out hb14)
    clear hb14 hs14 HG13 HW13 HS13
    go_wp2_with (fail)
    refine (eqBoolS_c A14 c14 A3 c3 bs w14 (Kd.R_reads' HH14.out).2.2 (Kd.R_reads' HH14.out).2.1 (Kd.R_reads' HW14.out).2.2 (Kd.R_reads' HW14.out).2.1 HRL.out).mono ?_
    rintro e w15 ⟨rfl, hb15⟩
    have HB15 := Aside0.mk (below_step HB14.out hb15)
    have HG15 := Aside0.mk (Kd.R_below HG14.out hb15)
    clear hb15 HG14 HW14 HH14
    go_wp2_with (fail)
    refine (heldBoolS_d A5 c5 bs.length w15 _ _ HG15.out HRL.out).mono ?_
    rintro e w16 ⟨rfl, hb16⟩
    have HB16 := Aside0.mk (below_step HB15.out hb16)
    clear hb16 HG15
    go_wp2
    go_ret
    exact ⟨rfl, HB16.out⟩
end Go.Proofs.Ytppenjoobcppjaa.PHist
