/- What the functions on steps come to, in plain words. -/
import Derived.Test.YtppenjoobcppjaaHsWalk
import Derived.Test.YtppenjoobcppjaaEv
import Derived.Test.YtppenjoobcppjaaPHistx0
import Derived.Test.YtppenjoobcppjaaPHistx1
import Derived.Test.YtppenjoobcppjaaPHistx2
import Derived.Test.YtppenjoobcppjaaPHistx3
import Derived.Test.YtppenjoobcppjaaPHistx4
import Derived.Test.YtppenjoobcppjaaPHistx5
namespace Go.Proofs.Ytppenjoobcppjaa.PHist
open Go.RowKit Go.Proofs.YtppenjoobcppjaaW.PrintWords Go.Proofs.Ytppenjoobcppjaa.Ev
set_option linter.unusedVariables false
set_option linter.unusedSimpArgs false

def goodCh (c : S142) : Bool := decide (1 ≤ c.f0 ∧ c.f0 ≤ 1000 ∧ 1 ≤ c.f1 ∧ c.f1 ≤ 200)
/-- All from index i on. -/
def allFrom {α : Type} (p : Nat → α → Bool) (i : Nat) (l : List α) : Bool := ((l.drop i).zipIdx i).all fun x => p x.2 x.1
theorem allFrom_end {α : Type} (p : Nat → α → Bool) (i : Nat) (l : List α) (h : l.length ≤ i) : allFrom p i l = true := by
  unfold allFrom
  rw [List.drop_eq_nil_of_le h]
  rfl
theorem allFrom_step {α : Type} (p : Nat → α → Bool) (i : Nat) (l : List α) (z : α) (h : i < l.length) : allFrom p i l = (p i (l.getD i z) && allFrom p (i + 1) l) := by
  unfold allFrom
  rw [List.drop_eq_getElem_cons h, getD_lt l i z h]
  simp only [List.zipIdx_cons, List.all_cons]
theorem allFrom_at {α : Type} {p : Nat → α → Bool} {l : List α} (z : α) (h : allFrom p 0 l = true) : ∀ i, i < l.length → p i (l.getD i z) = true := by
  intro i hi
  unfold allFrom at h
  rw [List.all_eq_true] at h
  have := h (l[i], i) (by
    rw [List.drop_zero, List.mem_iff_getElem?]
    exact ⟨i, by rw [List.getElem?_zipIdx, List.getElem?_eq_getElem hi]; simp⟩)
  rw [getD_lt l i z hi]
  exact this
def goodSt (i : Nat) (s : S93) : Bool :=
  decide (0 ≤ s.f0 ∧ s.f0 ≤ i ∧ (s.f0 = 0 → 1 ≤ s.f1.length ∧ s.f1.length ≤ 20) ∧ (s.f0 ≠ 0 → s.f1.length = 0)) && allFrom (fun _ c => goodCh c) 0 s.f1
def okS (l : List S93) : Bool := decide (l.length ≤ 60) && allFrom goodSt 0 l

theorem place_good (a b : Int) : impl_place_good.f a b = some (decide (1 ≤ a ∧ a ≤ 1000 ∧ 1 ≤ b ∧ b ≤ 200)) := by
  unfold impl_place_good.f
  repeat' split
  all_goals (congr 1; rw [eq_comm]; first | (rw [decide_eq_decide]; omega) | (rw [decide_eq_false_iff_not]; omega))
theorem l3Place (a b : Int) : spec_l3Place.f a b = some (decide (1 ≤ a ∧ a ≤ 1000 ∧ 1 ≤ b ∧ b ≤ 200)) := by
  unfold spec_l3Place.f spec_GoodRef.f
  repeat' split
  all_goals (simp only [Option.bind_some]; congr 1; rw [eq_comm]; first | (rw [decide_eq_decide]; omega) | (rw [decide_eq_false_iff_not]; omega))

/-! ### asSaid, l15Steps -/
theorem asSaid_l1 (l : List S93) (n i : Int) (cs : List S142) (hc : cs.length ≤ 9223372036854775807) (r : Bool)
    (hr : allFrom (fun _ c => goodCh c) 0 cs = true → Evt (fun k => impl_asSaid.l0 k l n (wrap64 (i + 1))) r) :
    ∀ (d j : Nat), cs.length - j = d → j ≤ cs.length → (allFrom (fun _ c => goodCh c) j cs = true → allFrom (fun _ c => goodCh c) 0 cs = true) →
      Evt (fun k => impl_asSaid.l1 k l n i cs (cs.length : Int) (j : Int)) (allFrom (fun _ c => goodCh c) j cs && r) := by
  intro d
  induction d with
  | zero =>
    intro j hd hj h
    have e := allFrom_end (fun _ c => goodCh c) j cs (by omega)
    refine Evt.succ ?_
    simp only [impl_asSaid.l1]
    refine Evt.neg (by omega) ?_
    rw [e, Bool.true_and]
    exact hr (h e)
  | succ d ih =>
    intro j hd hj h
    have hlt : j < cs.length := by omega
    have e := allFrom_step (fun _ c => goodCh c) j cs z142 hlt
    refine Evt.succ ?_
    simp only [impl_asSaid.l1]
    refine Evt.pos (by omega) (Evt.pos (by omega) (Evt.pos (by omega) ?_))
    refine Evt.bind (Evt.const (place_good _ _)) ?_
    by_cases hg : goodCh (cs.getD j z142) = true
    · refine Evt.pos (by simpa [goodCh, rd_T142] using hg) ?_
      rw [wrap_id (by omega) (by omega), e, hg, Bool.true_and]
      have := ih (j + 1) (by omega) (by omega) (fun h' => h (by rw [e, hg, h']; rfl))
      simpa using this
    · refine Evt.neg (by simpa [goodCh, rd_T142] using hg) ?_
      rw [e]
      simp only [hg, Bool.false_and]
      exact Evt.ret _

def partA (i : Nat) (s : S93) : Bool := decide (0 ≤ s.f0 ∧ s.f0 ≤ i ∧ (s.f0 = 0 → 1 ≤ s.f1.length ∧ s.f1.length ≤ 20) ∧ (s.f0 ≠ 0 → s.f1.length = 0))
theorem goodSt_eq (i : Nat) (s : S93) : goodSt i s = (partA i s && allFrom (fun _ c => goodCh c) 0 s.f1) := rfl

theorem asSaid_l0 (l : List S93) (hl : l.length ≤ 60) (hc : ∀ i, i < l.length → (rd_T93 l i).f1.length ≤ 9223372036854775807) :
    ∀ (d i : Nat), l.length - i = d → i ≤ l.length → Evt (fun k => impl_asSaid.l0 k l (l.length : Int) (i : Int)) (allFrom goodSt i l) := by
  intro d
  induction d with
  | zero =>
    intro i hd hi
    rw [allFrom_end goodSt i l (by omega)]
    refine Evt.succ ?_
    simp only [impl_asSaid.l0]
    exact Evt.neg (by omega) (Evt.ret _)
  | succ d ih =>
    intro i hd hi
    have hlt : i < l.length := by omega
    have hcs := hc i hlt
    rw [allFrom_step goodSt i l z93 hlt]
    have hs : l.getD i z93 = rd_T93 l i := by simp [rd_T93]
    rw [hs, goodSt_eq]
    have hih := ih (i + 1) (by omega) (by omega)
    obtain ⟨s, hse⟩ : ∃ s, rd_T93 l (i : Int) = s := ⟨_, rfl⟩
    rw [hse] at hcs ⊢
    have hl1 := asSaid_l1 l (l.length : Int) i s.f1 hcs (allFrom goodSt (i + 1) l) (fun _ => by rw [wrap_id (by omega) (by omega)]; exact hih) s.f1.length 0 (by omega) (by omega) (fun h => h)
    have key : ∀ b, b = !(partA i s) → Evt (fun k => impl_asSaid.j1 k l (l.length : Int) i b s.f0 s.f1) (partA i s && allFrom (fun _ c => goodCh c) 0 s.f1 && allFrom goodSt (i + 1) l) := by
      intro b hb
      refine Evt.succ ?_
      simp only [impl_asSaid.j1]
      cases hA : partA i s with
      | false =>
        refine Evt.pos (by rw [hb, hA]; rfl) ?_
        simp only [Bool.false_and]
        exact Evt.ret _
      | true =>
        refine Evt.neg (by rw [hb, hA]; simp) ?_
        rw [Bool.true_and]
        exact hl1
    refine Evt.succ ?_
    simp only [impl_asSaid.l0, hse]
    refine Evt.pos (by omega) (Evt.pos (by omega) (Evt.pos (by omega) ?_))
    by_cases h0 : s.f0 = 0
    · refine Evt.pos h0 ?_
      by_cases h1 : (s.f1.length : Int) < 1
      · exact Evt.pos h1 (key _ (by rw [eq_comm, Bool.not_eq_true']; exact decide_eq_false (by omega)))
      · refine Evt.neg h1 ?_
        by_cases h2 : (s.f1.length : Int) > 20
        · exact Evt.pos h2 (key _ (by rw [eq_comm, Bool.not_eq_true']; exact decide_eq_false (by omega)))
        · exact Evt.neg h2 (key _ (by rw [eq_comm, Bool.not_eq_false']; exact decide_eq_true (by omega)))
    · refine Evt.neg h0 ?_
      by_cases h1 : (s.f1.length : Int) = 0
      · refine Evt.pos h1 ?_
        by_cases h2 : s.f0 < 1
        · exact Evt.pos h2 (key _ (by rw [eq_comm, Bool.not_eq_true']; exact decide_eq_false (by omega)))
        · refine Evt.neg h2 (key _ ?_)
          unfold partA
          rw [← decide_not, decide_eq_decide]
          omega
      · exact Evt.neg h1 (key _ (by rw [eq_comm, Bool.not_eq_true']; exact decide_eq_false (by omega)))
theorem asSaid_ev (l : List S93) (hl : l.length ≤ 9223372036854775807) (hc : ∀ i, i < l.length → (rd_T93 l i).f1.length ≤ 9223372036854775807) : Evt (fun k => impl_asSaid.f k l) (okS l) := by
  unfold impl_asSaid.f okS
  by_cases h : (l.length : Int) > 60
  · refine Evt.pos h ?_
    rw [decide_eq_false (by omega), Bool.false_and]
    exact Evt.ret _
  · refine Evt.neg h ?_
    rw [decide_eq_true (by omega), Bool.true_and]
    exact asSaid_l0 l (by omega) hc l.length 0 (by omega) (by omega)

theorem steps_l1 (l : List S93) (n i : Int) (cs : List S142) (hc : cs.length ≤ 9223372036854775807) (r : Bool)
    (hr : allFrom (fun _ c => goodCh c) 0 cs = true → Evt (fun k => spec_l15Steps.l0 k l l n (wrap64 (i + 1))) r) :
    ∀ (d j : Nat), cs.length - j = d → j ≤ cs.length → (allFrom (fun _ c => goodCh c) j cs = true → allFrom (fun _ c => goodCh c) 0 cs = true) →
      Evt (fun k => spec_l15Steps.l1 k l l n i cs (cs.length : Int) (j : Int)) (allFrom (fun _ c => goodCh c) j cs && r) := by
  intro d
  induction d with
  | zero =>
    intro j hd hj h
    have e := allFrom_end (fun _ c => goodCh c) j cs (by omega)
    refine Evt.succ ?_
    simp only [spec_l15Steps.l1]
    refine Evt.neg (by omega) ?_
    rw [e, Bool.true_and]
    exact hr (h e)
  | succ d ih =>
    intro j hd hj h
    have hlt : j < cs.length := by omega
    have e := allFrom_step (fun _ c => goodCh c) j cs z142 hlt
    refine Evt.succ ?_
    simp only [spec_l15Steps.l1]
    refine Evt.pos (by omega) (Evt.pos (by omega) (Evt.pos (by omega) ?_))
    refine Evt.bind (Evt.const (l3Place _ _)) ?_
    by_cases hg : goodCh (cs.getD j z142) = true
    · refine Evt.pos (by simpa [goodCh, rd_T142] using hg) ?_
      rw [wrap_id (by omega) (by omega), e, hg, Bool.true_and]
      have := ih (j + 1) (by omega) (by omega) (fun h' => h (by rw [e, hg, h']; rfl))
      simpa using this
    · refine Evt.neg (by simpa [goodCh, rd_T142] using hg) ?_
      rw [e]
      simp only [hg, Bool.false_and]
      exact Evt.ret _
theorem steps_l0 (l : List S93) (hl : l.length ≤ 9223372036854775807) (hc : ∀ i, i < l.length → (rd_T93 l i).f1.length ≤ 9223372036854775807) :
    ∀ (d i : Nat), l.length - i = d → i ≤ l.length → Evt (fun k => spec_l15Steps.l0 k l l (l.length : Int) (i : Int)) (decide (l.length ≤ 60) && allFrom goodSt i l) := by
  intro d
  induction d with
  | zero =>
    intro i hd hi
    rw [allFrom_end goodSt i l (by omega), Bool.and_true]
    refine Evt.succ ?_
    simp only [spec_l15Steps.l0]
    refine Evt.neg (by omega) ?_
    refine Evt.const ?_
    congr 1
    rw [decide_eq_decide]
    omega
  | succ d ih =>
    intro i hd hi
    have hlt : i < l.length := by omega
    have hcs := hc i hlt
    rw [allFrom_step goodSt i l z93 hlt]
    have hs : l.getD i z93 = rd_T93 l i := by simp [rd_T93]
    rw [hs, goodSt_eq]
    have hih := ih (i + 1) (by omega) (by omega)
    obtain ⟨s, hse⟩ : ∃ s, rd_T93 l (i : Int) = s := ⟨_, rfl⟩
    rw [hse] at hcs ⊢
    have hl1 := steps_l1 l (l.length : Int) i s.f1 hcs (decide (l.length ≤ 60) && allFrom goodSt (i + 1) l) (fun _ => by rw [wrap_id (by omega) (by omega)]; exact hih) s.f1.length 0 (by omega) (by omega) (fun h => h)
    have key2 : 0 ≤ s.f0 ∧ s.f0 ≤ i → ∀ b, b = !(partA i s) → Evt (fun k => spec_l15Steps.j2 k l l (l.length : Int) i b s.f0 s.f1) (decide (l.length ≤ 60) && (partA i s && allFrom (fun _ c => goodCh c) 0 s.f1 && allFrom goodSt (i + 1) l)) := by
      intro _ b hb
      refine Evt.succ ?_
      simp only [spec_l15Steps.j2]
      cases hA : partA i s with
      | false =>
        refine Evt.pos (by rw [hb, hA]; rfl) ?_
        simp only [Bool.false_and, Bool.and_false]
        exact Evt.ret _
      | true =>
        refine Evt.neg (by rw [hb, hA]; simp) ?_
        rw [Bool.true_and]
        exact hl1.cast (by cases allFrom (fun _ c => goodCh c) 0 s.f1 <;> cases decide (l.length ≤ 60) <;> rfl)
    have key1 : ∀ b, b = !(decide (0 ≤ s.f0 ∧ s.f0 ≤ i)) → Evt (fun k => spec_l15Steps.j1 k l l (l.length : Int) i b s.f0 s.f1) (decide (l.length ≤ 60) && (partA i s && allFrom (fun _ c => goodCh c) 0 s.f1 && allFrom goodSt (i + 1) l)) := by
      intro b hb
      refine Evt.succ ?_
      simp only [spec_l15Steps.j1]
      by_cases hA : 0 ≤ s.f0 ∧ s.f0 ≤ i
      · refine Evt.neg (by rw [hb, decide_eq_true hA]; simp) ?_
        by_cases h0 : s.f0 > 0
        · refine Evt.pos h0 ?_
          by_cases h1 : (s.f1.length : Int) > 0
          · exact Evt.pos h1 (key2 hA _ (by rw [eq_comm, Bool.not_eq_true']; exact decide_eq_false (by omega)))
          · exact Evt.neg h1 (Evt.neg (by omega) (key2 hA _ (by rw [eq_comm, Bool.not_eq_false']; exact decide_eq_true (by omega))))
        · refine Evt.neg h0 (Evt.pos (by omega) ?_)
          by_cases h1 : (s.f1.length : Int) < 1
          · exact Evt.pos h1 (key2 hA _ (by rw [eq_comm, Bool.not_eq_true']; exact decide_eq_false (by omega)))
          · refine Evt.neg h1 (key2 hA _ ?_)
            unfold partA
            rw [← decide_not, decide_eq_decide]
            omega
      · refine Evt.pos (by rw [hb, decide_eq_false hA]; rfl) ?_
        have : partA i s = false := decide_eq_false (by omega)
        rw [this]
        simp only [Bool.false_and, Bool.and_false]
        exact Evt.ret _
    refine Evt.succ ?_
    simp only [spec_l15Steps.l0, hse]
    refine Evt.pos (by omega) (Evt.pos (by omega) (Evt.pos (by omega) ?_))
    by_cases h0 : s.f0 < 0
    · exact Evt.pos h0 (key1 _ (by rw [eq_comm, Bool.not_eq_true']; exact decide_eq_false (by omega)))
    · refine Evt.neg h0 (key1 _ ?_)
      rw [← decide_not, decide_eq_decide]
      omega
theorem steps_ev (l : List S93) (hl : l.length ≤ 9223372036854775807) (hc : ∀ i, i < l.length → (rd_T93 l i).f1.length ≤ 9223372036854775807) : Evt (fun k => spec_l15Steps.f k l) (okS l) := by
  unfold spec_l15Steps.f okS
  exact steps_l0 l hl hc l.length 0 (by omega) (by omega)

theorem undos_okS {l : List S93} (h : okS l = true) : Undos l := by
  unfold okS at h
  rw [Bool.and_eq_true, decide_eq_true_eq] at h
  refine ⟨h.1, fun j hj => ?_⟩
  have h2 := allFrom_at z93 h.2 j hj
  rw [goodSt_eq, Bool.and_eq_true] at h2
  have h3 : partA j (rd_T93 l j) = true := by
    have hs : l.getD j z93 = rd_T93 l j := by simp [rd_T93]
    rw [← hs]
    exact h2.1
  unfold partA at h3
  rw [decide_eq_true_eq] at h3
  exact ⟨h3.1, h3.2.1⟩

theorem undos_of {w : World} {A : Option Addr} {l : List S93} (hr : Kd.C k93 w A l.length l) {k : Nat} (h : impl_asSaid.f k l = some true) : Undos l := by
  have hl : l.length ≤ 9223372036854775807 := hr.2.1
  have hc : ∀ i, i < l.length → (rd_T93 l i).f1.length ≤ 9223372036854775807 := by
    intro i hi
    obtain ⟨ad, A1, c1, _, _, _, _, hC⟩ := at_T93 hr i (by omega) (by omega)
    exact hC.2.1
  obtain ⟨K, hK⟩ := asSaid_ev l hl hc
  have h1 := at_rounds (fun k => impl_asSaid.mono l k) (Nat.le_max_left k K) h
  have h2 : impl_asSaid.f (max k K) l = some (okS l) := hK (max k K) (Nat.le_max_right k K)
  rw [h2] at h1
  exact undos_okS (Option.some.inj h1)

/-! ### standing, as the specification has it -/
/-- No step from number j on that stands takes number i + 1 back. -/
def noHit (l : List S93) (bs : List Bool) (i j : Nat) : Bool := allFrom (fun q b => !(b && decide ((rd_T93 l q).f0 = (i : Int) + 1))) j bs
def Stood (l : List S93) (bs : List Bool) (i : Nat) : Prop := bs.length = l.length ∧ ∀ m, i ≤ m → m < l.length → bs.getD m false = noHit l bs m (m + 1)
theorem allFrom_set {α : Type} (p : Nat → α → Bool) (i j : Nat) (l : List α) (x : α) (h : i < j) : allFrom p j (l.set i x) = allFrom p j l := by
  unfold allFrom
  rw [List.drop_set_of_lt h]
theorem getD_set_self {α : Type} (l : List α) (i : Nat) (x z : α) (h : i < l.length) : (l.set i x).getD i z = x := by
  simp [List.getD_eq_getElem?_getD, h]
theorem getD_set_ne {α : Type} (l : List α) (i j : Nat) (x z : α) (h : i ≠ j) : (l.set i x).getD j z = l.getD j z := by
  simp [List.getD_eq_getElem?_getD, List.getElem?_set_ne h]

theorem standing_l1 (l : List S93) (hl : l.length ≤ 9223372036854775807) (bs : List Bool) (hb : bs.length = l.length) (i : Nat) (hi : i < l.length) (r : List Bool)
    (hr : ∀ b, b = noHit l bs i (i + 1) → Evt (fun k => spec_l15Standing.l0 k l (bs.set i b) (wrap64 ((i : Int) - 1))) r) :
    ∀ (d j : Nat) (b : Bool), l.length - j = d → i < j → j ≤ l.length → (b && noHit l bs i j) = noHit l bs i (i + 1) →
      Evt (fun k => spec_l15Standing.l1 k l (bs.set i b) (i : Int) (j : Int)) r := by
  intro d
  induction d with
  | zero =>
    intro j b hd hij hj h
    refine Evt.succ ?_
    simp only [spec_l15Standing.l1]
    refine Evt.neg (by omega) ?_
    refine hr b ?_
    rw [← h]
    unfold noHit
    rw [allFrom_end _ j bs (by omega), Bool.and_true]
  | succ d ih =>
    intro j b hd hij hj h
    have hlt : j < l.length := by omega
    have hstep : noHit l bs i j = (!(bs.getD j false && decide ((rd_T93 l j).f0 = (i : Int) + 1)) && noHit l bs i (j + 1)) := allFrom_step _ j bs false (by omega)
    have hw : wrap64 ((i : Int) + 1) = (i : Int) + 1 := wrap_id (by omega) (by omega)
    have hw2 : wrap64 ((j : Int) + 1) = ((j + 1 : Nat) : Int) := by rw [wrap_id (by omega) (by omega)]; rfl
    have hlen : (bs.set i b).length = l.length := by rw [List.length_set, hb]
    refine Evt.succ ?_
    simp only [spec_l15Standing.l1, hw, hw2, hlen]
    have hrd : rdOf false (bs.set i b) (j : Int) = bs.getD j false := by
      unfold rdOf
      rw [Int.toNat_natCast, getD_set_ne _ _ _ _ _ (by omega)]
    rw [hrd]
    refine Evt.pos (by omega) (Evt.pos (by omega) (Evt.pos (by omega) ?_))
    rw [hstep] at h
    by_cases h1 : bs.getD j false = true
    · refine Evt.pos h1 ?_
      by_cases h2 : (rd_T93 l j).f0 = (i : Int) + 1
      · refine Evt.pos h2 (Evt.pos (by omega) (Evt.pos (by omega) ?_))
        rw [Int.toNat_natCast, List.set_set]
        refine ih (j + 1) false (by omega) (by omega) (by omega) ?_
        rw [← h, h1, decide_eq_true h2]
        simp
      · refine Evt.neg h2 ?_
        refine ih (j + 1) b (by omega) (by omega) (by omega) ?_
        rw [← h, decide_eq_false h2]
        simp
    · refine Evt.neg h1 ?_
      refine ih (j + 1) b (by omega) (by omega) (by omega) ?_
      have h1' : bs.getD j false = false := by simpa using h1
      rw [← h, h1']
      simp
theorem standing_l0 (l : List S93) (hl : l.length ≤ 9223372036854775807) : ∀ (i : Nat) (bs : List Bool), i ≤ l.length → Stood l bs i → ∃ r, Evt (fun k => spec_l15Standing.l0 k l bs ((i : Int) - 1)) r ∧ Stood l r 0 := by
  intro i
  induction i with
  | zero =>
    intro bs hi hS
    refine ⟨bs, Evt.succ ?_, hS⟩
    simp only [spec_l15Standing.l0]
    exact Evt.neg (by omega) (Evt.ret _)
  | succ i ih =>
    intro bs hi hS
    have hlen := hS.1
    have hset : Stood l (bs.set i (noHit l bs i (i + 1))) i := by
      refine ⟨by rw [List.length_set]; exact hlen, fun m hm hml => ?_⟩
      have e : noHit l (bs.set i (noHit l bs i (i + 1))) m (m + 1) = noHit l bs m (m + 1) := allFrom_set _ i (m + 1) bs _ (by omega)
      rw [e]
      by_cases hmi : m = i
      · subst hmi
        exact getD_set_self _ _ _ _ (by omega)
      · rw [getD_set_ne _ _ _ _ _ (by omega)]
        exact hS.2 m (by omega) hml
    obtain ⟨r, hr, hrS⟩ := ih _ (by omega) hset
    refine ⟨r, Evt.succ ?_, hrS⟩
    have e1 : ((i + 1 : Nat) : Int) - 1 = (i : Int) := by omega
    have hw2 : wrap64 ((i : Int) + 1) = ((i + 1 : Nat) : Int) := by rw [wrap_id (by omega) (by omega)]; rfl
    simp only [spec_l15Standing.l0, e1, hw2]
    refine Evt.pos (by omega) (Evt.pos (by omega) (Evt.pos (by omega) ?_))
    rw [Int.toNat_natCast]
    refine standing_l1 l hl bs hlen i (by omega) r (fun b hb => ?_) (l.length - (i + 1)) (i + 1) true (by omega) (by omega) (by omega) (by simp)
    subst hb
    rw [wrap_id (by omega) (by omega)]
    exact hr
theorem standing_ev (l : List S93) (hl : l.length ≤ 281474976710656) : ∃ r, Evt (fun k => spec_l15Standing.f k l) r ∧ Stood l r 0 := by
  unfold spec_l15Standing.f
  obtain ⟨r, hr, hS⟩ := standing_l0 l (by omega) l.length (List.replicate l.length false) (Nat.le_refl _) ⟨by simp, fun m hm hml => by omega⟩
  refine ⟨r, Evt.pos (by omega) (Evt.pos (by omega) ?_), hS⟩
  rw [wrap_id (by omega) (by omega), Int.toNat_natCast]
  exact hr

/-! ### the two agree -/
theorem stg_stood {l : List S93} {bs : List Bool} (hS : Stood l bs 0) (hu : Undos l) : ∀ (j : Nat) (f : Int → Bool), j ≤ l.length →
    (∀ i, i < l.length → f ((i : Int) + 1) = noHit l bs i (max j (i + 1))) → ∀ i, i < l.length → stg l j f ((i : Int) + 1) = bs.getD i false := by
  intro j
  induction j with
  | zero =>
    intro f hj h i hi
    unfold stg
    rw [h i hi, hS.2 i (Nat.zero_le _) hi, Nat.max_eq_right (Nat.zero_le _)]
  | succ j ih =>
    intro f hj h i hi
    simp only [stg]
    refine ih _ (by omega) (fun m hm => ?_) i hi
    have hfj : f ((j : Int) + 1) = bs.getD j false := by
      rw [h j (by omega), Nat.max_self, ← hS.2 j (Nat.zero_le _) (by omega)]
    have huj := hu.2 j (by omega)
    have hfm := h m hm
    by_cases hmj : j ≤ m
    · rw [Nat.max_eq_right (by omega)] at hfm ⊢
      rw [← hfm]
      split
      · unfold upd
        rw [if_neg (by omega)]
      · rfl
    · have e1 : max j (m + 1) = j := by omega
      have e2 : max (j + 1) (m + 1) = j + 1 := by omega
      rw [e2] at hfm
      rw [e1]
      have hstep : noHit l bs m j = (!(bs.getD j false && decide ((rd_T93 l j).f0 = (m : Int) + 1)) && noHit l bs m (j + 1)) := allFrom_step _ j bs false (by rw [hS.1]; omega)
      rw [hstep, ← hfm, hfj]
      by_cases h2 : (rd_T93 l j).f0 = (m : Int) + 1
      · cases hb : bs.getD j false with
        | true =>
          rw [if_pos ⟨by omega, rfl⟩, decide_eq_true h2]
          unfold upd
          rw [if_pos h2.symm]
          rfl
        | false =>
          rw [if_neg (by simp)]
          simp
      · rw [decide_eq_false h2]
        simp only [Bool.and_false, Bool.not_false, Bool.true_and]
        split
        · unfold upd
          rw [if_neg (fun e => h2 e.symm)]
        · rfl
theorem stands_at {l : List S93} {bs : List Bool} (hS : Stood l bs 0) (hu : Undos l) (i : Nat) (hi : i < l.length) : stands l ((i : Int) + 1) = bs.getD i false := by
  refine stg_stood hS hu l.length _ (Nat.le_refl _) (fun m hm => ?_) i hi
  unfold noHit
  rw [allFrom_end _ _ bs (by rw [hS.1]; omega)]
  unfold allUp
  exact decide_eq_true (by omega)
end Go.Proofs.Ytppenjoobcppjaa.PHist
