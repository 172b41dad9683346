/- What is without: good areas, apart from the other one and from each other, and together as many cells. -/
import Derived.Test.YtppenjoobcppjaaArFa
namespace Go.Proofs.Ytppenjoobcppjaa.PAr
open Go.RowKit Go.Proofs.YtppenjoobcppjaaW.PrintWords Go.Proofs.YtppenjoobcppjaaW.PrintLast Go.Proofs.YtppenjoobcppjaaW.PrintMore
set_option linter.unusedVariables false
set_option linter.unusedSimpArgs false

def cl (p : S40) : Int := cellsOf (mn p.f0.f0 p.f1.f0) (mn p.f0.f1 p.f1.f1) (mx p.f0.f0 p.f1.f0) (mx p.f0.f1 p.f1.f1)
def gd (p : S40) : Prop := goodA p.f0.f0 p.f0.f1 p.f1.f0 p.f1.f1 = true
def apn (p : S40) (y0 y1 y2 y3 : Int) : Prop := mtB (mx (mn p.f0.f0 p.f1.f0) y0) (mx (mn p.f0.f1 p.f1.f1) y1) (mn (mx p.f0.f0 p.f1.f0) y2) (mn (mx p.f0.f1 p.f1.f1) y3) = false
def ap (p q : S40) : Prop := apn p (mn q.f0.f0 q.f1.f0) (mn q.f0.f1 q.f1.f1) (mx q.f0.f0 q.f1.f0) (mx q.f0.f1 q.f1.f1)
def ssum : List S40 → Int
  | [] => 0
  | p :: t => cl p + ssum t
def PW (L : List S40) : Prop := ∀ i j, j < i → i < L.length → ap (L.getD i z40) (L.getD j z40)
theorem ssum_append (a b : List S40) : ssum (a ++ b) = ssum a + ssum b := by
  induction a with
  | nil => simp [ssum]
  | cons p t ih => simp only [List.cons_append, ssum, ih]; omega
theorem ssum_addO (ok : Bool) (xs : List S40) (p : S40) : ssum (addO ok xs p) = ssum xs + (if ok = true then cl p else 0) := by
  unfold addO
  split
  · rw [ssum_append]; simp [ssum]
  · simp
theorem all_addO {P : S40 → Prop} {ok : Bool} {xs : List S40} {p : S40} (h : ∀ q ∈ xs, P q) (hp : ok = true → P p) : ∀ q ∈ addO ok xs p, P q := by
  intro q hq
  unfold addO at hq
  split at hq
  · rename_i hk
    rcases List.mem_append.1 hq with h1 | h1
    · exact h q h1
    · rw [List.mem_singleton.1 h1]; exact hp hk
  · exact h q hq
theorem pw_addO {ok : Bool} {xs : List S40} {p : S40} (h : PW xs) (hp : ok = true → ∀ q ∈ xs, ap p q) : PW (addO ok xs p) := by
  unfold addO
  split
  · rename_i hk
    intro i j hj hi
    rw [List.length_append, List.length_singleton] at hi
    have hjl : j < xs.length := by omega
    have e2 : (xs ++ [p]).getD j z40 = xs.getD j z40 := by simp [List.getD_eq_getElem?_getD, List.getElem?_append_left hjl]
    rw [e2]
    by_cases hil : i < xs.length
    · have e1 : (xs ++ [p]).getD i z40 = xs.getD i z40 := by simp [List.getD_eq_getElem?_getD, List.getElem?_append_left hil]
      rw [e1]
      exact h i j hj hil
    · have hie : i = xs.length := by omega
      have e1 : (xs ++ [p]).getD i z40 = p := by subst hie; simp [List.getD_eq_getElem?_getD]
      rw [e1]
      refine hp hk _ ?_
      rw [List.getD_eq_getElem?_getD, List.getElem?_eq_getElem hjl]
      exact List.getElem_mem hjl
  · exact h
theorem mxmn (a b c d : Int) : mx a b ≤ mn c d ↔ (a ≤ c ∧ a ≤ d ∧ b ≤ c ∧ b ≤ d) := by
  unfold mx mn
  split <;> split <;> omega
theorem mn_le {a b : Int} (h : a ≤ b) : mn a b = a := by unfold mn; rw [if_neg (by omega)]
theorem mx_le {a b : Int} (h : a ≤ b) : mx a b = b := by unfold mx; split <;> omega
theorem apn_mk {r0 r1 r2 r3 y0 y1 y2 y3 : Int} (h : r0 ≤ r2) (h' : r1 ≤ r3) (hn : ¬ ((r0 ≤ y2 ∧ y0 ≤ r2) ∧ (r1 ≤ y3 ∧ y1 ≤ r3))) : apn (mkA r0 r1 r2 r3) y0 y1 y2 y3 := by
  unfold apn mtB mkA
  simp only [mn_le h, mn_le h', mx_le h, mx_le h']
  rw [decide_eq_false_iff_not, mxmn, mxmn]
  omega
theorem ap_mk {r0 r1 r2 r3 y0 y1 y2 y3 : Int} (h : r0 ≤ r2) (h' : r1 ≤ r3) (k : y0 ≤ y2) (k' : y1 ≤ y3) (hn : ¬ ((r0 ≤ y2 ∧ y0 ≤ r2) ∧ (r1 ≤ y3 ∧ y1 ≤ r3))) : ap (mkA r0 r1 r2 r3) (mkA y0 y1 y2 y3) := by
  unfold ap
  have e0 : mn (mkA y0 y1 y2 y3).f0.f0 (mkA y0 y1 y2 y3).f1.f0 = y0 := mn_le k
  have e1 : mn (mkA y0 y1 y2 y3).f0.f1 (mkA y0 y1 y2 y3).f1.f1 = y1 := mn_le k'
  have e2 : mx (mkA y0 y1 y2 y3).f0.f0 (mkA y0 y1 y2 y3).f1.f0 = y2 := mx_le k
  have e3 : mx (mkA y0 y1 y2 y3).f0.f1 (mkA y0 y1 y2 y3).f1.f1 = y3 := mx_le k'
  rw [e0, e1, e2, e3]
  exact apn_mk h h' hn
theorem gd_mk {r0 r1 r2 r3 : Int} (h : 1 ≤ r0 ∧ r0 ≤ 1000 ∧ 1 ≤ r1 ∧ r1 ≤ 200 ∧ 1 ≤ r2 ∧ r2 ≤ 1000 ∧ 1 ≤ r3 ∧ r3 ≤ 200) : gd (mkA r0 r1 r2 r3) := by
  unfold gd goodA mkA
  rw [decide_eq_true_eq]
  exact h
theorem cl_mk {r0 r1 r2 r3 : Int} (h : r0 ≤ r2) (h' : r1 ≤ r3) : cl (mkA r0 r1 r2 r3) = (r2 - r0 + 1) * (r3 - r1 + 1) := by
  unfold cl mkA cellsOf
  simp only [mn_le h, mn_le h', mx_le h, mx_le h']
theorem mtB_iff (a b c d : Int) : mtB a b c d = true ↔ (a ≤ c ∧ b ≤ d) := by unfold mtB; rw [decide_eq_true_eq]
theorem mx_cases (a b : Int) : a ≤ mx a b ∧ b ≤ mx a b ∧ (mx a b = a ∨ mx a b = b) := by unfold mx; split <;> omega
theorem mn_cases (a b : Int) : mn a b ≤ a ∧ mn a b ≤ b ∧ (mn a b = a ∨ mn a b = b) := by unfold mn; split <;> omega
theorem geo_meet (x0 x1 x2 x3 y0 y1 y2 y3 : Int) (h1 : 1 ≤ x0) (h2 : x0 ≤ x2) (h3 : x2 ≤ 1000) (h4 : 1 ≤ x1) (h5 : x1 ≤ x3) (h6 : x3 ≤ 200) (k1 : 1 ≤ y0) (k2 : y0 ≤ y2) (k3 : y2 ≤ 1000) (k4 : 1 ≤ y1) (k5 : y1 ≤ y3) (k6 : y3 ≤ 200)
    (hm : mtB (mx x0 y0) (mx x1 y1) (mn x2 y2) (mn x3 y3) = true) :
    (∀ p ∈ pieces x0 x1 x2 x3 y0 y1 y2 y3, gd p ∧ apn p y0 y1 y2 y3) ∧ PW (pieces x0 x1 x2 x3 y0 y1 y2 y3) ∧ cellsOf (mx x0 y0) (mx x1 y1) (mn x2 y2) (mn x3 y3) + ssum (pieces x0 x1 x2 x3 y0 y1 y2 y3) = cellsOf x0 x1 x2 x3 := by
  rw [mtB_iff] at hm
  obtain ⟨hm1, hm2⟩ := hm
  have a0 := mx_cases x0 y0
  have a1 := mx_cases x1 y1
  have a2 := mn_cases x2 y2
  have a3 := mn_cases x3 y3
  have a4 := mn_cases x2 (y0 - 1)
  have a5 := mx_cases x0 (y2 + 1)
  have a6 := mn_cases x3 (y1 - 1)
  have a7 := mx_cases x1 (y3 + 1)
  unfold pieces
  obtain ⟨m0, e0⟩ : ∃ z, z = mx x0 y0 := ⟨_, rfl⟩
  obtain ⟨m1, e1⟩ : ∃ z, z = mx x1 y1 := ⟨_, rfl⟩
  obtain ⟨m2, e2⟩ : ∃ z, z = mn x2 y2 := ⟨_, rfl⟩
  obtain ⟨m3, e3⟩ : ∃ z, z = mn x3 y3 := ⟨_, rfl⟩
  obtain ⟨c1, f1⟩ : ∃ z, z = mn x2 (y0 - 1) := ⟨_, rfl⟩
  obtain ⟨c2, f2⟩ : ∃ z, z = mx x0 (y2 + 1) := ⟨_, rfl⟩
  obtain ⟨c3, f3⟩ : ∃ z, z = mn x3 (y1 - 1) := ⟨_, rfl⟩
  obtain ⟨c4, f4⟩ : ∃ z, z = mx x1 (y3 + 1) := ⟨_, rfl⟩
  rw [← e0] at a0 hm1 ⊢
  rw [← e1] at a1 hm2 ⊢
  rw [← e2] at a2 hm1 ⊢
  rw [← e3] at a3 hm2 ⊢
  rw [← f1] at a4 ⊢
  rw [← f2] at a5 ⊢
  rw [← f3] at a6 ⊢
  rw [← f4] at a7 ⊢
  clear e0 e1 e2 e3 f1 f2 f3 f4
  refine ⟨?_, ?_, ?_⟩
  · refine all_addO (all_addO (all_addO (all_addO (fun q hq => by simp at hq) ?_) ?_) ?_) ?_
    all_goals (intro hk; rw [mtB_iff] at hk; exact ⟨gd_mk (by omega), apn_mk (by omega) (by omega) (by omega)⟩)
  · refine pw_addO (pw_addO (pw_addO (pw_addO (fun i j hj hi => by simp at hi) ?_) ?_) ?_) ?_
    · intro hk q hq; simp at hq
    · intro hk
      rw [mtB_iff] at hk
      refine all_addO (fun q hq => by simp at hq) ?_
      intro hk2; rw [mtB_iff] at hk2; exact ap_mk (by omega) (by omega) (by omega) (by omega) (by omega)
    · intro hk
      rw [mtB_iff] at hk
      refine all_addO (all_addO (fun q hq => by simp at hq) ?_) ?_
      all_goals (intro hk2; rw [mtB_iff] at hk2; exact ap_mk (by omega) (by omega) (by omega) (by omega) (by omega))
    · intro hk
      rw [mtB_iff] at hk
      refine all_addO (all_addO (all_addO (fun q hq => by simp at hq) ?_) ?_) ?_
      all_goals (intro hk2; rw [mtB_iff] at hk2; exact ap_mk (by omega) (by omega) (by omega) (by omega) (by omega))
  · rw [ssum_addO, ssum_addO, ssum_addO, ssum_addO]
    have T : ∃ t : Int, (if mtB x0 x1 c1 x3 = true then cl (mkA x0 x1 c1 x3) else 0) = t * (x3 - x1 + 1) ∧ t = m0 - x0 := by
      by_cases hk : mtB x0 x1 c1 x3 = true
      · rw [if_pos hk]; rw [mtB_iff] at hk
        exact ⟨c1 - x0 + 1, by rw [cl_mk (by omega) (by omega)], by omega⟩
      · rw [if_neg hk]; rw [mtB_iff] at hk
        exact ⟨0, by omega, by omega⟩
    have U : ∃ t : Int, (if mtB c2 x1 x2 x3 = true then cl (mkA c2 x1 x2 x3) else 0) = t * (x3 - x1 + 1) ∧ t = x2 - m2 := by
      by_cases hk : mtB c2 x1 x2 x3 = true
      · rw [if_pos hk]; rw [mtB_iff] at hk
        exact ⟨x2 - c2 + 1, by rw [cl_mk (by omega) (by omega)], by omega⟩
      · rw [if_neg hk]; rw [mtB_iff] at hk
        exact ⟨0, by omega, by omega⟩
    have V : ∃ t : Int, (if mtB m0 x1 m2 c3 = true then cl (mkA m0 x1 m2 c3) else 0) = (m2 - m0 + 1) * t ∧ t = m1 - x1 := by
      by_cases hk : mtB m0 x1 m2 c3 = true
      · rw [if_pos hk]; rw [mtB_iff] at hk
        exact ⟨c3 - x1 + 1, by rw [cl_mk (by omega) (by omega)], by omega⟩
      · rw [if_neg hk]; rw [mtB_iff] at hk
        exact ⟨0, by omega, by omega⟩
    have X : ∃ t : Int, (if mtB m0 c4 m2 x3 = true then cl (mkA m0 c4 m2 x3) else 0) = (m2 - m0 + 1) * t ∧ t = x3 - m3 := by
      by_cases hk : mtB m0 c4 m2 x3 = true
      · rw [if_pos hk]; rw [mtB_iff] at hk
        exact ⟨x3 - c4 + 1, by rw [cl_mk (by omega) (by omega)], by omega⟩
      · rw [if_neg hk]; rw [mtB_iff] at hk
        exact ⟨0, by omega, by omega⟩
    obtain ⟨t, et, ht⟩ := T
    obtain ⟨u, eu, hu⟩ := U
    obtain ⟨v, ev, hv⟩ := V
    obtain ⟨z, ez, hz⟩ := X
    rw [et, eu, ev, ez]
    unfold cellsOf ssum
    rw [show x2 - x0 + 1 = t + (m2 - m0 + 1) + u by omega]
    generalize hmid : m2 - m0 + 1 = mid
    rw [show mid * (m3 - m1 + 1) = mid * ((x3 - x1 + 1) - v - z) by congr 1; omega]
    generalize x3 - x1 + 1 = wd
    simp only [Int.mul_sub, Int.add_mul]
    omega
end Go.Proofs.Ytppenjoobcppjaa.PAr
