/- Free days told twice, and a span cut in two. -/
import Derived.Test.YtppenjoobcppjaaWdSpecA
namespace Go.Proofs.Ytppenjoobcppjaa.PFnWorkdays
open Go.RowKit Go.Proofs.YtppenjoobcppjaaW.PrintWords Go.Proofs.Ytppenjoobcppjaa.Ev Go.Proofs.Ytppenjoobcppjaa.Bm
set_option linter.unusedVariables false
set_option linter.unusedSimpArgs false

/-- Each free day twice, once from behind: the first i rounds. -/
def tw (l : List Int) : Nat → List Int
  | 0 => []
  | i + 1 => tw l i ++ [rd l ((l.length : Int) - 1 - (i : Int)), rd l (i : Int)]
theorem tw_length (l : List Int) : ∀ i, (tw l i).length = 2 * i := by
  intro i
  induction i with
  | zero => rfl
  | succ i ih => simp [tw, ih]; omega
theorem tw_sub (l : List Int) : ∀ i, i ≤ l.length → ∀ f ∈ tw l i, f ∈ l := by
  intro i
  induction i with
  | zero => intro _ f hf; cases hf
  | succ i ih =>
    intro hi f hf
    unfold tw at hf
    rw [List.mem_append] at hf
    rcases hf with hf | hf
    · exact ih (by omega) f hf
    · have h1 := rd_mem l i (by omega)
      have h2 := rd_mem l (l.length - 1 - i) (by omega)
      rw [show ((l.length - 1 - i : Nat) : Int) = (l.length : Int) - 1 - (i : Int) by omega] at h2
      rcases List.mem_cons.mp hf with rfl | hf
      · exact h2
      · rcases List.mem_cons.mp hf with rfl | hf
        · exact h1
        · cases hf
theorem tw_in (l : List Int) (h : ∀ f ∈ l, InR f) : ∀ i, i ≤ l.length → ∀ f ∈ tw l i, InR f := fun i hi f hf => h f (tw_sub l i hi f hf)
theorem tw_has (l : List Int) : ∀ i j, j < i → rd l (j : Int) ∈ tw l i := by
  intro i
  induction i with
  | zero => intro j h; omega
  | succ i ih =>
    intro j h
    unfold tw
    rw [List.mem_append]
    by_cases e : j = i
    · subst e
      exact .inr (List.mem_cons_of_mem _ (List.mem_cons_self ..))
    · exact .inl (ih j (by omega))
theorem tw_all (l : List Int) (x : Int) (h : x ∈ l) : x ∈ tw l l.length := by
  obtain ⟨j, hj, e⟩ := List.mem_iff_getElem.mp h
  have := tw_has l l.length j hj
  unfold rd at this
  rw [Int.toNat_natCast, getD_lt _ _ _ hj, e] at this
  exact this

def uq (p : Int → Bool) : (Int → Bool) → List Int → List Int
  | _, [] => []
  | s, f :: l => if p f = true ∧ s f = false then f :: uq p (upd s f true) l else uq p (upd s f true) l
theorem cnt_uq (p : Int → Bool) : ∀ (l : List Int) (s : Int → Bool), cnt p s l = ((uq p s l).length : Int) := by
  intro l
  induction l with
  | nil => intro s; rfl
  | cons f l ih =>
    intro s
    unfold cnt uq
    rw [ih]
    split
    · rw [List.length_cons]; omega
    · omega
theorem mem_uq (p : Int → Bool) (x : Int) : ∀ (l : List Int) (s : Int → Bool), x ∈ uq p s l ↔ x ∈ l ∧ p x = true ∧ s x = false := by
  intro l
  induction l with
  | nil => intro s; simp [uq]
  | cons f l ih =>
    intro s
    have hu := ih (upd s f true)
    unfold uq
    by_cases e : x = f
    · subst e
      have hx : ¬ x ∈ uq p (upd s x true) l := fun h => by
        have := (hu.mp h).2.2
        simp [upd] at this
      split
      · rename_i hc
        exact ⟨fun _ => ⟨List.mem_cons_self .., hc.1, hc.2⟩, fun _ => List.mem_cons_self ..⟩
      · rename_i hc
        exact ⟨fun h => absurd h hx, fun h => absurd h.2 hc⟩
    · have hs : upd s f true x = s x := by unfold upd; rw [if_neg e]
      rw [hs] at hu
      have hcons : x ∈ f :: l ↔ x ∈ l := by
        rw [List.mem_cons]
        exact ⟨fun h => h.resolve_left e, .inr⟩
      rw [hcons]
      split
      · rw [List.mem_cons]
        exact ⟨fun h => hu.mp (h.resolve_left e), fun h => .inr (hu.mpr h)⟩
      · exact hu
theorem nodup_uq (p : Int → Bool) : ∀ (l : List Int) (s : Int → Bool), (uq p s l).Nodup := by
  intro l
  induction l with
  | nil => intro s; exact List.nodup_nil
  | cons f l ih =>
    intro s
    unfold uq
    split
    · rw [List.nodup_cons]
      refine ⟨fun h => ?_, ih _⟩
      have := ((mem_uq p f l (upd s f true)).mp h).2.2
      simp [upd] at this
    · exact ih _
theorem nodup_le : ∀ (l1 l2 : List Int), l1.Nodup → (∀ x ∈ l1, x ∈ l2) → l1.length ≤ l2.length := by
  intro l1
  induction l1 with
  | nil => intro l2 _ _; exact Nat.zero_le _
  | cons a t ih =>
    intro l2 hn hs
    rw [List.nodup_cons] at hn
    have ha := hs a (List.mem_cons_self ..)
    have h1 := ih (l2.erase a) hn.2 (fun x hx => by
      have hne : x ≠ a := fun e => hn.1 (e ▸ hx)
      exact (List.mem_erase_of_ne hne).mpr (hs x (List.mem_cons_of_mem _ hx)))
    rw [List.length_erase_of_mem ha] at h1
    have := List.length_pos_of_mem ha
    rw [List.length_cons]
    omega
theorem cnt_same (p s : Int → Bool) (l1 l2 : List Int) (h : ∀ x, x ∈ l1 ↔ x ∈ l2) : cnt p s l1 = cnt p s l2 := by
  rw [cnt_uq, cnt_uq]
  have h1 := nodup_le (uq p s l1) (uq p s l2) (nodup_uq p l1 s) (fun x hx => by rw [mem_uq] at hx ⊢; exact ⟨(h x).mp hx.1, hx.2⟩)
  have h2 := nodup_le (uq p s l2) (uq p s l1) (nodup_uq p l2 s) (fun x hx => by rw [mem_uq] at hx ⊢; exact ⟨(h x).mpr hx.1, hx.2⟩)
  omega
theorem wd_twice (a b : Int) (l : List Int) (h : l.length ≤ 400) : wd a b (tw l l.length) = wd a b l := by
  have ht := tw_length l l.length
  have hok : okD a b (tw l l.length) = okD a b l := by
    unfold okD
    rw [decide_eq_true (show (tw l l.length).length ≤ 1000 by omega), decide_eq_true (show l.length ≤ 1000 by omega)]
  have hs : ∀ x, x ∈ tw l l.length ↔ x ∈ l := fun x => ⟨tw_sub l l.length (Nat.le_refl _) x, tw_all l x⟩
  have hc : ∀ x y, core x y (tw l l.length) = core x y l := by
    intro x y
    unfold core
    rw [cnt_same (wk x y) none_ _ _ hs]
  unfold wd
  rw [hok, hc, hc]
theorem cnt_split (a m b : Int) (h0 : a ≤ m) (h1 : m < b) : ∀ (l : List Int) (s : Int → Bool), cnt (wk a b) s l = cnt (wk a m) s l + cnt (wk (m + 1) b) s l := by
  intro l
  induction l with
  | nil => intro s; rfl
  | cons f l ih =>
    intro s
    simp only [cnt]
    rw [ih]
    have key : (if wk a b f = true ∧ s f = false then (1 : Int) else 0) = (if wk a m f = true ∧ s f = false then 1 else 0) + (if wk (m + 1) b f = true ∧ s f = false then 1 else 0) := by
      by_cases hs : s f = false
      · simp only [hs, and_true, wk, decide_eq_true_eq]
        split <;> split <;> split <;> omega
      · simp [hs]
    rw [key]
    omega
theorem wd_split (a b m : Int) (l : List Int) (ha : isD a = true) (hb : isD b = true) (hl : l.length ≤ 400) (h0 : a ≤ m) (h1 : m < b) : wd a m l + wd (m + 1) b l = wd a b l := by
  have ha' : -1000000 ≤ a ∧ a ≤ 1000000 := of_decide_eq_true ha
  have hb' : -1000000 ≤ b ∧ b ≤ 1000000 := of_decide_eq_true hb
  have hok : ∀ x y, a ≤ x → x ≤ b → a ≤ y → y ≤ b → okD x y l = true := by
    intro x y h2 h3 h4 h5
    simp only [okD, isD, Bool.and_eq_true, decide_eq_true_eq]
    omega
  unfold wd
  rw [if_pos (hok a m (by omega) (by omega) (by omega) (by omega)), if_pos (hok (m + 1) b (by omega) (by omega) (by omega) (by omega)), if_pos (hok a b (by omega) (by omega) (by omega) (by omega)),
    if_neg (by omega), if_neg (by omega), if_neg (by omega)]
  unfold core
  have := cnt_split a m b h0 h1 l none_
  omega
end Go.Proofs.Ytppenjoobcppjaa.PFnWorkdays
