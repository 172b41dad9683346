/- What is drawn for Workdays: two days and free days of some kind. -/
import Derived.Test.YtppenjoobcppjaaWdImpl
import Derived.Laws.BitsLemmas
namespace Go.Proofs.Ytppenjoobcppjaa.PFnWorkdays
open Go.RowKit Go.Proofs.YtppenjoobcppjaaW.PrintWords Go.Proofs.YtppenjoobcppjaaW.PrintLast Go.Proofs.YtppenjoobcppjaaW.PrintMore Go.Proofs.Ytppenjoobcppjaa.Ev Go.Proofs.Ytppenjoobcppjaa.Bm
set_option linter.unusedVariables false
set_option linter.unusedSimpArgs false

theorem w64_range (x : Int) : InR (wrap64 x) := by
  unfold InR wrap64
  omega
theorem u64_range (x : Int) : 0 ≤ IntKind.u64.wrap x ∧ IntKind.u64.wrap x ≤ 18446744073709551615 := by
  rw [IntKind.wrap_u64]
  omega
theorem and255 (x : Int) (h0 : 0 ≤ x) (h1 : x < 18446744073709551616) : Go.bits .and .u64 x 255 = x % 256 :=
  Go.bits_mask .u64 64 (by decide) (fun n a b => by rw [IntKind.wrap_u64]; omega) 8 (by decide) x h0 (by omega)
theorem shr_and (s : Int) : 0 ≤ wrap64 (Go.bits .and .u64 (IntKind.u64.wrap s / 1099511627776) 255) ∧ wrap64 (Go.bits .and .u64 (IntKind.u64.wrap s / 1099511627776) 255) ≤ 255 := by
  have := u64_range s
  rw [and255 _ (by omega) (by omega), wrap_id (by omega) (by omega)]
  omega
def Bytes (code : List Int) : Prop := ∀ x ∈ code, 0 ≤ x ∧ x ≤ 255
theorem next_ex (code : List Int) (hb : Bytes code) (n s : Int) (h0 : 0 ≤ n) (h1 : n ≤ 1000000000000) : ∃ r s', spec_l1Cur_next.f code n s = some (r, n + 1, s') ∧ 0 ≤ r ∧ r ≤ 255 := by
  have hw : wrap64 (n + 1) = n + 1 := wrap_id (by omega) (by omega)
  unfold spec_l1Cur_next.f
  by_cases h : n < (code.length : Int)
  · have hm := hb _ (rd_mem code n.toNat (by omega))
    rw [show ((n.toNat : Nat) : Int) = n by omega] at hm
    have hr : wrap64 (rd code n) = rd code n := wrap_id (by omega) (by omega)
    rw [if_pos h, if_pos h0, hw, hr]
    by_cases h2 : n + 1 ≤ (code.length : Int)
    · rw [if_pos h2]
      exact ⟨_, _, rfl, hm.1, hm.2⟩
    · rw [if_neg h2]
      exact ⟨_, _, rfl, (shr_and _).1, (shr_and _).2⟩
  · rw [if_neg h, hw]
    by_cases h2 : n + 1 ≤ (code.length : Int)
    · rw [if_pos h2]
      exact ⟨_, _, rfl, by omega, by omega⟩
    · rw [if_neg h2]
      exact ⟨_, _, rfl, (shr_and _).1, (shr_and _).2⟩
theorem tmod_lt (x a : Int) (h0 : 0 ≤ x) (ha : 0 < a) : 0 ≤ Int.tmod x a ∧ Int.tmod x a < a := by
  rw [Int.tmod_eq_emod_of_nonneg h0]
  exact ⟨Int.emod_nonneg _ (by omega), Int.emod_lt_of_pos _ ha⟩
theorem pick_ex (code : List Int) (hb : Bytes code) (n s a : Int) (h0 : 0 ≤ n) (h1 : n ≤ 100000000000) (ha : 1 < a) : ∃ r n' s', spec_l1Cur_pick.f code n s a = some (r, n', s') ∧ 0 ≤ r ∧ r < a ∧ n ≤ n' ∧ n' ≤ n + 2 := by
  unfold spec_l1Cur_pick.f
  rw [if_neg (by omega)]
  obtain ⟨x, s1, e1, x0, x1⟩ := next_ex code hb n s h0 (by omega)
  rw [e1]
  simp only [Option.bind_some]
  by_cases hbig : a > 200
  · obtain ⟨y, s2, e2, y0, y1⟩ := next_ex code hb (n + 1) s1 (by omega) (by omega)
    have HW := Aside0.mk (show wrap64 (x * 256) = x * 256 from wrap_id (by omega) (by omega))
    have HW2 := Aside0.mk (show wrap64 (x * 256 + y) = x * 256 + y from wrap_id (by omega) (by omega))
    rw [if_pos hbig, e2]
    simp only [Option.bind_some]
    rw [if_neg (by omega), HW.out, HW2.out]
    have := tmod_lt (x * 256 + y) a (by omega) (by omega)
    exact ⟨_, _, _, rfl, this.1, this.2, by omega, by omega⟩
  · rw [if_neg hbig, if_neg (by omega)]
    have := tmod_lt x a x0 (by omega)
    exact ⟨_, _, _, rfl, this.1, this.2, by omega, by omega⟩
theorem one_ex (code : List Int) (hb : Bytes code) (n s a : Int) (h0 : 0 ≤ n) (h1 : n ≤ 100000000000) (ha : 1 < a) : ∃ r n' s', spec_l1Cur_one.f code n s a = some (r, n', s') ∧ n ≤ n' ∧ n' ≤ n + 2 := by
  obtain ⟨r, n', s', e, _, _, a1, a2⟩ := pick_ex code hb n s a h0 h1 ha
  unfold spec_l1Cur_one.f
  rw [e]
  exact ⟨_, _, _, rfl, a1, a2⟩
theorem wide_l0 (code : List Int) (hb : Bytes code) : ∀ (d i : Nat) (x n s : Int), 8 - i = d → i ≤ 8 → 0 ≤ n → n ≤ 100000000000 + i → ∃ r n' s', Evt (fun k => spec_l1Cur_wide.l0 k x (i : Int) code n s) (r, n', s') ∧ n ≤ n' ∧ n' ≤ n + d := by
  intro d
  induction d with
  | zero =>
    intro i x n s hd hi h0 h1
    refine ⟨x, n, s, Evt.succ ?_, by omega, by omega⟩
    simp only [spec_l1Cur_wide.l0]
    exact Evt.neg (by omega) (Evt.ret _)
  | succ d ih =>
    intro i x n s hd hi h0 h1
    have hw : wrap64 ((i : Int) + 1) = ((i + 1 : Nat) : Int) := by rw [wrap_id (by omega) (by omega)]; rfl
    obtain ⟨y, s1, e1, y0, y1⟩ := next_ex code hb n s h0 (by omega)
    obtain ⟨r, n', s', e, a1, a2⟩ := ih (i + 1) (Go.bits .or .u64 (IntKind.u64.wrap (x * 256)) (IntKind.u64.wrap y)) (n + 1) s1 (by omega) (by omega) (by omega) (by clear hw; omega)
    refine ⟨r, n', s', Evt.succ ?_, by omega, by clear hw; omega⟩
    simp only [spec_l1Cur_wide.l0, hw]
    exact Evt.pos (by omega) (Evt.bind (Evt.const e1) e)
theorem wide_ex (code : List Int) (hb : Bytes code) (n s : Int) (h0 : 0 ≤ n) (h1 : n ≤ 100000000000) : ∃ k r n' s', spec_l1Cur_wide.f k code n s = some (r, n', s') ∧ n ≤ n' ∧ n' ≤ n + 8 := by
  obtain ⟨r, n', s', e, a1, a2⟩ := wide_l0 code hb 8 0 0 n s rfl (by omega) h0 (by omega)
  obtain ⟨k, hk⟩ := e.get
  exact ⟨k, r, n', s', hk, a1, a2⟩
theorem day_ex (code : List Int) (hb : Bytes code) (n s : Int) (h0 : 0 ≤ n) (h1 : n ≤ 10000000000) : ∃ k r n' s', spec_l1Cur_day.f k code n s = some (r, n', s') ∧ n ≤ n' ∧ n' ≤ n + 10 := by
  obtain ⟨p, n1, s1, e1, p0, p1, q0, q1⟩ := pick_ex code hb n s 8 h0 (by omega) (by omega)
  obtain ⟨k, r3, n3, s3, e3, g1, g2⟩ := wide_ex code hb n1 s1 (by omega) (by omega)
  obtain ⟨r2, n2, s2, e2, a1, a2, a3, a4⟩ := pick_ex code hb n1 s1 8 (by omega) (by omega) (by omega)
  obtain ⟨r4, n4, s4, e4, b1, b2, b3, b4⟩ := pick_ex code hb n1 s1 2000001 (by omega) (by omega) (by omega)
  obtain ⟨r5, n5, s5, e5, c1, c2, c3, c4⟩ := pick_ex code hb n1 s1 9000 (by omega) (by omega) (by omega)
  refine ⟨k, ?_⟩
  unfold spec_l1Cur_day.f
  rw [e1]
  simp only [Option.bind_some]
  rw [e2, e3, e4, e5]
  simp only [Option.bind_some]
  by_cases h2 : p = 0
  · rw [if_pos h2, if_pos a1, if_pos (by show r2 < 8; omega)]
    exact ⟨_, _, _, rfl, by omega, by omega⟩
  · rw [if_neg h2]
    by_cases h3 : p = 1
    · rw [if_pos h3]
      exact ⟨_, _, _, rfl, by omega, by omega⟩
    · rw [if_neg h3]
      by_cases h4 : p = 2
      · rw [if_pos h4]
        exact ⟨_, _, _, rfl, by omega, by omega⟩
      · rw [if_neg h4]
        exact ⟨_, _, _, rfl, by omega, by omega⟩

/-- A reader of choices that has read at most m. -/
def Cur (w0 W : World) (g : Nat) (code : List Int) (m : Int) : Prop := ∃ n s, 0 ≤ n ∧ n ≤ m ∧ IsS81 w0 W g code n s
theorem day_c (code : List Int) (hb : Bytes code) (g : Nat) (w0 W : World) (m : Int) (hC : Cur w0 W g code m) (hB : Below w0.heap.size w0 W) (hm : m ≤ 1000000) :
    Calls Try.prog 54 #[.pointer (some ⟨g, 0, none⟩)] W fun e w' => (∃ r, e = .returned (.int .i64 r)) ∧ Cur w0 w' g code (m + 10) ∧ Below w0.heap.size w0 w' ∧ KeepBut W w' g none := by
  obtain ⟨n, s, h0, h1, hI⟩ := hC
  obtain ⟨k, r, n', s', e, a1, a2⟩ := day_ex code hb n s h0 (by omega)
  refine (spec_l1Cur_day.calls k g code n s r n' s' w0 W hI hB e).mono ?_
  rintro e w' ⟨rfl, hI2, hB2, hK⟩
  exact ⟨⟨r, rfl⟩, ⟨n', s', by omega, by omega, hI2⟩, hB2, hK⟩
theorem pick_c (code : List Int) (hb : Bytes code) (a : Int) (g : Nat) (w0 W : World) (m : Int) (hC : Cur w0 W g code m) (hB : Below w0.heap.size w0 W) (hm : m ≤ 1000000) (ha : 1 < a) :
    Calls Try.prog 55 #[.pointer (some ⟨g, 0, none⟩), .int .i64 a] W fun e w' => (∃ r, e = .returned (.int .i64 r) ∧ 0 ≤ r ∧ r < a) ∧ Cur w0 w' g code (m + 2) ∧ Below w0.heap.size w0 w' ∧ KeepBut W w' g none := by
  obtain ⟨n, s, h0, h1, hI⟩ := hC
  obtain ⟨r, n', s', e, r0, r1, a1, a2⟩ := pick_ex code hb n s a h0 (by omega) ha
  refine (spec_l1Cur_pick.calls g code n s a r n' s' w0 W hI hB e).mono ?_
  rintro e w' ⟨rfl, hI2, hB2, hK⟩
  exact ⟨⟨r, rfl, r0, r1⟩, ⟨n', s', by omega, by omega, hI2⟩, hB2, hK⟩
theorem one_c (code : List Int) (hb : Bytes code) (a : Int) (g : Nat) (w0 W : World) (m : Int) (hC : Cur w0 W g code m) (hB : Below w0.heap.size w0 W) (hm : m ≤ 1000000) (ha : 1 < a) :
    Calls Try.prog 56 #[.pointer (some ⟨g, 0, none⟩), .int .i64 a] W fun e w' => (∃ r, e = .returned (.bool r)) ∧ Cur w0 w' g code (m + 2) ∧ Below w0.heap.size w0 w' ∧ KeepBut W w' g none := by
  obtain ⟨n, s, h0, h1, hI⟩ := hC
  obtain ⟨r, n', s', e, a1, a2⟩ := one_ex code hb n s a h0 (by omega) ha
  refine (spec_l1Cur_one.calls g code n s a r n' s' w0 W hI hB e).mono ?_
  rintro e w' ⟨rfl, hI2, hB2, hK⟩
  exact ⟨⟨r, rfl⟩, ⟨n', s', by omega, by omega, hI2⟩, hB2, hK⟩
theorem Cur.apart {w0 W W2 : World} {g : Nat} {code : List Int} {m : Int} {base : Nat} {ok : Nat → Prop} {v : Value} {xs : List Int} (h : Cur w0 W g code m) (hk : KeepBut W W2 g none) (ho : (Kd.int .i64).R 3 W base ok v xs) : (Kd.int .i64).R 3 W2 base ok v xs := by
  obtain ⟨n, s, _, _, hI⟩ := h
  exact Kd.R_mono (Kd.R_keep (hI.apart ho (by intro q hq; simp [Kd.int, Kd.scalar] at hq; omega)) hk (fun k hk => hk.2)) (fun k hk => hk.1)
end Go.Proofs.Ytppenjoobcppjaa.PFnWorkdays
