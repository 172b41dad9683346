/- Marks written into steps: how many, and that nothing but the steps' own memory is written. -/
import Derived.Test.YtppenjoobcppjaaHsStep
import Derived.Test.YtppenjoobcppjaaPHistx9
namespace Go.Proofs.Ytppenjoobcppjaa.PHist
open Go.RowKit Go.Proofs.YtppenjoobcppjaaW.PrintWords Go.Proofs.YtppenjoobcppjaaW.PrintLast Go.Proofs.YtppenjoobcppjaaW.PrintMore Go.Proofs.Ytppenjoobcppjaa.Ev
set_option linter.unusedVariables false
set_option linter.unusedSimpArgs false

theorem one_byte (x : Int) : (strOfNums [x]).size = 1 := by
  simp [strOfNums, ByteArray.size]
theorem markText_l0 : ∀ (d : Nat) (x : Int) (s : ByteArray), x ≤ d → x ≤ 4611686018427387904 → s.size + d ≤ 4611686018427387904 → ∃ r, Evt (fun k => laws_markText.l0 k x s) r := by
  intro d
  induction d using Nat.strongRecOn with
  | _ d ih =>
    intro x s hx hm hs
    by_cases h0 : x > 0
    · have hd : Int.tdiv x 10 = x / 10 := Int.tdiv_eq_ediv_of_nonneg (by omega)
      have hw : wrap64 (Int.tdiv x 10) = x / 10 := by rw [hd]; exact wrap_id (by omega) (by omega)
      obtain ⟨r, hr⟩ := ih (d - 1) (by omega) (x / 10) (strOfNums [(wrap64 (48 + (Int.tmod x 10))) % 256] ++ s) (by omega) (by omega) (by rw [ByteArray.size_append, one_byte]; omega)
      refine ⟨r, Evt.succ ?_⟩
      simp only [laws_markText.l0, hw]
      refine Evt.pos h0 ?_
      refine Evt.bind (Evt.ret _) (Evt.pos (by rw [one_byte]; omega) hr)
    · refine ⟨(⟨#[109]⟩ : ByteArray) ++ s, Evt.succ ?_⟩
      simp only [laws_markText.l0]
      exact Evt.neg h0 (Evt.pos (by omega) (Evt.ret _))
theorem markText_ev (x : Int) (hx : x ≤ 4611686018427387904) : ∃ r, Evt (fun k => laws_markText.f k x) r := by
  unfold laws_markText.f
  by_cases h0 : x ≤ 0
  · exact ⟨_, Evt.pos h0 (Evt.ret _)⟩
  · obtain ⟨r, hr⟩ := markText_l0 x.toNat x ⟨#[]⟩ (by omega) hx (by simp [ByteArray.size]; omega)
    exact ⟨r, Evt.neg h0 hr⟩
theorem markChangeS_l0 : ∀ (d i : Nat) (l : List S142) (a : Int), l.length - i = d → i ≤ l.length → l.length ≤ 1048576 → 0 ≤ a → a + 3 * (d : Int) ≤ 4611686018427387904 →
    ∃ r, Evt (fun k => laws_markChangeS.l0 k l a (i : Int)) (a + 3 * (d : Int), r) ∧ r.length = l.length := by
  intro d
  induction d with
  | zero =>
    intro i l a hd hi hl h0 hm
    refine ⟨l, Evt.succ ?_, rfl⟩
    simp only [laws_markChangeS.l0]
    exact Evt.neg (by omega) ((Evt.ret _).cast (by simp))
  | succ d ih =>
    intro i l a hd hi hl h0 hm
    have hw : wrap64 ((i : Int) + 1) = ((i + 1 : Nat) : Int) := by rw [wrap_id (by omega) (by omega)]; rfl
    have hw1 : wrap64 (a + 1) = a + 1 := wrap_id (by omega) (by omega)
    have hw2 : wrap64 (a + 1 + 1) = a + 2 := by rw [wrap_id (by omega) (by omega)]; omega
    have hw3 : wrap64 (a + 2 + 1) = a + 3 := by rw [wrap_id (by omega) (by omega)]; omega
    obtain ⟨t, ht⟩ := markText_ev (a + 2) (by omega)
    obtain ⟨l1, hl1⟩ : ∃ l1 : List S142, l1 = l.set i (⟨a, (rd_T142 l i).f1, (rd_T142 l i).f2⟩ : S142) := ⟨_, rfl⟩
    obtain ⟨l2, hl2⟩ : ∃ l2 : List S142, l2 = l1.set i (⟨(rd_T142 l1 i).f0, a + 1, (rd_T142 l1 i).f2⟩ : S142) := ⟨_, rfl⟩
    obtain ⟨l3, hl3⟩ : ∃ l3 : List S142, l3 = l2.set i (⟨(rd_T142 l2 i).f0, (rd_T142 l2 i).f1, t⟩ : S142) := ⟨_, rfl⟩
    have hn : l3.length = l.length := by rw [hl3, hl2, hl1]; simp
    obtain ⟨r, hr, hrl⟩ := ih (i + 1) l3 (a + 3) (by omega) (by omega) (by omega) (by omega) (by omega)
    refine ⟨r, Evt.succ ?_, by omega⟩
    simp only [laws_markChangeS.l0, hw, hw1, hw2, hw3, Int.toNat_natCast]
    refine Evt.pos (by omega) (Evt.pos (by omega) ?_)
    rw [← hl1]
    refine Evt.bind (Evt.ret _) ?_
    rw [← hl2]
    refine Evt.bind (Evt.ret _) (Evt.bind ht ?_)
    rw [← hl3]
    exact hr.cast (by congr 1; omega)
theorem markChangeS_ev (l : List S142) (a : Int) (hl : l.length ≤ 1048576) (h0 : 0 ≤ a) (hm : a + 3 * (l.length : Int) ≤ 4611686018427387904) :
    ∃ r k, laws_markChangeS.f k l a = some (a + 3 * (l.length : Int), r) ∧ r.length = l.length := by
  obtain ⟨r, hr, h2⟩ := markChangeS_l0 l.length 0 l a (by omega) (by omega) hl h0 hm
  obtain ⟨k, hk⟩ := hr.get
  exact ⟨r, k, hk, h2⟩

/-- How far the marks of steps go. -/
def marked : List S93 → Int → Int
  | [], a => a
  | s :: l, a => marked l (a + 1 + 3 * (s.f1.length : Int))
theorem k93_M_int {w : World} {base : Nat} {ok : Nat → Prop} {x : S93} {cs : List Value} (h : k93.M w base ok x cs) (n : Int) : ∀ v1, cs = [.int .i64 x.f0, v1] → k93.M w base ok ⟨n, x.f1⟩ [.int .i64 n, v1] := by
  rintro v1 rfl
  obtain ⟨v, e, hR⟩ := k93_openM h
  injection e with _ e
  injection e with e
  subst e
  exact k93_mkM _ _ _ (⟨n, x.f1⟩ : S93) hR

set_option maxRecDepth 100000 in
set_option maxHeartbeats 1600000 in
theorem markStepS_calls (P0 : Nat → Prop) (A : Option Addr) (c : Nat) (l0 : List S93) (a : Int) (w0 w : World) (hB : Below w0.heap.size w0 w) (ho : Kd.S k93 93 w w0.heap.size P0 (.slice A l0.length c) l0)
    (hl : l0.length ≤ 1048576) (hc : ∀ j, j < l0.length → (rd_T93 l0 j).f1.length ≤ 1048576) (h0 : 0 ≤ a) (h1 : a ≤ 1048576) :
    Calls Try.prog 44 #[.slice A l0.length c, .int .i64 a] w fun e w' => (∃ r, e = .returned (.int .i64 r) ∧ 0 ≤ r) ∧ Below w0.heap.size w0 w' ∧ Kept w w' P0 := by
  have HB := Aside0.mk hB
  have HO := Aside0.mk (Kd.S_mono (ok' := fun k => P0 k ∨ w.heap.size ≤ k) ho (fun k hk => .inl hk))
  have HK := Aside0.mk (Kept.refl w P0)
  have HC := Aside0.mk hc
  clear hB ho hc
  go_enter Try.func44, Try.ntmps44
  go_wp2
  go_loopg [1, 5] l0.length (fun d v1 v5 wr => ∃ (j : Nat) (k : Int) (xs : List S93), v1 = .int .i64 k ∧ v5 = .int .i64 j ∧ j + d = l0.length ∧ xs.length = l0.length ∧ 0 ≤ k ∧ k ≤ 1048576 + 4194304 * (j : Int) ∧
    Aside0 (∀ i, i < l0.length → (rd_T93 xs i).f1.length ≤ 1048576) ∧ Aside0 (Kd.S k93 93 wr w0.heap.size (fun k => P0 k ∨ w.heap.size ≤ k) (.slice A l0.length c) xs) ∧ Aside0 (Below w0.heap.size w0 wr) ∧ Aside0 (Kept w wr P0))
  case atStart => exact ⟨0, a, l0, rfl, rfl, by omega, rfl, h0, by omega, HC, HO, HB, HK⟩
  case round =>
    clear HO HB HK HC h0 h1
    obtain ⟨j, k, xs, rfl, rfl, hjd, hxl, hk0, hk1, HC, HO, HB, HK⟩ := hrel
    by_cases hlt : j < l0.length
    · obtain ⟨g, cap, hv, hgb, hgl, _⟩ := Kd.S_form HO.out (by omega)
      obtain ⟨rfl, rfl⟩ : A = some ⟨g, 0, none⟩ ∧ c = cap := by
        injection hv with e1 _ e2
        exact ⟨e1, e2⟩
      clear hv
      have hokg : P0 g ∨ w.heap.size ≤ g := (Kd.S_R HO.out).1 g rfl
      obtain ⟨oki, ce, hcl, hM, hcc, hfr, hoki, hH⟩ := Kd.S_elem HO.out z93 (j : Int) (by omega) (by omega)
      obtain ⟨v1, rfl, hR1⟩ := k93_openM hM
      have hx0 : wr.cell? ⟨g, j * 2, none⟩ = some (.int .i64 (rd_T93 xs j).f0) := hcc 0 _ rfl
      have hx1 : wr.cell? ⟨g, j * 2 + 1, none⟩ = some v1 := hcc 1 _ rfl
      have hf0 : wr.frozen? ⟨g, j * 2, none⟩ = false := hfr 0
      have HP := Kd.S_seg0 hH (by omega) (by omega) (seg := [.int .i64 k]) (j := 0) (show 0 + 1 ≤ 2 by omega) (x' := (⟨k, (rd_T93 xs j).f1⟩ : S93)) (k93_mkM _ _ _ (⟨k, (rd_T93 xs j).f1⟩ : S93) hR1) (fun _ hk => hk)
      have HS := Aside0.mk HP.1
      have HG := Aside0.mk HP.2
      clear HP hH hM hcc hfr hR1
      have HC1 := HC.out j hlt
      obtain ⟨ch, hch⟩ : ∃ ch, ch = (rd_T93 xs j).f1 := ⟨_, rfl⟩
      rw [← hch] at HS HC1
      obtain ⟨W1, hW1⟩ : ∃ W1, W1 = wr.setCell ⟨g, j * 2, none⟩ (.int .i64 k) := ⟨_, rfl⟩
      have eW : wr.setCells g ((j : Int).toNat * k93.sz + 0) [.int .i64 k] = W1 := by rw [hW1]; rfl
      rw [eW] at HS HG
      have HB1 := Aside0.mk (show Below w0.heap.size w0 W1 by rw [hW1]; exact below_set HB.out hgb)
      have HK1 := Aside0.mk (show Kept w W1 P0 by rw [hW1]; exact Kept.setCell HK.out hokg _)
      have hx1' : W1.cell? ⟨g, j * 2 + 1, none⟩ = some v1 := by rw [hW1]; go_simp
      clear HB HK HO HG eW
      obtain ⟨oki1, ce1, hcl1, hM1, hcc1, hfr1, hoki1, hH1⟩ := Kd.S_elem HS.out z93 (j : Int) (by omega) (by omega)
      obtain ⟨v2, rfl, hR2⟩ := k93_openM hM1
      have hset : ((xs.set j (⟨k, ch⟩ : S93)).getD j z93) = ⟨k, ch⟩ := getD_set_self _ _ _ _ (by omega)
      have hx2 : W1.cell? ⟨g, j * 2 + 1, none⟩ = some v2 := hcc1 1 _ rfl
      obtain rfl : v1 = v2 := by rw [hx1'] at hx2; exact Option.some.inj hx2
      rw [Int.toNat_natCast, hset] at hR2
      have hw1 : wrap64 (k + 1) = k + 1 := wrap_id (by omega) (by omega)
      obtain ⟨r2, kk, hr2, hr2l⟩ := markChangeS_ev ch (k + 1) HC1 (by omega) (by omega)
      have HCall := Aside0.mk (laws_markChangeS.calls kk oki1 v1 ch (k + 1) _ _ w0 W1 HB1.out hR2 hr2)
      have HH1 := Aside0.mk (Kd.H_widen hH1)
      have HO1 := Aside0.mk hoki1
      have HR2L := Aside0.mk hr2l
      have HXL := Aside0.mk hxl
      have HCH := Aside0.mk hch
      have hst := hset
      clear hx2 hx1' hM1 hcc1 hfr1 hH1 hR2 hr2 hoki1 hoki hcl hcl1 HS hset hst hr2l hxl hch
      go_wp2_with (go_at_call 93; (try rw [← hW1]); refine HCall.out.mono ?_; rintro e w5 ⟨rfl, hr5, hb5, hk5⟩)
      obtain ⟨d, rfl⟩ : ∃ d, gk = d + 1 := ⟨gk - 1, by omega⟩
      have hH5 := Kd.H_kept HH1.out hk5 (fun q _ hn hq => hn (.inl hq))
      have hlen2 : ((xs.set (j : Int).toNat (⟨k, ch⟩ : S93)).getD (j : Int).toNat z93).f0 = k := by
        rw [Int.toNat_natCast, getD_set_self _ _ _ _ (by have := HXL.out; omega)]
      rw [hlen2] at hH5
      have hS5 := Kd.H_back hH5 (x' := (⟨k, r2⟩ : S93)) (k93_mkM _ _ _ (⟨k, r2⟩ : S93) hr5) (fun q hq => hq.elim (fun h => .inl h) (fun h => .inr ⟨.inr (Nat.le_trans HK1.out.1 h), h⟩))
      have HS5 := Aside0.mk hS5
      have HB5 := Aside0.mk hb5
      have HK5 := Aside0.mk (Kept.then_ HK1.out hk5 (fun q hq => (HO1.out q hq).1))
      have HL5 := Aside0.mk (show ∀ i, i < l0.length → (rd_T93 ((xs.set (j : Int).toNat (⟨k, ch⟩ : S93)).set (j : Int).toNat (⟨k, r2⟩ : S93)) i).f1.length ≤ 1048576 by
        intro i hi
        rw [Int.toNat_natCast, List.set_set]
        simp only [rd_T93, Int.toNat_natCast]
        by_cases e : j = i
        · subst e
          rw [getD_set_self _ _ _ _ (by have := HXL.out; omega)]
          show r2.length ≤ 1048576
          rw [HR2L.out]
          exact HC1
        · rw [getD_set_ne _ _ _ _ _ e]
          have := HC.out i hi
          simpa [rd_T93] using this)
      have HX5 := Aside0.mk (show ((xs.set (j : Int).toNat (⟨k, ch⟩ : S93)).set (j : Int).toNat (⟨k, r2⟩ : S93)).length = l0.length by rw [List.length_set, List.length_set]; exact HXL.out)
      clear hH5 hS5 hlen2 hr5 hb5 hk5 HH1
      go_roundg d
      case measure => omega
      case rel => exact ⟨j + 1, k + 1 + 3 * (ch.length : Int), _, rfl, by go_num, by omega, HX5.out, by omega, by omega, HL5, HS5, HB5, HK5⟩
    · go_wp2
      go_ret
      exact ⟨⟨k, rfl, hk0⟩, HB.out, HK.out⟩
end Go.Proofs.Ytppenjoobcppjaa.PHist
