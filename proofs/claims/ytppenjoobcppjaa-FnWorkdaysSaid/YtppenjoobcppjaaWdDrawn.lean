/- What DrawWorkdays gives: its walk. -/
import Derived.Test.YtppenjoobcppjaaWdDraw
namespace Go.Proofs.Ytppenjoobcppjaa.PFnWorkdays
open Go.RowKit Go.Proofs.YtppenjoobcppjaaW.PrintWords Go.Proofs.YtppenjoobcppjaaW.PrintLast Go.Proofs.YtppenjoobcppjaaW.PrintMore Go.Proofs.Ytppenjoobcppjaa.Ev Go.Proofs.Ytppenjoobcppjaa.Bm
set_option linter.unusedVariables false
set_option linter.unusedSimpArgs false

theorem Cur.grown {w0 W W2 : World} {g : Nat} {code : List Int} {m : Int} {base : Nat} {ok : Nat → Prop} {v : Value} {xs : List Int} (h : Cur w0 W g code m) (ho : (Kd.int .i64).R 3 W base ok v xs) (hg : W.grownBy W2 v.ownBlock) : Cur w0 W2 g code m := by
  obtain ⟨n, s, h0, h1, hI⟩ := h
  exact ⟨n, s, h0, h1, hI.grown hg (hI.own_ne ho (by decide))⟩
theorem Cur.more {w0 W : World} {g : Nat} {code : List Int} {m m' : Int} (h : Cur w0 W g code m) (hm : m ≤ m') : Cur w0 W g code m' := by
  obtain ⟨n, s, h0, h1, hI⟩ := h
  exact ⟨n, s, h0, by omega, hI⟩

set_option maxRecDepth 100000 in
set_option maxHeartbeats 3200000 in
theorem draw_c (A : Option Addr) (c : Nat) (code : List Int) (w : World) (hr : Kd.C (Kd.int .u8) w A code.length code) (hcap : code.length ≤ c) (hb : Bytes code) :
    Calls Try.prog 11 #[.slice A code.length c] w fun e w' => (∃ (a b : Int) (v : Value) (xs : List Int), e = .returned (.tuple #[.int .i64 a, .int .i64 b, v]) ∧ (Kd.int .i64).R 3 w' w.heap.size (fun _ => True) v xs ∧ ∀ f ∈ xs, InR f) ∧ Below w.heap.size w w' := by
  have hu81 := Try.underlying81
  have HR := Aside0.mk hr
  have HBY := Aside0.mk hb
  clear hr hb
  have HB := Aside0.mk (Below.refl w.heap.size w)
  go_enter Try.func11, Try.ntmps11
  go_wp2_with (fail)
  obtain ⟨g0, hg0⟩ : ∃ g0, g0 = w.heap.size := ⟨_, rfl⟩
  have HC1 := Aside0.mk (show Cur w (w.alloc (Obj.cells #[Value.slice A code.length c, Value.int IntKind.i64 0, Value.int IntKind.u64 0] 81)) g0 code 0 from ⟨0, 0, by omega, by omega, by rw [hg0]; exact IsS81.new w w A c code 0 0 HB.out HR.out⟩)
  have HB1 := Aside0.mk (show Below w.heap.size w (w.alloc (Obj.cells #[Value.slice A code.length c, Value.int IntKind.i64 0, Value.int IntKind.u64 0] 81)) from below_alloc (Below.refl _ _) _)
  obtain ⟨w1, hw1⟩ : ∃ w1, w1 = w.alloc (Obj.cells #[Value.slice A code.length c, Value.int IntKind.i64 0, Value.int IntKind.u64 0] 81) := ⟨_, rfl⟩
  rw [← hw1] at HC1 HB1 ⊢
  clear hw1 HB
  simp only [← hg0]
  clear hg0
  refine (day_c code HBY.out g0 w w1 0 HC1.out HB1.out (by omega)).mono ?_
  rintro e w2 ⟨⟨a, rfl⟩, hc2, hb2, _⟩
  have HC2 := Aside0.mk hc2
  have HB2 := Aside0.mk hb2
  clear hc2 hb2 HC1 HB1
  go_wp2_with (fail)
  refine (pick_c code HBY.out 60 g0 w _ 10 HC2.out HB2.out (by omega) (by omega)).mono ?_
  rintro e w3 ⟨⟨p, rfl, hp0, hp1⟩, hc3, hb3, _⟩
  have HC3 := Aside0.mk hc3
  have HB3 := Aside0.mk hb3
  clear hc3 hb3 HC2 HB2
  go_wp2_with (fail)
  refine (one_c code HBY.out 4 g0 w _ 12 HC3.out HB3.out (by omega) (by omega)).mono ?_
  rintro e w4 ⟨⟨o, rfl⟩, hc4, hb4, _⟩
  have HC4 := Aside0.mk hc4
  have HB4 := Aside0.mk hb4
  clear hc4 hb4 HC3 HB3
  cases o with
  | false =>
    have HC := HC4
    have HB := HB4
    clear HC4 HB4
    go_wp2_with (fail)
    refine (pick_c code HBY.out 8 g0 w _ 14 (Cur.more HC.out (by omega)) HB.out (by omega) (by omega)).mono ?_
    rintro e w5 ⟨⟨n0, rfl, hn0, hn1⟩, hc5, hb5, _⟩
    have HC5 := Aside0.mk (hc5.more (show 14 + 2 ≤ 100 by omega))
    have HB5 := Aside0.mk hb5
    clear hc5 hb5 HC HB
    go_wp2
    go_loopg [8, 9] n0.toNat (fun d v8 v9 wr => ∃ (xs : List Int), v9 = .int .i64 (d : Int) ∧ xs.length + d = n0.toNat ∧ (∀ f ∈ xs, InR f) ∧ Aside0 ((Kd.int .i64).R 3 wr w.heap.size (fun _ => True) v8 xs) ∧ Aside0 (Cur w wr g0 code (100 + 10 * (xs.length : Int))) ∧ Aside0 (Below w.heap.size w wr))
    case atStart => exact ⟨[], by rw [show ((n0.toNat : Nat) : Int) = n0 by omega], by simp, (fun f hf => by cases hf), ⟨Kd.R_nil _ _ _ _ _⟩, HC5, HB5⟩
    case round =>
      clear HC5 HB5
      obtain ⟨xs, rfl, hxl, hxr, HO, HC, HB⟩ := hrel
      cases gk with
      | zero =>
        go_wp2_with (fail)
        refine (one_c code HBY.out 60 g0 w _ 1000 (Cur.more HC.out (by omega)) HB.out (by omega) (by omega)).mono ?_
        rintro e w6 ⟨⟨o, rfl⟩, hc6, hb6, hk6⟩
        have HO6 := Aside0.mk (HC.out.apart hk6 HO.out)
        have HC6 := Aside0.mk hc6
        have HB6 := Aside0.mk hb6
        clear hc6 hb6 hk6 HC HB HO
        cases o with
        | false =>
          go_wp2
          go_ret3
          exact ⟨⟨_, _, _, xs, rfl, HO6.out, hxr⟩, HB6.out⟩
        | true =>
          go_wp2_with (fail)
          refine (pick_c code HBY.out 3 g0 w _ 1002 (Cur.more HC6.out (by omega)) HB6.out (by omega) (by omega)).mono ?_
          rintro e w7 ⟨⟨n7, rfl, hn7, hn8⟩, hc7, hb7, _⟩
          have HB7 := Aside0.mk hb7
          clear hc7 hb7 HC6 HB6 HO6
          go_wp2_with ((with_reducible refine gate_dst (N := 43) rfl ?_); refine Kd.R_make (Kd.int .i64) (w0 := w) w.heap.size 3 rfl (N := 43) rfl 23 _ _ rfl (999 + n7) rfl rfl Try.underlying23 (.int .i64 0) 8 info3 rfl (by decide) (by omega) 0 (ok := fun _ => True) (okp := fun _ => True) rfl (fun _ hk => hk) trivial (by omega) (by omega) HB7.out HB7.out.size ?_; intro v8 w8 ho8 hb8 hg_ hnew_; clear hg_ hnew_)
          go_ret3
          exact ⟨⟨_, _, _, _, rfl, ho8, fun f hf => by rw [List.eq_of_mem_replicate hf]; exact ⟨by omega, by omega⟩⟩, hb8⟩
      | succ d =>
        go_wp2_with (fail)
        refine (pick_c code HBY.out 40 g0 w _ (100 + 10 * (xs.length : Int)) HC.out HB.out (by omega) (by omega)).mono ?_
        rintro e w6 ⟨⟨y, rfl, hy0, hy1⟩, hc6, hb6, hk6⟩
        have HO6 := Aside0.mk (HC.out.apart hk6 HO.out)
        have HC6 := Aside0.mk hc6
        have HB6 := Aside0.mk hb6
        clear hc6 hb6 hk6 HC HB HO
        have hlen8 : xs.length ≤ 8 := by omega
        go_wp2_with ((with_reducible refine gate_builtin (b := .append) (xs := #[.tmp 30, .tmp 36]) rfl ?_); at_builtin; refine Kd.R_append (Kd.int .i64) (w0 := w) w.heap.size rfl (.tmp 30) (.tmp 36) 23 3 (.int .i64 0) 8 rfl Try.underlying23 info3 rfl (by decide) (by omega) _ xs (wrap64 (wrap64 (a + y) - 5)) [.int .i64 (wrap64 (wrap64 (a + y) - 5))] (fun _ => True) (fun _ => False) rfl rfl ?aP (fun _ hk => hk.elim) ?aF HO6.out ?aB ?aS ?aL ?_; (case aP => exact rfl); (case aF => exact (fun _ _ => trivial)); (case aB => exact HB6.out); (case aS => exact HB6.out.size); (case aL => omega); intro v9 w9 ho9 hb9 hg9 hat9)
        go_roundg d
        case measure => omega
        case rel => exact ⟨xs ++ [wrap64 (wrap64 (a + y) - 5)], by go_num, by rw [List.length_append, List.length_singleton]; omega, fun f hf => by rw [List.mem_append, List.mem_singleton] at hf; rcases hf with hf | rfl; exact hxr f hf; exact w64_range _, ⟨ho9⟩, ⟨((HC6.out).grown HO6.out hg9).more (by rw [List.length_append, List.length_singleton]; omega)⟩, ⟨hb9⟩⟩
  | true =>
    go_wp2_with (fail)
    refine (day_c code HBY.out g0 w _ 14 HC4.out HB4.out (by omega)).mono ?_
    rintro e w5 ⟨⟨b, rfl⟩, hc5, hb5, _⟩
    have HC := Aside0.mk hc5
    have HB := Aside0.mk hb5
    clear hc5 hb5 HC4 HB4
    go_wp2_with (fail)
    refine (pick_c code HBY.out 8 g0 w _ 24 (Cur.more HC.out (by omega)) HB.out (by omega) (by omega)).mono ?_
    rintro e w5 ⟨⟨n0, rfl, hn0, hn1⟩, hc5, hb5, _⟩
    have HC5 := Aside0.mk (hc5.more (show 24 + 2 ≤ 100 by omega))
    have HB5 := Aside0.mk hb5
    clear hc5 hb5 HC HB
    go_wp2
    go_loopg [8, 9] n0.toNat (fun d v8 v9 wr => ∃ (xs : List Int), v9 = .int .i64 (d : Int) ∧ xs.length + d = n0.toNat ∧ (∀ f ∈ xs, InR f) ∧ Aside0 ((Kd.int .i64).R 3 wr w.heap.size (fun _ => True) v8 xs) ∧ Aside0 (Cur w wr g0 code (100 + 10 * (xs.length : Int))) ∧ Aside0 (Below w.heap.size w wr))
    case atStart => exact ⟨[], by rw [show ((n0.toNat : Nat) : Int) = n0 by omega], by simp, (fun f hf => by cases hf), ⟨Kd.R_nil _ _ _ _ _⟩, HC5, HB5⟩
    case round =>
      clear HC5 HB5
      obtain ⟨xs, rfl, hxl, hxr, HO, HC, HB⟩ := hrel
      cases gk with
      | zero =>
        go_wp2_with (fail)
        refine (one_c code HBY.out 60 g0 w _ 1000 (Cur.more HC.out (by omega)) HB.out (by omega) (by omega)).mono ?_
        rintro e w6 ⟨⟨o, rfl⟩, hc6, hb6, hk6⟩
        have HO6 := Aside0.mk (HC.out.apart hk6 HO.out)
        have HC6 := Aside0.mk hc6
        have HB6 := Aside0.mk hb6
        clear hc6 hb6 hk6 HC HB HO
        cases o with
        | false =>
          go_wp2
          go_ret3
          exact ⟨⟨_, _, _, xs, rfl, HO6.out, hxr⟩, HB6.out⟩
        | true =>
          go_wp2_with (fail)
          refine (pick_c code HBY.out 3 g0 w _ 1002 (Cur.more HC6.out (by omega)) HB6.out (by omega) (by omega)).mono ?_
          rintro e w7 ⟨⟨n7, rfl, hn7, hn8⟩, hc7, hb7, _⟩
          have HB7 := Aside0.mk hb7
          clear hc7 hb7 HC6 HB6 HO6
          go_wp2_with ((with_reducible refine gate_dst (N := 43) rfl ?_); refine Kd.R_make (Kd.int .i64) (w0 := w) w.heap.size 3 rfl (N := 43) rfl 23 _ _ rfl (999 + n7) rfl rfl Try.underlying23 (.int .i64 0) 8 info3 rfl (by decide) (by omega) 0 (ok := fun _ => True) (okp := fun _ => True) rfl (fun _ hk => hk) trivial (by omega) (by omega) HB7.out HB7.out.size ?_; intro v8 w8 ho8 hb8 hg_ hnew_; clear hg_ hnew_)
          go_ret3
          exact ⟨⟨_, _, _, _, rfl, ho8, fun f hf => by rw [List.eq_of_mem_replicate hf]; exact ⟨by omega, by omega⟩⟩, hb8⟩
      | succ d =>
        go_wp2_with (fail)
        refine (pick_c code HBY.out 40 g0 w _ (100 + 10 * (xs.length : Int)) HC.out HB.out (by omega) (by omega)).mono ?_
        rintro e w6 ⟨⟨y, rfl, hy0, hy1⟩, hc6, hb6, hk6⟩
        have HO6 := Aside0.mk (HC.out.apart hk6 HO.out)
        have HC6 := Aside0.mk hc6
        have HB6 := Aside0.mk hb6
        clear hc6 hb6 hk6 HC HB HO
        have hlen8 : xs.length ≤ 8 := by omega
        go_wp2_with ((with_reducible refine gate_builtin (b := .append) (xs := #[.tmp 30, .tmp 36]) rfl ?_); at_builtin; refine Kd.R_append (Kd.int .i64) (w0 := w) w.heap.size rfl (.tmp 30) (.tmp 36) 23 3 (.int .i64 0) 8 rfl Try.underlying23 info3 rfl (by decide) (by omega) _ xs (wrap64 (wrap64 (a + y) - 5)) [.int .i64 (wrap64 (wrap64 (a + y) - 5))] (fun _ => True) (fun _ => False) rfl rfl ?aP (fun _ hk => hk.elim) ?aF HO6.out ?aB ?aS ?aL ?_; (case aP => exact rfl); (case aF => exact (fun _ _ => trivial)); (case aB => exact HB6.out); (case aS => exact HB6.out.size); (case aL => omega); intro v9 w9 ho9 hb9 hg9 hat9)
        go_roundg d
        case measure => omega
        case rel => exact ⟨xs ++ [wrap64 (wrap64 (a + y) - 5)], by go_num, by rw [List.length_append, List.length_singleton]; omega, fun f hf => by rw [List.mem_append, List.mem_singleton] at hf; rcases hf with hf | rfl; exact hxr f hf; exact w64_range _, ⟨ho9⟩, ⟨((HC6.out).grown HO6.out hg9).more (by rw [List.length_append, List.length_singleton]; omega)⟩, ⟨hb9⟩⟩
end Go.Proofs.Ytppenjoobcppjaa.PFnWorkdays
