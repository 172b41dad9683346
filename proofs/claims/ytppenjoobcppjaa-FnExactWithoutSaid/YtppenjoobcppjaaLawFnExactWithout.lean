/- The row of the law FnExactWithout: whatever its arguments, the call returns true and the arguments read as before. -/
import Derived.Test.YtppenjoobcppjaaRows
import Derived.Test.YtppenjoobcppjaaRk2
import Derived.Test.YtppenjoobcppjaaArLaw
import Derived.WalkKit
import Derived.ProofKit
import Derived.OpenShut
import Derived.ShutString
import Derived.ChangeOld
import Derived.Below
import Derived.SizedLaws
import Derived.Lib.SmallJoins
namespace Go.Proofs.Ytppenjoobcppjaa.fnExactWithout
open Go.ChangeShapes Go.WideShapes Go.ChangeAt Go.RowKit Go.Joins Go.Proofs.Ytppenjoobcppjaa.PAr Go.Proofs.Ytppenjoobcppjaa.Rk Go.Proofs.YtppenjoobcppjaaW.PrintWords
open Go.ChangeMaps (open_string shut_string)
set_option linter.unusedVariables false
set_option linter.unnecessarySimpa false
theorem own : ownKnob Try.prog.godebug = none := by kernel_rfl
theorem laidOut : laidOutB Try.prog = true := by kernel_rfl
def k59 := (Kd.pair (Kd.int .i64) (Kd.pair (Kd.int .i64) (Kd.pair Kd.bool Kd.bool)))
theorem k59_open {w : World} {x} {cs : List Value} (h : k59.K w x cs) : cs = [.int .i64 x.1, .int .i64 x.2.1, .bool x.2.2.1, .bool x.2.2.2] := by
  obtain ⟨_, _, rfl, rfl, ⟨_, _, rfl, rfl, ⟨_, _, rfl, rfl, rfl⟩⟩⟩ := h
  rfl
set_option maxRecDepth 100000 in
theorem rd59 : Rd Try.prog 59 k59 (fun x => True) := by
  intro H enc W sp held fuel cs x h
  obtain ⟨xs, n, rfl, rfl, hl, hx, hf⟩ := DataW.trod_struct Try.underlying59 h
  have hl' : cs.length = 4 := hl.trans (by kernel_rfl)
  have hx' : xs.length = 4 := hx
  have h0 := hf 0 _ rfl
  rw [List.getElem?_eq_getElem (show 0 < xs.length by omega)] at h0
  obtain ⟨y0, K0, G0⟩ := (rd_int Try.underlying3) enc W sp held n _ _ h0
  replace K0 : ((Kd.int .i64)).K W y0 ((cs.drop 0).take 1) := K0
  have h1 := hf 1 _ rfl
  rw [List.getElem?_eq_getElem (show 1 < xs.length by omega)] at h1
  obtain ⟨y1, K1, G1⟩ := (rd_int Try.underlying3) enc W sp held n _ _ h1
  replace K1 : ((Kd.int .i64)).K W y1 ((cs.drop 1).take 1) := K1
  have h2 := hf 2 _ rfl
  rw [List.getElem?_eq_getElem (show 2 < xs.length by omega)] at h2
  obtain ⟨y2, K2, G2⟩ := (rd_bool Try.underlying4) enc W sp held n _ _ h2
  replace K2 : (Kd.bool).K W y2 ((cs.drop 2).take 1) := K2
  have h3 := hf 3 _ rfl
  rw [List.getElem?_eq_getElem (show 3 < xs.length by omega)] at h3
  obtain ⟨y3, K3, G3⟩ := (rd_bool Try.underlying4) enc W sp held n _ _ h3
  replace K3 : (Kd.bool).K W y3 ((cs.drop 3).take 1) := K3
  have e0 : cs = (cs.drop 0).take 1 ++ (cs.drop 1) := by
    have := (List.take_append_drop 1 (cs.drop 0)).symm
    rw [List.drop_drop] at this
    simpa using this
  have e1 : cs.drop 1 = (cs.drop 1).take 1 ++ (cs.drop 2) := by
    have := (List.take_append_drop 1 (cs.drop 1)).symm
    rw [List.drop_drop] at this
    exact this
  have e2 : cs.drop 2 = (cs.drop 2).take 1 ++ ((cs.drop 3).take 1) := by
    rw [List.take_of_length_le (l := cs.drop 3) (by rw [List.length_drop]; omega)]
    have := (List.take_append_drop 1 (cs.drop 2)).symm
    rw [List.drop_drop] at this
    exact this
  exact ⟨(y0, y1, y2, y3), ⟨_, _, e0, K0, ⟨_, _, e1, K1, ⟨_, _, e2, K2, K3⟩⟩⟩, trivial⟩
def k61 := (Kd.pair k59 k59)
theorem k61_open {w : World} {x} {cs : List Value} (h : k61.K w x cs) : cs = [.int .i64 x.1.1, .int .i64 x.1.2.1, .bool x.1.2.2.1, .bool x.1.2.2.2, .int .i64 x.2.1, .int .i64 x.2.2.1, .bool x.2.2.2.1, .bool x.2.2.2.2] := by
  obtain ⟨_, _, rfl, ⟨_, _, rfl, rfl, ⟨_, _, rfl, rfl, ⟨_, _, rfl, rfl, rfl⟩⟩⟩, ⟨_, _, rfl, rfl, ⟨_, _, rfl, rfl, ⟨_, _, rfl, rfl, rfl⟩⟩⟩⟩ := h
  rfl
set_option maxRecDepth 100000 in
theorem rd61 : Rd Try.prog 61 k61 (fun x => True) := by
  intro H enc W sp held fuel cs x h
  obtain ⟨xs, n, rfl, rfl, hl, hx, hf⟩ := DataW.trod_struct Try.underlying61 h
  have hl' : cs.length = 8 := hl.trans (by kernel_rfl)
  have hx' : xs.length = 2 := hx
  have h0 := hf 0 _ rfl
  rw [List.getElem?_eq_getElem (show 0 < xs.length by omega)] at h0
  obtain ⟨y0, K0, G0⟩ := rd59 enc W sp held n _ _ h0
  replace K0 : (k59).K W y0 ((cs.drop 0).take 4) := K0
  have h1 := hf 1 _ rfl
  rw [List.getElem?_eq_getElem (show 1 < xs.length by omega)] at h1
  obtain ⟨y1, K1, G1⟩ := rd59 enc W sp held n _ _ h1
  replace K1 : (k59).K W y1 ((cs.drop 4).take 4) := K1
  have e0 : cs = (cs.drop 0).take 4 ++ ((cs.drop 4).take 4) := by
    rw [List.take_of_length_le (l := cs.drop 4) (by rw [List.length_drop]; omega)]
    have := (List.take_append_drop 4 (cs.drop 0)).symm
    rw [List.drop_drop] at this
    simpa using this
  exact ⟨(y0, y1), ⟨_, _, e0, K0, K1⟩, trivial⟩
set_option maxRecDepth 100000 in
theorem lifted (os : Os) (started : os.Started) (H : Type) (enc : TypeId × Value → H) :
    ReturnsInHanded {} Try.checked os 8 .any (Rows.fnExactWithoutSpec.pre6 enc Try.prog Try.f8 Rows.fnExactWithoutRow.domain false) (Rows.fnExactWithoutSpec.post enc Try.prog Try.f8 false true false false) := by
  refine returnsInHanded_of_change_sized (C := Try.checked) own started (by kernel_rfl) Try.func8
    (ChangeSpec.witness6 (enc := enc) (C := Try.checked) false ⟨#[], #[.agg #[.int .i64 0, .int .i64 0, .bool false, .bool false, .int .i64 0, .int .i64 0, .bool false, .bool false], .agg #[.int .i64 0, .int .i64 0, .bool false, .bool false, .int .i64 0, .int .i64 0, .bool false, .bool false]], []⟩ 8 (by kernel_rfl) (by kernel_rfl) (by kernel_rfl) (by kernel_rfl)) ?_
  intro W base args ds gs before hval0 hW hcnd hsz0 _
  have hsz : (DataW.weightsEach Try.prog (Try.f8.params.toList ++ Rows.fnExactWithoutSpec.plain.varTypes Try.prog) (ds ++ gs)).all (· ≤ reachBytes) = true := hsz0
  have hval : ∀ (j : Nat) t v, Try.f8.params[j]? = some t → args[j]? = some v → Value.okWide Try.prog W .any base t v := hval0
  have hW' := hW
  obtain ⟨p, q, hA0, hV, rfl, hfz, hnd⟩ := hW
  have hA : DataW.TrodAll enc Try.prog W 0 (fun _ => true) true Try.f8.params.toList args.toList ds p := hA0
  rw [Try.params8] at hA hval hsz
  obtain ⟨v0, vs0, d0, ds0, p0, q0, hargs, rfl, rfl, h0, r0⟩ := trodAll_cons hA
  obtain ⟨v1, vs1, d1, ds1, p1, q1, rfl, rfl, rfl, h1, r1⟩ := trodAll_cons r0
  obtain ⟨rfl, rfl, rfl⟩ := trodAll_nil r1
  obtain rfl : args = #[v0, v1] := by cases args; simp_all
  obtain ⟨rfl, rfl⟩ := trodVars_none hV
  have k0 := h0
  have lt0 : ∀ x ∈ p0, x.block < W.heap.size := by obtain ⟨m, hm⟩ := k0; exact DataW.trod_lt m _ _ _ hm
  obtain ⟨cs0, y0, rfl, hK0, _⟩ := open_struct (n := 8) rd61 h0 (by obtain ⟨cs, e1, e2⟩ := okWide_struct Try.underlying61 (hval 0 61 v0 rfl rfl); exact ⟨cs, e1, e2.trans (by kernel_rfl)⟩)
  have e0 := k61_open hK0
  obtain rfl : cs0 = #[.int .i64 y0.1.1, .int .i64 y0.1.2.1, .bool y0.1.2.2.1, .bool y0.1.2.2.2, .int .i64 y0.2.1, .int .i64 y0.2.2.1, .bool y0.2.2.2.1, .bool y0.2.2.2.2] := Array.toList_inj.1 e0
  have k1 := h1
  have lt1 : ∀ x ∈ p1, x.block < W.heap.size := by obtain ⟨m, hm⟩ := k1; exact DataW.trod_lt m _ _ _ hm
  obtain ⟨cs1, y1, rfl, hK1, _⟩ := open_struct (n := 8) rd61 h1 (by obtain ⟨cs, e1, e2⟩ := okWide_struct Try.underlying61 (hval 1 61 v1 rfl rfl); exact ⟨cs, e1, e2.trans (by kernel_rfl)⟩)
  have e1 := k61_open hK1
  obtain rfl : cs1 = #[.int .i64 y1.1.1, .int .i64 y1.1.2.1, .bool y1.1.2.2.1, .bool y1.1.2.2.2, .int .i64 y1.2.1, .int .i64 y1.2.2.1, .bool y1.2.2.2.1, .bool y1.2.2.2.2] := Array.toList_inj.1 e1
  clear hA0 hval0 hsz0 hsz
  refine (law8 y0.1.1 y0.1.2.1 y0.1.2.2.1 y0.1.2.2.2 y0.2.1 y0.2.2.1 y0.2.2.2.1 y0.2.2.2.2 y1.1.1 y1.1.2.1 y1.1.2.2.1 y1.1.2.2.2 y1.2.1 y1.2.2.1 y1.2.2.2.1 y1.2.2.2.2 W  ).mono fun e W' ⟨he, bel⟩ => ?_
  subst he
  exact ⟨_, rfl, _, _, _, [], _, [], hW', trodAll_mk1 (shut_bool Try.underlying4 _), (trodAll_cons_mk (Below.trod laidOut (by kernel_rfl) (of_decide_eq_true (by kernel_rfl)) k0 bel lt0) (trodAll_cons_mk (Below.trod laidOut (by kernel_rfl) (of_decide_eq_true (by kernel_rfl)) k1 bel lt1) trodAll_mk0)), rfl, bel.frame _, fun h => by cases h⟩
theorem over : Rows.fnExactWithoutRow.holds Try.pinned (OpenSpec.ofChange Rows.fnExactWithoutSpec) :=
  OpenClaim.holds_of_wide 8 Try.f8 rfl rfl rfl rfl rfl rfl rfl ⟨rfl, rfl, rfl, rfl, rfl⟩ rfl rfl rfl rfl rfl (by kernel_rfl) Try.func8 (by kernel_rfl)
    (of_decide_eq_true (by kernel_rfl)) (by unfold Func.isWrapper; first | (rw [if_pos (by decide +kernel)]; kernel_rfl) | (rw [if_neg (by decide +kernel)]; exact ⟨rfl, rfl⟩))
    (fun os started H enc _ => lifted os started H enc)
theorem proved : Rows.FnExactWithoutSaid := over
#print axioms proved
end Go.Proofs.Ytppenjoobcppjaa.fnExactWithout
namespace Go.Proofs.Ytppenjoobcppjaa
/-- The row, under a short name, for the claim. -/
theorem fnExactWithout_holds : Rows.FnExactWithoutSaid := fnExactWithout.proved
end Go.Proofs.Ytppenjoobcppjaa
