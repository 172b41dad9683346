/- The row of the law FnExactDiffer: whatever its arguments, the call returns true and the arguments read as before. -/
import Derived.Test.YtppenjoobcppjaaRows
import Derived.Test.YtppenjoobcppjaaPDfx9
import Derived.Test.YtppenjoobcppjaaRk
import Derived.Test.YtppenjoobcppjaaDfEq
import Derived.WalkKit
import Derived.ProofKit
import Derived.OpenShut
import Derived.ShutString
import Derived.ChangeOld
import Derived.Below
import Derived.SizedLaws
import Derived.Lib.SmallJoins
namespace Go.Proofs.Ytppenjoobcppjaa.fnExactDiffer
open Go.ChangeShapes Go.WideShapes Go.ChangeAt Go.RowKit Go.Joins Go.Proofs.Ytppenjoobcppjaa.PDf Go.Proofs.Ytppenjoobcppjaa.Rk Go.Proofs.YtppenjoobcppjaaW.PrintWords
open Go.ChangeMaps (open_string shut_string)
set_option linter.unusedVariables false
set_option linter.unnecessarySimpa false
theorem own : ownKnob Try.prog.godebug = none := by kernel_rfl
theorem laidOut : laidOutB Try.prog = true := by kernel_rfl
-- good123 stands in the pure text
set_option maxRecDepth 100000 in
theorem rd123 : Rd Try.prog 123 k123 (fun x => good123 x) := by
  intro H enc W sp held fuel cs x h
  obtain ⟨xs, n, rfl, rfl, hl, hx, hf⟩ := DataW.trod_struct Try.underlying123 h
  have hl' : cs.length = 3 := hl.trans (by kernel_rfl)
  have hx' : xs.length = 3 := hx
  have h0 := hf 0 _ rfl
  rw [List.getElem?_eq_getElem (show 0 < xs.length by omega)] at h0
  obtain ⟨y0, K0, G0⟩ := (rd_bool Try.underlying4) enc W sp held n _ _ h0
  replace K0 : (Kd.bool).K W y0 ((cs.drop 0).take 1) := K0
  have h1 := hf 1 _ rfl
  rw [List.getElem?_eq_getElem (show 1 < xs.length by omega)] at h1
  obtain ⟨y1, K1, G1⟩ := (rd_int Try.underlying3) enc W sp held n _ _ h1
  replace K1 : ((Kd.int .i64)).K W y1 ((cs.drop 1).take 1) := K1
  have h2 := hf 2 _ rfl
  rw [List.getElem?_eq_getElem (show 2 < xs.length by omega)] at h2
  obtain ⟨y2, K2, G2⟩ := (rd_int Try.underlying3) enc W sp held n _ _ h2
  replace K2 : ((Kd.int .i64)).K W y2 ((cs.drop 2).take 1) := K2
  have e0 : cs = (cs.drop 0).take 1 ++ (cs.drop 1) := by
    have := (List.take_append_drop 1 (cs.drop 0)).symm
    rw [List.drop_drop] at this
    simpa using this
  have e1 : cs.drop 1 = (cs.drop 1).take 1 ++ ((cs.drop 2).take 1) := by
    rw [List.take_of_length_le (l := cs.drop 2) (by rw [List.length_drop]; omega)]
    have := (List.take_append_drop 1 (cs.drop 1)).symm
    rw [List.drop_drop] at this
    exact this
  exact ⟨⟨y0, y1, y2⟩, ⟨_, _, e0, K0, ⟨_, _, e1, K1, K2⟩⟩, ⟨G0, G1, G2⟩⟩
-- good125 stands in the pure text
set_option maxRecDepth 100000 in
theorem rd125 : Rd Try.prog 125 k125 (fun x => good125 x) := by
  intro H enc W sp held fuel cs x h
  obtain ⟨xs, n, rfl, rfl, hl, hx, hf⟩ := DataW.trod_struct Try.underlying125 h
  have hl' : cs.length = 5 := hl.trans (by kernel_rfl)
  have hx' : xs.length = 3 := hx
  have h0 := hf 0 _ rfl
  rw [List.getElem?_eq_getElem (show 0 < xs.length by omega)] at h0
  obtain ⟨y0, K0, G0⟩ := (rd_int Try.underlying3) enc W sp held n _ _ h0
  replace K0 : ((Kd.int .i64)).K W y0 ((cs.drop 0).take 1) := K0
  have h1 := hf 1 _ rfl
  rw [List.getElem?_eq_getElem (show 1 < xs.length by omega)] at h1
  obtain ⟨y1, K1, G1⟩ := rd123 enc W sp held n _ _ h1
  replace K1 : (k123).K W y1 ((cs.drop 1).take 3) := K1
  have h2 := hf 2 _ rfl
  rw [List.getElem?_eq_getElem (show 2 < xs.length by omega)] at h2
  obtain ⟨y2, K2, G2⟩ := (rd_string Try.underlying9) enc W sp held n _ _ h2
  replace K2 : (Kd.string).K W y2 ((cs.drop 4).take 1) := K2
  have e0 : cs = (cs.drop 0).take 1 ++ (cs.drop 1) := by
    have := (List.take_append_drop 1 (cs.drop 0)).symm
    rw [List.drop_drop] at this
    simpa using this
  have e1 : cs.drop 1 = (cs.drop 1).take 3 ++ ((cs.drop 4).take 1) := by
    rw [List.take_of_length_le (l := cs.drop 4) (by rw [List.length_drop]; omega)]
    have := (List.take_append_drop 3 (cs.drop 1)).symm
    rw [List.drop_drop] at this
    exact this
  exact ⟨⟨y0, y1, y2⟩, ⟨_, _, e0, K0, ⟨_, _, e1, K1, K2⟩⟩, ⟨G0, G1, G2⟩⟩
-- good127 stands in the pure text
set_option maxRecDepth 100000 in
theorem rd127 : Rd Try.prog 127 k127 (fun x => good127 x) := by
  intro H enc W sp held fuel cs x h
  obtain ⟨xs, n, rfl, rfl, hl, hx, hf⟩ := DataW.trod_struct Try.underlying127 h
  have hl' : cs.length = 8 := hl.trans (by kernel_rfl)
  have hx' : xs.length = 4 := hx
  have h0 := hf 0 _ rfl
  rw [List.getElem?_eq_getElem (show 0 < xs.length by omega)] at h0
  obtain ⟨y0, K0, G0⟩ := (rd_int Try.underlying3) enc W sp held n _ _ h0
  replace K0 : ((Kd.int .i64)).K W y0 ((cs.drop 0).take 1) := K0
  have h1 := hf 1 _ rfl
  rw [List.getElem?_eq_getElem (show 1 < xs.length by omega)] at h1
  obtain ⟨y1, K1, G1⟩ := (rd_int Try.underlying3) enc W sp held n _ _ h1
  replace K1 : ((Kd.int .i64)).K W y1 ((cs.drop 1).take 1) := K1
  have h2 := hf 2 _ rfl
  rw [List.getElem?_eq_getElem (show 2 < xs.length by omega)] at h2
  obtain ⟨y2, K2, G2⟩ := rd125 enc W sp held n _ _ h2
  replace K2 : (k125).K W y2 ((cs.drop 2).take 5) := K2
  have h3 := hf 3 _ rfl
  rw [List.getElem?_eq_getElem (show 3 < xs.length by omega)] at h3
  obtain ⟨y3, K3, G3⟩ := (rd_bool Try.underlying4) enc W sp held n _ _ h3
  replace K3 : (Kd.bool).K W y3 ((cs.drop 7).take 1) := K3
  have e0 : cs = (cs.drop 0).take 1 ++ (cs.drop 1) := by
    have := (List.take_append_drop 1 (cs.drop 0)).symm
    rw [List.drop_drop] at this
    simpa using this
  have e1 : cs.drop 1 = (cs.drop 1).take 1 ++ (cs.drop 2) := by
    have := (List.take_append_drop 1 (cs.drop 1)).symm
    rw [List.drop_drop] at this
    exact this
  have e2 : cs.drop 2 = (cs.drop 2).take 5 ++ ((cs.drop 7).take 1) := by
    rw [List.take_of_length_le (l := cs.drop 7) (by rw [List.length_drop]; omega)]
    have := (List.take_append_drop 5 (cs.drop 2)).symm
    rw [List.drop_drop] at this
    exact this
  exact ⟨⟨y0, y1, y2, y3⟩, ⟨_, _, e0, K0, ⟨_, _, e1, K1, ⟨_, _, e2, K2, K3⟩⟩⟩, ⟨G0, G1, G2, G3⟩⟩
set_option maxRecDepth 100000 in
theorem lifted (os : Os) (started : os.Started) (H : Type) (enc : TypeId × Value → H) :
    ReturnsInHanded {} Try.checked os 10 .any (Rows.fnExactDifferSpec.pre6 enc Try.prog Try.f10 Rows.fnExactDifferRow.domain false) (Rows.fnExactDifferSpec.post enc Try.prog Try.f10 false true false false) := by
  refine returnsInHanded_of_change_sized (C := Try.checked) own started (by kernel_rfl) Try.func10
    (ChangeSpec.witness6 (enc := enc) (C := Try.checked) false ⟨#[], #[.slice none 0 0, .slice none 0 0], []⟩ 8 (by kernel_rfl) (by kernel_rfl) (by kernel_rfl) (by kernel_rfl)) ?_
  intro W base args ds gs before hval0 hW hcnd hsz0 _
  have hsz : (DataW.weightsEach Try.prog (Try.f10.params.toList ++ Rows.fnExactDifferSpec.plain.varTypes Try.prog) (ds ++ gs)).all (· ≤ reachBytes) = true := hsz0
  have hval : ∀ (j : Nat) t v, Try.f10.params[j]? = some t → args[j]? = some v → Value.okWide Try.prog W .any base t v := hval0
  have hW' := hW
  obtain ⟨p, q, hA0, hV, rfl, hfz, hnd⟩ := hW
  have hA : DataW.TrodAll enc Try.prog W 0 (fun _ => true) true Try.f10.params.toList args.toList ds p := hA0
  rw [Try.params10] at hA hval hsz
  obtain ⟨v0, vs0, d0, ds0, p0, q0, hargs, rfl, rfl, h0, r0⟩ := trodAll_cons hA
  obtain ⟨v1, vs1, d1, ds1, p1, q1, rfl, rfl, rfl, h1, r1⟩ := trodAll_cons r0
  obtain ⟨rfl, rfl, rfl⟩ := trodAll_nil r1
  obtain rfl : args = #[v0, v1] := by cases args; simp_all
  obtain ⟨rfl, rfl⟩ := trodVars_none hV
  have k0 := h0
  have lt0 : ∀ x ∈ p0, x.block < W.heap.size := by obtain ⟨m, hm⟩ := k0; exact DataW.trod_lt m _ _ _ hm
  obtain ⟨A0, c0, l0, rfl, hl0, hC0, g0⟩ := open_arg (e := 127) (rd_slice Try.underlying70 (by kernel_rfl) rd127) h0 (okWide_slice Try.underlying70 (hval 0 70 v0 rfl rfl))
  have k1 := h1
  have lt1 : ∀ x ∈ p1, x.block < W.heap.size := by obtain ⟨m, hm⟩ := k1; exact DataW.trod_lt m _ _ _ hm
  obtain ⟨A1, c1, l1, rfl, hl1, hC1, g1⟩ := open_arg (e := 127) (rd_slice Try.underlying70 (by kernel_rfl) rd127) h1 (okWide_slice Try.underlying70 (hval 1 70 v1 rfl rfl))
  clear hA0 hval0 hsz0 hsz
  obtain ⟨k, hk⟩ := FnExactDiffer_pure l0 l1 g0 g1
  refine (laws_FnExactDiffer.calls k _ _ l0 _ _ l1 true W hC0 hl0 hC1 hl1 hk).mono fun e W' ⟨he, bel⟩ => ?_
  subst he
  exact ⟨_, rfl, _, _, _, [], _, [], hW', trodAll_mk1 (shut_bool Try.underlying4 _), (trodAll_cons_mk (Below.trod laidOut (by kernel_rfl) (of_decide_eq_true (by kernel_rfl)) k0 bel lt0) (trodAll_cons_mk (Below.trod laidOut (by kernel_rfl) (of_decide_eq_true (by kernel_rfl)) k1 bel lt1) trodAll_mk0)), rfl, bel.frame _, fun h => by cases h⟩
theorem over : Rows.fnExactDifferRow.holds Try.pinned (OpenSpec.ofChange Rows.fnExactDifferSpec) :=
  OpenClaim.holds_of_wide 10 Try.f10 rfl rfl rfl rfl rfl rfl rfl ⟨rfl, rfl, rfl, rfl, rfl⟩ rfl rfl rfl rfl rfl (by kernel_rfl) Try.func10 (by kernel_rfl)
    (of_decide_eq_true (by kernel_rfl)) (by unfold Func.isWrapper; first | (rw [if_pos (by decide +kernel)]; kernel_rfl) | (rw [if_neg (by decide +kernel)]; exact ⟨rfl, rfl⟩))
    (fun os started H enc _ => lifted os started H enc)
theorem proved : Rows.FnExactDifferSaid := over
#print axioms proved
end Go.Proofs.Ytppenjoobcppjaa.fnExactDiffer
namespace Go.Proofs.Ytppenjoobcppjaa
/-- The row, under a short name, for the claim. -/
theorem fnExactDiffer_holds : Rows.FnExactDifferSaid := fnExactDiffer.proved
end Go.Proofs.Ytppenjoobcppjaa
