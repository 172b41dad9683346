/- The row of the law FnExactStanding: whatever its arguments, the call returns true and the arguments read as before. -/
import Derived.Test.YtppenjoobcppjaaRows
import Derived.Test.YtppenjoobcppjaaRk
import Derived.Test.YtppenjoobcppjaaHsLaw
import Derived.WalkKit
import Derived.ProofKit
import Derived.OpenShut
import Derived.ShutString
import Derived.ChangeOld
import Derived.Below
import Derived.SizedLaws
import Derived.Lib.SmallJoins
namespace Go.Proofs.Ytppenjoobcppjaa.fnExactStanding
open Go.ChangeShapes Go.WideShapes Go.ChangeAt Go.RowKit Go.Joins Go.Proofs.Ytppenjoobcppjaa.PHist Go.Proofs.Ytppenjoobcppjaa.Rk Go.Proofs.YtppenjoobcppjaaW.PrintWords
open Go.ChangeMaps (open_string shut_string)
set_option linter.unusedVariables false
theorem own : ownKnob Try.prog.godebug = none := by kernel_rfl
theorem laidOut : laidOutB Try.prog = true := by kernel_rfl
-- good158 stands in the pure text
set_option maxRecDepth 100000 in
theorem rd158 : Rd Try.prog 158 k158 (fun x => good158 x) := by
  intro H enc W sp held fuel cs x h
  obtain ⟨xs, n, rfl, rfl, hl, hx, hf⟩ := DataW.trod_struct Try.underlying158 h
  have hl' : cs.length = 3 := hl.trans (by kernel_rfl)
  have hx' : xs.length = 3 := hx
  have h0 := hf 0 _ rfl
  rw [List.getElem?_eq_getElem (show 0 < xs.length by omega)] at h0
  obtain ⟨y0, K0, G0⟩ := (rd_int Try.underlying3) enc W sp held n _ _ h0
  replace K0 : ((Kd.int .i64)).K W y0 ((cs.drop 0).take 1) := K0
  have h1 := hf 1 _ rfl
  rw [List.getElem?_eq_getElem (show 1 < xs.length by omega)] at h1
  obtain ⟨y1, K1, G1⟩ := (rd_int Try.underlying3) enc W sp held n _ _ h1
  replace K1 : ((Kd.int .i64)).K W y1 ((cs.drop 1).take 1) := K1
  have h2 := hf 2 _ rfl
  rw [List.getElem?_eq_getElem (show 2 < xs.length by omega)] at h2
  obtain ⟨y2, K2, G2⟩ := (rd_string Try.underlying9) enc W sp held n _ _ h2
  replace K2 : (Kd.string).K W y2 ((cs.drop 2).take 1) := K2
  have e0 : cs = (cs.drop 0).take 1 ++ (cs.drop 1) := by
    have := (List.take_append_drop 1 (cs.drop 0)).symm
    rw [List.drop_drop] at this
    simpa using this
  have e1 : cs.drop 1 = (cs.drop 1).take 1 ++ ((cs.drop 2).take 1) := by
    rw [List.take_of_length_le (l := cs.drop 2) (by rw [List.length_drop]; omega)]
    have := (List.take_append_drop 1 (cs.drop 1)).symm
    rw [List.drop_drop] at this
    exact this
  exact ⟨⟨y0, y1, y2⟩, ⟨_, _, e0, K0, ⟨_, _, e1, K1, K2⟩⟩, ⟨G0, G1, G2⟩⟩
-- good89 stands in the pure text
set_option maxRecDepth 100000 in
theorem rd89 : Rd Try.prog 89 k89 (fun x => good89 x) := by
  intro H enc W sp held fuel cs x h
  obtain ⟨xs, n, rfl, rfl, hl, hx, hf⟩ := DataW.trod_struct Try.underlying89 h
  have hl' : cs.length = 2 := hl.trans (by kernel_rfl)
  have hx' : xs.length = 2 := hx
  have h0 := hf 0 _ rfl
  rw [List.getElem?_eq_getElem (show 0 < xs.length by omega)] at h0
  obtain ⟨y0, K0, G0⟩ := (rd_int Try.underlying3) enc W sp held n _ _ h0
  replace K0 : ((Kd.int .i64)).K W y0 ((cs.drop 0).take 1) := K0
  have h1 := hf 1 _ rfl
  rw [List.getElem?_eq_getElem (show 1 < xs.length by omega)] at h1
  obtain ⟨y1, K1, G1⟩ := (rd_slice Try.underlying87 (by kernel_rfl) rd158) enc W sp held n _ _ h1
  replace K1 : ((Kd.slice 158 k158)).K W y1 ((cs.drop 1).take 1) := K1
  have e0 : cs = (cs.drop 0).take 1 ++ ((cs.drop 1).take 1) := by
    rw [List.take_of_length_le (l := cs.drop 1) (by rw [List.length_drop]; omega)]
    have := (List.take_append_drop 1 (cs.drop 0)).symm
    rw [List.drop_drop] at this
    simpa using this
  exact ⟨⟨y0, y1⟩, ⟨_, _, e0, K0, K1⟩, ⟨G0, G1⟩⟩
set_option maxRecDepth 100000 in
theorem lifted (os : Os) (started : os.Started) (H : Type) (enc : TypeId × Value → H) :
    ReturnsInHanded {} Try.checked os 9 .any (Rows.fnExactStandingSpec.pre6 enc Try.prog Try.f9 Rows.fnExactStandingRow.domain false) (Rows.fnExactStandingSpec.post enc Try.prog Try.f9 false true false false) := by
  refine returnsInHanded_of_change_sized (C := Try.checked) own started (by kernel_rfl) Try.func9
    (ChangeSpec.witness6 (enc := enc) (C := Try.checked) false ⟨#[], #[.slice none 0 0], []⟩ 8 (by kernel_rfl) (by kernel_rfl) (by kernel_rfl) (by kernel_rfl)) ?_
  intro W base args ds gs before hval0 hW hcnd hsz0 _
  have hsz : (DataW.weightsEach Try.prog (Try.f9.params.toList ++ Rows.fnExactStandingSpec.plain.varTypes Try.prog) (ds ++ gs)).all (· ≤ reachBytes) = true := hsz0
  have hval : ∀ (j : Nat) t v, Try.f9.params[j]? = some t → args[j]? = some v → Value.okWide Try.prog W .any base t v := hval0
  have hW' := hW
  obtain ⟨p, q, hA0, hV, rfl, hfz, hnd⟩ := hW
  have hA : DataW.TrodAll enc Try.prog W 0 (fun _ => true) true Try.f9.params.toList args.toList ds p := hA0
  rw [Try.params9] at hA hval hsz
  obtain ⟨v0, vs0, d0, ds0, p0, q0, hargs, rfl, rfl, h0, r0⟩ := trodAll_cons hA
  obtain ⟨rfl, rfl, rfl⟩ := trodAll_nil r0
  obtain rfl : args = #[v0] := by cases args; simp_all
  obtain ⟨rfl, rfl⟩ := trodVars_none hV
  have k0 := h0
  have lt0 : ∀ x ∈ p0, x.block < W.heap.size := by obtain ⟨m, hm⟩ := k0; exact DataW.trod_lt m _ _ _ hm
  obtain ⟨A0, c0, l0, rfl, hl0, hC0, g0⟩ := open_arg (e := 89) (rd_slice Try.underlying30 (by kernel_rfl) rd89) h0 (okWide_slice Try.underlying30 (hval 0 30 v0 rfl rfl))
  clear hA0 hval0 hsz0 hsz
  refine (law9 _ _ l0 W hC0 hl0 g0).mono fun e W' ⟨he, bel⟩ => ?_
  subst he
  exact ⟨_, rfl, _, _, _, [], _, [], hW', trodAll_mk1 (shut_bool Try.underlying4 _), (trodAll_cons_mk (Below.trod laidOut (by kernel_rfl) (of_decide_eq_true (by kernel_rfl)) k0 bel lt0) trodAll_mk0), rfl, bel.frame _, fun h => by cases h⟩
theorem over : Rows.fnExactStandingRow.holds Try.pinned (OpenSpec.ofChange Rows.fnExactStandingSpec) :=
  OpenClaim.holds_of_wide 9 Try.f9 rfl rfl rfl rfl rfl rfl rfl ⟨rfl, rfl, rfl, rfl, rfl⟩ rfl rfl rfl rfl rfl (by kernel_rfl) Try.func9 (by kernel_rfl)
    (of_decide_eq_true (by kernel_rfl)) (by unfold Func.isWrapper; first | (rw [if_pos (by decide +kernel)]; kernel_rfl) | (rw [if_neg (by decide +kernel)]; exact ⟨rfl, rfl⟩))
    (fun os started H enc _ => lifted os started H enc)
theorem proved : Rows.FnExactStandingSaid := over
#print axioms proved
end Go.Proofs.Ytppenjoobcppjaa.fnExactStanding
namespace Go.Proofs.Ytppenjoobcppjaa
/-- The row, under a short name, for the claim. -/
theorem fnExactStanding_holds : Rows.FnExactStandingSaid := fnExactStanding.proved
end Go.Proofs.Ytppenjoobcppjaa
