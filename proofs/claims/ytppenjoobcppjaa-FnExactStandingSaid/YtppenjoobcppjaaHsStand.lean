/- Which steps stand, as the program's Standing tells it: the walk. -/
import Derived.Test.YtppenjoobcppjaaHsPure
namespace Go.Proofs.Ytppenjoobcppjaa.PHist
open Go.RowKit Go.Proofs.YtppenjoobcppjaaW.PrintWords Go.Proofs.YtppenjoobcppjaaW.PrintLast Go.Proofs.YtppenjoobcppjaaW.PrintMore
set_option linter.unusedVariables false
set_option linter.unusedSimpArgs false

theorem infoB : (Try.prog.info? 4).map (fun i => (i.zero, i.size, i.bytes)) = some (some (.bool false), 1, 1) := by kernel_rfl
def stList (l : List S93) : List Bool := (List.range l.length).map fun (i : Nat) => stands l ((i : Int) + 1)
def stUpto (l : List S93) (j : Nat) : List Bool := (List.range l.length).map fun (i : Nat) => if i < j then stands l ((i : Int) + 1) else false
theorem stUpto_zero (l : List S93) : List.replicate l.length false = stUpto l 0 := by
  unfold stUpto
  apply List.ext_getElem
  · simp
  · intro i h1 h2
    simp
theorem stUpto_end (l : List S93) : stUpto l l.length = stList l := by
  unfold stUpto stList
  apply List.map_congr_left
  intro i hi
  rw [if_pos (List.mem_range.1 hi)]
theorem stUpto_step (l : List S93) (j : Nat) (h : j < l.length) : (stUpto l j).set j (stands l ((j : Int) + 1)) = stUpto l (j + 1) := by
  unfold stUpto
  apply List.ext_getElem
  · simp
  · intro i h1 h2
    rw [List.getElem_set]
    simp only [List.getElem_map, List.getElem_range]
    split
    · rename_i e
      subst e
      rw [if_pos (by omega)]
    · rename_i e
      by_cases hij : i < j
      · rw [if_pos hij, if_pos (by omega)]
      · rw [if_neg hij, if_neg (by omega)]
theorem stUpto_length (l : List S93) (j : Nat) : (stUpto l j).length = l.length := by simp [stUpto]

set_option maxRecDepth 100000 in
set_option maxHeartbeats 1600000 in
theorem standing42 (A0 : Option Addr) (c0 : Nat) (l0 : List S93) (w : World) (hr0 : Kd.C k93 w A0 l0.length l0) (hc0 : l0.length ≤ c0) (k : Nat) (r : Bool) (hk : impl_asSaid.f k l0 = some r) (hu : r = true → Undos l0) :
    Calls Try.prog 42 #[.slice A0 l0.length c0] w fun e w' => (∃ v, e = .returned v ∧ Kd.R Kd.bool 4 w' w.heap.size (fun _ => True) v (if r = true then stList l0 else [])) ∧ Below w.heap.size w w' := by
  have HR0 := Aside0.mk hr0
  have HC0 := Aside0.mk hc0
  have HU := Aside0.mk hu
  have HA := Aside0.mk (impl_asSaid.calls k A0 c0 l0 r w hr0 hc0 hk)
  clear hr0 hc0 hk hu
  go_enter Try.func42, Try.ntmps42
  cases r with
  | false =>
    go_wp2_with (go_at_call 91; refine HA.out.mono ?_; rintro e w2 ⟨rfl, hb2⟩)
    go_ret
    exact ⟨⟨_, rfl, Kd.R_nil _ _ _ _ _⟩, hb2⟩
  | true =>
    have hu := HU.out rfl
    have hmx : l0.length ≤ 60 := hu.1
    have HU2 := Aside0.mk hu
    clear HU hu
    go_wp2_with (first | (go_at_call 91; refine HA.out.mono ?_; rintro e w2 ⟨rfl, hb2⟩; have HB2 := Aside0.mk hb2; clear hb2) | (go_at_call 92; refine (standing_calls A0 c0 l0 _ (Kd.C_below HR0.out HB2.out) HC0.out HU2.out).mono ?_; rintro e w3 ⟨bm, nm, rfl, hm3, hb3⟩; have HB3 := Aside0.mk (below_step HB2.out hb3); have HM3 := Aside0.mk hm3; clear hb3 hm3) | ((with_reducible refine gate_dst (N := 13) rfl ?_); refine Kd.R_make Kd.bool _ 4 rfl (N := 13) rfl 65 _ _ rfl (l0.length : Int) rfl rfl Try.underlying65 (.bool false) 1 infoB rfl (by decide) (by omega) false (ok := fun _ => True) (okp := fun _ => True) rfl (fun _ hk => hk) trivial (by omega) (by omega) (Below.refl _ _) (Nat.le_refl _) ?_; intro v4 w4 ho4 hb4 hg_ hnew_; clear hg_ hnew_; have HO4 := Aside0.mk (Kd.R_lower ho4 (below_size HB3.out)); have HB4 := Aside0.mk (below_step HB3.out hb4); have HM4 := Aside0.mk (HM3.out.below hb4); clear ho4 hb4))
    clear HA
    rw [Int.toNat_natCast, stUpto_zero] at HO4
    clear HB2 HB3 HM3
    go_loopg [16] l0.length (fun d v16 wr => ∃ j : Nat, v16 = .int .i64 j ∧ j + d = l0.length ∧ Aside0 (Kd.R Kd.bool 4 wr w.heap.size (fun _ => True) v4 (stUpto l0 j)) ∧ Aside0 (BMap wr bm nm (stands l0)) ∧ Aside0 (Below w.heap.size w wr))
    case atStart => exact ⟨0, rfl, by omega, HO4, HM4, HB4⟩
    case round =>
      clear HO4 HM4 HB4
      obtain ⟨j, rfl, hjd, HO, HM, HB⟩ := hrel
      by_cases hlt : j < l0.length
      · obtain ⟨d, rfl⟩ : ∃ d, gk = d + 1 := ⟨gk - 1, by omega⟩
        have hlen := stUpto_length l0 j
        obtain ⟨g, cap, hv, hgb, hgl, cl, hcl⟩ := Kd.R_form HO.out (by omega)
        rw [hlen] at hv
        have HV := Aside0.mk hv
        obtain ⟨b, hb⟩ : ∃ b, b = stands l0 ((j : Int) + 1) := ⟨_, rfl⟩
        have hlook := HM.out.look (k := (j : Int) + 1) (wf_small (by omega) (by omega))
        rw [← hb] at hlook
        subst hv
        obtain ⟨hx0, hf0⟩ := Kd.R_celln false HO.out (j : Int) (by omega) (by omega)
        have HP := Kd.R_putg HO.out (j : Int) b
        rw [Int.toNat_natCast] at hx0 hf0 HP
        rw [hb, stUpto_step l0 j hlt] at HP
        rw [← hb] at HP
        have hbm : bm ≠ g := by
          intro e
          obtain ⟨D, ⟨es, clock, h1, _⟩, _⟩ := HM.out
          rw [e, hcl] at h1
          injection h1 with h1
          cases h1
        have HO5 := Aside0.mk HP.1
        have HM5 := Aside0.mk (HM.out.kept (HP.2.block bm HM.out.lt (by simpa using hbm)))
        have HB5 := Aside0.mk (below_set (v := .bool b) (j := j) HB.out hgb)
        clear HP HV hcl hb hbm HO HM HB hlen
        go_wp2
        go_roundg d
        case measure => omega
        case rel => exact ⟨j + 1, by go_num, by omega, HO5, HM5, HB5⟩
      · have : j = l0.length := by omega
        subst this
        have HO5 := Aside0.mk (show Kd.R Kd.bool 4 wr w.heap.size (fun _ => True) v4 (stList l0) by rw [← stUpto_end]; exact HO.out)
        go_wp2
        go_ret
        exact ⟨⟨_, rfl, HO5.out⟩, HB.out⟩
end Go.Proofs.Ytppenjoobcppjaa.PHist
