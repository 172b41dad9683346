/- The steps that were done as a linked list, which of them stand, and the last that stands and is as asked: what the Go code comes to. -/
import Derived.Test.YtppenjoobcppjaaPHistx0
import Derived.Test.YtppenjoobcppjaaPHistx5
import Derived.Maps.OwnSet
import Derived.WalkSpells
import Derived.Lib.Hide
import Derived.Outline
namespace Go.Proofs.Ytppenjoobcppjaa.PHist
open Go.RowKit Go.Proofs.YtppenjoobcppjaaW.PrintWords Go.Proofs.YtppenjoobcppjaaW.PrintLast Go.Proofs.YtppenjoobcppjaaW.PrintMore
set_option linter.unusedVariables false
set_option linter.unusedSimpArgs false

/-- The list of the first j steps, the last one ahead. -/
def Chn (w : World) (l : List S93) : Nat → Option Addr → Prop
  | 0, a => a = none
  | j + 1, a => ∃ g b v, a = some ⟨g, 0, none⟩ ∧ w.cell? ⟨g, 0, none⟩ = some (.int .i64 ((j : Int) + 1)) ∧ w.cell? ⟨g, 1, none⟩ = some (.int .i64 (rd_T93 l j).f0) ∧
      w.cell? ⟨g, 2, none⟩ = some v ∧ w.cell? ⟨g, 3, none⟩ = some (.pointer b) ∧ Chn w l j b
theorem Chn.move {w w1 : World} {l : List S93} (hm : ∀ a v, w.cell? a = some v → w1.cell? a = some v) : ∀ {j : Nat} {a : Option Addr}, Chn w l j a → Chn w1 l j a
  | 0, _, h => h
  | j + 1, a, ⟨g, b, v, h0, h1, h2, h3, h4, h5⟩ => ⟨g, b, v, h0, hm _ _ h1, hm _ _ h2, hm _ _ h3, hm _ _ h4, h5.move hm⟩
theorem Chn.below {w w1 : World} {l : List S93} {j : Nat} {a : Option Addr} (h : Chn w l j a) (hb : Below w.heap.size w w1) : Chn w1 l j a :=
  h.move fun _ _ hc => pw_cell_below hb hc

set_option maxHeartbeats 400000 in
theorem chain_calls (A0 : Option Addr) (c0 : Nat) (l0 : List S93) (w : World) (hr0 : Kd.C k93 w A0 l0.length l0) (hc0 : l0.length ≤ c0) :
    Calls Try.prog 109 #[.slice A0 l0.length c0] w fun e w' => ∃ a, e = .returned (.pointer a) ∧ Chn w' l0 l0.length a ∧ Below w.heap.size w w' := by
  have HR0 := Aside0.mk hr0
  have HC0 := Aside0.mk hc0
  have hmx : l0.length ≤ 9223372036854775807 := hr0.2.1
  clear hr0 hc0
  go_enter Try.func109, Try.ntmps109
  go_wp2
  go_loopw [3, 8] (fun p i wr => ∃ (j : Nat) (a : Option Addr), j ≤ l0.length ∧ p = .pointer a ∧ i = .int .i64 j ∧ Aside0 (Chn wr l0 j a) ∧ Aside0 (Below w.heap.size w wr)) (fun _ i _ => l0.length - (intOf i).toNat)
  case atStart => exact ⟨0, none, Nat.zero_le _, rfl, rfl, ⟨rfl⟩, ⟨Below.refl _ _⟩⟩
  case round =>
    obtain ⟨j, a, hj, rfl, rfl, HCH, HB⟩ := hrel
    by_cases hlt : j < l0.length
    · obtain ⟨ad, A1, c1, e, hx0, hx1, hl1, hi1⟩ := at_T93 HR0.out j (by omega) (by omega)
      cases e
      replace hx0 := (HB.out.cell (World.block_lt_of_cell? w _ hx0)).trans hx0
      replace hx1 := (HB.out.cell (World.block_lt_of_cell? w _ hx1)).trans hx1
      clear hl1 hi1
      simp only [Int.toNat_natCast] at hx0 hx1
      go_wp2
      go_roundw
      case rel =>
        refine ⟨j + 1, _, by omega, rfl, by go_num, ⟨⟨_, a, .slice A1 (rd_T93 l0 j).f1.length c1, rfl, by go_simp, by go_simp, by go_simp, by go_simp, HCH.out.below (below_alloc (below_alloc (Below.refl _ _) _) _)⟩⟩, ⟨below_alloc (below_alloc HB.out _) _⟩⟩
      case measure => simp [intOf]; omega
    · have : j = l0.length := by omega
      subst this
      go_wp2
      go_ret
      exact ⟨a, rfl, HCH.out, HB.out⟩

/-! ### A map from int to bool that the call made -/
theorem bool_inv {H : Type} {P : Program} {e : TypeId} (he : P.underlying e = some .bool) {v : Value} {z : DataW H × List MemPlace} (h : plainElem P e v = some z) : ∃ a, v = .bool a ∧ z = (.lit (.bool a), []) := by
  unfold plainElem at h
  rw [he] at h
  cases v <;> simp at h
  exact ⟨_, rfl, h.symm⟩
def upd (f : Int → Bool) (k : Int) (u : Bool) : Int → Bool := fun i => if i = k then u else f i
def BMap (w : World) (b n : Nat) (f : Int → Bool) : Prop :=
  ∃ D : DataW Unit, w.ownsMap Try.prog 3 (plainElem Try.prog 4) b n D ∧ ∀ k, D.atKey (.int .i64 k) (.lit (.bool false)) = .lit (.bool (f k))
theorem zero4 (w : World) : (zeroValue 4).run Try.prog w = .ok (.bool false) w := by kernel_rfl
theorem lit_ne {a b : Int} (h : a ≠ b) : (Lit.int .i64 a) ≠ (Lit.int .i64 b) := fun e => h (by injection e)
theorem BMap.made (w : World) : BMap (w.alloc (.map #[] 0)) w.heap.size 0 (fun _ => false) := ⟨_, World.ownsMap_made w Try.prog 3 _, fun k => rfl⟩
theorem BMap.mono {w : World} {b n n' : Nat} {f : Int → Bool} (h : BMap w b n f) (hn : n ≤ n') : BMap w b n' f := by
  obtain ⟨D, h1, h2⟩ := h
  exact ⟨D, h1.mono hn, h2⟩
theorem BMap.lt {w : World} {b n : Nat} {f : Int → Bool} (h : BMap w b n f) : b < w.heap.size := by
  obtain ⟨D, h1, h2⟩ := h
  exact h1.lt
theorem BMap.kept {w w' : World} {b n : Nat} {f : Int → Bool} (h : BMap w b n f) (hh : w'.heap[b]? = w.heap[b]?) : BMap w' b n f := by
  obtain ⟨D, ⟨es, clock, hb, r⟩, h2⟩ := h
  exact ⟨D, ⟨es, clock, hh.trans hb, r⟩, h2⟩
theorem BMap.below {w w' : World} {b n : Nat} {f : Int → Bool} (h : BMap w b n f) (hb : Below w.heap.size w w') : BMap w' b n f := h.kept (hb.block b h.lt)
theorem BMap.congr {w : World} {b n : Nat} {f g : Int → Bool} (h : BMap w b n f) (e : ∀ k, f k = g k) : BMap w b n g := by
  have : f = g := funext e
  exact this ▸ h
set_option maxRecDepth 10000 in
theorem BMap.look {w : World} {b n : Nat} {f : Int → Bool} (h : BMap w b n f) {k : Int} (hk : (Lit.int .i64 k).wf = true) :
    (Instr.lookup 84 (.map (some b)) (.int .i64 k) false).run Try.prog w = .ok (.bool (f k)) w := by
  obtain ⟨D, h1, h2⟩ := h
  obtain ⟨v, ps, hrun, hv⟩ := h1.lookup (Maps.int_keyed Try.underlying3) Try.underlying84 (zero4 w) (plainElem_bool Try.underlying4 false) (Maps.keyOf_int_mk Try.underlying3 hk)
  rw [h2] at hv
  obtain ⟨x, rfl, hx⟩ := bool_inv Try.underlying4 hv
  simp only [Prod.mk.injEq] at hx
  have : f k = x := by have := hx.1; injection this with this; injection this
  rw [this]
  exact hrun
theorem BMap.put {w : World} {b n : Nat} {f : Int → Bool} (h : BMap w b n f) (hn : n < maxLen) {k : Int} (hk : (Lit.int .i64 k).wf = true) (u : Bool) :
    ∃ w', (Instr.mapUpdate 84 (.map (some b)) (.int .i64 k) (.bool u)).run Try.prog w = .ok () w' ∧ BMap w' b (n + 1) (upd f k u) ∧ w.grownBy w' (some b) := by
  obtain ⟨D, h1, h2⟩ := h
  obtain ⟨w', hrun, hown, hg⟩ := h1.update (Maps.int_keyed Try.underlying3) Try.underlying84 hn (Maps.keyOf_int_mk Try.underlying3 hk) (plainElem_bool Try.underlying4 u)
  refine ⟨w', hrun, ⟨_, hown, fun i => ?_⟩, hg⟩
  unfold upd
  split
  · rename_i e
    subst e
    exact Maps.atKey_put_same h1.isMap (show WideAt.IsKeyLit (.int .i64 i) from trivial) _ _
  · rename_i e
    rw [Maps.atKey_put_other (lit_ne e)]
    exact h2 i
theorem BMap.del {w : World} {b n : Nat} {f : Int → Bool} (h : BMap w b n f) {k : Int} (hk : (Lit.int .i64 k).wf = true) (ty : TypeId) :
    ∃ w', (Builtin.delete_ #[84, 3] ty #[.map (some b), .int .i64 k]).run Try.prog w = .ok (.tuple #[]) w' ∧ BMap w' b n (upd f k false) ∧ w.grownBy w' (some b) := by
  obtain ⟨D, h1, h2⟩ := h
  obtain ⟨w', hrun, hown, hg⟩ := h1.drop (Maps.int_keyed Try.underlying3) Try.underlying84 (Maps.keyOf_int_mk Try.underlying3 hk) ty
  refine ⟨w', hrun, ⟨_, hown, fun i => ?_⟩, hg.grown⟩
  unfold upd
  split
  · rename_i e
    subst e
    exact Maps.atKey_del_same _
  · rename_i e
    rw [Maps.atKey_del_other (lit_ne e)]
    exact h2 i
/-- A store into the map changes no cell. -/
theorem keep_cell {w w1 : World} {b n : Nat} {f : Int → Bool} (h : BMap w b n f) (hg : w.grownBy w1 (some b)) {x : Addr} {v : Value} (hc : w.cell? x = some v) : w1.cell? x = some v := by
  have hlt := World.block_lt_of_cell? w x hc
  have hne : x.block ≠ b := by
    intro e
    obtain ⟨D, ⟨es, clock, hb, _⟩, _⟩ := h
    rw [← e] at hb
    simp [World.cell?, hb] at hc
  have := hg.block x.block hlt (by simp; exact hne)
  simpa [World.cell?, this] using hc
section
variable {ops : Array Oper} {rest : List Oper} {o : Oper} {a : Act} {Q : Exit → Act → World → Prop}
theorem wp_put (w : World) (hg : o.guard = none) (m x v : Operand) (hop : o.op = Op.mapUpdate 84 m x v) (b n : Nat) (f : Int → Bool) (k : Int) (u : Bool)
    (hm : a.eval m = .map (some b)) (hx : a.eval x = .int .i64 k) (hv : a.eval v = .bool u) (h : BMap w b n f) (hn : n < maxLen) (hk : (Lit.int .i64 k).wf = true)
    (hK : ∀ w', BMap w' b (n + 1) (upd f k u) → w.grownBy w' (some b) → wpList Try.prog ops Q rest (a.put o.dst undef) w') : wpList Try.prog ops Q (o :: rest) a w := by
  refine wpList_plain hg fun K' hK' => ?_
  obtain ⟨w', hrun, r1, r2⟩ := h.put hn hk u
  unfold Oper.wp
  simp [execOp, hop, hm, hx, hv, hrun, Result.andThen]
  exact hK' _ _ (hK w' r1 r2)
theorem wp_del (w : World) (hg : o.guard = none) (m x : Operand) (hop : o.op = Op.call { callee := Callee.builtin Builtin.delete, args := #[m, x], argTypes := #[84, 3] }) (b n : Nat) (f : Int → Bool) (k : Int)
    (hm : a.eval m = .map (some b)) (hx : a.eval x = .int .i64 k) (h : BMap w b n f) (hk : (Lit.int .i64 k).wf = true)
    (hK : ∀ w', BMap w' b n (upd f k false) → w.grownBy w' (some b) → wpList Try.prog ops Q rest (a.put o.dst (.tuple #[])) w') : wpList Try.prog ops Q (o :: rest) a w := by
  refine wpList_plain hg fun K' hK' => ?_
  obtain ⟨w', hrun, r1, r2⟩ := h.del hk o.type
  unfold Oper.wp
  simp [execOp, hop, resolve, invoke, builtin, hm, hx, hrun, Result.andThen]
  exact hK' _ _ (hK w' r1 r2)
end
theorem i64_min : IntKind.i64.min = -9223372036854775808 := by decide
theorem i64_max : IntKind.i64.max = 9223372036854775807 := by decide
theorem wf_small {k : Int} (h0 : -1000000 ≤ k) (h1 : k ≤ 1000000) : (Lit.int .i64 k).wf = true := by
  simp only [Lit.wf, i64_min, i64_max, Bool.and_eq_true, decide_eq_true_eq]
  omega

/-! ### standing -/
/-- The numbers that stand, when the steps from the last down to number j + 1 have been looked at. -/
def stg (l : List S93) : Nat → (Int → Bool) → (Int → Bool)
  | 0, f => f
  | j + 1, f => stg l j (if 0 < (rd_T93 l j).f0 ∧ f ((j : Int) + 1) = true then upd f (rd_T93 l j).f0 false else f)
def allUp (n : Nat) : Int → Bool := fun k => decide (1 ≤ k ∧ k ≤ n)
def stands (l : List S93) : Int → Bool := stg l l.length (allUp l.length)
theorem allUp_zero : (fun _ => false) = allUp 0 := by
  funext k
  simp [allUp]
  omega
theorem allUp_succ (n : Nat) : upd (allUp n) ((n : Int) + 1) true = allUp (n + 1) := by
  funext k
  unfold upd allUp
  split
  · exact (decide_eq_true (by push_cast; omega)).symm
  · rw [decide_eq_decide]
    push_cast
    omega
/-- Each step's undo is a number of an earlier step, or 0. -/
def Undos (l : List S93) : Prop := l.length ≤ 60 ∧ ∀ j, j < l.length → 0 ≤ (rd_T93 l j).f0 ∧ (rd_T93 l j).f0 ≤ j

set_option maxRecDepth 100000 in
set_option maxHeartbeats 400000 in
theorem standing_calls (A0 : Option Addr) (c0 : Nat) (l0 : List S93) (w : World) (hr0 : Kd.C k93 w A0 l0.length l0) (hc0 : l0.length ≤ c0) (hu : Undos l0) :
    Calls Try.prog 92 #[.slice A0 l0.length c0] w fun e w' => ∃ b n, e = .returned (.map (some b)) ∧ BMap w' b n (stands l0) ∧ Below w.heap.size w w' := by
  have HR0 := Aside0.mk hr0
  have HC0 := Aside0.mk hc0
  have hmx : l0.length ≤ 60 := hu.1
  have HU := Aside0.mk hu.2
  clear hr0 hc0 hu
  have hmm := @run_makeMap Try.prog
  go_enter Try.func92, Try.ntmps92
  go_wp2
  go_loopw [4, 9] (fun _ i wr => ∃ j : Nat, j ≤ l0.length ∧ i = .int .i64 j ∧ Aside0 (BMap wr w.heap.size j (allUp j)) ∧ Aside0 (Below w.heap.size w wr)) (fun _ i _ => l0.length - (intOf i).toNat)
  case atStart => exact ⟨0, Nat.zero_le _, rfl, ⟨(BMap.made w).congr (fun k => congrFun allUp_zero k)⟩, ⟨below_alloc (Below.refl _ _) _⟩⟩
  case round =>
    obtain ⟨j, hj, rfl, HM, HB⟩ := hrel
    by_cases hlt : j < l0.length
    · go_wp2_with (at_mapUpdate; refine wp_put _ rfl _ _ _ rfl w.heap.size j (allUp j) ((j : Int) + 1) true rfl rfl rfl HM.out (by simp only [maxLen]; omega) (wf_small (by omega) (by omega)) ?_; intro w1 hown1 hgrow1)
      go_roundw
      case rel =>
        rw [allUp_succ] at hown1
        exact ⟨j + 1, by omega, by go_num, ⟨hown1⟩, ⟨pw_below_grown HB.out _ HB.out.size hgrow1 (fun k hk => by injection hk with hk; omega)⟩⟩
      case measure => simp [intOf]; omega
    · have : j = l0.length := by omega
      subst this
      have HC := Aside0.mk (chain_calls A0 c0 l0 wr (Kd.C_below HR0.out HB.out) HC0.out)
      go_wp2_with (go_at_call 109; refine HC.out.mono ?_; rintro e w2 ⟨a2, rfl, hch, hb2⟩)
      have HCH2 := Aside0.mk hch
      have HM2 := Aside0.mk (HM.out.below hb2)
      have HB2 := Aside0.mk (below_step HB.out hb2)
      clear hch hb2 HC HM HB
      go_loopg [5] l0.length (fun j p wr => ∃ (a : Option Addr) (f : Int → Bool), j ≤ l0.length ∧ p = .pointer a ∧ Aside0 (Chn wr l0 j a) ∧ Aside0 (BMap wr w.heap.size l0.length f) ∧ Aside0 (stg l0 j f = stands l0) ∧ Aside0 (Below w.heap.size w wr))
      case atStart => exact ⟨a2, _, Nat.le_refl _, rfl, HCH2, HM2, ⟨rfl⟩, HB2⟩
      case round =>
        clear HCH2 HM2 HB2
        obtain ⟨a, f, hj, rfl, HCH, HM, HS, HB⟩ := hrel
        cases gk with
        | zero =>
          have ha := HCH.out
          unfold Chn at ha
          subst ha
          go_wp2
          go_ret
          exact ⟨_, _, rfl, HM.out.congr (fun k => congrFun HS.out k), HB.out⟩
        | succ j =>
          obtain ⟨g, b, v, rfl, h0, h1, h2, h3, hch⟩ := HCH.out
          clear HCH
          have HCH := Aside0.mk hch
          clear hch
          have hlook := HM.out.look (k := (j : Int) + 1) (wf_small (by omega) (by omega))
          by_cases hp : 0 < (rd_T93 l0 j).f0
          · have hp0 : decide (0 < (rd_T93 l0 j).f0) = true := decide_eq_true hp
            have hwf : (Lit.int .i64 (rd_T93 l0 j).f0).wf = true := by
              have := HU.out j (by omega)
              exact wf_small (by omega) (by omega)
            by_cases hf : f ((j : Int) + 1) = true
            · have E := Aside0.mk (show stg l0 j (upd f (rd_T93 l0 j).f0 false) = stands l0 by rw [← HS.out]; simp only [stg]; rw [if_pos ⟨hp, hf⟩])
              rw [hf] at hlook
              go_wp2_with (at_delete; refine wp_del _ rfl _ _ rfl w.heap.size l0.length f (rd_T93 l0 j).f0 rfl rfl HM.out hwf ?_; intro w1 hown1 hgrow1; have h3b := keep_cell HM.out hgrow1 h3)
              go_roundg j
              case measure => omega
              case rel => exact ⟨_, _, by omega, rfl, ⟨HCH.out.move (fun x u hc => keep_cell HM.out hgrow1 hc)⟩, ⟨hown1⟩, E, ⟨pw_below_grown HB.out _ HB.out.size hgrow1 (fun k hk => by injection hk with hk; omega)⟩⟩
            · have E := Aside0.mk (show stg l0 j f = stands l0 by rw [← HS.out]; simp only [stg]; rw [if_neg (fun h => hf h.2)])
              have hf0 : f ((j : Int) + 1) = false := by simpa using hf
              rw [hf0] at hlook
              go_wp2
              go_roundg j
              case measure => omega
              case rel => exact ⟨_, f, by omega, rfl, HCH, HM, E, HB⟩
          · have E := Aside0.mk (show stg l0 j f = stands l0 by rw [← HS.out]; simp only [stg]; rw [if_neg (fun h => hp h.1)])
            have hp0 : decide (0 < (rd_T93 l0 j).f0) = false := decide_eq_false hp
            go_wp2
            go_roundg j
            case measure => omega
            case rel => exact ⟨_, f, by omega, rfl, HCH, HM, E, HB⟩

/-! ### lastThat -/
/-- The number of the last of the first j that stands and is as asked. -/
def lastOf (l : List S93) (st : Int → Bool) (q : S93 → Bool) : Nat → Int
  | 0 => 0
  | j + 1 => if st ((j : Int) + 1) = true ∧ q (rd_T93 l j) = true then (j : Int) + 1 else lastOf l st q j
def isRe (l : List S93) (s : S93) : Bool := decide (0 < s.f0) && ((rd_T93 l (s.f0 - 1)).f0 == 0)
set_option maxRecDepth 100000 in
theorem asked69 (x : Int) (v : Value) (w : World) (l0 : List S93) (A0 : Option Addr) (c0 : Nat) (pa : Addr) (hr0 : Kd.C k93 w A0 l0.length l0) (hc0 : l0.length ≤ c0) (hp : w.cell? pa = some (.slice A0 l0.length c0)) (hx : x ≤ l0.length) :
    Calls Try.prog 69 #[.agg #[.int .i64 x, v], .pointer (some pa)] w fun e w' => e = .returned (.bool (decide (0 < x) && ((rd_T93 l0 (x - 1)).f0 == 0))) ∧ Below w.heap.size w w' := by
  have hmx : l0.length ≤ 9223372036854775807 := hr0.2.1
  by_cases h0 : 0 < x
  · obtain ⟨ad, A1, c1, e, hx0, hx1, hl1, hi1⟩ := at_T93 hr0 (x - 1) (by omega) (by omega)
    have h0b : decide (0 < x) = true := decide_eq_true h0
    cases e
    clear hr0 hi1 hl1
    rw [h0b, Bool.true_and]
    have hpa := fun o => pw_cell_below (below_alloc (Below.refl w.heap.size w) o) hp
    rw [show (x - 1).toNat = x.toNat - 1 by omega] at hx0
    have hxa := fun o => pw_cell_below (below_alloc (Below.refl w.heap.size w) o) hx0
    have p1 : 0 ≤ x - 1 := by omega
    have p2 : 1 ≤ x := by omega
    have q1 : x - 1 < (l0.length : Int) := by omega
    go_enter Try.func69, Try.ntmps69
    go_wp2
    go_ret
    exact ⟨rfl, below_alloc (Below.refl _ _) _⟩
  · have h0b : decide (0 < x) = false := decide_eq_false h0
    rw [h0b, Bool.false_and]
    clear hr0
    go_enter Try.func69, Try.ntmps69
    go_wp2
    go_ret
    exact ⟨rfl, below_alloc (Below.refl _ _) _⟩
set_option maxRecDepth 100000 in
set_option maxHeartbeats 400000 in
theorem lastThat69 (A0 : Option Addr) (c0 : Nat) (l0 : List S93) (w : World) (hr0 : Kd.C k93 w A0 l0.length l0) (hc0 : l0.length ≤ c0) (k : Nat) (r : Bool) (hk : impl_asSaid.f k l0 = some r) (hu : r = true → Undos l0) (pa : Addr) (hpa : w.cell? pa = some (.slice A0 l0.length c0)) :
    Calls Try.prog 66 #[.slice A0 l0.length c0, .func (.func 69) #[] #[.pointer (some pa)]] w fun e w' => e = .returned (.int .i64 (if r = true then lastOf l0 (stands l0) (isRe l0) l0.length else 0)) ∧ Below w.heap.size w w' := by
  have HR0 := Aside0.mk hr0
  have HC0 := Aside0.mk hc0
  have HK := Aside0.mk hk
  have HU := Aside0.mk hu
  have HPA := Aside0.mk hpa
  clear hr0 hc0 hk hu hpa
  have HA := Aside0.mk (impl_asSaid.calls k A0 c0 l0 r w HR0.out HC0.out HK.out)
  go_enter Try.func66, Try.ntmps66
  cases r with
  | false =>
    go_wp2_with (go_at_call 91; refine HA.out.mono ?_; rintro e w2 ⟨rfl, hb2⟩)
    go_ret
    exact ⟨rfl, hb2⟩
  | true =>
    have hu := HU.out rfl
    have hmx : l0.length ≤ 60 := hu.1
    have HU2 := Aside0.mk hu
    clear HU hu
    go_wp2_with (first | (go_at_call 91; refine HA.out.mono ?_; rintro e w2 ⟨rfl, hb2⟩; have HB2 := Aside0.mk hb2; clear hb2) | (go_at_call 92; refine (standing_calls A0 c0 l0 _ (Kd.C_below HR0.out HB2.out) HC0.out HU2.out).mono ?_; rintro e w3 ⟨bm, nm, rfl, hm3, hb3⟩; have HB3 := Aside0.mk (below_step HB2.out hb3); have HM3 := Aside0.mk hm3; clear hb3 hm3) | (go_at_call 109; refine (chain_calls A0 c0 l0 _ (Kd.C_below HR0.out HB3.out) HC0.out).mono ?_; rintro e w4 ⟨a4, rfl, hc4, hb4⟩; have HB4 := Aside0.mk (below_step HB3.out hb4); have HM4 := Aside0.mk (HM3.out.below hb4); have HC4 := Aside0.mk hc4; clear hb4 hc4))
    clear HA
    go_loopg [6] l0.length (fun j p wr => ∃ (a : Option Addr), j ≤ l0.length ∧ p = .pointer a ∧ Aside0 (Chn wr l0 j a) ∧ Aside0 (BMap wr bm nm (stands l0)) ∧ Aside0 (lastOf l0 (stands l0) (isRe l0) j = lastOf l0 (stands l0) (isRe l0) l0.length) ∧ Aside0 (Below w.heap.size w wr))
    case atStart => exact ⟨a4, Nat.le_refl _, rfl, HC4, HM4, ⟨rfl⟩, HB4⟩
    case round =>
      clear HC4 HM4 HB4 HM3 HB3 HB2
      obtain ⟨a, hj, rfl, HCH, HM, HS, HB⟩ := hrel
      cases gk with
      | zero =>
        have ha := HCH.out
        unfold Chn at ha
        subst ha
        go_wp2
        go_ret
        exact ⟨by rw [← HS.out]; rfl, HB.out⟩
      | succ j =>
        obtain ⟨g, b, v, rfl, h0, h1, h2, h3, hch⟩ := HCH.out
        clear HCH
        have HCH := Aside0.mk hch
        clear hch
        have hlook := HM.out.look (k := (j : Int) + 1) (wf_small (by omega) (by omega))
        by_cases hf : stands l0 ((j : Int) + 1) = true
        · rw [hf] at hlook
          have hux := HU2.out.2 j (by omega)
          have HF := Aside0.mk (asked69 (rd_T93 l0 j).f0 v wr l0 A0 c0 pa (Kd.C_below HR0.out HB.out) HC0.out (pw_cell_below HB.out HPA.out) (by omega))
          clear hux
          by_cases hq : isRe l0 (rd_T93 l0 j) = true
          · have E := Aside0.mk (show lastOf l0 (stands l0) (isRe l0) l0.length = (j : Int) + 1 by rw [← HS.out]; simp only [lastOf]; rw [if_pos ⟨hf, hq⟩])
            have hq0 : (decide (0 < (rd_T93 l0 j).f0) && ((rd_T93 l0 ((rd_T93 l0 j).f0 - 1)).f0 == 0)) = true := hq
            rw [hq0] at HF
            clear hq hf hq0
            go_wp2_with (go_at_call 69; refine HF.out.mono ?_; rintro e w5 ⟨rfl, hb5⟩; have h0b := pw_cell_below hb5 h0)
            go_ret
            exact ⟨by rw [E.out]; rfl, below_step HB.out hb5⟩
          · have E := Aside0.mk (show lastOf l0 (stands l0) (isRe l0) j = lastOf l0 (stands l0) (isRe l0) l0.length by rw [← HS.out]; simp only [lastOf]; rw [if_neg (fun h => hq h.2)])
            have hq0 : (decide (0 < (rd_T93 l0 j).f0) && ((rd_T93 l0 ((rd_T93 l0 j).f0 - 1)).f0 == 0)) = false := by simpa [isRe] using hq
            rw [hq0] at HF
            clear hq hf hq0
            go_wp2_with (go_at_call 69; refine HF.out.mono ?_; rintro e w5 ⟨rfl, hb5⟩; have h3b := pw_cell_below hb5 h3)
            go_roundg j
            case measure => omega
            case rel => exact ⟨_, by omega, rfl, ⟨HCH.out.below hb5⟩, ⟨HM.out.below hb5⟩, E, ⟨below_step HB.out hb5⟩⟩
        · have E := Aside0.mk (show lastOf l0 (stands l0) (isRe l0) j = lastOf l0 (stands l0) (isRe l0) l0.length by rw [← HS.out]; simp only [lastOf]; rw [if_neg (fun h => hf h.1)])
          have hf0 : stands l0 ((j : Int) + 1) = false := by simpa using hf
          rw [hf0] at hlook
          clear hf hf0
          go_wp2
          go_roundg j
          case measure => omega
          case rel => exact ⟨_, by omega, rfl, HCH, HM, E, HB⟩
end Go.Proofs.Ytppenjoobcppjaa.PHist
