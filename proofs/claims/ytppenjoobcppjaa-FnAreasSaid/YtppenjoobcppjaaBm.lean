/- A map from int to bool that a call made. -/
import Derived.Test.YtppenjoobcppjaaPFnWorkdaysx0
import Derived.Maps.OwnSet
import Derived.WalkSpells
import Derived.Lib.Hide
import Derived.Outline
namespace Go.Proofs.Ytppenjoobcppjaa.Bm
open Go.RowKit Go.Proofs.YtppenjoobcppjaaW.PrintWords Go.Proofs.YtppenjoobcppjaaW.PrintLast Go.Proofs.YtppenjoobcppjaaW.PrintMore
set_option linter.unusedVariables false
set_option linter.unusedSimpArgs false

/-! ### A map from int to bool that the call made -/
theorem bool_inv {H : Type} {P : Program} {e : TypeId} (he : P.underlying e = some .bool) {v : Value} {z : DataW H × List MemPlace} (h : plainElem P e v = some z) : ∃ a, v = .bool a ∧ z = (.lit (.bool a), []) := by
  unfold plainElem at h
  rw [he] at h
  cases v <;> simp at h
  exact ⟨_, rfl, h.symm⟩
def upd (f : Int → Bool) (k : Int) (u : Bool) : Int → Bool := fun i => if i = k then u else f i
def BMap (w : World) (b n : Nat) (f : Int → Bool) : Prop :=
  ∃ D : DataW Unit, w.ownsMap Try.prog 3 (plainElem Try.prog 4) b n D ∧ ∀ k, D.atKey (.int .i64 k) (.lit (.bool false)) = .lit (.bool (f k))
theorem zero4 (w : World) : (zeroValue 4).run Try.prog w = .ok (.bool false) w := by kernel_rfl
theorem lit_ne {a b : Int} (h : a ≠ b) : (Lit.int .i64 a) ≠ (Lit.int .i64 b) := fun e => h (by injection e)
theorem BMap.made (w : World) : BMap (w.alloc (.map #[] 0)) w.heap.size 0 (fun _ => false) := ⟨_, World.ownsMap_made w Try.prog 3 _, fun k => rfl⟩
theorem BMap.mono {w : World} {b n n' : Nat} {f : Int → Bool} (h : BMap w b n f) (hn : n ≤ n') : BMap w b n' f := by
  obtain ⟨D, h1, h2⟩ := h
  exact ⟨D, h1.mono hn, h2⟩
theorem BMap.lt {w : World} {b n : Nat} {f : Int → Bool} (h : BMap w b n f) : b < w.heap.size := by
  obtain ⟨D, h1, h2⟩ := h
  exact h1.lt
theorem BMap.kept {w w' : World} {b n : Nat} {f : Int → Bool} (h : BMap w b n f) (hh : w'.heap[b]? = w.heap[b]?) : BMap w' b n f := by
  obtain ⟨D, ⟨es, clock, hb, r⟩, h2⟩ := h
  exact ⟨D, ⟨es, clock, hh.trans hb, r⟩, h2⟩
theorem BMap.below {w w' : World} {b n : Nat} {f : Int → Bool} (h : BMap w b n f) (hb : Below w.heap.size w w') : BMap w' b n f := h.kept (hb.block b h.lt)
theorem BMap.congr {w : World} {b n : Nat} {f g : Int → Bool} (h : BMap w b n f) (e : ∀ k, f k = g k) : BMap w b n g := by
  have : f = g := funext e
  exact this ▸ h
set_option maxRecDepth 10000 in
theorem BMap.look {w : World} {b n : Nat} {f : Int → Bool} (h : BMap w b n f) {k : Int} (hk : (Lit.int .i64 k).wf = true) :
    (Instr.lookup 84 (.map (some b)) (.int .i64 k) false).run Try.prog w = .ok (.bool (f k)) w := by
  obtain ⟨D, h1, h2⟩ := h
  obtain ⟨v, ps, hrun, hv⟩ := h1.lookup (Maps.int_keyed Try.underlying3) Try.underlying84 (zero4 w) (plainElem_bool Try.underlying4 false) (Maps.keyOf_int_mk Try.underlying3 hk)
  rw [h2] at hv
  obtain ⟨x, rfl, hx⟩ := bool_inv Try.underlying4 hv
  simp only [Prod.mk.injEq] at hx
  have : f k = x := by have := hx.1; injection this with this; injection this
  rw [this]
  exact hrun
theorem BMap.put {w : World} {b n : Nat} {f : Int → Bool} (h : BMap w b n f) (hn : n < maxLen) {k : Int} (hk : (Lit.int .i64 k).wf = true) (u : Bool) :
    ∃ w', (Instr.mapUpdate 84 (.map (some b)) (.int .i64 k) (.bool u)).run Try.prog w = .ok () w' ∧ BMap w' b (n + 1) (upd f k u) ∧ w.grownBy w' (some b) := by
  obtain ⟨D, h1, h2⟩ := h
  obtain ⟨w', hrun, hown, hg⟩ := h1.update (Maps.int_keyed Try.underlying3) Try.underlying84 hn (Maps.keyOf_int_mk Try.underlying3 hk) (plainElem_bool Try.underlying4 u)
  refine ⟨w', hrun, ⟨_, hown, fun i => ?_⟩, hg⟩
  unfold upd
  split
  · rename_i e
    subst e
    exact Maps.atKey_put_same h1.isMap (show WideAt.IsKeyLit (.int .i64 i) from trivial) _ _
  · rename_i e
    rw [Maps.atKey_put_other (lit_ne e)]
    exact h2 i
theorem BMap.del {w : World} {b n : Nat} {f : Int → Bool} (h : BMap w b n f) {k : Int} (hk : (Lit.int .i64 k).wf = true) (ty : TypeId) :
    ∃ w', (Builtin.delete_ #[84, 3] ty #[.map (some b), .int .i64 k]).run Try.prog w = .ok (.tuple #[]) w' ∧ BMap w' b n (upd f k false) ∧ w.grownBy w' (some b) := by
  obtain ⟨D, h1, h2⟩ := h
  obtain ⟨w', hrun, hown, hg⟩ := h1.drop (Maps.int_keyed Try.underlying3) Try.underlying84 (Maps.keyOf_int_mk Try.underlying3 hk) ty
  refine ⟨w', hrun, ⟨_, hown, fun i => ?_⟩, hg.grown⟩
  unfold upd
  split
  · rename_i e
    subst e
    exact Maps.atKey_del_same _
  · rename_i e
    rw [Maps.atKey_del_other (lit_ne e)]
    exact h2 i
/-- A store into the map changes no cell. -/
theorem keep_cell {w w1 : World} {b n : Nat} {f : Int → Bool} (h : BMap w b n f) (hg : w.grownBy w1 (some b)) {x : Addr} {v : Value} (hc : w.cell? x = some v) : w1.cell? x = some v := by
  have hlt := World.block_lt_of_cell? w x hc
  have hne : x.block ≠ b := by
    intro e
    obtain ⟨D, ⟨es, clock, hb, _⟩, _⟩ := h
    rw [← e] at hb
    simp [World.cell?, hb] at hc
  have := hg.block x.block hlt (by simp; exact hne)
  simpa [World.cell?, this] using hc
section
variable {ops : Array Oper} {rest : List Oper} {o : Oper} {a : Act} {Q : Exit → Act → World → Prop}
theorem wp_put (w : World) (hg : o.guard = none) (m x v : Operand) (hop : o.op = Op.mapUpdate 84 m x v) (b n : Nat) (f : Int → Bool) (k : Int) (u : Bool)
    (hm : a.eval m = .map (some b)) (hx : a.eval x = .int .i64 k) (hv : a.eval v = .bool u) (h : BMap w b n f) (hn : n < maxLen) (hk : (Lit.int .i64 k).wf = true)
    (hK : ∀ w', BMap w' b (n + 1) (upd f k u) → w.grownBy w' (some b) → wpList Try.prog ops Q rest (a.put o.dst undef) w') : wpList Try.prog ops Q (o :: rest) a w := by
  refine wpList_plain hg fun K' hK' => ?_
  obtain ⟨w', hrun, r1, r2⟩ := h.put hn hk u
  unfold Oper.wp
  simp [execOp, hop, hm, hx, hv, hrun, Result.andThen]
  exact hK' _ _ (hK w' r1 r2)
theorem wp_del (w : World) (hg : o.guard = none) (m x : Operand) (hop : o.op = Op.call { callee := Callee.builtin Builtin.delete, args := #[m, x], argTypes := #[84, 3] }) (b n : Nat) (f : Int → Bool) (k : Int)
    (hm : a.eval m = .map (some b)) (hx : a.eval x = .int .i64 k) (h : BMap w b n f) (hk : (Lit.int .i64 k).wf = true)
    (hK : ∀ w', BMap w' b n (upd f k false) → w.grownBy w' (some b) → wpList Try.prog ops Q rest (a.put o.dst (.tuple #[])) w') : wpList Try.prog ops Q (o :: rest) a w := by
  refine wpList_plain hg fun K' hK' => ?_
  obtain ⟨w', hrun, r1, r2⟩ := h.del hk o.type
  unfold Oper.wp
  simp [execOp, hop, resolve, invoke, builtin, hm, hx, hrun, Result.andThen]
  exact hK' _ _ (hK w' r1 r2)
end
theorem i64_min : IntKind.i64.min = -9223372036854775808 := by decide
theorem i64_max : IntKind.i64.max = 9223372036854775807 := by decide
theorem wf_i64 {k : Int} (h0 : -9223372036854775808 ≤ k) (h1 : k ≤ 9223372036854775807) : (Lit.int .i64 k).wf = true := by
  simp only [Lit.wf, i64_min, i64_max, Bool.and_eq_true, decide_eq_true_eq]
  omega
end Go.Proofs.Ytppenjoobcppjaa.Bm
