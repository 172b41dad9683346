/- The merge that both Differ compute; '==' of Shown; boxes. -/
import Derived.Test.YtppenjoobcppjaaPDfx2
import Derived.Laws.StructEq
namespace Go.Proofs.Ytppenjoobcppjaa.PDf
open Go.RowKit Go.Proofs.YtppenjoobcppjaaW.PrintWords Go.Proofs.YtppenjoobcppjaaW.PrintLast Go.Proofs.YtppenjoobcppjaaW.PrintMore
set_option linter.unusedVariables false
set_option linter.unusedSimpArgs false
set_option maxRecDepth 100000
theorem eqA129 (d : Nat) (w : World) (x0 y0 : Bool) (x1 y1 : Int) (x2 y2 : Int) :
    (Op.equalIn (d + 2) 129 (.agg #[.bool x0, .int .i64 x1, .int .i64 x2]) (.agg #[.bool y0, .int .i64 y1, .int .i64 y2])).run Try.prog w = .ok (x0 == y0 && (x1 == y1 && (x2 == y2))) w := by
  refine eqA_of Try.underlying129 (by kernel_rfl) ?_
  refine eqf_cons (by rfl) (by go_simp; rfl) (by go_simp; rfl) (by go_simp) ?_
  refine eqf_cons (by rfl) (by go_simp; rfl) (by go_simp; rfl) (by go_simp) ?_
  exact eqf_last (by rfl) (by go_simp; rfl) (by go_simp; rfl) (by go_simp)
theorem eqA131 (d : Nat) (w : World) (x0 y0 : Int) (x1 y1 : Bool) (x2 y2 : Int) (x3 y3 : Int) (x4 y4 : ByteArray) :
    (Op.equalIn (d + 3) 131 (.agg #[.int .i64 x0, .bool x1, .int .i64 x2, .int .i64 x3, .string x4]) (.agg #[.int .i64 y0, .bool y1, .int .i64 y2, .int .i64 y3, .string y4])).run Try.prog w = .ok (x0 == y0 && ((x1 == y1 && (x2 == y2 && (x3 == y3))) && (x4.toList == y4.toList))) w := by
  refine eqA_of Try.underlying131 (by kernel_rfl) ?_
  refine eqf_cons (by rfl) (by go_simp; rfl) (by go_simp; rfl) (by go_simp) ?_
  refine eqf_cons (by rfl) (by go_simp) (by go_simp) (eqA129 (d + 0) w _ _ _ _ _ _) ?_
  exact eqf_last (by rfl) (by go_simp; rfl) (by go_simp; rfl) (by go_simp)
theorem eqA133 (d : Nat) (w : World) (x0 y0 : Int) (x1 y1 : Int) (x2 y2 : Int) (x3 y3 : Bool) (x4 y4 : Int) (x5 y5 : Int) (x6 y6 : ByteArray) (x7 y7 : Bool) :
    (Op.equalIn (d + 4) 133 (.agg #[.int .i64 x0, .int .i64 x1, .int .i64 x2, .bool x3, .int .i64 x4, .int .i64 x5, .string x6, .bool x7]) (.agg #[.int .i64 y0, .int .i64 y1, .int .i64 y2, .bool y3, .int .i64 y4, .int .i64 y5, .string y6, .bool y7])).run Try.prog w = .ok (x0 == y0 && (x1 == y1 && ((x2 == y2 && ((x3 == y3 && (x4 == y4 && (x5 == y5))) && (x6.toList == y6.toList))) && (x7 == y7)))) w := by
  refine eqA_of Try.underlying133 (by kernel_rfl) ?_
  refine eqf_cons (by rfl) (by go_simp; rfl) (by go_simp; rfl) (by go_simp) ?_
  refine eqf_cons (by rfl) (by go_simp; rfl) (by go_simp; rfl) (by go_simp) ?_
  refine eqf_cons (by rfl) (by go_simp) (by go_simp) (eqA131 (d + 0) w _ _ _ _ _ _ _ _ _ _) ?_
  exact eqf_last (by rfl) (by go_simp; rfl) (by go_simp; rfl) (by go_simp)
def eqq (x0 y0 : Int) (x1 y1 : Int) (x2 y2 : Int) (x3 y3 : Bool) (x4 y4 : Int) (x5 y5 : Int) (x6 y6 : ByteArray) (x7 y7 : Bool) : Bool := x0 == y0 && (x1 == y1 && ((x2 == y2 && ((x3 == y3 && (x4 == y4 && (x5 == y5))) && (x6.toList == y6.toList))) && (x7 == y7)))
theorem eqB133 (d : Nat) (w : World) (x0 y0 : Int) (x1 y1 : Int) (x2 y2 : Int) (x3 y3 : Bool) (x4 y4 : Int) (x5 y5 : Int) (x6 y6 : ByteArray) (x7 y7 : Bool) :
    (Op.equalIn (d + 4) 133 (.agg #[.int .i64 (x0), .int .i64 (x1), .int .i64 (x2), .bool (x3), .int .i64 (x4), .int .i64 (x5), .string (x6), .bool (x7)]) (.agg #[.int .i64 (y0), .int .i64 (y1), .int .i64 (y2), .bool (y3), .int .i64 (y4), .int .i64 (y5), .string (y6), .bool (y7)])).run Try.prog w = .ok (eqq x0 y0 x1 y1 x2 y2 x3 y3 x4 y4 x5 y5 x6 y6 x7 y7) w := eqA133 d w x0 y0 x1 y1 x2 y2 x3 y3 x4 y4 x5 y5 x6 y6 x7 y7
theorem eqq_comm (x0 y0 : Int) (x1 y1 : Int) (x2 y2 : Int) (x3 y3 : Bool) (x4 y4 : Int) (x5 y5 : Int) (x6 y6 : ByteArray) (x7 y7 : Bool) : eqq x0 y0 x1 y1 x2 y2 x3 y3 x4 y4 x5 y5 x6 y6 x7 y7 = eqq y0 x0 y1 x1 y2 x2 y3 x3 y4 x4 y5 x5 y6 x6 y7 x7 := by
  unfold eqq
  rw [BEq.comm (a := x0) (b := y0), BEq.comm (a := x1) (b := y1), BEq.comm (a := x2) (b := y2), BEq.comm (a := x3) (b := y3), BEq.comm (a := x4) (b := y4), BEq.comm (a := x5) (b := y5), BEq.comm (a := x6.toList) (b := y6.toList), BEq.comm (a := x7) (b := y7)]

def bl (x : S133) : S133 := ⟨x.f0, x.f1, z131, false⟩
def eqS (x y : S133) : Bool := eqq (x.f0) (y.f0) (x.f1) (y.f1) (x.f2.f0) (y.f2.f0) (x.f2.f1.f0) (y.f2.f1.f0) (x.f2.f1.f1) (y.f2.f1.f1) (x.f2.f1.f2) (y.f2.f1.f2) (x.f2.f2) (y.f2.f2) (x.f3) (y.f3)
def bef (x y : S133) : Bool := decide (x.f0 < y.f0 ∨ (x.f0 = y.f0 ∧ x.f1 < y.f1))
def one (b : Bool) (x : S133) : List S133 := if b = true then [] else [x]
def dif : List S133 → List S133 → List S133
  | [], [] => []
  | x :: xs, [] => one (eqS x (bl x)) (bl x) ++ dif xs []
  | [], y :: ys => one (eqS y (bl y)) y ++ dif [] ys
  | x :: xs, y :: ys => if bef x y = true then one (eqS x (bl x)) (bl x) ++ dif xs (y :: ys) else if bef y x = true then one (eqS y (bl y)) y ++ dif (x :: xs) ys else one (eqS x y) y ++ dif xs ys
termination_by a b => a.length + b.length
def D (a b : List S133) (i k : Nat) : List S133 := dif (a.drop i) (b.drop k)
theorem drop_rd (a : List S133) (i : Nat) (h : i < a.length) : a.drop i = rd_T133 a i :: a.drop (i + 1) := by
  rw [List.drop_eq_getElem_cons h]
  congr 1
  unfold rd_T133
  rw [Int.toNat_natCast, List.getD_eq_getElem?_getD, List.getElem?_eq_getElem h]
  rfl
theorem drop_end (a : List S133) : a.drop a.length = [] := by simp
theorem D_a0 (a b : List S133) (i : Nat) (h : i < a.length) : D a b i b.length = one (eqS (rd_T133 a i) (bl (rd_T133 a i))) (bl (rd_T133 a i)) ++ D a b (i + 1) b.length := by
  unfold D
  rw [drop_rd a i h, drop_end b, dif]
theorem D_b0 (a b : List S133) (k : Nat) (h : k < b.length) : D a b a.length k = one (eqS (rd_T133 b k) (bl (rd_T133 b k))) (rd_T133 b k) ++ D a b a.length (k + 1) := by
  unfold D
  rw [drop_rd b k h, drop_end a, dif]
theorem D_a (a b : List S133) (i k : Nat) (h : i < a.length) (hk : k < b.length) (hb : bef (rd_T133 a i) (rd_T133 b k) = true) : D a b i k = one (eqS (rd_T133 a i) (bl (rd_T133 a i))) (bl (rd_T133 a i)) ++ D a b (i + 1) k := by
  unfold D
  rw [drop_rd a i h, drop_rd b k hk, dif, if_pos hb]
theorem D_b (a b : List S133) (i k : Nat) (h : i < a.length) (hk : k < b.length) (hb : bef (rd_T133 a i) (rd_T133 b k) = false) (hb2 : bef (rd_T133 b k) (rd_T133 a i) = true) : D a b i k = one (eqS (rd_T133 b k) (bl (rd_T133 b k))) (rd_T133 b k) ++ D a b i (k + 1) := by
  unfold D
  rw [drop_rd a i h, drop_rd b k hk, dif, if_neg (by rw [hb]; exact Bool.false_ne_true), if_pos hb2]
theorem D_e (a b : List S133) (i k : Nat) (h : i < a.length) (hk : k < b.length) (hb : bef (rd_T133 a i) (rd_T133 b k) = false) (hb2 : bef (rd_T133 b k) (rd_T133 a i) = false) : D a b i k = one (eqS (rd_T133 a i) (rd_T133 b k)) (rd_T133 b k) ++ D a b (i + 1) (k + 1) := by
  unfold D
  rw [drop_rd a i h, drop_rd b k hk, dif, if_neg (by rw [hb]; exact Bool.false_ne_true), if_neg (by rw [hb2]; exact Bool.false_ne_true)]
theorem D_end (a b : List S133) : D a b a.length b.length = [] := by
  unfold D
  rw [drop_end a, drop_end b, dif]
def cS (x : S133) : List Value := [.int .i64 (x.f0), .int .i64 (x.f1), .int .i64 (x.f2.f0), .bool (x.f2.f1.f0), .int .i64 (x.f2.f1.f1), .int .i64 (x.f2.f1.f2), .string (x.f2.f2), .bool (x.f3)]
theorem litS (W : World) (x : S133) : ReadsRow (fun y cs => y = x ∧ cs = cS x) 8 (W.alloc (.cells #[.int .i64 (x.f0), .int .i64 (x.f1), .int .i64 (x.f2.f0), .bool (x.f2.f1.f0), .int .i64 (x.f2.f1.f1), .int .i64 (x.f2.f1.f2), .string (x.f2.f2), .bool (x.f3)] 133 (0, 0))) (some ⟨W.heap.size, 0, none⟩) 1 [x] := by
  refine ⟨rfl, by omega, fun _ => ⟨_, rfl, fun j p hj => ?_⟩⟩
  have hj0 : j = 0 := by
    have := (List.getElem?_eq_some_iff.1 hj).1
    simpa using this
  subst hj0
  obtain rfl : x = p := by simpa using hj
  refine ⟨cS x, rfl, ⟨rfl, rfl⟩, fun i u hu => ?_⟩
  have h := blk_cell (blk_new W (.cells #[.int .i64 (x.f0), .int .i64 (x.f1), .int .i64 (x.f2.f0), .bool (x.f2.f1.f0), .int .i64 (x.f2.f1.f1), .int .i64 (x.f2.f1.f2), .string (x.f2.f2), .bool (x.f3)] 133 (0, 0))) i
  have e : (Addr.mk W.heap.size 0 none).add (0 * 8 + i) = ⟨W.heap.size, i, none⟩ := by (unfold Addr.add; split <;> simp_all)
  rw [e, h]
  have hu2 : (#[.int .i64 (x.f0), .int .i64 (x.f1), .int .i64 (x.f2.f0), .bool (x.f2.f1.f0), .int .i64 (x.f2.f1.f1), .int .i64 (x.f2.f1.f2), .string (x.f2.f2), .bool (x.f3)] : Array Value)[i]? = some u := by rw [← hu]; simp [cS]
  exact hu2
theorem bx8 {W : World} {g t : Nat} {a b c d e f h i : Value} (hb : W.heap[g]? = some (.cells #[a, b, c, d, e, f, h, i] t (0, 0))) :
    W.cell? ⟨g, 0, none⟩ = some a ∧ W.cell? ⟨g, 1, none⟩ = some b ∧ W.cell? ⟨g, 2, none⟩ = some c ∧ W.cell? ⟨g, 3, none⟩ = some d ∧ W.cell? ⟨g, 4, none⟩ = some e ∧ W.cell? ⟨g, 5, none⟩ = some f ∧ W.cell? ⟨g, 6, none⟩ = some h ∧ W.cell? ⟨g, 7, none⟩ = some i :=
  ⟨(blk_cell hb 0).trans rfl, (blk_cell hb 1).trans rfl, (blk_cell hb 2).trans rfl, (blk_cell hb 3).trans rfl, (blk_cell hb 4).trans rfl, (blk_cell hb 5).trans rfl, (blk_cell hb 6).trans rfl, (blk_cell hb 7).trans rfl⟩
theorem put8 {W : World} {g t : Nat} {c0 c1 c2 c3 c4 c5 c6 c7 : Value} (h : W.heap[g]? = some (.cells #[c0, c1, c2, c3, c4, c5, c6, c7] t (0, 0))) (v0 v1 v2 v3 v4 v5 v6 v7 : Value) :
    ((((((((W.setCell ⟨g, 0, none⟩ v0).setCell ⟨g, 1, none⟩ v1).setCell ⟨g, 2, none⟩ v2).setCell ⟨g, 3, none⟩ v3).setCell ⟨g, 4, none⟩ v4).setCell ⟨g, 5, none⟩ v5).setCell ⟨g, 6, none⟩ v6).setCell ⟨g, 7, none⟩ v7).heap[g]? = some (.cells #[v0, v1, v2, v3, v4, v5, v6, v7] t (0, 0)) :=
  blk_put (cs := #[v0, v1, v2, v3, v4, v5, v6, c7]) (blk_put (cs := #[v0, v1, v2, v3, v4, v5, c6, c7]) (blk_put (cs := #[v0, v1, v2, v3, v4, c5, c6, c7]) (blk_put (cs := #[v0, v1, v2, v3, c4, c5, c6, c7]) (blk_put (cs := #[v0, v1, v2, c3, c4, c5, c6, c7]) (blk_put (cs := #[v0, v1, c2, c3, c4, c5, c6, c7]) (blk_put (cs := #[v0, c1, c2, c3, c4, c5, c6, c7]) (blk_put h 0 v0 rfl) 1 v1 rfl) 2 v2 rfl) 3 v3 rfl) 4 v4 rfl) 5 v5 rfl) 6 v6 rfl) 7 v7 rfl
theorem below8 {w W : World} {g : Nat} (h : Below w.heap.size w W) (hg : w.heap.size ≤ g) (v0 v1 v2 v3 v4 v5 v6 v7 : Value) :
    Below w.heap.size w ((((((((W.setCell ⟨g, 0, none⟩ v0).setCell ⟨g, 1, none⟩ v1).setCell ⟨g, 2, none⟩ v2).setCell ⟨g, 3, none⟩ v3).setCell ⟨g, 4, none⟩ v4).setCell ⟨g, 5, none⟩ v5).setCell ⟨g, 6, none⟩ v6).setCell ⟨g, 7, none⟩ v7) :=
  below_set (below_set (below_set (below_set (below_set (below_set (below_set (below_set h hg) hg) hg) hg) hg) hg) hg) hg
theorem size_alloc (w : World) (o : Obj) : (w.alloc o).heap.size = w.heap.size + 1 := by
  first | (simp; done) | exact Array.size_push _
theorem frozen8 {W : World} {g t : Nat} {cs : Array Value} (hb : W.heap[g]? = some (.cells cs t (0, 0))) :
    W.frozen? ⟨g, 0, none⟩ = false ∧ W.frozen? ⟨g, 1, none⟩ = false ∧ W.frozen? ⟨g, 2, none⟩ = false ∧ W.frozen? ⟨g, 3, none⟩ = false ∧ W.frozen? ⟨g, 4, none⟩ = false ∧ W.frozen? ⟨g, 5, none⟩ = false ∧ W.frozen? ⟨g, 6, none⟩ = false ∧ W.frozen? ⟨g, 7, none⟩ = false :=
  ⟨blk_frozen hb 0, blk_frozen hb 1, blk_frozen hb 2, blk_frozen hb 3, blk_frozen hb 4, blk_frozen hb 5, blk_frozen hb 6, blk_frozen hb 7⟩
def set8 (W : World) (g : Nat) (v0 v1 v2 v3 v4 v5 v6 v7 : Value) : World := ((((((((W.setCell ⟨g, 0, none⟩ v0).setCell ⟨g, 1, none⟩ v1).setCell ⟨g, 2, none⟩ v2).setCell ⟨g, 3, none⟩ v3).setCell ⟨g, 4, none⟩ v4).setCell ⟨g, 5, none⟩ v5).setCell ⟨g, 6, none⟩ v6).setCell ⟨g, 7, none⟩ v7)
theorem set8_size (W : World) (g : Nat) (v0 v1 v2 v3 v4 v5 v6 v7 : Value) : (set8 W g v0 v1 v2 v3 v4 v5 v6 v7).heap.size = W.heap.size := by
  unfold set8
  simp [World.setCell]
theorem set8_far {W : World} {g g' t : Nat} {cs : Array Value} (h : W.heap[g']? = some (.cells cs t (0, 0))) (hne : g' ≠ g) (v0 v1 v2 v3 v4 v5 v6 v7 : Value) : (set8 W g v0 v1 v2 v3 v4 v5 v6 v7).heap[g']? = some (.cells cs t (0, 0)) := by
  unfold set8
  exact blk_far (blk_far (blk_far (blk_far (blk_far (blk_far (blk_far (blk_far h hne _) hne _) hne _) hne _) hne _) hne _) hne _) hne _


theorem far8 {W : World} {g : Nat} {a : Addr} {u : Value} (h : W.cell? a = some u) (hne : g ≠ a.block) (v0 v1 v2 v3 v4 v5 v6 v7 : Value) : ((((((((W.setCell ⟨g, 0, none⟩ v0).setCell ⟨g, 1, none⟩ v1).setCell ⟨g, 2, none⟩ v2).setCell ⟨g, 3, none⟩ v3).setCell ⟨g, 4, none⟩ v4).setCell ⟨g, 5, none⟩ v5).setCell ⟨g, 6, none⟩ v6).setCell ⟨g, 7, none⟩ v7).cell? a = some u := by
  have hk : ∀ (W : World) (i : Nat) (v : Value), (W.setCell ⟨g, i, none⟩ v).cell? a = W.cell? a := fun W i v => World.cell?_setCell_other W _ _ v (fun e => hne (by rw [← e]))
  rw [hk, hk, hk, hk, hk, hk, hk, hk]
  exact h

def C8 (W : World) (a : Addr) (x : S133) : Prop := W.cell? a = some (.int .i64 (x.f0)) ∧ W.cell? ⟨a.block, a.off + 1, none⟩ = some (.int .i64 (x.f1)) ∧ W.cell? ⟨a.block, a.off + 2, none⟩ = some (.int .i64 (x.f2.f0)) ∧ W.cell? ⟨a.block, a.off + 3, none⟩ = some (.bool (x.f2.f1.f0)) ∧ W.cell? ⟨a.block, a.off + 4, none⟩ = some (.int .i64 (x.f2.f1.f1)) ∧ W.cell? ⟨a.block, a.off + 5, none⟩ = some (.int .i64 (x.f2.f1.f2)) ∧ W.cell? ⟨a.block, a.off + 6, none⟩ = some (.string (x.f2.f2)) ∧ W.cell? ⟨a.block, a.off + 7, none⟩ = some (.bool (x.f3))
theorem at8N {w W : World} {A : Option Addr} {n : Nat} {xs : List S133} (h : Kd.C k133 w A n xs) (i : Nat) (h1 : i < n) : ∃ ad, A = some ad ∧ C8 w (ad.add (i * 8)) (rd_T133 xs (i : Int)) := by
  obtain ⟨ad, e, x0, x1, x2, x3, x4, x5, x6, x7⟩ := at_T133 h (i : Int) (Int.natCast_nonneg _) (by omega)
  rw [Int.toNat_natCast] at x0 x1 x2 x3 x4 x5 x6 x7
  exact ⟨ad, e, x0, x1, x2, x3, x4, x5, x6, x7⟩
theorem c8_below {w W : World} {a : Addr} {x : S133} (h : C8 w a x) (hb : Below w.heap.size w W) : C8 W a x := by
  obtain ⟨x0, x1, x2, x3, x4, x5, x6, x7⟩ := h
  exact ⟨pw_cell_below hb x0, pw_cell_below hb x1, pw_cell_below hb x2, pw_cell_below hb x3, pw_cell_below hb x4, pw_cell_below hb x5, pw_cell_below hb x6, pw_cell_below hb x7⟩
theorem c8_set {W : World} {g : Nat} {a : Addr} {x : S133} (h : C8 W a x) (hne : g ≠ a.block) (y : S133) : C8 (((((((((W.setCell ⟨g, 0, none⟩ (.int .i64 (y.f0))).setCell ⟨g, 1, none⟩ (.int .i64 (y.f1))).setCell ⟨g, 2, none⟩ (.int .i64 (y.f2.f0))).setCell ⟨g, 3, none⟩ (.bool (y.f2.f1.f0))).setCell ⟨g, 4, none⟩ (.int .i64 (y.f2.f1.f1))).setCell ⟨g, 5, none⟩ (.int .i64 (y.f2.f1.f2))).setCell ⟨g, 6, none⟩ (.string (y.f2.f2))).setCell ⟨g, 7, none⟩ (.bool (y.f3)))) a x := by
  obtain ⟨x0, x1, x2, x3, x4, x5, x6, x7⟩ := h
  exact ⟨far8 x0 hne (.int .i64 (y.f0)) (.int .i64 (y.f1)) (.int .i64 (y.f2.f0)) (.bool (y.f2.f1.f0)) (.int .i64 (y.f2.f1.f1)) (.int .i64 (y.f2.f1.f2)) (.string (y.f2.f2)) (.bool (y.f3)), far8 x1 hne (.int .i64 (y.f0)) (.int .i64 (y.f1)) (.int .i64 (y.f2.f0)) (.bool (y.f2.f1.f0)) (.int .i64 (y.f2.f1.f1)) (.int .i64 (y.f2.f1.f2)) (.string (y.f2.f2)) (.bool (y.f3)), far8 x2 hne (.int .i64 (y.f0)) (.int .i64 (y.f1)) (.int .i64 (y.f2.f0)) (.bool (y.f2.f1.f0)) (.int .i64 (y.f2.f1.f1)) (.int .i64 (y.f2.f1.f2)) (.string (y.f2.f2)) (.bool (y.f3)), far8 x3 hne (.int .i64 (y.f0)) (.int .i64 (y.f1)) (.int .i64 (y.f2.f0)) (.bool (y.f2.f1.f0)) (.int .i64 (y.f2.f1.f1)) (.int .i64 (y.f2.f1.f2)) (.string (y.f2.f2)) (.bool (y.f3)), far8 x4 hne (.int .i64 (y.f0)) (.int .i64 (y.f1)) (.int .i64 (y.f2.f0)) (.bool (y.f2.f1.f0)) (.int .i64 (y.f2.f1.f1)) (.int .i64 (y.f2.f1.f2)) (.string (y.f2.f2)) (.bool (y.f3)), far8 x5 hne (.int .i64 (y.f0)) (.int .i64 (y.f1)) (.int .i64 (y.f2.f0)) (.bool (y.f2.f1.f0)) (.int .i64 (y.f2.f1.f1)) (.int .i64 (y.f2.f1.f2)) (.string (y.f2.f2)) (.bool (y.f3)), far8 x6 hne (.int .i64 (y.f0)) (.int .i64 (y.f1)) (.int .i64 (y.f2.f0)) (.bool (y.f2.f1.f0)) (.int .i64 (y.f2.f1.f1)) (.int .i64 (y.f2.f1.f2)) (.string (y.f2.f2)) (.bool (y.f3)), far8 x7 hne (.int .i64 (y.f0)) (.int .i64 (y.f1)) (.int .i64 (y.f2.f0)) (.bool (y.f2.f1.f0)) (.int .i64 (y.f2.f1.f1)) (.int .i64 (y.f2.f1.f2)) (.string (y.f2.f2)) (.bool (y.f3))⟩
theorem putS {W : World} {g t : Nat} {c0 c1 c2 c3 c4 c5 c6 c7 : Value} (h : W.heap[g]? = some (.cells #[c0, c1, c2, c3, c4, c5, c6, c7] t (0, 0))) (y : S133) : (((((((((W.setCell ⟨g, 0, none⟩ (.int .i64 (y.f0))).setCell ⟨g, 1, none⟩ (.int .i64 (y.f1))).setCell ⟨g, 2, none⟩ (.int .i64 (y.f2.f0))).setCell ⟨g, 3, none⟩ (.bool (y.f2.f1.f0))).setCell ⟨g, 4, none⟩ (.int .i64 (y.f2.f1.f1))).setCell ⟨g, 5, none⟩ (.int .i64 (y.f2.f1.f2))).setCell ⟨g, 6, none⟩ (.string (y.f2.f2))).setCell ⟨g, 7, none⟩ (.bool (y.f3)))).heap[g]? = some (.cells #[.int .i64 (y.f0), .int .i64 (y.f1), .int .i64 (y.f2.f0), .bool (y.f2.f1.f0), .int .i64 (y.f2.f1.f1), .int .i64 (y.f2.f1.f2), .string (y.f2.f2), .bool (y.f3)] t (0, 0)) := put8 h (.int .i64 (y.f0)) (.int .i64 (y.f1)) (.int .i64 (y.f2.f0)) (.bool (y.f2.f1.f0)) (.int .i64 (y.f2.f1.f1)) (.int .i64 (y.f2.f1.f2)) (.string (y.f2.f2)) (.bool (y.f3))
theorem setS_far {W : World} {g g' t : Nat} {cs : Array Value} (h : W.heap[g']? = some (.cells cs t (0, 0))) (hne : g' ≠ g) (y : S133) : (((((((((W.setCell ⟨g, 0, none⟩ (.int .i64 (y.f0))).setCell ⟨g, 1, none⟩ (.int .i64 (y.f1))).setCell ⟨g, 2, none⟩ (.int .i64 (y.f2.f0))).setCell ⟨g, 3, none⟩ (.bool (y.f2.f1.f0))).setCell ⟨g, 4, none⟩ (.int .i64 (y.f2.f1.f1))).setCell ⟨g, 5, none⟩ (.int .i64 (y.f2.f1.f2))).setCell ⟨g, 6, none⟩ (.string (y.f2.f2))).setCell ⟨g, 7, none⟩ (.bool (y.f3)))).heap[g']? = some (.cells cs t (0, 0)) := set8_far h hne (.int .i64 (y.f0)) (.int .i64 (y.f1)) (.int .i64 (y.f2.f0)) (.bool (y.f2.f1.f0)) (.int .i64 (y.f2.f1.f1)) (.int .i64 (y.f2.f1.f2)) (.string (y.f2.f2)) (.bool (y.f3))
theorem belowS {w W : World} {g : Nat} (h : Below w.heap.size w W) (hg : w.heap.size ≤ g) (y : S133) : Below w.heap.size w (((((((((W.setCell ⟨g, 0, none⟩ (.int .i64 (y.f0))).setCell ⟨g, 1, none⟩ (.int .i64 (y.f1))).setCell ⟨g, 2, none⟩ (.int .i64 (y.f2.f0))).setCell ⟨g, 3, none⟩ (.bool (y.f2.f1.f0))).setCell ⟨g, 4, none⟩ (.int .i64 (y.f2.f1.f1))).setCell ⟨g, 5, none⟩ (.int .i64 (y.f2.f1.f2))).setCell ⟨g, 6, none⟩ (.string (y.f2.f2))).setCell ⟨g, 7, none⟩ (.bool (y.f3)))) := below8 h hg (.int .i64 (y.f0)) (.int .i64 (y.f1)) (.int .i64 (y.f2.f0)) (.bool (y.f2.f1.f0)) (.int .i64 (y.f2.f1.f1)) (.int .i64 (y.f2.f1.f2)) (.string (y.f2.f2)) (.bool (y.f3))
end Go.Proofs.Ytppenjoobcppjaa.PDf
