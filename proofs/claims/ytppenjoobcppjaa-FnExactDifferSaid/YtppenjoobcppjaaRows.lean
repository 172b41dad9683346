/-
  No cell of these rows narrows 'for every input' (looked for: loops, veiled, ifaces, maps, wideKeys, modest, calm, conditions, laid).
  DERIVED. THE GIVEN ROWS OF THIS SEAT. 8 by the template 'for every input the law returns true; each argument reads behind the call as it read before'; 0 by the template 'total and deterministic' (their statements: YtppenjoobcppjaaTotals.lean).
  GIVEN WITH THE SEED: the statements are not yours to turn. If you find one false, say at which input.
  Laid BY PROGRAM, IN A SANDBOX (cutbox-rows.mjs): the forced cells as the released guide's own fill.sh prints them over the translation fd1525cb9f826a7c… (all of the seat's roots in one cut). By AI agents, Wed Nov 11 2026. No macro, syntax, notation, axiom, sorry.
-/
import Derived.Test.YtppenjoobcppjaaChecked
import GoSem.Claim
import GoSem.ClaimJoined
import GoSem.ClaimMapViews
import Derived.JoinedTies
import Derived.KernelRfl
namespace Go.Proofs.Ytppenjoobcppjaa
/- THE CELL 'sum', in the pinned program and in every row, IS THE sha256 OF THE DUMP (.gsa) THAT YtppenjoobcppjaaProg.lean LOADS. Nothing in Lean hashes anything: it is a label: what it is worth is what the hold of that sum in a sandbox is worth. -/
noncomputable def Try.pinned : Pinned := { name := "ytppenjoobcppjaa", sum := "fd1525cb9f826a7cc7919f22169b4682cd30881cda9031f0f0bcc8811fcc28a7", checked := Try.checked }
namespace Rows
def none {H : Type} : Left H := { results := [], args := [] }

/-- 'laws.FnWorkdays': WHATEVER THE INPUT: true; the input reads as it did. -/
def fnWorkdaysSpec : ChangeSpec := { name := "fnWorkdays", fn := fun _ => fun
  | [d1, d2] => { results := [.lit (.bool true)], args := [d1, d2] }
  | _ => none }
def fnWorkdaysRow : OpenClaim := { program := "ytppenjoobcppjaa", sum := "fd1525cb9f826a7cc7919f22169b4682cd30881cda9031f0f0bcc8811fcc28a7", func := "loop.example/g00025/laws.FnWorkdays", spec := "fnWorkdays", recurses := true, apart := false }
def FnWorkdaysSaid : Prop := fnWorkdaysRow.holds Try.pinned (OpenSpec.ofChange fnWorkdaysSpec)

/-- ITS FALSE NEIGHBOUR: 'it returns false'. Refute it at one input. -/
def fnWorkdaysWrong : ChangeSpec := { name := "fnWorkdays", fn := fun _ => fun
  | [d1, d2] => { results := [.lit (.bool false)], args := [d1, d2] }
  | _ => none }
def FnWorkdaysWrongFalsely : Prop := fnWorkdaysRow.holds Try.pinned (OpenSpec.ofChange fnWorkdaysWrong)

/-- 'laws.FnExactLastUndo': WHATEVER THE INPUT: true; the input reads as it did. -/
def fnExactLastUndoSpec : ChangeSpec := { name := "fnExactLastUndo", fn := fun _ => fun
  | [d] => { results := [.lit (.bool true)], args := [d] }
  | _ => none }
def fnExactLastUndoRow : OpenClaim := { program := "ytppenjoobcppjaa", sum := "fd1525cb9f826a7cc7919f22169b4682cd30881cda9031f0f0bcc8811fcc28a7", func := "loop.example/g00025/laws.FnExactLastUndo", spec := "fnExactLastUndo", unfollowed := true, recurses := true, apart := false }
def FnExactLastUndoSaid : Prop := fnExactLastUndoRow.holds Try.pinned (OpenSpec.ofChange fnExactLastUndoSpec)

/-- ITS FALSE NEIGHBOUR: 'it returns false'. Refute it at one input. -/
def fnExactLastUndoWrong : ChangeSpec := { name := "fnExactLastUndo", fn := fun _ => fun
  | [d] => { results := [.lit (.bool false)], args := [d] }
  | _ => none }
def FnExactLastUndoWrongFalsely : Prop := fnExactLastUndoRow.holds Try.pinned (OpenSpec.ofChange fnExactLastUndoWrong)

/-- 'laws.FnExactLastRedo': WHATEVER THE INPUT: true; the input reads as it did. -/
def fnExactLastRedoSpec : ChangeSpec := { name := "fnExactLastRedo", fn := fun _ => fun
  | [d] => { results := [.lit (.bool true)], args := [d] }
  | _ => none }
def fnExactLastRedoRow : OpenClaim := { program := "ytppenjoobcppjaa", sum := "fd1525cb9f826a7cc7919f22169b4682cd30881cda9031f0f0bcc8811fcc28a7", func := "loop.example/g00025/laws.FnExactLastRedo", spec := "fnExactLastRedo", unfollowed := true, recurses := true, apart := false }
def FnExactLastRedoSaid : Prop := fnExactLastRedoRow.holds Try.pinned (OpenSpec.ofChange fnExactLastRedoSpec)

/-- ITS FALSE NEIGHBOUR: 'it returns false'. Refute it at one input. -/
def fnExactLastRedoWrong : ChangeSpec := { name := "fnExactLastRedo", fn := fun _ => fun
  | [d] => { results := [.lit (.bool false)], args := [d] }
  | _ => none }
def FnExactLastRedoWrongFalsely : Prop := fnExactLastRedoRow.holds Try.pinned (OpenSpec.ofChange fnExactLastRedoWrong)

/-- 'laws.FnAreas': WHATEVER THE INPUT: true; the input reads as it did. -/
def fnAreasSpec : ChangeSpec := { name := "fnAreas", fn := fun _ => fun
  | [d] => { results := [.lit (.bool true)], args := [d] }
  | _ => none }
def fnAreasRow : OpenClaim := { program := "ytppenjoobcppjaa", sum := "fd1525cb9f826a7cc7919f22169b4682cd30881cda9031f0f0bcc8811fcc28a7", func := "loop.example/g00025/laws.FnAreas", spec := "fnAreas", unfollowed := true, recurses := true, apart := false }
def FnAreasSaid : Prop := fnAreasRow.holds Try.pinned (OpenSpec.ofChange fnAreasSpec)

/-- ITS FALSE NEIGHBOUR: 'it returns false'. Refute it at one input. -/
def fnAreasWrong : ChangeSpec := { name := "fnAreas", fn := fun _ => fun
  | [d] => { results := [.lit (.bool false)], args := [d] }
  | _ => none }
def FnAreasWrongFalsely : Prop := fnAreasRow.holds Try.pinned (OpenSpec.ofChange fnAreasWrong)

/-- 'laws.FnExactReadSeparated': WHATEVER THE INPUT: true; the input reads as it did. -/
def fnExactReadSeparatedSpec : ChangeSpec := { name := "fnExactReadSeparated", fn := fun _ => fun
  | [d1, d2] => { results := [.lit (.bool true)], args := [d1, d2] }
  | _ => none }
def fnExactReadSeparatedRow : OpenClaim := { program := "ytppenjoobcppjaa", sum := "fd1525cb9f826a7cc7919f22169b4682cd30881cda9031f0f0bcc8811fcc28a7", func := "loop.example/g00025/laws.FnExactReadSeparated", spec := "fnExactReadSeparated", apart := false }
def FnExactReadSeparatedSaid : Prop := fnExactReadSeparatedRow.holds Try.pinned (OpenSpec.ofChange fnExactReadSeparatedSpec)

/-- ITS FALSE NEIGHBOUR: 'it returns false'. Refute it at one input. -/
def fnExactReadSeparatedWrong : ChangeSpec := { name := "fnExactReadSeparated", fn := fun _ => fun
  | [d1, d2] => { results := [.lit (.bool false)], args := [d1, d2] }
  | _ => none }
def FnExactReadSeparatedWrongFalsely : Prop := fnExactReadSeparatedRow.holds Try.pinned (OpenSpec.ofChange fnExactReadSeparatedWrong)

/-- 'laws.FnExactWithout': WHATEVER THE INPUT: true; the input reads as it did. -/
def fnExactWithoutSpec : ChangeSpec := { name := "fnExactWithout", fn := fun _ => fun
  | [d1, d2] => { results := [.lit (.bool true)], args := [d1, d2] }
  | _ => none }
def fnExactWithoutRow : OpenClaim := { program := "ytppenjoobcppjaa", sum := "fd1525cb9f826a7cc7919f22169b4682cd30881cda9031f0f0bcc8811fcc28a7", func := "loop.example/g00025/laws.FnExactWithout", spec := "fnExactWithout", unfollowed := true, recurses := true, apart := false }
def FnExactWithoutSaid : Prop := fnExactWithoutRow.holds Try.pinned (OpenSpec.ofChange fnExactWithoutSpec)

/-- ITS FALSE NEIGHBOUR: 'it returns false'. Refute it at one input. -/
def fnExactWithoutWrong : ChangeSpec := { name := "fnExactWithout", fn := fun _ => fun
  | [d1, d2] => { results := [.lit (.bool false)], args := [d1, d2] }
  | _ => none }
def FnExactWithoutWrongFalsely : Prop := fnExactWithoutRow.holds Try.pinned (OpenSpec.ofChange fnExactWithoutWrong)

/-- 'laws.FnExactStanding': WHATEVER THE INPUT: true; the input reads as it did. -/
def fnExactStandingSpec : ChangeSpec := { name := "fnExactStanding", fn := fun _ => fun
  | [d] => { results := [.lit (.bool true)], args := [d] }
  | _ => none }
def fnExactStandingRow : OpenClaim := { program := "ytppenjoobcppjaa", sum := "fd1525cb9f826a7cc7919f22169b4682cd30881cda9031f0f0bcc8811fcc28a7", func := "loop.example/g00025/laws.FnExactStanding", spec := "fnExactStanding", apart := false }
def FnExactStandingSaid : Prop := fnExactStandingRow.holds Try.pinned (OpenSpec.ofChange fnExactStandingSpec)

/-- ITS FALSE NEIGHBOUR: 'it returns false'. Refute it at one input. -/
def fnExactStandingWrong : ChangeSpec := { name := "fnExactStanding", fn := fun _ => fun
  | [d] => { results := [.lit (.bool false)], args := [d] }
  | _ => none }
def FnExactStandingWrongFalsely : Prop := fnExactStandingRow.holds Try.pinned (OpenSpec.ofChange fnExactStandingWrong)

/-- 'laws.FnExactDiffer': WHATEVER THE INPUT: true; the input reads as it did. -/
def fnExactDifferSpec : ChangeSpec := { name := "fnExactDiffer", fn := fun _ => fun
  | [d1, d2] => { results := [.lit (.bool true)], args := [d1, d2] }
  | _ => none }
def fnExactDifferRow : OpenClaim := { program := "ytppenjoobcppjaa", sum := "fd1525cb9f826a7cc7919f22169b4682cd30881cda9031f0f0bcc8811fcc28a7", func := "loop.example/g00025/laws.FnExactDiffer", spec := "fnExactDiffer", apart := false }
def FnExactDifferSaid : Prop := fnExactDifferRow.holds Try.pinned (OpenSpec.ofChange fnExactDifferSpec)

/-- ITS FALSE NEIGHBOUR: 'it returns false'. Refute it at one input. -/
def fnExactDifferWrong : ChangeSpec := { name := "fnExactDiffer", fn := fun _ => fun
  | [d1, d2] => { results := [.lit (.bool false)], args := [d1, d2] }
  | _ => none }
def FnExactDifferWrongFalsely : Prop := fnExactDifferRow.holds Try.pinned (OpenSpec.ofChange fnExactDifferWrong)

/- THE SECOND FORM. 'bulk': how many values and letters a reading holds, each counted each time it is reached (what is shared counts as often as it is met; a slice's spare places count too). A statement '..UptoSaid' is the law's where the arguments, and the package variables that the reading takes, are together of bulk at most 1048576: NARROWER than '..Said'. Prove '..Said' where nothing that the law and all that it calls make is longer than what came in: it says more and counts as full. Else prove '..UptoSaid'. A law counts once. -/
mutual
def uptoBulk {H : Type} : DataW H → Nat
  | .lit (.string bytes) => bytes.length + 1
  | .lit _ => 1
  | .nil => 1
  | .ptr d => uptoBulk d + 1
  | .slice elems spare => uptoBulkAll elems + uptoBulkAll spare + 1
  | .agg parts => uptoBulkAll parts + 1
  | .iface _ d => uptoBulk d + 1
  | .map entries => uptoBulkEntries entries + 1
  | .held _ => 1
def uptoBulkAll {H : Type} : List (DataW H) → Nat
  | [] => 0
  | d :: r => uptoBulk d + uptoBulkAll r
def uptoBulkEntries {H : Type} : List (Lit × DataW H) → Nat
  | [] => 0
  | x :: r => uptoBulkEntry x + uptoBulkEntries r
def uptoBulkEntry {H : Type} : Lit × DataW H → Nat
  | (.string bytes, d) => bytes.length + uptoBulk d + 1
  | (_, d) => uptoBulk d + 1
 end
def uptoSmall : (H : Type) → List (DataW H) → Bool := fun _ ds => decide (uptoBulkAll ds ≤ 1048576)
def OpenSpec.upto (s : _root_.Go.ChangeSpec) : _root_.Go.OpenSpec := { _root_.Go.OpenSpec.ofChange s with cond := some uptoSmall }

/-- 'laws.FnWorkdays', WHERE WHAT IT READS IS OF BULK AT MOST 1048576: true; the input reads as it did. -/
def fnWorkdaysUptoRow : OpenClaim := { program := "ytppenjoobcppjaa", sum := "fd1525cb9f826a7cc7919f22169b4682cd30881cda9031f0f0bcc8811fcc28a7", func := "loop.example/g00025/laws.FnWorkdays", spec := "fnWorkdays", recurses := true, apart := false, narrowed := true }
def FnWorkdaysUptoSaid : Prop := fnWorkdaysUptoRow.holds Try.pinned (OpenSpec.upto fnWorkdaysSpec)

/-- 'laws.FnExactLastUndo', WHERE WHAT IT READS IS OF BULK AT MOST 1048576: true; the input reads as it did. -/
def fnExactLastUndoUptoRow : OpenClaim := { program := "ytppenjoobcppjaa", sum := "fd1525cb9f826a7cc7919f22169b4682cd30881cda9031f0f0bcc8811fcc28a7", func := "loop.example/g00025/laws.FnExactLastUndo", spec := "fnExactLastUndo", unfollowed := true, recurses := true, apart := false, narrowed := true }
def FnExactLastUndoUptoSaid : Prop := fnExactLastUndoUptoRow.holds Try.pinned (OpenSpec.upto fnExactLastUndoSpec)

/-- 'laws.FnExactLastRedo', WHERE WHAT IT READS IS OF BULK AT MOST 1048576: true; the input reads as it did. -/
def fnExactLastRedoUptoRow : OpenClaim := { program := "ytppenjoobcppjaa", sum := "fd1525cb9f826a7cc7919f22169b4682cd30881cda9031f0f0bcc8811fcc28a7", func := "loop.example/g00025/laws.FnExactLastRedo", spec := "fnExactLastRedo", unfollowed := true, recurses := true, apart := false, narrowed := true }
def FnExactLastRedoUptoSaid : Prop := fnExactLastRedoUptoRow.holds Try.pinned (OpenSpec.upto fnExactLastRedoSpec)

/-- 'laws.FnAreas', WHERE WHAT IT READS IS OF BULK AT MOST 1048576: true; the input reads as it did. -/
def fnAreasUptoRow : OpenClaim := { program := "ytppenjoobcppjaa", sum := "fd1525cb9f826a7cc7919f22169b4682cd30881cda9031f0f0bcc8811fcc28a7", func := "loop.example/g00025/laws.FnAreas", spec := "fnAreas", unfollowed := true, recurses := true, apart := false, narrowed := true }
def FnAreasUptoSaid : Prop := fnAreasUptoRow.holds Try.pinned (OpenSpec.upto fnAreasSpec)

/-- 'laws.FnExactReadSeparated', WHERE WHAT IT READS IS OF BULK AT MOST 1048576: true; the input reads as it did. -/
def fnExactReadSeparatedUptoRow : OpenClaim := { program := "ytppenjoobcppjaa", sum := "fd1525cb9f826a7cc7919f22169b4682cd30881cda9031f0f0bcc8811fcc28a7", func := "loop.example/g00025/laws.FnExactReadSeparated", spec := "fnExactReadSeparated", apart := false, narrowed := true }
def FnExactReadSeparatedUptoSaid : Prop := fnExactReadSeparatedUptoRow.holds Try.pinned (OpenSpec.upto fnExactReadSeparatedSpec)

/-- 'laws.FnExactWithout', WHERE WHAT IT READS IS OF BULK AT MOST 1048576: true; the input reads as it did. -/
def fnExactWithoutUptoRow : OpenClaim := { program := "ytppenjoobcppjaa", sum := "fd1525cb9f826a7cc7919f22169b4682cd30881cda9031f0f0bcc8811fcc28a7", func := "loop.example/g00025/laws.FnExactWithout", spec := "fnExactWithout", unfollowed := true, recurses := true, apart := false, narrowed := true }
def FnExactWithoutUptoSaid : Prop := fnExactWithoutUptoRow.holds Try.pinned (OpenSpec.upto fnExactWithoutSpec)

/-- 'laws.FnExactStanding', WHERE WHAT IT READS IS OF BULK AT MOST 1048576: true; the input reads as it did. -/
def fnExactStandingUptoRow : OpenClaim := { program := "ytppenjoobcppjaa", sum := "fd1525cb9f826a7cc7919f22169b4682cd30881cda9031f0f0bcc8811fcc28a7", func := "loop.example/g00025/laws.FnExactStanding", spec := "fnExactStanding", apart := false, narrowed := true }
def FnExactStandingUptoSaid : Prop := fnExactStandingUptoRow.holds Try.pinned (OpenSpec.upto fnExactStandingSpec)

/-- 'laws.FnExactDiffer', WHERE WHAT IT READS IS OF BULK AT MOST 1048576: true; the input reads as it did. -/
def fnExactDifferUptoRow : OpenClaim := { program := "ytppenjoobcppjaa", sum := "fd1525cb9f826a7cc7919f22169b4682cd30881cda9031f0f0bcc8811fcc28a7", func := "loop.example/g00025/laws.FnExactDiffer", spec := "fnExactDiffer", apart := false, narrowed := true }
def FnExactDifferUptoSaid : Prop := fnExactDifferUptoRow.holds Try.pinned (OpenSpec.upto fnExactDifferSpec)

end Rows
end Go.Proofs.Ytppenjoobcppjaa
