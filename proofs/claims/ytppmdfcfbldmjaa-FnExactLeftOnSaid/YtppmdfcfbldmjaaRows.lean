/-
  No cell of these rows narrows 'for every input' (looked for: loops, veiled, ifaces, maps, wideKeys, modest, calm, conditions, laid).
  DERIVED. THE GIVEN ROWS OF THIS SEAT. 12 by the template 'for every input the law returns true; each argument reads behind the call as it read before'; 0 by the template 'total and deterministic' (their statements: YtppmdfcfbldmjaaTotals.lean).
  GIVEN WITH THE SEED: the statements are not yours to turn. If you find one false, say at which input.
  Laid BY PROGRAM, IN A SANDBOX (cutbox-rows.mjs): the forced cells as the released guide's own fill.sh prints them over the translation c0304bb3fcdbec73… (all of the seat's roots in one cut). By AI agents, Wed Nov 11 2026. No macro, syntax, notation, axiom, sorry.
-/
import Derived.Test.YtppmdfcfbldmjaaChecked
import GoSem.Claim
import GoSem.ClaimJoined
import GoSem.ClaimMapViews
import Derived.JoinedTies
import Derived.KernelRfl
namespace Go.Proofs.Ytppmdfcfbldmjaa
/- THE CELL 'sum', in the pinned program and in every row, IS THE sha256 OF THE DUMP (.gsa) THAT YtppmdfcfbldmjaaProg.lean LOADS. Nothing in Lean hashes anything: it is a label: what it is worth is what the hold of that sum in a sandbox is worth. -/
noncomputable def Try.pinned : Pinned := { name := "ytppmdfcfbldmjaa", sum := "c0304bb3fcdbec73a9762d8ce69ed144581bebdde7e7e10764ffb3e5545907c7", checked := Try.checked }
namespace Rows
def none {H : Type} : Left H := { results := [], args := [] }

/-- 'laws.FnExactShapeRows': WHATEVER THE INPUT: true; the input reads as it did. -/
def fnExactShapeRowsSpec : ChangeSpec := { name := "fnExactShapeRows", fn := fun _ => fun
  | [d1, d2, d3] => { results := [.lit (.bool true)], args := [d1, d2, d3] }
  | _ => none }
def fnExactShapeRowsRow : OpenClaim := { program := "ytppmdfcfbldmjaa", sum := "c0304bb3fcdbec73a9762d8ce69ed144581bebdde7e7e10764ffb3e5545907c7", func := "loop.example/g01384/laws.FnExactShapeRows", spec := "fnExactShapeRows", apart := false }
def FnExactShapeRowsSaid : Prop := fnExactShapeRowsRow.holds Try.pinned (OpenSpec.ofChange fnExactShapeRowsSpec)

/-- ITS FALSE NEIGHBOUR: 'it returns false'. Refute it at one input. -/
def fnExactShapeRowsWrong : ChangeSpec := { name := "fnExactShapeRows", fn := fun _ => fun
  | [d1, d2, d3] => { results := [.lit (.bool false)], args := [d1, d2, d3] }
  | _ => none }
def FnExactShapeRowsWrongFalsely : Prop := fnExactShapeRowsRow.holds Try.pinned (OpenSpec.ofChange fnExactShapeRowsWrong)

/-- 'laws.FnExactFirstBadRow': WHATEVER THE INPUT: true; the input reads as it did. -/
def fnExactFirstBadRowSpec : ChangeSpec := { name := "fnExactFirstBadRow", fn := fun _ => fun
  | [d1, d2] => { results := [.lit (.bool true)], args := [d1, d2] }
  | _ => none }
def fnExactFirstBadRowRow : OpenClaim := { program := "ytppmdfcfbldmjaa", sum := "c0304bb3fcdbec73a9762d8ce69ed144581bebdde7e7e10764ffb3e5545907c7", func := "loop.example/g01384/laws.FnExactFirstBadRow", spec := "fnExactFirstBadRow", apart := false }
def FnExactFirstBadRowSaid : Prop := fnExactFirstBadRowRow.holds Try.pinned (OpenSpec.ofChange fnExactFirstBadRowSpec)

/-- ITS FALSE NEIGHBOUR: 'it returns false'. Refute it at one input. -/
def fnExactFirstBadRowWrong : ChangeSpec := { name := "fnExactFirstBadRow", fn := fun _ => fun
  | [d1, d2] => { results := [.lit (.bool false)], args := [d1, d2] }
  | _ => none }
def FnExactFirstBadRowWrongFalsely : Prop := fnExactFirstBadRowRow.holds Try.pinned (OpenSpec.ofChange fnExactFirstBadRowWrong)

/-- 'laws.FnExactValidFabric': WHATEVER THE INPUT: true; the input reads as it did. -/
def fnExactValidFabricSpec : ChangeSpec := { name := "fnExactValidFabric", fn := fun _ => fun
  | [d] => { results := [.lit (.bool true)], args := [d] }
  | _ => none }
def fnExactValidFabricRow : OpenClaim := { program := "ytppmdfcfbldmjaa", sum := "c0304bb3fcdbec73a9762d8ce69ed144581bebdde7e7e10764ffb3e5545907c7", func := "loop.example/g01384/laws.FnExactValidFabric", spec := "fnExactValidFabric", apart := false }
def FnExactValidFabricSaid : Prop := fnExactValidFabricRow.holds Try.pinned (OpenSpec.ofChange fnExactValidFabricSpec)

/-- ITS FALSE NEIGHBOUR: 'it returns false'. Refute it at one input. -/
def fnExactValidFabricWrong : ChangeSpec := { name := "fnExactValidFabric", fn := fun _ => fun
  | [d] => { results := [.lit (.bool false)], args := [d] }
  | _ => none }
def FnExactValidFabricWrongFalsely : Prop := fnExactValidFabricRow.holds Try.pinned (OpenSpec.ofChange fnExactValidFabricWrong)

/-- 'laws.FnExactJoinYarns': WHATEVER THE INPUT: true; the input reads as it did. -/
def fnExactJoinYarnsSpec : ChangeSpec := { name := "fnExactJoinYarns", fn := fun _ => fun
  | [d1, d2] => { results := [.lit (.bool true)], args := [d1, d2] }
  | _ => none }
def fnExactJoinYarnsRow : OpenClaim := { program := "ytppmdfcfbldmjaa", sum := "c0304bb3fcdbec73a9762d8ce69ed144581bebdde7e7e10764ffb3e5545907c7", func := "loop.example/g01384/laws.FnExactJoinYarns", spec := "fnExactJoinYarns", unfollowed := true, recurses := true, apart := false }
def FnExactJoinYarnsSaid : Prop := fnExactJoinYarnsRow.holds Try.pinned (OpenSpec.ofChange fnExactJoinYarnsSpec)

/-- ITS FALSE NEIGHBOUR: 'it returns false'. Refute it at one input. -/
def fnExactJoinYarnsWrong : ChangeSpec := { name := "fnExactJoinYarns", fn := fun _ => fun
  | [d1, d2] => { results := [.lit (.bool false)], args := [d1, d2] }
  | _ => none }
def FnExactJoinYarnsWrongFalsely : Prop := fnExactJoinYarnsRow.holds Try.pinned (OpenSpec.ofChange fnExactJoinYarnsWrong)

/-- 'laws.FnExactPlyLong': WHATEVER THE INPUT: true; the input reads as it did. -/
def fnExactPlyLongSpec : ChangeSpec := { name := "fnExactPlyLong", fn := fun _ => fun
  | [d1, d2] => { results := [.lit (.bool true)], args := [d1, d2] }
  | _ => none }
def fnExactPlyLongRow : OpenClaim := { program := "ytppmdfcfbldmjaa", sum := "c0304bb3fcdbec73a9762d8ce69ed144581bebdde7e7e10764ffb3e5545907c7", func := "loop.example/g01384/laws.FnExactPlyLong", spec := "fnExactPlyLong", unfollowed := true, recurses := true, apart := false }
def FnExactPlyLongSaid : Prop := fnExactPlyLongRow.holds Try.pinned (OpenSpec.ofChange fnExactPlyLongSpec)

/-- ITS FALSE NEIGHBOUR: 'it returns false'. Refute it at one input. -/
def fnExactPlyLongWrong : ChangeSpec := { name := "fnExactPlyLong", fn := fun _ => fun
  | [d1, d2] => { results := [.lit (.bool false)], args := [d1, d2] }
  | _ => none }
def FnExactPlyLongWrongFalsely : Prop := fnExactPlyLongRow.holds Try.pinned (OpenSpec.ofChange fnExactPlyLongWrong)

/-- 'laws.FnExactOnReel': WHATEVER THE INPUT: true; the input reads as it did. -/
def fnExactOnReelSpec : ChangeSpec := { name := "fnExactOnReel", fn := fun _ => fun
  | [d1, d2, d3] => { results := [.lit (.bool true)], args := [d1, d2, d3] }
  | _ => none }
def fnExactOnReelRow : OpenClaim := { program := "ytppmdfcfbldmjaa", sum := "c0304bb3fcdbec73a9762d8ce69ed144581bebdde7e7e10764ffb3e5545907c7", func := "loop.example/g01384/laws.FnExactOnReel", spec := "fnExactOnReel", unfollowed := true, recurses := true, apart := false }
def FnExactOnReelSaid : Prop := fnExactOnReelRow.holds Try.pinned (OpenSpec.ofChange fnExactOnReelSpec)

/-- ITS FALSE NEIGHBOUR: 'it returns false'. Refute it at one input. -/
def fnExactOnReelWrong : ChangeSpec := { name := "fnExactOnReel", fn := fun _ => fun
  | [d1, d2, d3] => { results := [.lit (.bool false)], args := [d1, d2, d3] }
  | _ => none }
def FnExactOnReelWrongFalsely : Prop := fnExactOnReelRow.holds Try.pinned (OpenSpec.ofChange fnExactOnReelWrong)

/-- 'laws.FnExactWeakestOf': WHATEVER THE INPUT: true; the input reads as it did. -/
def fnExactWeakestOfSpec : ChangeSpec := { name := "fnExactWeakestOf", fn := fun _ => fun
  | [d] => { results := [.lit (.bool true)], args := [d] }
  | _ => none }
def fnExactWeakestOfRow : OpenClaim := { program := "ytppmdfcfbldmjaa", sum := "c0304bb3fcdbec73a9762d8ce69ed144581bebdde7e7e10764ffb3e5545907c7", func := "loop.example/g01384/laws.FnExactWeakestOf", spec := "fnExactWeakestOf", unfollowed := true, recurses := true, apart := false }
def FnExactWeakestOfSaid : Prop := fnExactWeakestOfRow.holds Try.pinned (OpenSpec.ofChange fnExactWeakestOfSpec)

/-- ITS FALSE NEIGHBOUR: 'it returns false'. Refute it at one input. -/
def fnExactWeakestOfWrong : ChangeSpec := { name := "fnExactWeakestOf", fn := fun _ => fun
  | [d] => { results := [.lit (.bool false)], args := [d] }
  | _ => none }
def FnExactWeakestOfWrongFalsely : Prop := fnExactWeakestOfRow.holds Try.pinned (OpenSpec.ofChange fnExactWeakestOfWrong)

/-- 'laws.FnExactBalanceTurns': WHATEVER THE INPUT: true; the input reads as it did. -/
def fnExactBalanceTurnsSpec : ChangeSpec := { name := "fnExactBalanceTurns", fn := fun _ => fun
  | [d] => { results := [.lit (.bool true)], args := [d] }
  | _ => none }
def fnExactBalanceTurnsRow : OpenClaim := { program := "ytppmdfcfbldmjaa", sum := "c0304bb3fcdbec73a9762d8ce69ed144581bebdde7e7e10764ffb3e5545907c7", func := "loop.example/g01384/laws.FnExactBalanceTurns", spec := "fnExactBalanceTurns", unfollowed := true, recurses := true, apart := false }
def FnExactBalanceTurnsSaid : Prop := fnExactBalanceTurnsRow.holds Try.pinned (OpenSpec.ofChange fnExactBalanceTurnsSpec)

/-- ITS FALSE NEIGHBOUR: 'it returns false'. Refute it at one input. -/
def fnExactBalanceTurnsWrong : ChangeSpec := { name := "fnExactBalanceTurns", fn := fun _ => fun
  | [d] => { results := [.lit (.bool false)], args := [d] }
  | _ => none }
def FnExactBalanceTurnsWrongFalsely : Prop := fnExactBalanceTurnsRow.holds Try.pinned (OpenSpec.ofChange fnExactBalanceTurnsWrong)

/-- 'laws.FnExactLeftOn': WHATEVER THE INPUT: true; the input reads as it did. -/
def fnExactLeftOnSpec : ChangeSpec := { name := "fnExactLeftOn", fn := fun _ => fun
  | [d1, d2, d3] => { results := [.lit (.bool true)], args := [d1, d2, d3] }
  | _ => none }
def fnExactLeftOnRow : OpenClaim := { program := "ytppmdfcfbldmjaa", sum := "c0304bb3fcdbec73a9762d8ce69ed144581bebdde7e7e10764ffb3e5545907c7", func := "loop.example/g01384/laws.FnExactLeftOn", spec := "fnExactLeftOn", unfollowed := true, recurses := true, apart := false }
def FnExactLeftOnSaid : Prop := fnExactLeftOnRow.holds Try.pinned (OpenSpec.ofChange fnExactLeftOnSpec)

/-- ITS FALSE NEIGHBOUR: 'it returns false'. Refute it at one input. -/
def fnExactLeftOnWrong : ChangeSpec := { name := "fnExactLeftOn", fn := fun _ => fun
  | [d1, d2, d3] => { results := [.lit (.bool false)], args := [d1, d2, d3] }
  | _ => none }
def FnExactLeftOnWrongFalsely : Prop := fnExactLeftOnRow.holds Try.pinned (OpenSpec.ofChange fnExactLeftOnWrong)

/-- 'laws.FnExactGraftLength': WHATEVER THE INPUT: true; the input reads as it did. -/
def fnExactGraftLengthSpec : ChangeSpec := { name := "fnExactGraftLength", fn := fun _ => fun
  | [d1, d2, d3] => { results := [.lit (.bool true)], args := [d1, d2, d3] }
  | _ => none }
def fnExactGraftLengthRow : OpenClaim := { program := "ytppmdfcfbldmjaa", sum := "c0304bb3fcdbec73a9762d8ce69ed144581bebdde7e7e10764ffb3e5545907c7", func := "loop.example/g01384/laws.FnExactGraftLength", spec := "fnExactGraftLength", apart := false }
def FnExactGraftLengthSaid : Prop := fnExactGraftLengthRow.holds Try.pinned (OpenSpec.ofChange fnExactGraftLengthSpec)

/-- ITS FALSE NEIGHBOUR: 'it returns false'. Refute it at one input. -/
def fnExactGraftLengthWrong : ChangeSpec := { name := "fnExactGraftLength", fn := fun _ => fun
  | [d1, d2, d3] => { results := [.lit (.bool false)], args := [d1, d2, d3] }
  | _ => none }
def FnExactGraftLengthWrongFalsely : Prop := fnExactGraftLengthRow.holds Try.pinned (OpenSpec.ofChange fnExactGraftLengthWrong)

/-- 'laws.FnExactYarnFor': WHATEVER THE INPUT: true; the input reads as it did. -/
def fnExactYarnForSpec : ChangeSpec := { name := "fnExactYarnFor", fn := fun _ => fun
  | [d1, d2] => { results := [.lit (.bool true)], args := [d1, d2] }
  | _ => none }
def fnExactYarnForRow : OpenClaim := { program := "ytppmdfcfbldmjaa", sum := "c0304bb3fcdbec73a9762d8ce69ed144581bebdde7e7e10764ffb3e5545907c7", func := "loop.example/g01384/laws.FnExactYarnFor", spec := "fnExactYarnFor", apart := false }
def FnExactYarnForSaid : Prop := fnExactYarnForRow.holds Try.pinned (OpenSpec.ofChange fnExactYarnForSpec)

/-- ITS FALSE NEIGHBOUR: 'it returns false'. Refute it at one input. -/
def fnExactYarnForWrong : ChangeSpec := { name := "fnExactYarnFor", fn := fun _ => fun
  | [d1, d2] => { results := [.lit (.bool false)], args := [d1, d2] }
  | _ => none }
def FnExactYarnForWrongFalsely : Prop := fnExactYarnForRow.holds Try.pinned (OpenSpec.ofChange fnExactYarnForWrong)

/-- 'laws.FnExactPlyYarns': WHATEVER THE INPUT: true; the input reads as it did. -/
def fnExactPlyYarnsSpec : ChangeSpec := { name := "fnExactPlyYarns", fn := fun _ => fun
  | [d1, d2] => { results := [.lit (.bool true)], args := [d1, d2] }
  | _ => none }
def fnExactPlyYarnsRow : OpenClaim := { program := "ytppmdfcfbldmjaa", sum := "c0304bb3fcdbec73a9762d8ce69ed144581bebdde7e7e10764ffb3e5545907c7", func := "loop.example/g01384/laws.FnExactPlyYarns", spec := "fnExactPlyYarns", unfollowed := true, recurses := true, apart := false }
def FnExactPlyYarnsSaid : Prop := fnExactPlyYarnsRow.holds Try.pinned (OpenSpec.ofChange fnExactPlyYarnsSpec)

/-- ITS FALSE NEIGHBOUR: 'it returns false'. Refute it at one input. -/
def fnExactPlyYarnsWrong : ChangeSpec := { name := "fnExactPlyYarns", fn := fun _ => fun
  | [d1, d2] => { results := [.lit (.bool false)], args := [d1, d2] }
  | _ => none }
def FnExactPlyYarnsWrongFalsely : Prop := fnExactPlyYarnsRow.holds Try.pinned (OpenSpec.ofChange fnExactPlyYarnsWrong)

/- THE SECOND FORM. 'bulk': how many values and letters a reading holds, each counted each time it is reached (what is shared counts as often as it is met; a slice's spare places count too). A statement '..UptoSaid' is the law's where the arguments, and the package variables that the reading takes, are together of bulk at most 1048576: NARROWER than '..Said'. Prove '..Said' where nothing that the law and all that it calls make is longer than what came in: it says more and counts as full. Else prove '..UptoSaid'. A law counts once. -/
mutual
def uptoBulk {H : Type} : DataW H → Nat
  | .lit (.string bytes) => bytes.length + 1
  | .lit _ => 1
  | .nil => 1
  | .ptr d => uptoBulk d + 1
  | .slice elems spare => uptoBulkAll elems + uptoBulkAll spare + 1
  | .agg parts => uptoBulkAll parts + 1
  | .iface _ d => uptoBulk d + 1
  | .map entries => uptoBulkEntries entries + 1
  | .held _ => 1
def uptoBulkAll {H : Type} : List (DataW H) → Nat
  | [] => 0
  | d :: r => uptoBulk d + uptoBulkAll r
def uptoBulkEntries {H : Type} : List (Lit × DataW H) → Nat
  | [] => 0
  | x :: r => uptoBulkEntry x + uptoBulkEntries r
def uptoBulkEntry {H : Type} : Lit × DataW H → Nat
  | (.string bytes, d) => bytes.length + uptoBulk d + 1
  | (_, d) => uptoBulk d + 1
 end
def uptoSmall : (H : Type) → List (DataW H) → Bool := fun _ ds => decide (uptoBulkAll ds ≤ 1048576)
def OpenSpec.upto (s : _root_.Go.ChangeSpec) : _root_.Go.OpenSpec := { _root_.Go.OpenSpec.ofChange s with cond := some uptoSmall }

/-- 'laws.FnExactShapeRows', WHERE WHAT IT READS IS OF BULK AT MOST 1048576: true; the input reads as it did. -/
def fnExactShapeRowsUptoRow : OpenClaim := { program := "ytppmdfcfbldmjaa", sum := "c0304bb3fcdbec73a9762d8ce69ed144581bebdde7e7e10764ffb3e5545907c7", func := "loop.example/g01384/laws.FnExactShapeRows", spec := "fnExactShapeRows", apart := false, narrowed := true }
def FnExactShapeRowsUptoSaid : Prop := fnExactShapeRowsUptoRow.holds Try.pinned (OpenSpec.upto fnExactShapeRowsSpec)

/-- 'laws.FnExactFirstBadRow', WHERE WHAT IT READS IS OF BULK AT MOST 1048576: true; the input reads as it did. -/
def fnExactFirstBadRowUptoRow : OpenClaim := { program := "ytppmdfcfbldmjaa", sum := "c0304bb3fcdbec73a9762d8ce69ed144581bebdde7e7e10764ffb3e5545907c7", func := "loop.example/g01384/laws.FnExactFirstBadRow", spec := "fnExactFirstBadRow", apart := false, narrowed := true }
def FnExactFirstBadRowUptoSaid : Prop := fnExactFirstBadRowUptoRow.holds Try.pinned (OpenSpec.upto fnExactFirstBadRowSpec)

/-- 'laws.FnExactValidFabric', WHERE WHAT IT READS IS OF BULK AT MOST 1048576: true; the input reads as it did. -/
def fnExactValidFabricUptoRow : OpenClaim := { program := "ytppmdfcfbldmjaa", sum := "c0304bb3fcdbec73a9762d8ce69ed144581bebdde7e7e10764ffb3e5545907c7", func := "loop.example/g01384/laws.FnExactValidFabric", spec := "fnExactValidFabric", apart := false, narrowed := true }
def FnExactValidFabricUptoSaid : Prop := fnExactValidFabricUptoRow.holds Try.pinned (OpenSpec.upto fnExactValidFabricSpec)

/-- 'laws.FnExactJoinYarns', WHERE WHAT IT READS IS OF BULK AT MOST 1048576: true; the input reads as it did. -/
def fnExactJoinYarnsUptoRow : OpenClaim := { program := "ytppmdfcfbldmjaa", sum := "c0304bb3fcdbec73a9762d8ce69ed144581bebdde7e7e10764ffb3e5545907c7", func := "loop.example/g01384/laws.FnExactJoinYarns", spec := "fnExactJoinYarns", unfollowed := true, recurses := true, apart := false, narrowed := true }
def FnExactJoinYarnsUptoSaid : Prop := fnExactJoinYarnsUptoRow.holds Try.pinned (OpenSpec.upto fnExactJoinYarnsSpec)

/-- 'laws.FnExactPlyLong', WHERE WHAT IT READS IS OF BULK AT MOST 1048576: true; the input reads as it did. -/
def fnExactPlyLongUptoRow : OpenClaim := { program := "ytppmdfcfbldmjaa", sum := "c0304bb3fcdbec73a9762d8ce69ed144581bebdde7e7e10764ffb3e5545907c7", func := "loop.example/g01384/laws.FnExactPlyLong", spec := "fnExactPlyLong", unfollowed := true, recurses := true, apart := false, narrowed := true }
def FnExactPlyLongUptoSaid : Prop := fnExactPlyLongUptoRow.holds Try.pinned (OpenSpec.upto fnExactPlyLongSpec)

/-- 'laws.FnExactOnReel', WHERE WHAT IT READS IS OF BULK AT MOST 1048576: true; the input reads as it did. -/
def fnExactOnReelUptoRow : OpenClaim := { program := "ytppmdfcfbldmjaa", sum := "c0304bb3fcdbec73a9762d8ce69ed144581bebdde7e7e10764ffb3e5545907c7", func := "loop.example/g01384/laws.FnExactOnReel", spec := "fnExactOnReel", unfollowed := true, recurses := true, apart := false, narrowed := true }
def FnExactOnReelUptoSaid : Prop := fnExactOnReelUptoRow.holds Try.pinned (OpenSpec.upto fnExactOnReelSpec)

/-- 'laws.FnExactWeakestOf', WHERE WHAT IT READS IS OF BULK AT MOST 1048576: true; the input reads as it did. -/
def fnExactWeakestOfUptoRow : OpenClaim := { program := "ytppmdfcfbldmjaa", sum := "c0304bb3fcdbec73a9762d8ce69ed144581bebdde7e7e10764ffb3e5545907c7", func := "loop.example/g01384/laws.FnExactWeakestOf", spec := "fnExactWeakestOf", unfollowed := true, recurses := true, apart := false, narrowed := true }
def FnExactWeakestOfUptoSaid : Prop := fnExactWeakestOfUptoRow.holds Try.pinned (OpenSpec.upto fnExactWeakestOfSpec)

/-- 'laws.FnExactBalanceTurns', WHERE WHAT IT READS IS OF BULK AT MOST 1048576: true; the input reads as it did. -/
def fnExactBalanceTurnsUptoRow : OpenClaim := { program := "ytppmdfcfbldmjaa", sum := "c0304bb3fcdbec73a9762d8ce69ed144581bebdde7e7e10764ffb3e5545907c7", func := "loop.example/g01384/laws.FnExactBalanceTurns", spec := "fnExactBalanceTurns", unfollowed := true, recurses := true, apart := false, narrowed := true }
def FnExactBalanceTurnsUptoSaid : Prop := fnExactBalanceTurnsUptoRow.holds Try.pinned (OpenSpec.upto fnExactBalanceTurnsSpec)

/-- 'laws.FnExactLeftOn', WHERE WHAT IT READS IS OF BULK AT MOST 1048576: true; the input reads as it did. -/
def fnExactLeftOnUptoRow : OpenClaim := { program := "ytppmdfcfbldmjaa", sum := "c0304bb3fcdbec73a9762d8ce69ed144581bebdde7e7e10764ffb3e5545907c7", func := "loop.example/g01384/laws.FnExactLeftOn", spec := "fnExactLeftOn", unfollowed := true, recurses := true, apart := false, narrowed := true }
def FnExactLeftOnUptoSaid : Prop := fnExactLeftOnUptoRow.holds Try.pinned (OpenSpec.upto fnExactLeftOnSpec)

/-- 'laws.FnExactGraftLength', WHERE WHAT IT READS IS OF BULK AT MOST 1048576: true; the input reads as it did. -/
def fnExactGraftLengthUptoRow : OpenClaim := { program := "ytppmdfcfbldmjaa", sum := "c0304bb3fcdbec73a9762d8ce69ed144581bebdde7e7e10764ffb3e5545907c7", func := "loop.example/g01384/laws.FnExactGraftLength", spec := "fnExactGraftLength", apart := false, narrowed := true }
def FnExactGraftLengthUptoSaid : Prop := fnExactGraftLengthUptoRow.holds Try.pinned (OpenSpec.upto fnExactGraftLengthSpec)

/-- 'laws.FnExactYarnFor', WHERE WHAT IT READS IS OF BULK AT MOST 1048576: true; the input reads as it did. -/
def fnExactYarnForUptoRow : OpenClaim := { program := "ytppmdfcfbldmjaa", sum := "c0304bb3fcdbec73a9762d8ce69ed144581bebdde7e7e10764ffb3e5545907c7", func := "loop.example/g01384/laws.FnExactYarnFor", spec := "fnExactYarnFor", apart := false, narrowed := true }
def FnExactYarnForUptoSaid : Prop := fnExactYarnForUptoRow.holds Try.pinned (OpenSpec.upto fnExactYarnForSpec)

/-- 'laws.FnExactPlyYarns', WHERE WHAT IT READS IS OF BULK AT MOST 1048576: true; the input reads as it did. -/
def fnExactPlyYarnsUptoRow : OpenClaim := { program := "ytppmdfcfbldmjaa", sum := "c0304bb3fcdbec73a9762d8ce69ed144581bebdde7e7e10764ffb3e5545907c7", func := "loop.example/g01384/laws.FnExactPlyYarns", spec := "fnExactPlyYarns", unfollowed := true, recurses := true, apart := false, narrowed := true }
def FnExactPlyYarnsUptoSaid : Prop := fnExactPlyYarnsUptoRow.holds Try.pinned (OpenSpec.upto fnExactPlyYarnsSpec)

end Rows
end Go.Proofs.Ytppmdfcfbldmjaa
