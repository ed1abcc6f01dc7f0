/-
  No cell of these rows narrows 'for every input' (looked for: loops, veiled, ifaces, maps, wideKeys, modest, calm, conditions, laid).
  DERIVED. THE GIVEN ROWS OF THIS SEAT. 12 by the template 'for every input the law returns true; each argument reads behind the call as it read before'; 0 by the template 'total and deterministic' (their statements: YtejpdeaeflmmpaaTotals.lean).
  GIVEN WITH THE SEED: the statements are not yours to turn. If you find one false, say at which input.
  Laid BY PROGRAM, IN A SANDBOX (cutbox-rows.mjs): the forced cells as the released guide's own fill.sh prints them over the translation 54259e20e68a103a… (all of the seat's roots in one cut). By AI agents, Wed Nov 11 2026. No macro, syntax, notation, axiom, sorry.
-/
import Derived.Test.YtejpdeaeflmmpaaChecked
import GoSem.Claim
import GoSem.ClaimJoined
import GoSem.ClaimMapViews
import Derived.JoinedTies
import Derived.KernelRfl
namespace Go.Proofs.Ytejpdeaeflmmpaa
/- THE CELL 'sum', in the pinned program and in every row, IS THE sha256 OF THE DUMP (.gsa) THAT YtejpdeaeflmmpaaProg.lean LOADS. Nothing in Lean hashes anything: it is a label: what it is worth is what the hold of that sum in a sandbox is worth. -/
noncomputable def Try.pinned : Pinned := { name := "ytejpdeaeflmmpaa", sum := "54259e20e68a103ae8b2413dc18ee2c815ab46c746a2e9b802c0983ff23464b5", checked := Try.checked }
namespace Rows
def none {H : Type} : Left H := { results := [], args := [] }

/-- 'laws.FnExactCutsFrom': WHATEVER THE INPUT: true; the input reads as it did. -/
def fnExactCutsFromSpec : ChangeSpec := { name := "fnExactCutsFrom", fn := fun _ => fun
  | [d1, d2] => { results := [.lit (.bool true)], args := [d1, d2] }
  | _ => none }
def fnExactCutsFromRow : OpenClaim := { program := "ytejpdeaeflmmpaa", sum := "54259e20e68a103ae8b2413dc18ee2c815ab46c746a2e9b802c0983ff23464b5", func := "loop.example/g01384/laws.FnExactCutsFrom", spec := "fnExactCutsFrom", unfollowed := true, recurses := true, apart := false }
def FnExactCutsFromSaid : Prop := fnExactCutsFromRow.holds Try.pinned (OpenSpec.ofChange fnExactCutsFromSpec)

/-- ITS FALSE NEIGHBOUR: 'it returns false'. Refute it at one input. -/
def fnExactCutsFromWrong : ChangeSpec := { name := "fnExactCutsFrom", fn := fun _ => fun
  | [d1, d2] => { results := [.lit (.bool false)], args := [d1, d2] }
  | _ => none }
def FnExactCutsFromWrongFalsely : Prop := fnExactCutsFromRow.holds Try.pinned (OpenSpec.ofChange fnExactCutsFromWrong)

/-- 'laws.FnExactMirrorFabric': WHATEVER THE INPUT: true; the input reads as it did. -/
def fnExactMirrorFabricSpec : ChangeSpec := { name := "fnExactMirrorFabric", fn := fun _ => fun
  | [d] => { results := [.lit (.bool true)], args := [d] }
  | _ => none }
def fnExactMirrorFabricRow : OpenClaim := { program := "ytejpdeaeflmmpaa", sum := "54259e20e68a103ae8b2413dc18ee2c815ab46c746a2e9b802c0983ff23464b5", func := "loop.example/g01384/laws.FnExactMirrorFabric", spec := "fnExactMirrorFabric", apart := false }
def FnExactMirrorFabricSaid : Prop := fnExactMirrorFabricRow.holds Try.pinned (OpenSpec.ofChange fnExactMirrorFabricSpec)

/-- ITS FALSE NEIGHBOUR: 'it returns false'. Refute it at one input. -/
def fnExactMirrorFabricWrong : ChangeSpec := { name := "fnExactMirrorFabric", fn := fun _ => fun
  | [d] => { results := [.lit (.bool false)], args := [d] }
  | _ => none }
def FnExactMirrorFabricWrongFalsely : Prop := fnExactMirrorFabricRow.holds Try.pinned (OpenSpec.ofChange fnExactMirrorFabricWrong)

/-- 'laws.FnExactRowsWith': WHATEVER THE INPUT: true; the input reads as it did. -/
def fnExactRowsWithSpec : ChangeSpec := { name := "fnExactRowsWith", fn := fun _ => fun
  | [d1, d2, d3] => { results := [.lit (.bool true)], args := [d1, d2, d3] }
  | _ => none }
def fnExactRowsWithRow : OpenClaim := { program := "ytejpdeaeflmmpaa", sum := "54259e20e68a103ae8b2413dc18ee2c815ab46c746a2e9b802c0983ff23464b5", func := "loop.example/g01384/laws.FnExactRowsWith", spec := "fnExactRowsWith", apart := false }
def FnExactRowsWithSaid : Prop := fnExactRowsWithRow.holds Try.pinned (OpenSpec.ofChange fnExactRowsWithSpec)

/-- ITS FALSE NEIGHBOUR: 'it returns false'. Refute it at one input. -/
def fnExactRowsWithWrong : ChangeSpec := { name := "fnExactRowsWith", fn := fun _ => fun
  | [d1, d2, d3] => { results := [.lit (.bool false)], args := [d1, d2, d3] }
  | _ => none }
def FnExactRowsWithWrongFalsely : Prop := fnExactRowsWithRow.holds Try.pinned (OpenSpec.ofChange fnExactRowsWithWrong)

/-- 'laws.FnExactCheckReels': WHATEVER THE INPUT: true; the input reads as it did. -/
def fnExactCheckReelsSpec : ChangeSpec := { name := "fnExactCheckReels", fn := fun _ => fun
  | [d1, d2, d3, d4] => { results := [.lit (.bool true)], args := [d1, d2, d3, d4] }
  | _ => none }
def fnExactCheckReelsRow : OpenClaim := { program := "ytejpdeaeflmmpaa", sum := "54259e20e68a103ae8b2413dc18ee2c815ab46c746a2e9b802c0983ff23464b5", func := "loop.example/g01384/laws.FnExactCheckReels", spec := "fnExactCheckReels", unfollowed := true, recurses := true, apart := false }
def FnExactCheckReelsSaid : Prop := fnExactCheckReelsRow.holds Try.pinned (OpenSpec.ofChange fnExactCheckReelsSpec)

/-- ITS FALSE NEIGHBOUR: 'it returns false'. Refute it at one input. -/
def fnExactCheckReelsWrong : ChangeSpec := { name := "fnExactCheckReels", fn := fun _ => fun
  | [d1, d2, d3, d4] => { results := [.lit (.bool false)], args := [d1, d2, d3, d4] }
  | _ => none }
def FnExactCheckReelsWrongFalsely : Prop := fnExactCheckReelsRow.holds Try.pinned (OpenSpec.ofChange fnExactCheckReelsWrong)

/-- 'laws.FnExactAddRow': WHATEVER THE INPUT: true; the input reads as it did. -/
def fnExactAddRowSpec : ChangeSpec := { name := "fnExactAddRow", fn := fun _ => fun
  | [d1, d2] => { results := [.lit (.bool true)], args := [d1, d2] }
  | _ => none }
def fnExactAddRowRow : OpenClaim := { program := "ytejpdeaeflmmpaa", sum := "54259e20e68a103ae8b2413dc18ee2c815ab46c746a2e9b802c0983ff23464b5", func := "loop.example/g01384/laws.FnExactAddRow", spec := "fnExactAddRow", apart := false }
def FnExactAddRowSaid : Prop := fnExactAddRowRow.holds Try.pinned (OpenSpec.ofChange fnExactAddRowSpec)

/-- ITS FALSE NEIGHBOUR: 'it returns false'. Refute it at one input. -/
def fnExactAddRowWrong : ChangeSpec := { name := "fnExactAddRow", fn := fun _ => fun
  | [d1, d2] => { results := [.lit (.bool false)], args := [d1, d2] }
  | _ => none }
def FnExactAddRowWrongFalsely : Prop := fnExactAddRowRow.holds Try.pinned (OpenSpec.ofChange fnExactAddRowWrong)

/-- 'laws.FnExactEvenPlies': WHATEVER THE INPUT: true; the input reads as it did. -/
def fnExactEvenPliesSpec : ChangeSpec := { name := "fnExactEvenPlies", fn := fun _ => fun
  | [d1, d2] => { results := [.lit (.bool true)], args := [d1, d2] }
  | _ => none }
def fnExactEvenPliesRow : OpenClaim := { program := "ytejpdeaeflmmpaa", sum := "54259e20e68a103ae8b2413dc18ee2c815ab46c746a2e9b802c0983ff23464b5", func := "loop.example/g01384/laws.FnExactEvenPlies", spec := "fnExactEvenPlies", unfollowed := true, recurses := true, apart := false }
def FnExactEvenPliesSaid : Prop := fnExactEvenPliesRow.holds Try.pinned (OpenSpec.ofChange fnExactEvenPliesSpec)

/-- ITS FALSE NEIGHBOUR: 'it returns false'. Refute it at one input. -/
def fnExactEvenPliesWrong : ChangeSpec := { name := "fnExactEvenPlies", fn := fun _ => fun
  | [d1, d2] => { results := [.lit (.bool false)], args := [d1, d2] }
  | _ => none }
def FnExactEvenPliesWrongFalsely : Prop := fnExactEvenPliesRow.holds Try.pinned (OpenSpec.ofChange fnExactEvenPliesWrong)

/-- 'laws.FnExactWidthsOf': WHATEVER THE INPUT: true; the input reads as it did. -/
def fnExactWidthsOfSpec : ChangeSpec := { name := "fnExactWidthsOf", fn := fun _ => fun
  | [d] => { results := [.lit (.bool true)], args := [d] }
  | _ => none }
def fnExactWidthsOfRow : OpenClaim := { program := "ytejpdeaeflmmpaa", sum := "54259e20e68a103ae8b2413dc18ee2c815ab46c746a2e9b802c0983ff23464b5", func := "loop.example/g01384/laws.FnExactWidthsOf", spec := "fnExactWidthsOf", apart := false }
def FnExactWidthsOfSaid : Prop := fnExactWidthsOfRow.holds Try.pinned (OpenSpec.ofChange fnExactWidthsOfSpec)

/-- ITS FALSE NEIGHBOUR: 'it returns false'. Refute it at one input. -/
def fnExactWidthsOfWrong : ChangeSpec := { name := "fnExactWidthsOf", fn := fun _ => fun
  | [d] => { results := [.lit (.bool false)], args := [d] }
  | _ => none }
def FnExactWidthsOfWrongFalsely : Prop := fnExactWidthsOfRow.holds Try.pinned (OpenSpec.ofChange fnExactWidthsOfWrong)

/-- 'laws.FnExactGoesTo': WHATEVER THE INPUT: true; the input reads as it did. -/
def fnExactGoesToSpec : ChangeSpec := { name := "fnExactGoesTo", fn := fun _ => fun
  | [d1, d2] => { results := [.lit (.bool true)], args := [d1, d2] }
  | _ => none }
def fnExactGoesToRow : OpenClaim := { program := "ytejpdeaeflmmpaa", sum := "54259e20e68a103ae8b2413dc18ee2c815ab46c746a2e9b802c0983ff23464b5", func := "loop.example/g01384/laws.FnExactGoesTo", spec := "fnExactGoesTo", unfollowed := true, recurses := true, apart := false }
def FnExactGoesToSaid : Prop := fnExactGoesToRow.holds Try.pinned (OpenSpec.ofChange fnExactGoesToSpec)

/-- ITS FALSE NEIGHBOUR: 'it returns false'. Refute it at one input. -/
def fnExactGoesToWrong : ChangeSpec := { name := "fnExactGoesTo", fn := fun _ => fun
  | [d1, d2] => { results := [.lit (.bool false)], args := [d1, d2] }
  | _ => none }
def FnExactGoesToWrongFalsely : Prop := fnExactGoesToRow.holds Try.pinned (OpenSpec.ofChange fnExactGoesToWrong)

/-- 'laws.FnExactFewestPieces': WHATEVER THE INPUT: true; the input reads as it did. -/
def fnExactFewestPiecesSpec : ChangeSpec := { name := "fnExactFewestPieces", fn := fun _ => fun
  | [d1, d2, d3] => { results := [.lit (.bool true)], args := [d1, d2, d3] }
  | _ => none }
def fnExactFewestPiecesRow : OpenClaim := { program := "ytejpdeaeflmmpaa", sum := "54259e20e68a103ae8b2413dc18ee2c815ab46c746a2e9b802c0983ff23464b5", func := "loop.example/g01384/laws.FnExactFewestPieces", spec := "fnExactFewestPieces", unfollowed := true, recurses := true, apart := false }
def FnExactFewestPiecesSaid : Prop := fnExactFewestPiecesRow.holds Try.pinned (OpenSpec.ofChange fnExactFewestPiecesSpec)

/-- ITS FALSE NEIGHBOUR: 'it returns false'. Refute it at one input. -/
def fnExactFewestPiecesWrong : ChangeSpec := { name := "fnExactFewestPieces", fn := fun _ => fun
  | [d1, d2, d3] => { results := [.lit (.bool false)], args := [d1, d2, d3] }
  | _ => none }
def FnExactFewestPiecesWrongFalsely : Prop := fnExactFewestPiecesRow.holds Try.pinned (OpenSpec.ofChange fnExactFewestPiecesWrong)

/-- 'laws.FnExactFrogTo': WHATEVER THE INPUT: true; the input reads as it did. -/
def fnExactFrogToSpec : ChangeSpec := { name := "fnExactFrogTo", fn := fun _ => fun
  | [d1, d2, d3] => { results := [.lit (.bool true)], args := [d1, d2, d3] }
  | _ => none }
def fnExactFrogToRow : OpenClaim := { program := "ytejpdeaeflmmpaa", sum := "54259e20e68a103ae8b2413dc18ee2c815ab46c746a2e9b802c0983ff23464b5", func := "loop.example/g01384/laws.FnExactFrogTo", spec := "fnExactFrogTo", apart := false }
def FnExactFrogToSaid : Prop := fnExactFrogToRow.holds Try.pinned (OpenSpec.ofChange fnExactFrogToSpec)

/-- ITS FALSE NEIGHBOUR: 'it returns false'. Refute it at one input. -/
def fnExactFrogToWrong : ChangeSpec := { name := "fnExactFrogTo", fn := fun _ => fun
  | [d1, d2, d3] => { results := [.lit (.bool false)], args := [d1, d2, d3] }
  | _ => none }
def FnExactFrogToWrongFalsely : Prop := fnExactFrogToRow.holds Try.pinned (OpenSpec.ofChange fnExactFrogToWrong)

/-- 'laws.FnExactLotsApart': WHATEVER THE INPUT: true; the input reads as it did. -/
def fnExactLotsApartSpec : ChangeSpec := { name := "fnExactLotsApart", fn := fun _ => fun
  | [d1, d2] => { results := [.lit (.bool true)], args := [d1, d2] }
  | _ => none }
def fnExactLotsApartRow : OpenClaim := { program := "ytejpdeaeflmmpaa", sum := "54259e20e68a103ae8b2413dc18ee2c815ab46c746a2e9b802c0983ff23464b5", func := "loop.example/g01384/laws.FnExactLotsApart", spec := "fnExactLotsApart", unfollowed := true, recurses := true, apart := false }
def FnExactLotsApartSaid : Prop := fnExactLotsApartRow.holds Try.pinned (OpenSpec.ofChange fnExactLotsApartSpec)

/-- ITS FALSE NEIGHBOUR: 'it returns false'. Refute it at one input. -/
def fnExactLotsApartWrong : ChangeSpec := { name := "fnExactLotsApart", fn := fun _ => fun
  | [d1, d2] => { results := [.lit (.bool false)], args := [d1, d2] }
  | _ => none }
def FnExactLotsApartWrongFalsely : Prop := fnExactLotsApartRow.holds Try.pinned (OpenSpec.ofChange fnExactLotsApartWrong)

/-- 'laws.FnExactFewestOpened': WHATEVER THE INPUT: true; the input reads as it did. -/
def fnExactFewestOpenedSpec : ChangeSpec := { name := "fnExactFewestOpened", fn := fun _ => fun
  | [d1, d2] => { results := [.lit (.bool true)], args := [d1, d2] }
  | _ => none }
def fnExactFewestOpenedRow : OpenClaim := { program := "ytejpdeaeflmmpaa", sum := "54259e20e68a103ae8b2413dc18ee2c815ab46c746a2e9b802c0983ff23464b5", func := "loop.example/g01384/laws.FnExactFewestOpened", spec := "fnExactFewestOpened", unfollowed := true, recurses := true, apart := false }
def FnExactFewestOpenedSaid : Prop := fnExactFewestOpenedRow.holds Try.pinned (OpenSpec.ofChange fnExactFewestOpenedSpec)

/-- ITS FALSE NEIGHBOUR: 'it returns false'. Refute it at one input. -/
def fnExactFewestOpenedWrong : ChangeSpec := { name := "fnExactFewestOpened", fn := fun _ => fun
  | [d1, d2] => { results := [.lit (.bool false)], args := [d1, d2] }
  | _ => none }
def FnExactFewestOpenedWrongFalsely : Prop := fnExactFewestOpenedRow.holds Try.pinned (OpenSpec.ofChange fnExactFewestOpenedWrong)

/- THE SECOND FORM. 'bulk': how many values and letters a reading holds, each counted each time it is reached (what is shared counts as often as it is met; a slice's spare places count too). A statement '..UptoSaid' is the law's where the arguments, and the package variables that the reading takes, are together of bulk at most 1048576: NARROWER than '..Said'. Prove '..Said' where nothing that the law and all that it calls make is longer than what came in: it says more and counts as full. Else prove '..UptoSaid'. A law counts once. -/
mutual
def uptoBulk {H : Type} : DataW H → Nat
  | .lit (.string bytes) => bytes.length + 1
  | .lit _ => 1
  | .nil => 1
  | .ptr d => uptoBulk d + 1
  | .slice elems spare => uptoBulkAll elems + uptoBulkAll spare + 1
  | .agg parts => uptoBulkAll parts + 1
  | .iface _ d => uptoBulk d + 1
  | .map entries => uptoBulkEntries entries + 1
  | .held _ => 1
def uptoBulkAll {H : Type} : List (DataW H) → Nat
  | [] => 0
  | d :: r => uptoBulk d + uptoBulkAll r
def uptoBulkEntries {H : Type} : List (Lit × DataW H) → Nat
  | [] => 0
  | x :: r => uptoBulkEntry x + uptoBulkEntries r
def uptoBulkEntry {H : Type} : Lit × DataW H → Nat
  | (.string bytes, d) => bytes.length + uptoBulk d + 1
  | (_, d) => uptoBulk d + 1
 end
def uptoSmall : (H : Type) → List (DataW H) → Bool := fun _ ds => decide (uptoBulkAll ds ≤ 1048576)
def OpenSpec.upto (s : _root_.Go.ChangeSpec) : _root_.Go.OpenSpec := { _root_.Go.OpenSpec.ofChange s with cond := some uptoSmall }

/-- 'laws.FnExactCutsFrom', WHERE WHAT IT READS IS OF BULK AT MOST 1048576: true; the input reads as it did. -/
def fnExactCutsFromUptoRow : OpenClaim := { program := "ytejpdeaeflmmpaa", sum := "54259e20e68a103ae8b2413dc18ee2c815ab46c746a2e9b802c0983ff23464b5", func := "loop.example/g01384/laws.FnExactCutsFrom", spec := "fnExactCutsFrom", unfollowed := true, recurses := true, apart := false, narrowed := true }
def FnExactCutsFromUptoSaid : Prop := fnExactCutsFromUptoRow.holds Try.pinned (OpenSpec.upto fnExactCutsFromSpec)

/-- 'laws.FnExactMirrorFabric', WHERE WHAT IT READS IS OF BULK AT MOST 1048576: true; the input reads as it did. -/
def fnExactMirrorFabricUptoRow : OpenClaim := { program := "ytejpdeaeflmmpaa", sum := "54259e20e68a103ae8b2413dc18ee2c815ab46c746a2e9b802c0983ff23464b5", func := "loop.example/g01384/laws.FnExactMirrorFabric", spec := "fnExactMirrorFabric", apart := false, narrowed := true }
def FnExactMirrorFabricUptoSaid : Prop := fnExactMirrorFabricUptoRow.holds Try.pinned (OpenSpec.upto fnExactMirrorFabricSpec)

/-- 'laws.FnExactRowsWith', WHERE WHAT IT READS IS OF BULK AT MOST 1048576: true; the input reads as it did. -/
def fnExactRowsWithUptoRow : OpenClaim := { program := "ytejpdeaeflmmpaa", sum := "54259e20e68a103ae8b2413dc18ee2c815ab46c746a2e9b802c0983ff23464b5", func := "loop.example/g01384/laws.FnExactRowsWith", spec := "fnExactRowsWith", apart := false, narrowed := true }
def FnExactRowsWithUptoSaid : Prop := fnExactRowsWithUptoRow.holds Try.pinned (OpenSpec.upto fnExactRowsWithSpec)

/-- 'laws.FnExactCheckReels', WHERE WHAT IT READS IS OF BULK AT MOST 1048576: true; the input reads as it did. -/
def fnExactCheckReelsUptoRow : OpenClaim := { program := "ytejpdeaeflmmpaa", sum := "54259e20e68a103ae8b2413dc18ee2c815ab46c746a2e9b802c0983ff23464b5", func := "loop.example/g01384/laws.FnExactCheckReels", spec := "fnExactCheckReels", unfollowed := true, recurses := true, apart := false, narrowed := true }
def FnExactCheckReelsUptoSaid : Prop := fnExactCheckReelsUptoRow.holds Try.pinned (OpenSpec.upto fnExactCheckReelsSpec)

/-- 'laws.FnExactAddRow', WHERE WHAT IT READS IS OF BULK AT MOST 1048576: true; the input reads as it did. -/
def fnExactAddRowUptoRow : OpenClaim := { program := "ytejpdeaeflmmpaa", sum := "54259e20e68a103ae8b2413dc18ee2c815ab46c746a2e9b802c0983ff23464b5", func := "loop.example/g01384/laws.FnExactAddRow", spec := "fnExactAddRow", apart := false, narrowed := true }
def FnExactAddRowUptoSaid : Prop := fnExactAddRowUptoRow.holds Try.pinned (OpenSpec.upto fnExactAddRowSpec)

/-- 'laws.FnExactEvenPlies', WHERE WHAT IT READS IS OF BULK AT MOST 1048576: true; the input reads as it did. -/
def fnExactEvenPliesUptoRow : OpenClaim := { program := "ytejpdeaeflmmpaa", sum := "54259e20e68a103ae8b2413dc18ee2c815ab46c746a2e9b802c0983ff23464b5", func := "loop.example/g01384/laws.FnExactEvenPlies", spec := "fnExactEvenPlies", unfollowed := true, recurses := true, apart := false, narrowed := true }
def FnExactEvenPliesUptoSaid : Prop := fnExactEvenPliesUptoRow.holds Try.pinned (OpenSpec.upto fnExactEvenPliesSpec)

/-- 'laws.FnExactWidthsOf', WHERE WHAT IT READS IS OF BULK AT MOST 1048576: true; the input reads as it did. -/
def fnExactWidthsOfUptoRow : OpenClaim := { program := "ytejpdeaeflmmpaa", sum := "54259e20e68a103ae8b2413dc18ee2c815ab46c746a2e9b802c0983ff23464b5", func := "loop.example/g01384/laws.FnExactWidthsOf", spec := "fnExactWidthsOf", apart := false, narrowed := true }
def FnExactWidthsOfUptoSaid : Prop := fnExactWidthsOfUptoRow.holds Try.pinned (OpenSpec.upto fnExactWidthsOfSpec)

/-- 'laws.FnExactGoesTo', WHERE WHAT IT READS IS OF BULK AT MOST 1048576: true; the input reads as it did. -/
def fnExactGoesToUptoRow : OpenClaim := { program := "ytejpdeaeflmmpaa", sum := "54259e20e68a103ae8b2413dc18ee2c815ab46c746a2e9b802c0983ff23464b5", func := "loop.example/g01384/laws.FnExactGoesTo", spec := "fnExactGoesTo", unfollowed := true, recurses := true, apart := false, narrowed := true }
def FnExactGoesToUptoSaid : Prop := fnExactGoesToUptoRow.holds Try.pinned (OpenSpec.upto fnExactGoesToSpec)

/-- 'laws.FnExactFewestPieces', WHERE WHAT IT READS IS OF BULK AT MOST 1048576: true; the input reads as it did. -/
def fnExactFewestPiecesUptoRow : OpenClaim := { program := "ytejpdeaeflmmpaa", sum := "54259e20e68a103ae8b2413dc18ee2c815ab46c746a2e9b802c0983ff23464b5", func := "loop.example/g01384/laws.FnExactFewestPieces", spec := "fnExactFewestPieces", unfollowed := true, recurses := true, apart := false, narrowed := true }
def FnExactFewestPiecesUptoSaid : Prop := fnExactFewestPiecesUptoRow.holds Try.pinned (OpenSpec.upto fnExactFewestPiecesSpec)

/-- 'laws.FnExactFrogTo', WHERE WHAT IT READS IS OF BULK AT MOST 1048576: true; the input reads as it did. -/
def fnExactFrogToUptoRow : OpenClaim := { program := "ytejpdeaeflmmpaa", sum := "54259e20e68a103ae8b2413dc18ee2c815ab46c746a2e9b802c0983ff23464b5", func := "loop.example/g01384/laws.FnExactFrogTo", spec := "fnExactFrogTo", apart := false, narrowed := true }
def FnExactFrogToUptoSaid : Prop := fnExactFrogToUptoRow.holds Try.pinned (OpenSpec.upto fnExactFrogToSpec)

/-- 'laws.FnExactLotsApart', WHERE WHAT IT READS IS OF BULK AT MOST 1048576: true; the input reads as it did. -/
def fnExactLotsApartUptoRow : OpenClaim := { program := "ytejpdeaeflmmpaa", sum := "54259e20e68a103ae8b2413dc18ee2c815ab46c746a2e9b802c0983ff23464b5", func := "loop.example/g01384/laws.FnExactLotsApart", spec := "fnExactLotsApart", unfollowed := true, recurses := true, apart := false, narrowed := true }
def FnExactLotsApartUptoSaid : Prop := fnExactLotsApartUptoRow.holds Try.pinned (OpenSpec.upto fnExactLotsApartSpec)

/-- 'laws.FnExactFewestOpened', WHERE WHAT IT READS IS OF BULK AT MOST 1048576: true; the input reads as it did. -/
def fnExactFewestOpenedUptoRow : OpenClaim := { program := "ytejpdeaeflmmpaa", sum := "54259e20e68a103ae8b2413dc18ee2c815ab46c746a2e9b802c0983ff23464b5", func := "loop.example/g01384/laws.FnExactFewestOpened", spec := "fnExactFewestOpened", unfollowed := true, recurses := true, apart := false, narrowed := true }
def FnExactFewestOpenedUptoSaid : Prop := fnExactFewestOpenedUptoRow.holds Try.pinned (OpenSpec.upto fnExactFewestOpenedSpec)

end Rows
end Go.Proofs.Ytejpdeaeflmmpaa
