/-
  No cell of these rows narrows 'for every input' (looked for: loops, veiled, ifaces, maps, wideKeys, modest, calm, conditions, laid).
  DERIVED. THE GIVEN ROWS OF THIS SEAT. 12 by the template 'for every input the law returns true; each argument reads behind the call as it read before'; 0 by the template 'total and deterministic' (their statements: YtfkckobfpfkbjaaTotals.lean).
  GIVEN WITH THE SEED: the statements are not yours to turn. If you find one false, say at which input.
  Laid BY PROGRAM, IN A SANDBOX (cutbox-rows.mjs): the forced cells as the released guide's own fill.sh prints them over the translation 2d19a2faf875f466… (all of the seat's roots in one cut). By AI agents, Wed Nov 11 2026. No macro, syntax, notation, axiom, sorry.
-/
import Derived.Test.YtfkckobfpfkbjaaChecked
import GoSem.Claim
import GoSem.ClaimJoined
import GoSem.ClaimMapViews
import Derived.JoinedTies
import Derived.KernelRfl
namespace Go.Proofs.Ytfkckobfpfkbjaa
/- THE CELL 'sum', in the pinned program and in every row, IS THE sha256 OF THE DUMP (.gsa) THAT YtfkckobfpfkbjaaProg.lean LOADS. Nothing in Lean hashes anything: it is a label: what it is worth is what the hold of that sum in a sandbox is worth. -/
noncomputable def Try.pinned : Pinned := { name := "ytfkckobfpfkbjaa", sum := "2d19a2faf875f466bb35e7b9d40b13239a9ab7a92a1373c525877dfb402d7218", checked := Try.checked }
namespace Rows
def none {H : Type} : Left H := { results := [], args := [] }

/-- 'laws.FnExactValidMeets': WHATEVER THE INPUT: true; the input reads as it did. -/
def fnExactValidMeetsSpec : ChangeSpec := { name := "fnExactValidMeets", fn := fun _ => fun
  | [d] => { results := [.lit (.bool true)], args := [d] }
  | _ => none }
def fnExactValidMeetsRow : OpenClaim := { program := "ytfkckobfpfkbjaa", sum := "2d19a2faf875f466bb35e7b9d40b13239a9ab7a92a1373c525877dfb402d7218", func := "loop.example/g01384/laws.FnExactValidMeets", spec := "fnExactValidMeets", apart := false }
def FnExactValidMeetsSaid : Prop := fnExactValidMeetsRow.holds Try.pinned (OpenSpec.ofChange fnExactValidMeetsSpec)

/-- ITS FALSE NEIGHBOUR: 'it returns false'. Refute it at one input. -/
def fnExactValidMeetsWrong : ChangeSpec := { name := "fnExactValidMeets", fn := fun _ => fun
  | [d] => { results := [.lit (.bool false)], args := [d] }
  | _ => none }
def FnExactValidMeetsWrongFalsely : Prop := fnExactValidMeetsRow.holds Try.pinned (OpenSpec.ofChange fnExactValidMeetsWrong)

/-- 'laws.FnExactMayWind': WHATEVER THE INPUT: true; the input reads as it did. -/
def fnExactMayWindSpec : ChangeSpec := { name := "fnExactMayWind", fn := fun _ => fun
  | [d1, d2, d3] => { results := [.lit (.bool true)], args := [d1, d2, d3] }
  | _ => none }
def fnExactMayWindRow : OpenClaim := { program := "ytfkckobfpfkbjaa", sum := "2d19a2faf875f466bb35e7b9d40b13239a9ab7a92a1373c525877dfb402d7218", func := "loop.example/g01384/laws.FnExactMayWind", spec := "fnExactMayWind", unfollowed := true, recurses := true, apart := false }
def FnExactMayWindSaid : Prop := fnExactMayWindRow.holds Try.pinned (OpenSpec.ofChange fnExactMayWindSpec)

/-- ITS FALSE NEIGHBOUR: 'it returns false'. Refute it at one input. -/
def fnExactMayWindWrong : ChangeSpec := { name := "fnExactMayWind", fn := fun _ => fun
  | [d1, d2, d3] => { results := [.lit (.bool false)], args := [d1, d2, d3] }
  | _ => none }
def FnExactMayWindWrongFalsely : Prop := fnExactMayWindRow.holds Try.pinned (OpenSpec.ofChange fnExactMayWindWrong)

/-- 'laws.FnExactOnReel': WHATEVER THE INPUT: true; the input reads as it did. -/
def fnExactOnReelSpec : ChangeSpec := { name := "fnExactOnReel", fn := fun _ => fun
  | [d1, d2, d3] => { results := [.lit (.bool true)], args := [d1, d2, d3] }
  | _ => none }
def fnExactOnReelRow : OpenClaim := { program := "ytfkckobfpfkbjaa", sum := "2d19a2faf875f466bb35e7b9d40b13239a9ab7a92a1373c525877dfb402d7218", func := "loop.example/g01384/laws.FnExactOnReel", spec := "fnExactOnReel", unfollowed := true, recurses := true, apart := false }
def FnExactOnReelSaid : Prop := fnExactOnReelRow.holds Try.pinned (OpenSpec.ofChange fnExactOnReelSpec)

/-- ITS FALSE NEIGHBOUR: 'it returns false'. Refute it at one input. -/
def fnExactOnReelWrong : ChangeSpec := { name := "fnExactOnReel", fn := fun _ => fun
  | [d1, d2, d3] => { results := [.lit (.bool false)], args := [d1, d2, d3] }
  | _ => none }
def FnExactOnReelWrongFalsely : Prop := fnExactOnReelRow.holds Try.pinned (OpenSpec.ofChange fnExactOnReelWrong)

/-- 'laws.FnExactWeakestOf': WHATEVER THE INPUT: true; the input reads as it did. -/
def fnExactWeakestOfSpec : ChangeSpec := { name := "fnExactWeakestOf", fn := fun _ => fun
  | [d] => { results := [.lit (.bool true)], args := [d] }
  | _ => none }
def fnExactWeakestOfRow : OpenClaim := { program := "ytfkckobfpfkbjaa", sum := "2d19a2faf875f466bb35e7b9d40b13239a9ab7a92a1373c525877dfb402d7218", func := "loop.example/g01384/laws.FnExactWeakestOf", spec := "fnExactWeakestOf", unfollowed := true, recurses := true, apart := false }
def FnExactWeakestOfSaid : Prop := fnExactWeakestOfRow.holds Try.pinned (OpenSpec.ofChange fnExactWeakestOfSpec)

/-- ITS FALSE NEIGHBOUR: 'it returns false'. Refute it at one input. -/
def fnExactWeakestOfWrong : ChangeSpec := { name := "fnExactWeakestOf", fn := fun _ => fun
  | [d] => { results := [.lit (.bool false)], args := [d] }
  | _ => none }
def FnExactWeakestOfWrongFalsely : Prop := fnExactWeakestOfRow.holds Try.pinned (OpenSpec.ofChange fnExactWeakestOfWrong)

/-- 'laws.FnExactMirrorFabric': WHATEVER THE INPUT: true; the input reads as it did. -/
def fnExactMirrorFabricSpec : ChangeSpec := { name := "fnExactMirrorFabric", fn := fun _ => fun
  | [d] => { results := [.lit (.bool true)], args := [d] }
  | _ => none }
def fnExactMirrorFabricRow : OpenClaim := { program := "ytfkckobfpfkbjaa", sum := "2d19a2faf875f466bb35e7b9d40b13239a9ab7a92a1373c525877dfb402d7218", func := "loop.example/g01384/laws.FnExactMirrorFabric", spec := "fnExactMirrorFabric", apart := false }
def FnExactMirrorFabricSaid : Prop := fnExactMirrorFabricRow.holds Try.pinned (OpenSpec.ofChange fnExactMirrorFabricSpec)

/-- ITS FALSE NEIGHBOUR: 'it returns false'. Refute it at one input. -/
def fnExactMirrorFabricWrong : ChangeSpec := { name := "fnExactMirrorFabric", fn := fun _ => fun
  | [d] => { results := [.lit (.bool false)], args := [d] }
  | _ => none }
def FnExactMirrorFabricWrongFalsely : Prop := fnExactMirrorFabricRow.holds Try.pinned (OpenSpec.ofChange fnExactMirrorFabricWrong)

/-- 'laws.FnExactCheckReels': WHATEVER THE INPUT: true; the input reads as it did. -/
def fnExactCheckReelsSpec : ChangeSpec := { name := "fnExactCheckReels", fn := fun _ => fun
  | [d1, d2, d3, d4] => { results := [.lit (.bool true)], args := [d1, d2, d3, d4] }
  | _ => none }
def fnExactCheckReelsRow : OpenClaim := { program := "ytfkckobfpfkbjaa", sum := "2d19a2faf875f466bb35e7b9d40b13239a9ab7a92a1373c525877dfb402d7218", func := "loop.example/g01384/laws.FnExactCheckReels", spec := "fnExactCheckReels", unfollowed := true, recurses := true, apart := false }
def FnExactCheckReelsSaid : Prop := fnExactCheckReelsRow.holds Try.pinned (OpenSpec.ofChange fnExactCheckReelsSpec)

/-- ITS FALSE NEIGHBOUR: 'it returns false'. Refute it at one input. -/
def fnExactCheckReelsWrong : ChangeSpec := { name := "fnExactCheckReels", fn := fun _ => fun
  | [d1, d2, d3, d4] => { results := [.lit (.bool false)], args := [d1, d2, d3, d4] }
  | _ => none }
def FnExactCheckReelsWrongFalsely : Prop := fnExactCheckReelsRow.holds Try.pinned (OpenSpec.ofChange fnExactCheckReelsWrong)

/-- 'laws.FnExactAddRow': WHATEVER THE INPUT: true; the input reads as it did. -/
def fnExactAddRowSpec : ChangeSpec := { name := "fnExactAddRow", fn := fun _ => fun
  | [d1, d2] => { results := [.lit (.bool true)], args := [d1, d2] }
  | _ => none }
def fnExactAddRowRow : OpenClaim := { program := "ytfkckobfpfkbjaa", sum := "2d19a2faf875f466bb35e7b9d40b13239a9ab7a92a1373c525877dfb402d7218", func := "loop.example/g01384/laws.FnExactAddRow", spec := "fnExactAddRow", apart := false }
def FnExactAddRowSaid : Prop := fnExactAddRowRow.holds Try.pinned (OpenSpec.ofChange fnExactAddRowSpec)

/-- ITS FALSE NEIGHBOUR: 'it returns false'. Refute it at one input. -/
def fnExactAddRowWrong : ChangeSpec := { name := "fnExactAddRow", fn := fun _ => fun
  | [d1, d2] => { results := [.lit (.bool false)], args := [d1, d2] }
  | _ => none }
def FnExactAddRowWrongFalsely : Prop := fnExactAddRowRow.holds Try.pinned (OpenSpec.ofChange fnExactAddRowWrong)

/-- 'laws.FnExactFewestPieces': WHATEVER THE INPUT: true; the input reads as it did. -/
def fnExactFewestPiecesSpec : ChangeSpec := { name := "fnExactFewestPieces", fn := fun _ => fun
  | [d1, d2, d3] => { results := [.lit (.bool true)], args := [d1, d2, d3] }
  | _ => none }
def fnExactFewestPiecesRow : OpenClaim := { program := "ytfkckobfpfkbjaa", sum := "2d19a2faf875f466bb35e7b9d40b13239a9ab7a92a1373c525877dfb402d7218", func := "loop.example/g01384/laws.FnExactFewestPieces", spec := "fnExactFewestPieces", unfollowed := true, recurses := true, apart := false }
def FnExactFewestPiecesSaid : Prop := fnExactFewestPiecesRow.holds Try.pinned (OpenSpec.ofChange fnExactFewestPiecesSpec)

/-- ITS FALSE NEIGHBOUR: 'it returns false'. Refute it at one input. -/
def fnExactFewestPiecesWrong : ChangeSpec := { name := "fnExactFewestPieces", fn := fun _ => fun
  | [d1, d2, d3] => { results := [.lit (.bool false)], args := [d1, d2, d3] }
  | _ => none }
def FnExactFewestPiecesWrongFalsely : Prop := fnExactFewestPiecesRow.holds Try.pinned (OpenSpec.ofChange fnExactFewestPiecesWrong)

/-- 'laws.FnExactFrogTo': WHATEVER THE INPUT: true; the input reads as it did. -/
def fnExactFrogToSpec : ChangeSpec := { name := "fnExactFrogTo", fn := fun _ => fun
  | [d1, d2, d3] => { results := [.lit (.bool true)], args := [d1, d2, d3] }
  | _ => none }
def fnExactFrogToRow : OpenClaim := { program := "ytfkckobfpfkbjaa", sum := "2d19a2faf875f466bb35e7b9d40b13239a9ab7a92a1373c525877dfb402d7218", func := "loop.example/g01384/laws.FnExactFrogTo", spec := "fnExactFrogTo", apart := false }
def FnExactFrogToSaid : Prop := fnExactFrogToRow.holds Try.pinned (OpenSpec.ofChange fnExactFrogToSpec)

/-- ITS FALSE NEIGHBOUR: 'it returns false'. Refute it at one input. -/
def fnExactFrogToWrong : ChangeSpec := { name := "fnExactFrogTo", fn := fun _ => fun
  | [d1, d2, d3] => { results := [.lit (.bool false)], args := [d1, d2, d3] }
  | _ => none }
def FnExactFrogToWrongFalsely : Prop := fnExactFrogToRow.holds Try.pinned (OpenSpec.ofChange fnExactFrogToWrong)

/-- 'laws.FnExactLotsApart': WHATEVER THE INPUT: true; the input reads as it did. -/
def fnExactLotsApartSpec : ChangeSpec := { name := "fnExactLotsApart", fn := fun _ => fun
  | [d1, d2] => { results := [.lit (.bool true)], args := [d1, d2] }
  | _ => none }
def fnExactLotsApartRow : OpenClaim := { program := "ytfkckobfpfkbjaa", sum := "2d19a2faf875f466bb35e7b9d40b13239a9ab7a92a1373c525877dfb402d7218", func := "loop.example/g01384/laws.FnExactLotsApart", spec := "fnExactLotsApart", unfollowed := true, recurses := true, apart := false }
def FnExactLotsApartSaid : Prop := fnExactLotsApartRow.holds Try.pinned (OpenSpec.ofChange fnExactLotsApartSpec)

/-- ITS FALSE NEIGHBOUR: 'it returns false'. Refute it at one input. -/
def fnExactLotsApartWrong : ChangeSpec := { name := "fnExactLotsApart", fn := fun _ => fun
  | [d1, d2] => { results := [.lit (.bool false)], args := [d1, d2] }
  | _ => none }
def FnExactLotsApartWrongFalsely : Prop := fnExactLotsApartRow.holds Try.pinned (OpenSpec.ofChange fnExactLotsApartWrong)

/-- 'laws.FnExactEvenPlies': WHATEVER THE INPUT: true; the input reads as it did. -/
def fnExactEvenPliesSpec : ChangeSpec := { name := "fnExactEvenPlies", fn := fun _ => fun
  | [d1, d2] => { results := [.lit (.bool true)], args := [d1, d2] }
  | _ => none }
def fnExactEvenPliesRow : OpenClaim := { program := "ytfkckobfpfkbjaa", sum := "2d19a2faf875f466bb35e7b9d40b13239a9ab7a92a1373c525877dfb402d7218", func := "loop.example/g01384/laws.FnExactEvenPlies", spec := "fnExactEvenPlies", unfollowed := true, recurses := true, apart := false }
def FnExactEvenPliesSaid : Prop := fnExactEvenPliesRow.holds Try.pinned (OpenSpec.ofChange fnExactEvenPliesSpec)

/-- ITS FALSE NEIGHBOUR: 'it returns false'. Refute it at one input. -/
def fnExactEvenPliesWrong : ChangeSpec := { name := "fnExactEvenPlies", fn := fun _ => fun
  | [d1, d2] => { results := [.lit (.bool false)], args := [d1, d2] }
  | _ => none }
def FnExactEvenPliesWrongFalsely : Prop := fnExactEvenPliesRow.holds Try.pinned (OpenSpec.ofChange fnExactEvenPliesWrong)

/-- 'laws.FnUnwound': WHATEVER THE INPUT: true; the input reads as it did. -/
def fnUnwoundSpec : ChangeSpec := { name := "fnUnwound", fn := fun _ => fun
  | [d1, d2] => { results := [.lit (.bool true)], args := [d1, d2] }
  | _ => none }
def fnUnwoundRow : OpenClaim := { program := "ytfkckobfpfkbjaa", sum := "2d19a2faf875f466bb35e7b9d40b13239a9ab7a92a1373c525877dfb402d7218", func := "loop.example/g01384/laws.FnUnwound", spec := "fnUnwound", unfollowed := true, recurses := true, apart := false }
def FnUnwoundSaid : Prop := fnUnwoundRow.holds Try.pinned (OpenSpec.ofChange fnUnwoundSpec)

/-- ITS FALSE NEIGHBOUR: 'it returns false'. Refute it at one input. -/
def fnUnwoundWrong : ChangeSpec := { name := "fnUnwound", fn := fun _ => fun
  | [d1, d2] => { results := [.lit (.bool false)], args := [d1, d2] }
  | _ => none }
def FnUnwoundWrongFalsely : Prop := fnUnwoundRow.holds Try.pinned (OpenSpec.ofChange fnUnwoundWrong)

/- THE SECOND FORM. 'bulk': how many values and letters a reading holds, each counted each time it is reached (what is shared counts as often as it is met; a slice's spare places count too). A statement '..UptoSaid' is the law's where the arguments, and the package variables that the reading takes, are together of bulk at most 1048576: NARROWER than '..Said'. Prove '..Said' where nothing that the law and all that it calls make is longer than what came in: it says more and counts as full. Else prove '..UptoSaid'. A law counts once. -/
mutual
def uptoBulk {H : Type} : DataW H → Nat
  | .lit (.string bytes) => bytes.length + 1
  | .lit _ => 1
  | .nil => 1
  | .ptr d => uptoBulk d + 1
  | .slice elems spare => uptoBulkAll elems + uptoBulkAll spare + 1
  | .agg parts => uptoBulkAll parts + 1
  | .iface _ d => uptoBulk d + 1
  | .map entries => uptoBulkEntries entries + 1
  | .held _ => 1
def uptoBulkAll {H : Type} : List (DataW H) → Nat
  | [] => 0
  | d :: r => uptoBulk d + uptoBulkAll r
def uptoBulkEntries {H : Type} : List (Lit × DataW H) → Nat
  | [] => 0
  | x :: r => uptoBulkEntry x + uptoBulkEntries r
def uptoBulkEntry {H : Type} : Lit × DataW H → Nat
  | (.string bytes, d) => bytes.length + uptoBulk d + 1
  | (_, d) => uptoBulk d + 1
 end
def uptoSmall : (H : Type) → List (DataW H) → Bool := fun _ ds => decide (uptoBulkAll ds ≤ 1048576)
def OpenSpec.upto (s : _root_.Go.ChangeSpec) : _root_.Go.OpenSpec := { _root_.Go.OpenSpec.ofChange s with cond := some uptoSmall }

/-- 'laws.FnExactValidMeets', WHERE WHAT IT READS IS OF BULK AT MOST 1048576: true; the input reads as it did. -/
def fnExactValidMeetsUptoRow : OpenClaim := { program := "ytfkckobfpfkbjaa", sum := "2d19a2faf875f466bb35e7b9d40b13239a9ab7a92a1373c525877dfb402d7218", func := "loop.example/g01384/laws.FnExactValidMeets", spec := "fnExactValidMeets", apart := false, narrowed := true }
def FnExactValidMeetsUptoSaid : Prop := fnExactValidMeetsUptoRow.holds Try.pinned (OpenSpec.upto fnExactValidMeetsSpec)

/-- 'laws.FnExactMayWind', WHERE WHAT IT READS IS OF BULK AT MOST 1048576: true; the input reads as it did. -/
def fnExactMayWindUptoRow : OpenClaim := { program := "ytfkckobfpfkbjaa", sum := "2d19a2faf875f466bb35e7b9d40b13239a9ab7a92a1373c525877dfb402d7218", func := "loop.example/g01384/laws.FnExactMayWind", spec := "fnExactMayWind", unfollowed := true, recurses := true, apart := false, narrowed := true }
def FnExactMayWindUptoSaid : Prop := fnExactMayWindUptoRow.holds Try.pinned (OpenSpec.upto fnExactMayWindSpec)

/-- 'laws.FnExactOnReel', WHERE WHAT IT READS IS OF BULK AT MOST 1048576: true; the input reads as it did. -/
def fnExactOnReelUptoRow : OpenClaim := { program := "ytfkckobfpfkbjaa", sum := "2d19a2faf875f466bb35e7b9d40b13239a9ab7a92a1373c525877dfb402d7218", func := "loop.example/g01384/laws.FnExactOnReel", spec := "fnExactOnReel", unfollowed := true, recurses := true, apart := false, narrowed := true }
def FnExactOnReelUptoSaid : Prop := fnExactOnReelUptoRow.holds Try.pinned (OpenSpec.upto fnExactOnReelSpec)

/-- 'laws.FnExactWeakestOf', WHERE WHAT IT READS IS OF BULK AT MOST 1048576: true; the input reads as it did. -/
def fnExactWeakestOfUptoRow : OpenClaim := { program := "ytfkckobfpfkbjaa", sum := "2d19a2faf875f466bb35e7b9d40b13239a9ab7a92a1373c525877dfb402d7218", func := "loop.example/g01384/laws.FnExactWeakestOf", spec := "fnExactWeakestOf", unfollowed := true, recurses := true, apart := false, narrowed := true }
def FnExactWeakestOfUptoSaid : Prop := fnExactWeakestOfUptoRow.holds Try.pinned (OpenSpec.upto fnExactWeakestOfSpec)

/-- 'laws.FnExactMirrorFabric', WHERE WHAT IT READS IS OF BULK AT MOST 1048576: true; the input reads as it did. -/
def fnExactMirrorFabricUptoRow : OpenClaim := { program := "ytfkckobfpfkbjaa", sum := "2d19a2faf875f466bb35e7b9d40b13239a9ab7a92a1373c525877dfb402d7218", func := "loop.example/g01384/laws.FnExactMirrorFabric", spec := "fnExactMirrorFabric", apart := false, narrowed := true }
def FnExactMirrorFabricUptoSaid : Prop := fnExactMirrorFabricUptoRow.holds Try.pinned (OpenSpec.upto fnExactMirrorFabricSpec)

/-- 'laws.FnExactCheckReels', WHERE WHAT IT READS IS OF BULK AT MOST 1048576: true; the input reads as it did. -/
def fnExactCheckReelsUptoRow : OpenClaim := { program := "ytfkckobfpfkbjaa", sum := "2d19a2faf875f466bb35e7b9d40b13239a9ab7a92a1373c525877dfb402d7218", func := "loop.example/g01384/laws.FnExactCheckReels", spec := "fnExactCheckReels", unfollowed := true, recurses := true, apart := false, narrowed := true }
def FnExactCheckReelsUptoSaid : Prop := fnExactCheckReelsUptoRow.holds Try.pinned (OpenSpec.upto fnExactCheckReelsSpec)

/-- 'laws.FnExactAddRow', WHERE WHAT IT READS IS OF BULK AT MOST 1048576: true; the input reads as it did. -/
def fnExactAddRowUptoRow : OpenClaim := { program := "ytfkckobfpfkbjaa", sum := "2d19a2faf875f466bb35e7b9d40b13239a9ab7a92a1373c525877dfb402d7218", func := "loop.example/g01384/laws.FnExactAddRow", spec := "fnExactAddRow", apart := false, narrowed := true }
def FnExactAddRowUptoSaid : Prop := fnExactAddRowUptoRow.holds Try.pinned (OpenSpec.upto fnExactAddRowSpec)

/-- 'laws.FnExactFewestPieces', WHERE WHAT IT READS IS OF BULK AT MOST 1048576: true; the input reads as it did. -/
def fnExactFewestPiecesUptoRow : OpenClaim := { program := "ytfkckobfpfkbjaa", sum := "2d19a2faf875f466bb35e7b9d40b13239a9ab7a92a1373c525877dfb402d7218", func := "loop.example/g01384/laws.FnExactFewestPieces", spec := "fnExactFewestPieces", unfollowed := true, recurses := true, apart := false, narrowed := true }
def FnExactFewestPiecesUptoSaid : Prop := fnExactFewestPiecesUptoRow.holds Try.pinned (OpenSpec.upto fnExactFewestPiecesSpec)

/-- 'laws.FnExactFrogTo', WHERE WHAT IT READS IS OF BULK AT MOST 1048576: true; the input reads as it did. -/
def fnExactFrogToUptoRow : OpenClaim := { program := "ytfkckobfpfkbjaa", sum := "2d19a2faf875f466bb35e7b9d40b13239a9ab7a92a1373c525877dfb402d7218", func := "loop.example/g01384/laws.FnExactFrogTo", spec := "fnExactFrogTo", apart := false, narrowed := true }
def FnExactFrogToUptoSaid : Prop := fnExactFrogToUptoRow.holds Try.pinned (OpenSpec.upto fnExactFrogToSpec)

/-- 'laws.FnExactLotsApart', WHERE WHAT IT READS IS OF BULK AT MOST 1048576: true; the input reads as it did. -/
def fnExactLotsApartUptoRow : OpenClaim := { program := "ytfkckobfpfkbjaa", sum := "2d19a2faf875f466bb35e7b9d40b13239a9ab7a92a1373c525877dfb402d7218", func := "loop.example/g01384/laws.FnExactLotsApart", spec := "fnExactLotsApart", unfollowed := true, recurses := true, apart := false, narrowed := true }
def FnExactLotsApartUptoSaid : Prop := fnExactLotsApartUptoRow.holds Try.pinned (OpenSpec.upto fnExactLotsApartSpec)

/-- 'laws.FnExactEvenPlies', WHERE WHAT IT READS IS OF BULK AT MOST 1048576: true; the input reads as it did. -/
def fnExactEvenPliesUptoRow : OpenClaim := { program := "ytfkckobfpfkbjaa", sum := "2d19a2faf875f466bb35e7b9d40b13239a9ab7a92a1373c525877dfb402d7218", func := "loop.example/g01384/laws.FnExactEvenPlies", spec := "fnExactEvenPlies", unfollowed := true, recurses := true, apart := false, narrowed := true }
def FnExactEvenPliesUptoSaid : Prop := fnExactEvenPliesUptoRow.holds Try.pinned (OpenSpec.upto fnExactEvenPliesSpec)

/-- 'laws.FnUnwound', WHERE WHAT IT READS IS OF BULK AT MOST 1048576: true; the input reads as it did. -/
def fnUnwoundUptoRow : OpenClaim := { program := "ytfkckobfpfkbjaa", sum := "2d19a2faf875f466bb35e7b9d40b13239a9ab7a92a1373c525877dfb402d7218", func := "loop.example/g01384/laws.FnUnwound", spec := "fnUnwound", unfollowed := true, recurses := true, apart := false, narrowed := true }
def FnUnwoundUptoSaid : Prop := fnUnwoundUptoRow.holds Try.pinned (OpenSpec.upto fnUnwoundSpec)

end Rows
end Go.Proofs.Ytfkckobfpfkbjaa
