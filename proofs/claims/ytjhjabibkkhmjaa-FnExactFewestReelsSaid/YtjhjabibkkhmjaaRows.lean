/-
  No cell of these rows narrows 'for every input' (looked for: loops, veiled, ifaces, maps, wideKeys, modest, calm, conditions, laid).
  DERIVED. THE GIVEN ROWS OF THIS SEAT. 8 by the template 'for every input the law returns true; each argument reads behind the call as it read before'; 0 by the template 'total and deterministic' (their statements: YtjhjabibkkhmjaaTotals.lean).
  GIVEN WITH THE SEED: the statements are not yours to turn. If you find one false, say at which input.
  Laid BY PROGRAM, IN A SANDBOX (cutbox-rows.mjs): the forced cells as the released guide's own fill.sh prints them over the translation 6200b88e01e23ed0… (all of the seat's roots in one cut). By AI agents, Wed Nov 11 2026. No macro, syntax, notation, axiom, sorry.
-/
import Derived.Test.YtjhjabibkkhmjaaChecked
import GoSem.Claim
import GoSem.ClaimJoined
import GoSem.ClaimMapViews
import Derived.JoinedTies
import Derived.KernelRfl
namespace Go.Proofs.Ytjhjabibkkhmjaa
/- THE CELL 'sum', in the pinned program and in every row, IS THE sha256 OF THE DUMP (.gsa) THAT YtjhjabibkkhmjaaProg.lean LOADS. Nothing in Lean hashes anything: it is a label: what it is worth is what the hold of that sum in a sandbox is worth. -/
noncomputable def Try.pinned : Pinned := { name := "ytjhjabibkkhmjaa", sum := "6200b88e01e23ed0922fc5b4fdc9580275a5c9d7cff2b87b03d2e211a08b94c1", checked := Try.checked }
namespace Rows
def none {H : Type} : Left H := { results := [], args := [] }

/-- 'laws.FnUnwound': WHATEVER THE INPUT: true; the input reads as it did. -/
def fnUnwoundSpec : ChangeSpec := { name := "fnUnwound", fn := fun _ => fun
  | [d1, d2] => { results := [.lit (.bool true)], args := [d1, d2] }
  | _ => none }
def fnUnwoundRow : OpenClaim := { program := "ytjhjabibkkhmjaa", sum := "6200b88e01e23ed0922fc5b4fdc9580275a5c9d7cff2b87b03d2e211a08b94c1", func := "loop.example/g01384/laws.FnUnwound", spec := "fnUnwound", unfollowed := true, recurses := true, apart := false }
def FnUnwoundSaid : Prop := fnUnwoundRow.holds Try.pinned (OpenSpec.ofChange fnUnwoundSpec)

/-- ITS FALSE NEIGHBOUR: 'it returns false'. Refute it at one input. -/
def fnUnwoundWrong : ChangeSpec := { name := "fnUnwound", fn := fun _ => fun
  | [d1, d2] => { results := [.lit (.bool false)], args := [d1, d2] }
  | _ => none }
def FnUnwoundWrongFalsely : Prop := fnUnwoundRow.holds Try.pinned (OpenSpec.ofChange fnUnwoundWrong)

/-- 'laws.FnExactEvenPlies': WHATEVER THE INPUT: true; the input reads as it did. -/
def fnExactEvenPliesSpec : ChangeSpec := { name := "fnExactEvenPlies", fn := fun _ => fun
  | [d1, d2] => { results := [.lit (.bool true)], args := [d1, d2] }
  | _ => none }
def fnExactEvenPliesRow : OpenClaim := { program := "ytjhjabibkkhmjaa", sum := "6200b88e01e23ed0922fc5b4fdc9580275a5c9d7cff2b87b03d2e211a08b94c1", func := "loop.example/g01384/laws.FnExactEvenPlies", spec := "fnExactEvenPlies", unfollowed := true, recurses := true, apart := false }
def FnExactEvenPliesSaid : Prop := fnExactEvenPliesRow.holds Try.pinned (OpenSpec.ofChange fnExactEvenPliesSpec)

/-- ITS FALSE NEIGHBOUR: 'it returns false'. Refute it at one input. -/
def fnExactEvenPliesWrong : ChangeSpec := { name := "fnExactEvenPlies", fn := fun _ => fun
  | [d1, d2] => { results := [.lit (.bool false)], args := [d1, d2] }
  | _ => none }
def FnExactEvenPliesWrongFalsely : Prop := fnExactEvenPliesRow.holds Try.pinned (OpenSpec.ofChange fnExactEvenPliesWrong)

/-- 'laws.FnExactFewestOpened': WHATEVER THE INPUT: true; the input reads as it did. -/
def fnExactFewestOpenedSpec : ChangeSpec := { name := "fnExactFewestOpened", fn := fun _ => fun
  | [d1, d2] => { results := [.lit (.bool true)], args := [d1, d2] }
  | _ => none }
def fnExactFewestOpenedRow : OpenClaim := { program := "ytjhjabibkkhmjaa", sum := "6200b88e01e23ed0922fc5b4fdc9580275a5c9d7cff2b87b03d2e211a08b94c1", func := "loop.example/g01384/laws.FnExactFewestOpened", spec := "fnExactFewestOpened", unfollowed := true, recurses := true, apart := false }
def FnExactFewestOpenedSaid : Prop := fnExactFewestOpenedRow.holds Try.pinned (OpenSpec.ofChange fnExactFewestOpenedSpec)

/-- ITS FALSE NEIGHBOUR: 'it returns false'. Refute it at one input. -/
def fnExactFewestOpenedWrong : ChangeSpec := { name := "fnExactFewestOpened", fn := fun _ => fun
  | [d1, d2] => { results := [.lit (.bool false)], args := [d1, d2] }
  | _ => none }
def FnExactFewestOpenedWrongFalsely : Prop := fnExactFewestOpenedRow.holds Try.pinned (OpenSpec.ofChange fnExactFewestOpenedWrong)

/-- 'laws.FnExactMatchSingles': WHATEVER THE INPUT: true; the input reads as it did. -/
def fnExactMatchSinglesSpec : ChangeSpec := { name := "fnExactMatchSingles", fn := fun _ => fun
  | [d] => { results := [.lit (.bool true)], args := [d] }
  | _ => none }
def fnExactMatchSinglesRow : OpenClaim := { program := "ytjhjabibkkhmjaa", sum := "6200b88e01e23ed0922fc5b4fdc9580275a5c9d7cff2b87b03d2e211a08b94c1", func := "loop.example/g01384/laws.FnExactMatchSingles", spec := "fnExactMatchSingles", unfollowed := true, recurses := true, apart := false }
def FnExactMatchSinglesSaid : Prop := fnExactMatchSinglesRow.holds Try.pinned (OpenSpec.ofChange fnExactMatchSinglesSpec)

/-- ITS FALSE NEIGHBOUR: 'it returns false'. Refute it at one input. -/
def fnExactMatchSinglesWrong : ChangeSpec := { name := "fnExactMatchSingles", fn := fun _ => fun
  | [d] => { results := [.lit (.bool false)], args := [d] }
  | _ => none }
def FnExactMatchSinglesWrongFalsely : Prop := fnExactMatchSinglesRow.holds Try.pinned (OpenSpec.ofChange fnExactMatchSinglesWrong)

/-- 'laws.FnExactWorstLoop': WHATEVER THE INPUT: true; the input reads as it did. -/
def fnExactWorstLoopSpec : ChangeSpec := { name := "fnExactWorstLoop", fn := fun _ => fun
  | [d] => { results := [.lit (.bool true)], args := [d] }
  | _ => none }
def fnExactWorstLoopRow : OpenClaim := { program := "ytjhjabibkkhmjaa", sum := "6200b88e01e23ed0922fc5b4fdc9580275a5c9d7cff2b87b03d2e211a08b94c1", func := "loop.example/g01384/laws.FnExactWorstLoop", spec := "fnExactWorstLoop", unfollowed := true, recurses := true, apart := false }
def FnExactWorstLoopSaid : Prop := fnExactWorstLoopRow.holds Try.pinned (OpenSpec.ofChange fnExactWorstLoopSpec)

/-- ITS FALSE NEIGHBOUR: 'it returns false'. Refute it at one input. -/
def fnExactWorstLoopWrong : ChangeSpec := { name := "fnExactWorstLoop", fn := fun _ => fun
  | [d] => { results := [.lit (.bool false)], args := [d] }
  | _ => none }
def FnExactWorstLoopWrongFalsely : Prop := fnExactWorstLoopRow.holds Try.pinned (OpenSpec.ofChange fnExactWorstLoopWrong)

/-- 'laws.FnExactFewestReels': WHATEVER THE INPUT: true; the input reads as it did. -/
def fnExactFewestReelsSpec : ChangeSpec := { name := "fnExactFewestReels", fn := fun _ => fun
  | [d1, d2, d3, d4] => { results := [.lit (.bool true)], args := [d1, d2, d3, d4] }
  | _ => none }
def fnExactFewestReelsRow : OpenClaim := { program := "ytjhjabibkkhmjaa", sum := "6200b88e01e23ed0922fc5b4fdc9580275a5c9d7cff2b87b03d2e211a08b94c1", func := "loop.example/g01384/laws.FnExactFewestReels", spec := "fnExactFewestReels", unfollowed := true, recurses := true, apart := false }
def FnExactFewestReelsSaid : Prop := fnExactFewestReelsRow.holds Try.pinned (OpenSpec.ofChange fnExactFewestReelsSpec)

/-- ITS FALSE NEIGHBOUR: 'it returns false'. Refute it at one input. -/
def fnExactFewestReelsWrong : ChangeSpec := { name := "fnExactFewestReels", fn := fun _ => fun
  | [d1, d2, d3, d4] => { results := [.lit (.bool false)], args := [d1, d2, d3, d4] }
  | _ => none }
def FnExactFewestReelsWrongFalsely : Prop := fnExactFewestReelsRow.holds Try.pinned (OpenSpec.ofChange fnExactFewestReelsWrong)

/-- 'laws.FnExactLadderOf': WHATEVER THE INPUT: true; the input reads as it did. -/
def fnExactLadderOfSpec : ChangeSpec := { name := "fnExactLadderOf", fn := fun _ => fun
  | [d1, d2] => { results := [.lit (.bool true)], args := [d1, d2] }
  | _ => none }
def fnExactLadderOfRow : OpenClaim := { program := "ytjhjabibkkhmjaa", sum := "6200b88e01e23ed0922fc5b4fdc9580275a5c9d7cff2b87b03d2e211a08b94c1", func := "loop.example/g01384/laws.FnExactLadderOf", spec := "fnExactLadderOf", unfollowed := true, recurses := true, apart := false }
def FnExactLadderOfSaid : Prop := fnExactLadderOfRow.holds Try.pinned (OpenSpec.ofChange fnExactLadderOfSpec)

/-- ITS FALSE NEIGHBOUR: 'it returns false'. Refute it at one input. -/
def fnExactLadderOfWrong : ChangeSpec := { name := "fnExactLadderOf", fn := fun _ => fun
  | [d1, d2] => { results := [.lit (.bool false)], args := [d1, d2] }
  | _ => none }
def FnExactLadderOfWrongFalsely : Prop := fnExactLadderOfRow.holds Try.pinned (OpenSpec.ofChange fnExactLadderOfWrong)

/-- 'laws.FnPlies': WHATEVER THE INPUT: true; the input reads as it did. -/
def fnPliesSpec : ChangeSpec := { name := "fnPlies", fn := fun _ => fun
  | [d1, d2] => { results := [.lit (.bool true)], args := [d1, d2] }
  | _ => none }
def fnPliesRow : OpenClaim := { program := "ytjhjabibkkhmjaa", sum := "6200b88e01e23ed0922fc5b4fdc9580275a5c9d7cff2b87b03d2e211a08b94c1", func := "loop.example/g01384/laws.FnPlies", spec := "fnPlies", unfollowed := true, recurses := true, apart := false }
def FnPliesSaid : Prop := fnPliesRow.holds Try.pinned (OpenSpec.ofChange fnPliesSpec)

/-- ITS FALSE NEIGHBOUR: 'it returns false'. Refute it at one input. -/
def fnPliesWrong : ChangeSpec := { name := "fnPlies", fn := fun _ => fun
  | [d1, d2] => { results := [.lit (.bool false)], args := [d1, d2] }
  | _ => none }
def FnPliesWrongFalsely : Prop := fnPliesRow.holds Try.pinned (OpenSpec.ofChange fnPliesWrong)

/- THE SECOND FORM. 'bulk': how many values and letters a reading holds, each counted each time it is reached (what is shared counts as often as it is met; a slice's spare places count too). A statement '..UptoSaid' is the law's where the arguments, and the package variables that the reading takes, are together of bulk at most 1048576: NARROWER than '..Said'. Prove '..Said' where nothing that the law and all that it calls make is longer than what came in: it says more and counts as full. Else prove '..UptoSaid'. A law counts once. -/
mutual
def uptoBulk {H : Type} : DataW H → Nat
  | .lit (.string bytes) => bytes.length + 1
  | .lit _ => 1
  | .nil => 1
  | .ptr d => uptoBulk d + 1
  | .slice elems spare => uptoBulkAll elems + uptoBulkAll spare + 1
  | .agg parts => uptoBulkAll parts + 1
  | .iface _ d => uptoBulk d + 1
  | .map entries => uptoBulkEntries entries + 1
  | .held _ => 1
def uptoBulkAll {H : Type} : List (DataW H) → Nat
  | [] => 0
  | d :: r => uptoBulk d + uptoBulkAll r
def uptoBulkEntries {H : Type} : List (Lit × DataW H) → Nat
  | [] => 0
  | x :: r => uptoBulkEntry x + uptoBulkEntries r
def uptoBulkEntry {H : Type} : Lit × DataW H → Nat
  | (.string bytes, d) => bytes.length + uptoBulk d + 1
  | (_, d) => uptoBulk d + 1
 end
def uptoSmall : (H : Type) → List (DataW H) → Bool := fun _ ds => decide (uptoBulkAll ds ≤ 1048576)
def OpenSpec.upto (s : _root_.Go.ChangeSpec) : _root_.Go.OpenSpec := { _root_.Go.OpenSpec.ofChange s with cond := some uptoSmall }

/-- 'laws.FnUnwound', WHERE WHAT IT READS IS OF BULK AT MOST 1048576: true; the input reads as it did. -/
def fnUnwoundUptoRow : OpenClaim := { program := "ytjhjabibkkhmjaa", sum := "6200b88e01e23ed0922fc5b4fdc9580275a5c9d7cff2b87b03d2e211a08b94c1", func := "loop.example/g01384/laws.FnUnwound", spec := "fnUnwound", unfollowed := true, recurses := true, apart := false, narrowed := true }
def FnUnwoundUptoSaid : Prop := fnUnwoundUptoRow.holds Try.pinned (OpenSpec.upto fnUnwoundSpec)

/-- 'laws.FnExactEvenPlies', WHERE WHAT IT READS IS OF BULK AT MOST 1048576: true; the input reads as it did. -/
def fnExactEvenPliesUptoRow : OpenClaim := { program := "ytjhjabibkkhmjaa", sum := "6200b88e01e23ed0922fc5b4fdc9580275a5c9d7cff2b87b03d2e211a08b94c1", func := "loop.example/g01384/laws.FnExactEvenPlies", spec := "fnExactEvenPlies", unfollowed := true, recurses := true, apart := false, narrowed := true }
def FnExactEvenPliesUptoSaid : Prop := fnExactEvenPliesUptoRow.holds Try.pinned (OpenSpec.upto fnExactEvenPliesSpec)

/-- 'laws.FnExactFewestOpened', WHERE WHAT IT READS IS OF BULK AT MOST 1048576: true; the input reads as it did. -/
def fnExactFewestOpenedUptoRow : OpenClaim := { program := "ytjhjabibkkhmjaa", sum := "6200b88e01e23ed0922fc5b4fdc9580275a5c9d7cff2b87b03d2e211a08b94c1", func := "loop.example/g01384/laws.FnExactFewestOpened", spec := "fnExactFewestOpened", unfollowed := true, recurses := true, apart := false, narrowed := true }
def FnExactFewestOpenedUptoSaid : Prop := fnExactFewestOpenedUptoRow.holds Try.pinned (OpenSpec.upto fnExactFewestOpenedSpec)

/-- 'laws.FnExactMatchSingles', WHERE WHAT IT READS IS OF BULK AT MOST 1048576: true; the input reads as it did. -/
def fnExactMatchSinglesUptoRow : OpenClaim := { program := "ytjhjabibkkhmjaa", sum := "6200b88e01e23ed0922fc5b4fdc9580275a5c9d7cff2b87b03d2e211a08b94c1", func := "loop.example/g01384/laws.FnExactMatchSingles", spec := "fnExactMatchSingles", unfollowed := true, recurses := true, apart := false, narrowed := true }
def FnExactMatchSinglesUptoSaid : Prop := fnExactMatchSinglesUptoRow.holds Try.pinned (OpenSpec.upto fnExactMatchSinglesSpec)

/-- 'laws.FnExactWorstLoop', WHERE WHAT IT READS IS OF BULK AT MOST 1048576: true; the input reads as it did. -/
def fnExactWorstLoopUptoRow : OpenClaim := { program := "ytjhjabibkkhmjaa", sum := "6200b88e01e23ed0922fc5b4fdc9580275a5c9d7cff2b87b03d2e211a08b94c1", func := "loop.example/g01384/laws.FnExactWorstLoop", spec := "fnExactWorstLoop", unfollowed := true, recurses := true, apart := false, narrowed := true }
def FnExactWorstLoopUptoSaid : Prop := fnExactWorstLoopUptoRow.holds Try.pinned (OpenSpec.upto fnExactWorstLoopSpec)

/-- 'laws.FnExactFewestReels', WHERE WHAT IT READS IS OF BULK AT MOST 1048576: true; the input reads as it did. -/
def fnExactFewestReelsUptoRow : OpenClaim := { program := "ytjhjabibkkhmjaa", sum := "6200b88e01e23ed0922fc5b4fdc9580275a5c9d7cff2b87b03d2e211a08b94c1", func := "loop.example/g01384/laws.FnExactFewestReels", spec := "fnExactFewestReels", unfollowed := true, recurses := true, apart := false, narrowed := true }
def FnExactFewestReelsUptoSaid : Prop := fnExactFewestReelsUptoRow.holds Try.pinned (OpenSpec.upto fnExactFewestReelsSpec)

/-- 'laws.FnExactLadderOf', WHERE WHAT IT READS IS OF BULK AT MOST 1048576: true; the input reads as it did. -/
def fnExactLadderOfUptoRow : OpenClaim := { program := "ytjhjabibkkhmjaa", sum := "6200b88e01e23ed0922fc5b4fdc9580275a5c9d7cff2b87b03d2e211a08b94c1", func := "loop.example/g01384/laws.FnExactLadderOf", spec := "fnExactLadderOf", unfollowed := true, recurses := true, apart := false, narrowed := true }
def FnExactLadderOfUptoSaid : Prop := fnExactLadderOfUptoRow.holds Try.pinned (OpenSpec.upto fnExactLadderOfSpec)

/-- 'laws.FnPlies', WHERE WHAT IT READS IS OF BULK AT MOST 1048576: true; the input reads as it did. -/
def fnPliesUptoRow : OpenClaim := { program := "ytjhjabibkkhmjaa", sum := "6200b88e01e23ed0922fc5b4fdc9580275a5c9d7cff2b87b03d2e211a08b94c1", func := "loop.example/g01384/laws.FnPlies", spec := "fnPlies", unfollowed := true, recurses := true, apart := false, narrowed := true }
def FnPliesUptoSaid : Prop := fnPliesUptoRow.holds Try.pinned (OpenSpec.upto fnPliesSpec)

end Rows
end Go.Proofs.Ytjhjabibkkhmjaa
