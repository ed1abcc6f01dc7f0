/-
  No cell of these rows narrows 'for every input' (looked for: loops, veiled, ifaces, maps, wideKeys, modest, calm, conditions, laid).
  DERIVED. THE GIVEN ROWS OF THIS SEAT. 9 by the template 'for every input the law returns true; each argument reads behind the call as it read before'; 0 by the template 'total and deterministic' (their statements: YtjhafhejdlmcmaaTotals.lean).
  GIVEN WITH THE SEED: the statements are not yours to turn. If you find one false, say at which input.
  Laid BY PROGRAM, IN A SANDBOX (cutbox-rows.mjs): the forced cells as the released guide's own fill.sh prints them over the translation 70415552d119d5a0… (all of the seat's roots in one cut). By AI agents, Wed Nov 11 2026. No macro, syntax, notation, axiom, sorry.
-/
import Derived.Test.YtjhafhejdlmcmaaChecked
import GoSem.Claim
import GoSem.ClaimJoined
import GoSem.ClaimMapViews
import Derived.JoinedTies
import Derived.KernelRfl
namespace Go.Proofs.Ytjhafhejdlmcmaa
/- THE CELL 'sum', in the pinned program and in every row, IS THE sha256 OF THE DUMP (.gsa) THAT YtjhafhejdlmcmaaProg.lean LOADS. Nothing in Lean hashes anything: it is a label: what it is worth is what the hold of that sum in a sandbox is worth. -/
noncomputable def Try.pinned : Pinned := { name := "ytjhafhejdlmcmaa", sum := "70415552d119d5a0b588570c2a91c29f57486f4caa889067864e77c1519700b5", checked := Try.checked }
namespace Rows
def none {H : Type} : Left H := { results := [], args := [] }

/-- 'laws.FnExactFirstReels': WHATEVER THE INPUT: true; the input reads as it did. -/
def fnExactFirstReelsSpec : ChangeSpec := { name := "fnExactFirstReels", fn := fun _ => fun
  | [d1, d2, d3] => { results := [.lit (.bool true)], args := [d1, d2, d3] }
  | _ => none }
def fnExactFirstReelsRow : OpenClaim := { program := "ytjhafhejdlmcmaa", sum := "70415552d119d5a0b588570c2a91c29f57486f4caa889067864e77c1519700b5", func := "loop.example/g01384/laws.FnExactFirstReels", spec := "fnExactFirstReels", unfollowed := true, recurses := true, apart := false }
def FnExactFirstReelsSaid : Prop := fnExactFirstReelsRow.holds Try.pinned (OpenSpec.ofChange fnExactFirstReelsSpec)

/-- ITS FALSE NEIGHBOUR: 'it returns false'. Refute it at one input. -/
def fnExactFirstReelsWrong : ChangeSpec := { name := "fnExactFirstReels", fn := fun _ => fun
  | [d1, d2, d3] => { results := [.lit (.bool false)], args := [d1, d2, d3] }
  | _ => none }
def FnExactFirstReelsWrongFalsely : Prop := fnExactFirstReelsRow.holds Try.pinned (OpenSpec.ofChange fnExactFirstReelsWrong)

/-- 'laws.FnExactMatchSingles': WHATEVER THE INPUT: true; the input reads as it did. -/
def fnExactMatchSinglesSpec : ChangeSpec := { name := "fnExactMatchSingles", fn := fun _ => fun
  | [d] => { results := [.lit (.bool true)], args := [d] }
  | _ => none }
def fnExactMatchSinglesRow : OpenClaim := { program := "ytjhafhejdlmcmaa", sum := "70415552d119d5a0b588570c2a91c29f57486f4caa889067864e77c1519700b5", func := "loop.example/g01384/laws.FnExactMatchSingles", spec := "fnExactMatchSingles", unfollowed := true, recurses := true, apart := false }
def FnExactMatchSinglesSaid : Prop := fnExactMatchSinglesRow.holds Try.pinned (OpenSpec.ofChange fnExactMatchSinglesSpec)

/-- ITS FALSE NEIGHBOUR: 'it returns false'. Refute it at one input. -/
def fnExactMatchSinglesWrong : ChangeSpec := { name := "fnExactMatchSingles", fn := fun _ => fun
  | [d] => { results := [.lit (.bool false)], args := [d] }
  | _ => none }
def FnExactMatchSinglesWrongFalsely : Prop := fnExactMatchSinglesRow.holds Try.pinned (OpenSpec.ofChange fnExactMatchSinglesWrong)

/-- 'laws.FnExactWorstLoop': WHATEVER THE INPUT: true; the input reads as it did. -/
def fnExactWorstLoopSpec : ChangeSpec := { name := "fnExactWorstLoop", fn := fun _ => fun
  | [d] => { results := [.lit (.bool true)], args := [d] }
  | _ => none }
def fnExactWorstLoopRow : OpenClaim := { program := "ytjhafhejdlmcmaa", sum := "70415552d119d5a0b588570c2a91c29f57486f4caa889067864e77c1519700b5", func := "loop.example/g01384/laws.FnExactWorstLoop", spec := "fnExactWorstLoop", unfollowed := true, recurses := true, apart := false }
def FnExactWorstLoopSaid : Prop := fnExactWorstLoopRow.holds Try.pinned (OpenSpec.ofChange fnExactWorstLoopSpec)

/-- ITS FALSE NEIGHBOUR: 'it returns false'. Refute it at one input. -/
def fnExactWorstLoopWrong : ChangeSpec := { name := "fnExactWorstLoop", fn := fun _ => fun
  | [d] => { results := [.lit (.bool false)], args := [d] }
  | _ => none }
def FnExactWorstLoopWrongFalsely : Prop := fnExactWorstLoopRow.holds Try.pinned (OpenSpec.ofChange fnExactWorstLoopWrong)

/-- 'laws.FnExactFromOf': WHATEVER THE INPUT: true; the input reads as it did. -/
def fnExactFromOfSpec : ChangeSpec := { name := "fnExactFromOf", fn := fun _ => fun
  | [d1, d2] => { results := [.lit (.bool true)], args := [d1, d2] }
  | _ => none }
def fnExactFromOfRow : OpenClaim := { program := "ytjhafhejdlmcmaa", sum := "70415552d119d5a0b588570c2a91c29f57486f4caa889067864e77c1519700b5", func := "loop.example/g01384/laws.FnExactFromOf", spec := "fnExactFromOf", unfollowed := true, recurses := true, apart := false }
def FnExactFromOfSaid : Prop := fnExactFromOfRow.holds Try.pinned (OpenSpec.ofChange fnExactFromOfSpec)

/-- ITS FALSE NEIGHBOUR: 'it returns false'. Refute it at one input. -/
def fnExactFromOfWrong : ChangeSpec := { name := "fnExactFromOf", fn := fun _ => fun
  | [d1, d2] => { results := [.lit (.bool false)], args := [d1, d2] }
  | _ => none }
def FnExactFromOfWrongFalsely : Prop := fnExactFromOfRow.holds Try.pinned (OpenSpec.ofChange fnExactFromOfWrong)

/-- 'laws.FnExactFewestReels': WHATEVER THE INPUT: true; the input reads as it did. -/
def fnExactFewestReelsSpec : ChangeSpec := { name := "fnExactFewestReels", fn := fun _ => fun
  | [d1, d2, d3, d4] => { results := [.lit (.bool true)], args := [d1, d2, d3, d4] }
  | _ => none }
def fnExactFewestReelsRow : OpenClaim := { program := "ytjhafhejdlmcmaa", sum := "70415552d119d5a0b588570c2a91c29f57486f4caa889067864e77c1519700b5", func := "loop.example/g01384/laws.FnExactFewestReels", spec := "fnExactFewestReels", unfollowed := true, recurses := true, apart := false }
def FnExactFewestReelsSaid : Prop := fnExactFewestReelsRow.holds Try.pinned (OpenSpec.ofChange fnExactFewestReelsSpec)

/-- ITS FALSE NEIGHBOUR: 'it returns false'. Refute it at one input. -/
def fnExactFewestReelsWrong : ChangeSpec := { name := "fnExactFewestReels", fn := fun _ => fun
  | [d1, d2, d3, d4] => { results := [.lit (.bool false)], args := [d1, d2, d3, d4] }
  | _ => none }
def FnExactFewestReelsWrongFalsely : Prop := fnExactFewestReelsRow.holds Try.pinned (OpenSpec.ofChange fnExactFewestReelsWrong)

/-- 'laws.FnExactRepeatRow': WHATEVER THE INPUT: true; the input reads as it did. -/
def fnExactRepeatRowSpec : ChangeSpec := { name := "fnExactRepeatRow", fn := fun _ => fun
  | [d1, d2] => { results := [.lit (.bool true)], args := [d1, d2] }
  | _ => none }
def fnExactRepeatRowRow : OpenClaim := { program := "ytjhafhejdlmcmaa", sum := "70415552d119d5a0b588570c2a91c29f57486f4caa889067864e77c1519700b5", func := "loop.example/g01384/laws.FnExactRepeatRow", spec := "fnExactRepeatRow", inPlace := ["internal/abi.NoEscape", "internal/bytealg.MakeNoZero"], apart := false }
def FnExactRepeatRowSaid : Prop := fnExactRepeatRowRow.holds Try.pinned (OpenSpec.ofChange fnExactRepeatRowSpec)

/-- ITS FALSE NEIGHBOUR: 'it returns false'. Refute it at one input. -/
def fnExactRepeatRowWrong : ChangeSpec := { name := "fnExactRepeatRow", fn := fun _ => fun
  | [d1, d2] => { results := [.lit (.bool false)], args := [d1, d2] }
  | _ => none }
def FnExactRepeatRowWrongFalsely : Prop := fnExactRepeatRowRow.holds Try.pinned (OpenSpec.ofChange fnExactRepeatRowWrong)

/-- 'laws.FnExactLadderOf': WHATEVER THE INPUT: true; the input reads as it did. -/
def fnExactLadderOfSpec : ChangeSpec := { name := "fnExactLadderOf", fn := fun _ => fun
  | [d1, d2] => { results := [.lit (.bool true)], args := [d1, d2] }
  | _ => none }
def fnExactLadderOfRow : OpenClaim := { program := "ytjhafhejdlmcmaa", sum := "70415552d119d5a0b588570c2a91c29f57486f4caa889067864e77c1519700b5", func := "loop.example/g01384/laws.FnExactLadderOf", spec := "fnExactLadderOf", unfollowed := true, recurses := true, apart := false }
def FnExactLadderOfSaid : Prop := fnExactLadderOfRow.holds Try.pinned (OpenSpec.ofChange fnExactLadderOfSpec)

/-- ITS FALSE NEIGHBOUR: 'it returns false'. Refute it at one input. -/
def fnExactLadderOfWrong : ChangeSpec := { name := "fnExactLadderOf", fn := fun _ => fun
  | [d1, d2] => { results := [.lit (.bool false)], args := [d1, d2] }
  | _ => none }
def FnExactLadderOfWrongFalsely : Prop := fnExactLadderOfRow.holds Try.pinned (OpenSpec.ofChange fnExactLadderOfWrong)

/-- 'laws.FnExactCanUnwind': WHATEVER THE INPUT: true; the input reads as it did. -/
def fnExactCanUnwindSpec : ChangeSpec := { name := "fnExactCanUnwind", fn := fun _ => fun
  | [d1, d2] => { results := [.lit (.bool true)], args := [d1, d2] }
  | _ => none }
def fnExactCanUnwindRow : OpenClaim := { program := "ytjhafhejdlmcmaa", sum := "70415552d119d5a0b588570c2a91c29f57486f4caa889067864e77c1519700b5", func := "loop.example/g01384/laws.FnExactCanUnwind", spec := "fnExactCanUnwind", unfollowed := true, recurses := true, apart := false }
def FnExactCanUnwindSaid : Prop := fnExactCanUnwindRow.holds Try.pinned (OpenSpec.ofChange fnExactCanUnwindSpec)

/-- ITS FALSE NEIGHBOUR: 'it returns false'. Refute it at one input. -/
def fnExactCanUnwindWrong : ChangeSpec := { name := "fnExactCanUnwind", fn := fun _ => fun
  | [d1, d2] => { results := [.lit (.bool false)], args := [d1, d2] }
  | _ => none }
def FnExactCanUnwindWrongFalsely : Prop := fnExactCanUnwindRow.holds Try.pinned (OpenSpec.ofChange fnExactCanUnwindWrong)

/-- 'laws.FnExactFewestForOrder': WHATEVER THE INPUT: true; the input reads as it did. -/
def fnExactFewestForOrderSpec : ChangeSpec := { name := "fnExactFewestForOrder", fn := fun _ => fun
  | [d] => { results := [.lit (.bool true)], args := [d] }
  | _ => none }
def fnExactFewestForOrderRow : OpenClaim := { program := "ytjhafhejdlmcmaa", sum := "70415552d119d5a0b588570c2a91c29f57486f4caa889067864e77c1519700b5", func := "loop.example/g01384/laws.FnExactFewestForOrder", spec := "fnExactFewestForOrder", unfollowed := true, recurses := true, apart := false }
def FnExactFewestForOrderSaid : Prop := fnExactFewestForOrderRow.holds Try.pinned (OpenSpec.ofChange fnExactFewestForOrderSpec)

/-- ITS FALSE NEIGHBOUR: 'it returns false'. Refute it at one input. -/
def fnExactFewestForOrderWrong : ChangeSpec := { name := "fnExactFewestForOrder", fn := fun _ => fun
  | [d] => { results := [.lit (.bool false)], args := [d] }
  | _ => none }
def FnExactFewestForOrderWrongFalsely : Prop := fnExactFewestForOrderRow.holds Try.pinned (OpenSpec.ofChange fnExactFewestForOrderWrong)

/- THE SECOND FORM. 'bulk': how many values and letters a reading holds, each counted each time it is reached (what is shared counts as often as it is met; a slice's spare places count too). A statement '..UptoSaid' is the law's where the arguments, and the package variables that the reading takes, are together of bulk at most 1048576: NARROWER than '..Said'. Prove '..Said' where nothing that the law and all that it calls make is longer than what came in: it says more and counts as full. Else prove '..UptoSaid'. A law counts once. -/
mutual
def uptoBulk {H : Type} : DataW H → Nat
  | .lit (.string bytes) => bytes.length + 1
  | .lit _ => 1
  | .nil => 1
  | .ptr d => uptoBulk d + 1
  | .slice elems spare => uptoBulkAll elems + uptoBulkAll spare + 1
  | .agg parts => uptoBulkAll parts + 1
  | .iface _ d => uptoBulk d + 1
  | .map entries => uptoBulkEntries entries + 1
  | .held _ => 1
def uptoBulkAll {H : Type} : List (DataW H) → Nat
  | [] => 0
  | d :: r => uptoBulk d + uptoBulkAll r
def uptoBulkEntries {H : Type} : List (Lit × DataW H) → Nat
  | [] => 0
  | x :: r => uptoBulkEntry x + uptoBulkEntries r
def uptoBulkEntry {H : Type} : Lit × DataW H → Nat
  | (.string bytes, d) => bytes.length + uptoBulk d + 1
  | (_, d) => uptoBulk d + 1
 end
def uptoSmall : (H : Type) → List (DataW H) → Bool := fun _ ds => decide (uptoBulkAll ds ≤ 1048576)
def OpenSpec.upto (s : _root_.Go.ChangeSpec) : _root_.Go.OpenSpec := { _root_.Go.OpenSpec.ofChange s with cond := some uptoSmall }

/-- 'laws.FnExactFirstReels', WHERE WHAT IT READS IS OF BULK AT MOST 1048576: true; the input reads as it did. -/
def fnExactFirstReelsUptoRow : OpenClaim := { program := "ytjhafhejdlmcmaa", sum := "70415552d119d5a0b588570c2a91c29f57486f4caa889067864e77c1519700b5", func := "loop.example/g01384/laws.FnExactFirstReels", spec := "fnExactFirstReels", unfollowed := true, recurses := true, apart := false, narrowed := true }
def FnExactFirstReelsUptoSaid : Prop := fnExactFirstReelsUptoRow.holds Try.pinned (OpenSpec.upto fnExactFirstReelsSpec)

/-- 'laws.FnExactMatchSingles', WHERE WHAT IT READS IS OF BULK AT MOST 1048576: true; the input reads as it did. -/
def fnExactMatchSinglesUptoRow : OpenClaim := { program := "ytjhafhejdlmcmaa", sum := "70415552d119d5a0b588570c2a91c29f57486f4caa889067864e77c1519700b5", func := "loop.example/g01384/laws.FnExactMatchSingles", spec := "fnExactMatchSingles", unfollowed := true, recurses := true, apart := false, narrowed := true }
def FnExactMatchSinglesUptoSaid : Prop := fnExactMatchSinglesUptoRow.holds Try.pinned (OpenSpec.upto fnExactMatchSinglesSpec)

/-- 'laws.FnExactWorstLoop', WHERE WHAT IT READS IS OF BULK AT MOST 1048576: true; the input reads as it did. -/
def fnExactWorstLoopUptoRow : OpenClaim := { program := "ytjhafhejdlmcmaa", sum := "70415552d119d5a0b588570c2a91c29f57486f4caa889067864e77c1519700b5", func := "loop.example/g01384/laws.FnExactWorstLoop", spec := "fnExactWorstLoop", unfollowed := true, recurses := true, apart := false, narrowed := true }
def FnExactWorstLoopUptoSaid : Prop := fnExactWorstLoopUptoRow.holds Try.pinned (OpenSpec.upto fnExactWorstLoopSpec)

/-- 'laws.FnExactFromOf', WHERE WHAT IT READS IS OF BULK AT MOST 1048576: true; the input reads as it did. -/
def fnExactFromOfUptoRow : OpenClaim := { program := "ytjhafhejdlmcmaa", sum := "70415552d119d5a0b588570c2a91c29f57486f4caa889067864e77c1519700b5", func := "loop.example/g01384/laws.FnExactFromOf", spec := "fnExactFromOf", unfollowed := true, recurses := true, apart := false, narrowed := true }
def FnExactFromOfUptoSaid : Prop := fnExactFromOfUptoRow.holds Try.pinned (OpenSpec.upto fnExactFromOfSpec)

/-- 'laws.FnExactFewestReels', WHERE WHAT IT READS IS OF BULK AT MOST 1048576: true; the input reads as it did. -/
def fnExactFewestReelsUptoRow : OpenClaim := { program := "ytjhafhejdlmcmaa", sum := "70415552d119d5a0b588570c2a91c29f57486f4caa889067864e77c1519700b5", func := "loop.example/g01384/laws.FnExactFewestReels", spec := "fnExactFewestReels", unfollowed := true, recurses := true, apart := false, narrowed := true }
def FnExactFewestReelsUptoSaid : Prop := fnExactFewestReelsUptoRow.holds Try.pinned (OpenSpec.upto fnExactFewestReelsSpec)

/-- 'laws.FnExactRepeatRow', WHERE WHAT IT READS IS OF BULK AT MOST 1048576: true; the input reads as it did. -/
def fnExactRepeatRowUptoRow : OpenClaim := { program := "ytjhafhejdlmcmaa", sum := "70415552d119d5a0b588570c2a91c29f57486f4caa889067864e77c1519700b5", func := "loop.example/g01384/laws.FnExactRepeatRow", spec := "fnExactRepeatRow", inPlace := ["internal/abi.NoEscape", "internal/bytealg.MakeNoZero"], apart := false, narrowed := true }
def FnExactRepeatRowUptoSaid : Prop := fnExactRepeatRowUptoRow.holds Try.pinned (OpenSpec.upto fnExactRepeatRowSpec)

/-- 'laws.FnExactLadderOf', WHERE WHAT IT READS IS OF BULK AT MOST 1048576: true; the input reads as it did. -/
def fnExactLadderOfUptoRow : OpenClaim := { program := "ytjhafhejdlmcmaa", sum := "70415552d119d5a0b588570c2a91c29f57486f4caa889067864e77c1519700b5", func := "loop.example/g01384/laws.FnExactLadderOf", spec := "fnExactLadderOf", unfollowed := true, recurses := true, apart := false, narrowed := true }
def FnExactLadderOfUptoSaid : Prop := fnExactLadderOfUptoRow.holds Try.pinned (OpenSpec.upto fnExactLadderOfSpec)

/-- 'laws.FnExactCanUnwind', WHERE WHAT IT READS IS OF BULK AT MOST 1048576: true; the input reads as it did. -/
def fnExactCanUnwindUptoRow : OpenClaim := { program := "ytjhafhejdlmcmaa", sum := "70415552d119d5a0b588570c2a91c29f57486f4caa889067864e77c1519700b5", func := "loop.example/g01384/laws.FnExactCanUnwind", spec := "fnExactCanUnwind", unfollowed := true, recurses := true, apart := false, narrowed := true }
def FnExactCanUnwindUptoSaid : Prop := fnExactCanUnwindUptoRow.holds Try.pinned (OpenSpec.upto fnExactCanUnwindSpec)

/-- 'laws.FnExactFewestForOrder', WHERE WHAT IT READS IS OF BULK AT MOST 1048576: true; the input reads as it did. -/
def fnExactFewestForOrderUptoRow : OpenClaim := { program := "ytjhafhejdlmcmaa", sum := "70415552d119d5a0b588570c2a91c29f57486f4caa889067864e77c1519700b5", func := "loop.example/g01384/laws.FnExactFewestForOrder", spec := "fnExactFewestForOrder", unfollowed := true, recurses := true, apart := false, narrowed := true }
def FnExactFewestForOrderUptoSaid : Prop := fnExactFewestForOrderUptoRow.holds Try.pinned (OpenSpec.upto fnExactFewestForOrderSpec)

end Rows
end Go.Proofs.Ytjhafhejdlmcmaa
