/-
  No cell of these rows narrows 'for every input' (looked for: loops, veiled, ifaces, maps, wideKeys, modest, calm, conditions, laid).
  DERIVED. THE GIVEN ROWS OF THIS SEAT. 12 by the template 'for every input the law returns true; each argument reads behind the call as it read before'; 0 by the template 'total and deterministic' (their statements: YtpaffbkakgagaaaTotals.lean).
  GIVEN WITH THE SEED: the statements are not yours to turn. If you find one false, say at which input.
  Laid BY PROGRAM, IN A SANDBOX (cutbox-rows.mjs): the forced cells as the released guide's own fill.sh prints them over the translation 1573d94f53fef06e… (all of the seat's roots in one cut). By AI agents, Wed Nov 11 2026. No macro, syntax, notation, axiom, sorry.
-/
import Derived.Test.YtpaffbkakgagaaaChecked
import GoSem.Claim
import GoSem.ClaimJoined
import GoSem.ClaimMapViews
import Derived.JoinedTies
import Derived.KernelRfl
namespace Go.Proofs.Ytpaffbkakgagaaa
/- THE CELL 'sum', in the pinned program and in every row, IS THE sha256 OF THE DUMP (.gsa) THAT YtpaffbkakgagaaaProg.lean LOADS. Nothing in Lean hashes anything: it is a label: what it is worth is what the hold of that sum in a sandbox is worth. -/
noncomputable def Try.pinned : Pinned := { name := "ytpaffbkakgagaaa", sum := "1573d94f53fef06e9a372753b0fb48f6f4026cda7400925ab113a2a941a2b4f8", checked := Try.checked }
namespace Rows
def none {H : Type} : Left H := { results := [], args := [] }

/-- 'laws.FnExactTurnsFor': WHATEVER THE INPUT: true; the input reads as it did. -/
def fnExactTurnsForSpec : ChangeSpec := { name := "fnExactTurnsFor", fn := fun _ => fun
  | [d1, d2] => { results := [.lit (.bool true)], args := [d1, d2] }
  | _ => none }
def fnExactTurnsForRow : OpenClaim := { program := "ytpaffbkakgagaaa", sum := "1573d94f53fef06e9a372753b0fb48f6f4026cda7400925ab113a2a941a2b4f8", func := "loop.example/g01384/laws.FnExactTurnsFor", spec := "fnExactTurnsFor", apart := false }
def FnExactTurnsForSaid : Prop := fnExactTurnsForRow.holds Try.pinned (OpenSpec.ofChange fnExactTurnsForSpec)

/-- ITS FALSE NEIGHBOUR: 'it returns false'. Refute it at one input. -/
def fnExactTurnsForWrong : ChangeSpec := { name := "fnExactTurnsFor", fn := fun _ => fun
  | [d1, d2] => { results := [.lit (.bool false)], args := [d1, d2] }
  | _ => none }
def FnExactTurnsForWrongFalsely : Prop := fnExactTurnsForRow.holds Try.pinned (OpenSpec.ofChange fnExactTurnsForWrong)

/-- 'laws.FnExactBallLength': WHATEVER THE INPUT: true; the input reads as it did. -/
def fnExactBallLengthSpec : ChangeSpec := { name := "fnExactBallLength", fn := fun _ => fun
  | [d1, d2, d3, d4] => { results := [.lit (.bool true)], args := [d1, d2, d3, d4] }
  | _ => none }
def fnExactBallLengthRow : OpenClaim := { program := "ytpaffbkakgagaaa", sum := "1573d94f53fef06e9a372753b0fb48f6f4026cda7400925ab113a2a941a2b4f8", func := "loop.example/g01384/laws.FnExactBallLength", spec := "fnExactBallLength", apart := false }
def FnExactBallLengthSaid : Prop := fnExactBallLengthRow.holds Try.pinned (OpenSpec.ofChange fnExactBallLengthSpec)

/-- ITS FALSE NEIGHBOUR: 'it returns false'. Refute it at one input. -/
def fnExactBallLengthWrong : ChangeSpec := { name := "fnExactBallLength", fn := fun _ => fun
  | [d1, d2, d3, d4] => { results := [.lit (.bool false)], args := [d1, d2, d3, d4] }
  | _ => none }
def FnExactBallLengthWrongFalsely : Prop := fnExactBallLengthRow.holds Try.pinned (OpenSpec.ofChange fnExactBallLengthWrong)

/-- 'laws.FnExactBallTurns': WHATEVER THE INPUT: true; the input reads as it did. -/
def fnExactBallTurnsSpec : ChangeSpec := { name := "fnExactBallTurns", fn := fun _ => fun
  | [d1, d2, d3, d4] => { results := [.lit (.bool true)], args := [d1, d2, d3, d4] }
  | _ => none }
def fnExactBallTurnsRow : OpenClaim := { program := "ytpaffbkakgagaaa", sum := "1573d94f53fef06e9a372753b0fb48f6f4026cda7400925ab113a2a941a2b4f8", func := "loop.example/g01384/laws.FnExactBallTurns", spec := "fnExactBallTurns", apart := false }
def FnExactBallTurnsSaid : Prop := fnExactBallTurnsRow.holds Try.pinned (OpenSpec.ofChange fnExactBallTurnsSpec)

/-- ITS FALSE NEIGHBOUR: 'it returns false'. Refute it at one input. -/
def fnExactBallTurnsWrong : ChangeSpec := { name := "fnExactBallTurns", fn := fun _ => fun
  | [d1, d2, d3, d4] => { results := [.lit (.bool false)], args := [d1, d2, d3, d4] }
  | _ => none }
def FnExactBallTurnsWrongFalsely : Prop := fnExactBallTurnsRow.holds Try.pinned (OpenSpec.ofChange fnExactBallTurnsWrong)

/-- 'laws.FnExactValidMeets': WHATEVER THE INPUT: true; the input reads as it did. -/
def fnExactValidMeetsSpec : ChangeSpec := { name := "fnExactValidMeets", fn := fun _ => fun
  | [d] => { results := [.lit (.bool true)], args := [d] }
  | _ => none }
def fnExactValidMeetsRow : OpenClaim := { program := "ytpaffbkakgagaaa", sum := "1573d94f53fef06e9a372753b0fb48f6f4026cda7400925ab113a2a941a2b4f8", func := "loop.example/g01384/laws.FnExactValidMeets", spec := "fnExactValidMeets", apart := false }
def FnExactValidMeetsSaid : Prop := fnExactValidMeetsRow.holds Try.pinned (OpenSpec.ofChange fnExactValidMeetsSpec)

/-- ITS FALSE NEIGHBOUR: 'it returns false'. Refute it at one input. -/
def fnExactValidMeetsWrong : ChangeSpec := { name := "fnExactValidMeets", fn := fun _ => fun
  | [d] => { results := [.lit (.bool false)], args := [d] }
  | _ => none }
def FnExactValidMeetsWrongFalsely : Prop := fnExactValidMeetsRow.holds Try.pinned (OpenSpec.ofChange fnExactValidMeetsWrong)

/-- 'laws.FnExactTiesFor': WHATEVER THE INPUT: true; the input reads as it did. -/
def fnExactTiesForSpec : ChangeSpec := { name := "fnExactTiesFor", fn := fun _ => fun
  | [d1, d2] => { results := [.lit (.bool true)], args := [d1, d2] }
  | _ => none }
def fnExactTiesForRow : OpenClaim := { program := "ytpaffbkakgagaaa", sum := "1573d94f53fef06e9a372753b0fb48f6f4026cda7400925ab113a2a941a2b4f8", func := "loop.example/g01384/laws.FnExactTiesFor", spec := "fnExactTiesFor", apart := false }
def FnExactTiesForSaid : Prop := fnExactTiesForRow.holds Try.pinned (OpenSpec.ofChange fnExactTiesForSpec)

/-- ITS FALSE NEIGHBOUR: 'it returns false'. Refute it at one input. -/
def fnExactTiesForWrong : ChangeSpec := { name := "fnExactTiesFor", fn := fun _ => fun
  | [d1, d2] => { results := [.lit (.bool false)], args := [d1, d2] }
  | _ => none }
def FnExactTiesForWrongFalsely : Prop := fnExactTiesForRow.holds Try.pinned (OpenSpec.ofChange fnExactTiesForWrong)

/-- 'laws.FnExactValidStrands': WHATEVER THE INPUT: true; the input reads as it did. -/
def fnExactValidStrandsSpec : ChangeSpec := { name := "fnExactValidStrands", fn := fun _ => fun
  | [d] => { results := [.lit (.bool true)], args := [d] }
  | _ => none }
def fnExactValidStrandsRow : OpenClaim := { program := "ytpaffbkakgagaaa", sum := "1573d94f53fef06e9a372753b0fb48f6f4026cda7400925ab113a2a941a2b4f8", func := "loop.example/g01384/laws.FnExactValidStrands", spec := "fnExactValidStrands", unfollowed := true, recurses := true, apart := false }
def FnExactValidStrandsSaid : Prop := fnExactValidStrandsRow.holds Try.pinned (OpenSpec.ofChange fnExactValidStrandsSpec)

/-- ITS FALSE NEIGHBOUR: 'it returns false'. Refute it at one input. -/
def fnExactValidStrandsWrong : ChangeSpec := { name := "fnExactValidStrands", fn := fun _ => fun
  | [d] => { results := [.lit (.bool false)], args := [d] }
  | _ => none }
def FnExactValidStrandsWrongFalsely : Prop := fnExactValidStrandsRow.holds Try.pinned (OpenSpec.ofChange fnExactValidStrandsWrong)

/-- 'laws.FnUnwound': WHATEVER THE INPUT: true; the input reads as it did. -/
def fnUnwoundSpec : ChangeSpec := { name := "fnUnwound", fn := fun _ => fun
  | [d1, d2] => { results := [.lit (.bool true)], args := [d1, d2] }
  | _ => none }
def fnUnwoundRow : OpenClaim := { program := "ytpaffbkakgagaaa", sum := "1573d94f53fef06e9a372753b0fb48f6f4026cda7400925ab113a2a941a2b4f8", func := "loop.example/g01384/laws.FnUnwound", spec := "fnUnwound", unfollowed := true, recurses := true, apart := false }
def FnUnwoundSaid : Prop := fnUnwoundRow.holds Try.pinned (OpenSpec.ofChange fnUnwoundSpec)

/-- ITS FALSE NEIGHBOUR: 'it returns false'. Refute it at one input. -/
def fnUnwoundWrong : ChangeSpec := { name := "fnUnwound", fn := fun _ => fun
  | [d1, d2] => { results := [.lit (.bool false)], args := [d1, d2] }
  | _ => none }
def FnUnwoundWrongFalsely : Prop := fnUnwoundRow.holds Try.pinned (OpenSpec.ofChange fnUnwoundWrong)

/-- 'laws.FnExactShapeRow': WHATEVER THE INPUT: true; the input reads as it did. -/
def fnExactShapeRowSpec : ChangeSpec := { name := "fnExactShapeRow", fn := fun _ => fun
  | [d1, d2] => { results := [.lit (.bool true)], args := [d1, d2] }
  | _ => none }
def fnExactShapeRowRow : OpenClaim := { program := "ytpaffbkakgagaaa", sum := "1573d94f53fef06e9a372753b0fb48f6f4026cda7400925ab113a2a941a2b4f8", func := "loop.example/g01384/laws.FnExactShapeRow", spec := "fnExactShapeRow", apart := false }
def FnExactShapeRowSaid : Prop := fnExactShapeRowRow.holds Try.pinned (OpenSpec.ofChange fnExactShapeRowSpec)

/-- ITS FALSE NEIGHBOUR: 'it returns false'. Refute it at one input. -/
def fnExactShapeRowWrong : ChangeSpec := { name := "fnExactShapeRow", fn := fun _ => fun
  | [d1, d2] => { results := [.lit (.bool false)], args := [d1, d2] }
  | _ => none }
def FnExactShapeRowWrongFalsely : Prop := fnExactShapeRowRow.holds Try.pinned (OpenSpec.ofChange fnExactShapeRowWrong)

/-- 'laws.FnExactSameFabric': WHATEVER THE INPUT: true; the input reads as it did. -/
def fnExactSameFabricSpec : ChangeSpec := { name := "fnExactSameFabric", fn := fun _ => fun
  | [d1, d2] => { results := [.lit (.bool true)], args := [d1, d2] }
  | _ => none }
def fnExactSameFabricRow : OpenClaim := { program := "ytpaffbkakgagaaa", sum := "1573d94f53fef06e9a372753b0fb48f6f4026cda7400925ab113a2a941a2b4f8", func := "loop.example/g01384/laws.FnExactSameFabric", spec := "fnExactSameFabric", apart := false }
def FnExactSameFabricSaid : Prop := fnExactSameFabricRow.holds Try.pinned (OpenSpec.ofChange fnExactSameFabricSpec)

/-- ITS FALSE NEIGHBOUR: 'it returns false'. Refute it at one input. -/
def fnExactSameFabricWrong : ChangeSpec := { name := "fnExactSameFabric", fn := fun _ => fun
  | [d1, d2] => { results := [.lit (.bool false)], args := [d1, d2] }
  | _ => none }
def FnExactSameFabricWrongFalsely : Prop := fnExactSameFabricRow.holds Try.pinned (OpenSpec.ofChange fnExactSameFabricWrong)

/-- 'laws.FnExactMayWind': WHATEVER THE INPUT: true; the input reads as it did. -/
def fnExactMayWindSpec : ChangeSpec := { name := "fnExactMayWind", fn := fun _ => fun
  | [d1, d2, d3] => { results := [.lit (.bool true)], args := [d1, d2, d3] }
  | _ => none }
def fnExactMayWindRow : OpenClaim := { program := "ytpaffbkakgagaaa", sum := "1573d94f53fef06e9a372753b0fb48f6f4026cda7400925ab113a2a941a2b4f8", func := "loop.example/g01384/laws.FnExactMayWind", spec := "fnExactMayWind", unfollowed := true, recurses := true, apart := false }
def FnExactMayWindSaid : Prop := fnExactMayWindRow.holds Try.pinned (OpenSpec.ofChange fnExactMayWindSpec)

/-- ITS FALSE NEIGHBOUR: 'it returns false'. Refute it at one input. -/
def fnExactMayWindWrong : ChangeSpec := { name := "fnExactMayWind", fn := fun _ => fun
  | [d1, d2, d3] => { results := [.lit (.bool false)], args := [d1, d2, d3] }
  | _ => none }
def FnExactMayWindWrongFalsely : Prop := fnExactMayWindRow.holds Try.pinned (OpenSpec.ofChange fnExactMayWindWrong)

/-- 'laws.FnBalls': WHATEVER THE INPUT: true; the input reads as it did. -/
def fnBallsSpec : ChangeSpec := { name := "fnBalls", fn := fun _ => fun
  | [d1, d2] => { results := [.lit (.bool true)], args := [d1, d2] }
  | _ => none }
def fnBallsRow : OpenClaim := { program := "ytpaffbkakgagaaa", sum := "1573d94f53fef06e9a372753b0fb48f6f4026cda7400925ab113a2a941a2b4f8", func := "loop.example/g01384/laws.FnBalls", spec := "fnBalls", apart := false }
def FnBallsSaid : Prop := fnBallsRow.holds Try.pinned (OpenSpec.ofChange fnBallsSpec)

/-- ITS FALSE NEIGHBOUR: 'it returns false'. Refute it at one input. -/
def fnBallsWrong : ChangeSpec := { name := "fnBalls", fn := fun _ => fun
  | [d1, d2] => { results := [.lit (.bool false)], args := [d1, d2] }
  | _ => none }
def FnBallsWrongFalsely : Prop := fnBallsRow.holds Try.pinned (OpenSpec.ofChange fnBallsWrong)

/-- 'laws.FnExactUnwindOrder': WHATEVER THE INPUT: true; the input reads as it did. -/
def fnExactUnwindOrderSpec : ChangeSpec := { name := "fnExactUnwindOrder", fn := fun _ => fun
  | [d] => { results := [.lit (.bool true)], args := [d] }
  | _ => none }
def fnExactUnwindOrderRow : OpenClaim := { program := "ytpaffbkakgagaaa", sum := "1573d94f53fef06e9a372753b0fb48f6f4026cda7400925ab113a2a941a2b4f8", func := "loop.example/g01384/laws.FnExactUnwindOrder", spec := "fnExactUnwindOrder", unfollowed := true, recurses := true, apart := false }
def FnExactUnwindOrderSaid : Prop := fnExactUnwindOrderRow.holds Try.pinned (OpenSpec.ofChange fnExactUnwindOrderSpec)

/-- ITS FALSE NEIGHBOUR: 'it returns false'. Refute it at one input. -/
def fnExactUnwindOrderWrong : ChangeSpec := { name := "fnExactUnwindOrder", fn := fun _ => fun
  | [d] => { results := [.lit (.bool false)], args := [d] }
  | _ => none }
def FnExactUnwindOrderWrongFalsely : Prop := fnExactUnwindOrderRow.holds Try.pinned (OpenSpec.ofChange fnExactUnwindOrderWrong)

/- THE SECOND FORM. 'bulk': how many values and letters a reading holds, each counted each time it is reached (what is shared counts as often as it is met; a slice's spare places count too). A statement '..UptoSaid' is the law's where the arguments, and the package variables that the reading takes, are together of bulk at most 1048576: NARROWER than '..Said'. Prove '..Said' where nothing that the law and all that it calls make is longer than what came in: it says more and counts as full. Else prove '..UptoSaid'. A law counts once. -/
mutual
def uptoBulk {H : Type} : DataW H → Nat
  | .lit (.string bytes) => bytes.length + 1
  | .lit _ => 1
  | .nil => 1
  | .ptr d => uptoBulk d + 1
  | .slice elems spare => uptoBulkAll elems + uptoBulkAll spare + 1
  | .agg parts => uptoBulkAll parts + 1
  | .iface _ d => uptoBulk d + 1
  | .map entries => uptoBulkEntries entries + 1
  | .held _ => 1
def uptoBulkAll {H : Type} : List (DataW H) → Nat
  | [] => 0
  | d :: r => uptoBulk d + uptoBulkAll r
def uptoBulkEntries {H : Type} : List (Lit × DataW H) → Nat
  | [] => 0
  | x :: r => uptoBulkEntry x + uptoBulkEntries r
def uptoBulkEntry {H : Type} : Lit × DataW H → Nat
  | (.string bytes, d) => bytes.length + uptoBulk d + 1
  | (_, d) => uptoBulk d + 1
 end
def uptoSmall : (H : Type) → List (DataW H) → Bool := fun _ ds => decide (uptoBulkAll ds ≤ 1048576)
def OpenSpec.upto (s : _root_.Go.ChangeSpec) : _root_.Go.OpenSpec := { _root_.Go.OpenSpec.ofChange s with cond := some uptoSmall }

/-- 'laws.FnExactTurnsFor', WHERE WHAT IT READS IS OF BULK AT MOST 1048576: true; the input reads as it did. -/
def fnExactTurnsForUptoRow : OpenClaim := { program := "ytpaffbkakgagaaa", sum := "1573d94f53fef06e9a372753b0fb48f6f4026cda7400925ab113a2a941a2b4f8", func := "loop.example/g01384/laws.FnExactTurnsFor", spec := "fnExactTurnsFor", apart := false, narrowed := true }
def FnExactTurnsForUptoSaid : Prop := fnExactTurnsForUptoRow.holds Try.pinned (OpenSpec.upto fnExactTurnsForSpec)

/-- 'laws.FnExactBallLength', WHERE WHAT IT READS IS OF BULK AT MOST 1048576: true; the input reads as it did. -/
def fnExactBallLengthUptoRow : OpenClaim := { program := "ytpaffbkakgagaaa", sum := "1573d94f53fef06e9a372753b0fb48f6f4026cda7400925ab113a2a941a2b4f8", func := "loop.example/g01384/laws.FnExactBallLength", spec := "fnExactBallLength", apart := false, narrowed := true }
def FnExactBallLengthUptoSaid : Prop := fnExactBallLengthUptoRow.holds Try.pinned (OpenSpec.upto fnExactBallLengthSpec)

/-- 'laws.FnExactBallTurns', WHERE WHAT IT READS IS OF BULK AT MOST 1048576: true; the input reads as it did. -/
def fnExactBallTurnsUptoRow : OpenClaim := { program := "ytpaffbkakgagaaa", sum := "1573d94f53fef06e9a372753b0fb48f6f4026cda7400925ab113a2a941a2b4f8", func := "loop.example/g01384/laws.FnExactBallTurns", spec := "fnExactBallTurns", apart := false, narrowed := true }
def FnExactBallTurnsUptoSaid : Prop := fnExactBallTurnsUptoRow.holds Try.pinned (OpenSpec.upto fnExactBallTurnsSpec)

/-- 'laws.FnExactValidMeets', WHERE WHAT IT READS IS OF BULK AT MOST 1048576: true; the input reads as it did. -/
def fnExactValidMeetsUptoRow : OpenClaim := { program := "ytpaffbkakgagaaa", sum := "1573d94f53fef06e9a372753b0fb48f6f4026cda7400925ab113a2a941a2b4f8", func := "loop.example/g01384/laws.FnExactValidMeets", spec := "fnExactValidMeets", apart := false, narrowed := true }
def FnExactValidMeetsUptoSaid : Prop := fnExactValidMeetsUptoRow.holds Try.pinned (OpenSpec.upto fnExactValidMeetsSpec)

/-- 'laws.FnExactTiesFor', WHERE WHAT IT READS IS OF BULK AT MOST 1048576: true; the input reads as it did. -/
def fnExactTiesForUptoRow : OpenClaim := { program := "ytpaffbkakgagaaa", sum := "1573d94f53fef06e9a372753b0fb48f6f4026cda7400925ab113a2a941a2b4f8", func := "loop.example/g01384/laws.FnExactTiesFor", spec := "fnExactTiesFor", apart := false, narrowed := true }
def FnExactTiesForUptoSaid : Prop := fnExactTiesForUptoRow.holds Try.pinned (OpenSpec.upto fnExactTiesForSpec)

/-- 'laws.FnExactValidStrands', WHERE WHAT IT READS IS OF BULK AT MOST 1048576: true; the input reads as it did. -/
def fnExactValidStrandsUptoRow : OpenClaim := { program := "ytpaffbkakgagaaa", sum := "1573d94f53fef06e9a372753b0fb48f6f4026cda7400925ab113a2a941a2b4f8", func := "loop.example/g01384/laws.FnExactValidStrands", spec := "fnExactValidStrands", unfollowed := true, recurses := true, apart := false, narrowed := true }
def FnExactValidStrandsUptoSaid : Prop := fnExactValidStrandsUptoRow.holds Try.pinned (OpenSpec.upto fnExactValidStrandsSpec)

/-- 'laws.FnUnwound', WHERE WHAT IT READS IS OF BULK AT MOST 1048576: true; the input reads as it did. -/
def fnUnwoundUptoRow : OpenClaim := { program := "ytpaffbkakgagaaa", sum := "1573d94f53fef06e9a372753b0fb48f6f4026cda7400925ab113a2a941a2b4f8", func := "loop.example/g01384/laws.FnUnwound", spec := "fnUnwound", unfollowed := true, recurses := true, apart := false, narrowed := true }
def FnUnwoundUptoSaid : Prop := fnUnwoundUptoRow.holds Try.pinned (OpenSpec.upto fnUnwoundSpec)

/-- 'laws.FnExactShapeRow', WHERE WHAT IT READS IS OF BULK AT MOST 1048576: true; the input reads as it did. -/
def fnExactShapeRowUptoRow : OpenClaim := { program := "ytpaffbkakgagaaa", sum := "1573d94f53fef06e9a372753b0fb48f6f4026cda7400925ab113a2a941a2b4f8", func := "loop.example/g01384/laws.FnExactShapeRow", spec := "fnExactShapeRow", apart := false, narrowed := true }
def FnExactShapeRowUptoSaid : Prop := fnExactShapeRowUptoRow.holds Try.pinned (OpenSpec.upto fnExactShapeRowSpec)

/-- 'laws.FnExactSameFabric', WHERE WHAT IT READS IS OF BULK AT MOST 1048576: true; the input reads as it did. -/
def fnExactSameFabricUptoRow : OpenClaim := { program := "ytpaffbkakgagaaa", sum := "1573d94f53fef06e9a372753b0fb48f6f4026cda7400925ab113a2a941a2b4f8", func := "loop.example/g01384/laws.FnExactSameFabric", spec := "fnExactSameFabric", apart := false, narrowed := true }
def FnExactSameFabricUptoSaid : Prop := fnExactSameFabricUptoRow.holds Try.pinned (OpenSpec.upto fnExactSameFabricSpec)

/-- 'laws.FnExactMayWind', WHERE WHAT IT READS IS OF BULK AT MOST 1048576: true; the input reads as it did. -/
def fnExactMayWindUptoRow : OpenClaim := { program := "ytpaffbkakgagaaa", sum := "1573d94f53fef06e9a372753b0fb48f6f4026cda7400925ab113a2a941a2b4f8", func := "loop.example/g01384/laws.FnExactMayWind", spec := "fnExactMayWind", unfollowed := true, recurses := true, apart := false, narrowed := true }
def FnExactMayWindUptoSaid : Prop := fnExactMayWindUptoRow.holds Try.pinned (OpenSpec.upto fnExactMayWindSpec)

/-- 'laws.FnBalls', WHERE WHAT IT READS IS OF BULK AT MOST 1048576: true; the input reads as it did. -/
def fnBallsUptoRow : OpenClaim := { program := "ytpaffbkakgagaaa", sum := "1573d94f53fef06e9a372753b0fb48f6f4026cda7400925ab113a2a941a2b4f8", func := "loop.example/g01384/laws.FnBalls", spec := "fnBalls", apart := false, narrowed := true }
def FnBallsUptoSaid : Prop := fnBallsUptoRow.holds Try.pinned (OpenSpec.upto fnBallsSpec)

/-- 'laws.FnExactUnwindOrder', WHERE WHAT IT READS IS OF BULK AT MOST 1048576: true; the input reads as it did. -/
def fnExactUnwindOrderUptoRow : OpenClaim := { program := "ytpaffbkakgagaaa", sum := "1573d94f53fef06e9a372753b0fb48f6f4026cda7400925ab113a2a941a2b4f8", func := "loop.example/g01384/laws.FnExactUnwindOrder", spec := "fnExactUnwindOrder", unfollowed := true, recurses := true, apart := false, narrowed := true }
def FnExactUnwindOrderUptoSaid : Prop := fnExactUnwindOrderUptoRow.holds Try.pinned (OpenSpec.upto fnExactUnwindOrderSpec)

end Rows
end Go.Proofs.Ytpaffbkakgagaaa
