-- Taken over from the words that print.sh wrote for this seat, without the theorems that this claim does not name (by wip/tools/prune.py).
import Derived.Test.YthfanjdbemoaaaaWTab
/-! ### 56. Four, five, six operations that may come up next, in any order -/
namespace Go.Proofs.YthfanjdbemoaaaaW.PrintLast
section
variable {P : Program} {ops : Array Oper} {Q : Exit → Act → World → Prop} {md : Region.Mode} {S : World → Prop} {ds : List Nat} {T : Bool × List (List Nat × List Nat)}
end
end Go.Proofs.YthfanjdbemoaaaaW.PrintLast
