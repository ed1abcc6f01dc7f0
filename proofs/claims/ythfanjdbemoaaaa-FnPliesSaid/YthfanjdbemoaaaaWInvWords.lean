-- Taken over from the words that print.sh wrote for this seat, without the theorems that this claim does not name (by wip/tools/prune.py).
import Derived.Test.YthfanjdbemoaaaaWInv
import Derived.Test.YthfanjdbemoaaaaWFootNe
namespace Go.Proofs.YthfanjdbemoaaaaW.PrintWords
open Go.RowKit
end Go.Proofs.YthfanjdbemoaaaaW.PrintWords
namespace Go.Proofs.YthfanjdbemoaaaaW.PrintLast
section
variable {ops : Array Oper} {a : Act} {o og : Oper} {g : Nat} {t : Tmp} {u : Bool}
end
end Go.Proofs.YthfanjdbemoaaaaW.PrintLast
