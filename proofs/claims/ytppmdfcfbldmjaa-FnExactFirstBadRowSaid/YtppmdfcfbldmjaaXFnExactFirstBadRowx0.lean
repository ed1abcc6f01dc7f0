/- The functions that the law FnExactFirstBadRow reaches: each as a Lean function, and that its call does what that function says; no conditions. -/
import Derived.Test.YtppmdfcfbldmjaaProg
import Derived.Below
import Derived.Deep.Draws
import Derived.Deep.AppendLies
import Derived.Maps.AppendAt
import Derived.OwnWalk
import Derived.Laws.BytesArg
import Derived.Laws.MakeOwn
import Derived.Laws.OwnMore
import Derived.Deep.OwnRows
import Derived.Tactics
import Derived.Lib.ConvBytes
import Derived.Laws.Slices
import Derived.WalkKit
import Derived.KernelRfl
import Derived.RowKit3
import Derived.Deep.LoopGhost
import Derived.Deep.QuietTactic
import Derived.BigQuiet
import Derived.WideLaws
import Derived.Deep.DeepCutAuto
import Derived.Deep.CutBlock
import Derived.Deep.RegionHeld3
import Derived.Laws.Rows
import Derived.Lib.AppendStr
import Derived.ArgAppend
import Derived.Laws.IdiomCopy
import Derived.OrdersHeld
import Derived.Laws.BitsLemmas
import Derived.RowKit
import Derived.Shelf.Abstract
import Derived.Test.YtppmdfcfbldmjaaWWords
import Derived.Test.YtppmdfcfbldmjaaWLast
import Derived.Test.YtppmdfcfbldmjaaWTab
import Derived.Test.YtppmdfcfbldmjaaWFour
import Derived.Test.YtppmdfcfbldmjaaWQPut
import Derived.Test.YtppmdfcfbldmjaaWApart
import Derived.Test.YtppmdfcfbldmjaaWArr
import Derived.Test.YtppmdfcfbldmjaaWZeros
import Derived.Test.YtppmdfcfbldmjaaWFoot
import Derived.Test.YtppmdfcfbldmjaaWKept
import Derived.Test.YtppmdfcfbldmjaaWShare
import Derived.Test.YtppmdfcfbldmjaaWN
import Derived.Test.YtppmdfcfbldmjaaWFootNe
import Derived.Test.YtppmdfcfbldmjaaWAt
import Derived.Test.YtppmdfcfbldmjaaWEqStruct
import Derived.Test.YtppmdfcfbldmjaaWRepsOne
import Derived.Test.YtppmdfcfbldmjaaWInv
import Derived.Test.YtppmdfcfbldmjaaWInvWords
import Derived.Test.YtppmdfcfbldmjaaWGuard
import Derived.Test.YtppmdfcfbldmjaaWNEv
import Derived.Test.YtppmdfcfbldmjaaWMore
namespace Go.Proofs.Ytppmdfcfbldmjaa.XFnExactFirstBadRow
open Go.RowKit Go.Proofs.YtppmdfcfbldmjaaW.PrintWords Go.Proofs.YtppmdfcfbldmjaaW.PrintLast Go.Proofs.YtppmdfcfbldmjaaW.PrintMore
attribute [local go_sem] max2_int min2_int max_two min_two max_three min_three max_four min_four   -- for this text's walks alone
set_option linter.unusedVariables false
set_option linter.unusedSimpArgs false



def errW : Option Int → Value
  | none => .nilIface
  | some c => .iface 0 (.int .i64 c)
theorem errW_none : errW none = .nilIface := rfl
theorem errW_some (c : Int) : errW (some c) = .iface 0 (.int .i64 c) := rfl

theorem info9 : (Try.prog.info? 9).map (fun i => (i.zero, i.size, i.bytes)) = some (some (.string ⟨#[]⟩), 1, 16) := by kernel_rfl
-- the values' own types

end Go.Proofs.Ytppmdfcfbldmjaa.XFnExactFirstBadRow
