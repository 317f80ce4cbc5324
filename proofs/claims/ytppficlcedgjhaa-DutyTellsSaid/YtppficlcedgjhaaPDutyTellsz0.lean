/- Functions that a law reaches, and what their Go code computes. No condition. (Written by a program of this session, a turned copy of the print.) -/
import Derived.Test.YtppficlcedgjhaaProg
import Derived.Below
import Derived.Deep.Draws
import Derived.Deep.AppendLies
import Derived.Maps.AppendAt
import Derived.OwnWalk
import Derived.Laws.BytesArg
import Derived.Laws.MakeOwn
import Derived.Laws.OwnMore
import Derived.Deep.OwnRows
import Derived.Tactics
import Derived.Lib.ConvBytes
import Derived.Laws.Slices
import Derived.WalkKit
import Derived.KernelRfl
import Derived.RowKit3
import Derived.Deep.LoopGhost
import Derived.Deep.QuietTactic
import Derived.BigQuiet
import Derived.WideLaws
import Derived.Deep.DeepCutAuto
import Derived.Deep.CutBlock
import Derived.Deep.RegionHeld3
import Derived.Laws.Rows
import Derived.Lib.AppendStr
import Derived.ArgAppend
import Derived.Laws.IdiomCopy
import Derived.OrdersHeld
import Derived.Laws.BitsLemmas
import Derived.RowKit
import Derived.Test.YtppficlcedgjhaaWWords
import Derived.Test.YtppficlcedgjhaaWLast
import Derived.Test.YtppficlcedgjhaaWTab
import Derived.Test.YtppficlcedgjhaaWFour
import Derived.Test.YtppficlcedgjhaaWQPut
import Derived.Test.YtppficlcedgjhaaWApart
import Derived.Test.YtppficlcedgjhaaWArr
import Derived.Test.YtppficlcedgjhaaWZeros
import Derived.Test.YtppficlcedgjhaaWFoot
import Derived.Test.YtppficlcedgjhaaWKept
import Derived.Test.YtppficlcedgjhaaWShare
import Derived.Test.YtppficlcedgjhaaWN
import Derived.Test.YtppficlcedgjhaaWFootNe
import Derived.Test.YtppficlcedgjhaaWAt
import Derived.Test.YtppficlcedgjhaaWEqStruct
import Derived.Test.YtppficlcedgjhaaWRepsOne
import Derived.Test.YtppficlcedgjhaaWInv
import Derived.Test.YtppficlcedgjhaaWInvWords
import Derived.Test.YtppficlcedgjhaaWGuard
import Derived.Test.YtppficlcedgjhaaWNEv
import Derived.Test.YtppficlcedgjhaaWMore
import Derived.Test.YtppficlcedgjhaaFn
namespace Go.Proofs.Ytppficlcedgjhaa.PDutyTells
open Go.RowKit Go.Proofs.YtppficlcedgjhaaW.PrintWords Go.Proofs.YtppficlcedgjhaaW.PrintLast Go.Proofs.YtppficlcedgjhaaW.PrintMore
attribute [local go_sem] max2_int min2_int max_two min_two max_three min_three max_four min_four   -- for this text's walks alone
set_option linter.unusedVariables false
set_option linter.unusedSimpArgs false



def errW : Option Int → Value
  | none => .nilIface
  | some c => .iface 0 (.int .i64 c)
theorem errW_none : errW none = .nilIface := rfl
theorem errW_some (c : Int) : errW (some c) = .iface 0 (.int .i64 c) := rfl

theorem info3 : (Try.prog.info? 3).map (fun i => (i.zero, i.size, i.bytes)) = some (some (.int .i64 0), 1, 8) := by kernel_rfl
-- the values' own types

end Go.Proofs.Ytppficlcedgjhaa.PDutyTells
