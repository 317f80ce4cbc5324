/- Functions that a law reaches, and what their Go code computes. No condition. (Written by a program of this session, a turned copy of the print.) -/
import Derived.Test.YtoibgnhfpcaejaaProg
import Derived.Below
import Derived.Deep.Draws
import Derived.Deep.AppendLies
import Derived.Maps.AppendAt
import Derived.OwnWalk
import Derived.Laws.BytesArg
import Derived.Laws.MakeOwn
import Derived.Laws.OwnMore
import Derived.Deep.OwnRows
import Derived.Tactics
import Derived.Lib.ConvBytes
import Derived.Laws.Slices
import Derived.WalkKit
import Derived.KernelRfl
import Derived.RowKit3
import Derived.Deep.LoopGhost
import Derived.Deep.QuietTactic
import Derived.BigQuiet
import Derived.WideLaws
import Derived.Deep.DeepCutAuto
import Derived.Deep.CutBlock
import Derived.Deep.RegionHeld3
import Derived.Laws.Rows
import Derived.Lib.AppendStr
import Derived.ArgAppend
import Derived.Laws.IdiomCopy
import Derived.OrdersHeld
import Derived.Laws.BitsLemmas
import Derived.RowKit
import Derived.Test.YtoibgnhfpcaejaaWWords
import Derived.Test.YtoibgnhfpcaejaaWLast
import Derived.Test.YtoibgnhfpcaejaaWTab
import Derived.Test.YtoibgnhfpcaejaaWFour
import Derived.Test.YtoibgnhfpcaejaaWQPut
import Derived.Test.YtoibgnhfpcaejaaWApart
import Derived.Test.YtoibgnhfpcaejaaWArr
import Derived.Test.YtoibgnhfpcaejaaWZeros
import Derived.Test.YtoibgnhfpcaejaaWFoot
import Derived.Test.YtoibgnhfpcaejaaWKept
import Derived.Test.YtoibgnhfpcaejaaWShare
import Derived.Test.YtoibgnhfpcaejaaWN
import Derived.Test.YtoibgnhfpcaejaaWFootNe
import Derived.Test.YtoibgnhfpcaejaaWAt
import Derived.Test.YtoibgnhfpcaejaaWEqStruct
import Derived.Test.YtoibgnhfpcaejaaWRepsOne
import Derived.Test.YtoibgnhfpcaejaaWInv
import Derived.Test.YtoibgnhfpcaejaaWInvWords
import Derived.Test.YtoibgnhfpcaejaaWGuard
import Derived.Test.YtoibgnhfpcaejaaWNEv
import Derived.Test.YtoibgnhfpcaejaaWMore
import Derived.Test.YtoibgnhfpcaejaaFn
namespace Go.Proofs.Ytoibgnhfpcaejaa.PBytesRead
open Go.RowKit Go.Proofs.YtoibgnhfpcaejaaW.PrintWords Go.Proofs.YtoibgnhfpcaejaaW.PrintLast Go.Proofs.YtoibgnhfpcaejaaW.PrintMore
attribute [local go_sem] max2_int min2_int max_two min_two max_three min_three max_four min_four   -- for this text's walks alone
set_option linter.unusedVariables false
set_option linter.unusedSimpArgs false



def errW : Option Int → Value
  | none => .nilIface
  | some c => .iface 0 (.int .i64 c)
theorem errW_none : errW none = .nilIface := rfl
theorem errW_some (c : Int) : errW (some c) = .iface 0 (.int .i64 c) := rfl

theorem info5 : (Try.prog.info? 5).map (fun i => (i.zero, i.size, i.bytes)) = some (some (.int .u8 0), 1, 1) := by kernel_rfl
-- the values' own types

end Go.Proofs.Ytoibgnhfpcaejaa.PBytesRead
