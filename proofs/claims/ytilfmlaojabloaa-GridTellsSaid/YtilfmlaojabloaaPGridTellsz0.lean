/- Functions that a law reaches, and what their Go code computes. No condition. (Written by a program of this session, a turned copy of the print.) -/
import Derived.Test.YtilfmlaojabloaaProg
import Derived.Below
import Derived.Deep.Draws
import Derived.Deep.AppendLies
import Derived.Maps.AppendAt
import Derived.OwnWalk
import Derived.Laws.BytesArg
import Derived.Laws.MakeOwn
import Derived.Laws.OwnMore
import Derived.Deep.OwnRows
import Derived.Tactics
import Derived.Lib.ConvBytes
import Derived.Laws.Slices
import Derived.WalkKit
import Derived.KernelRfl
import Derived.RowKit3
import Derived.Deep.LoopGhost
import Derived.Deep.QuietTactic
import Derived.BigQuiet
import Derived.WideLaws
import Derived.Deep.DeepCutAuto
import Derived.Deep.CutBlock
import Derived.Deep.RegionHeld3
import Derived.Laws.Rows
import Derived.Lib.AppendStr
import Derived.ArgAppend
import Derived.Laws.IdiomCopy
import Derived.OrdersHeld
import Derived.Laws.BitsLemmas
import Derived.RowKit
import Derived.Test.YtilfmlaojabloaaWWords
import Derived.Test.YtilfmlaojabloaaWLast
import Derived.Test.YtilfmlaojabloaaWTab
import Derived.Test.YtilfmlaojabloaaWFour
import Derived.Test.YtilfmlaojabloaaWQPut
import Derived.Test.YtilfmlaojabloaaWApart
import Derived.Test.YtilfmlaojabloaaWArr
import Derived.Test.YtilfmlaojabloaaWZeros
import Derived.Test.YtilfmlaojabloaaWFoot
import Derived.Test.YtilfmlaojabloaaWKept
import Derived.Test.YtilfmlaojabloaaWShare
import Derived.Test.YtilfmlaojabloaaWN
import Derived.Test.YtilfmlaojabloaaWFootNe
import Derived.Test.YtilfmlaojabloaaWAt
import Derived.Test.YtilfmlaojabloaaWEqStruct
import Derived.Test.YtilfmlaojabloaaWRepsOne
import Derived.Test.YtilfmlaojabloaaWInv
import Derived.Test.YtilfmlaojabloaaWInvWords
import Derived.Test.YtilfmlaojabloaaWGuard
import Derived.Test.YtilfmlaojabloaaWNEv
import Derived.Test.YtilfmlaojabloaaWMore
import Derived.Test.YtilfmlaojabloaaFn
namespace Go.Proofs.Ytilfmlaojabloaa.PGridTells
open Go.RowKit Go.Proofs.YtilfmlaojabloaaW.PrintWords Go.Proofs.YtilfmlaojabloaaW.PrintLast Go.Proofs.YtilfmlaojabloaaW.PrintMore
attribute [local go_sem] max2_int min2_int max_two min_two max_three min_three max_four min_four   -- for this text's walks alone
set_option linter.unusedVariables false
set_option linter.unusedSimpArgs false



def errW : Option Int → Value
  | none => .nilIface
  | some c => .iface 0 (.int .i64 c)
theorem errW_none : errW none = .nilIface := rfl
theorem errW_some (c : Int) : errW (some c) = .iface 0 (.int .i64 c) := rfl

theorem info3 : (Try.prog.info? 3).map (fun i => (i.zero, i.size, i.bytes)) = some (some (.int .i64 0), 1, 8) := by kernel_rfl
-- the values' own types

end Go.Proofs.Ytilfmlaojabloaa.PGridTells
