/- What the row says of each argument of InputsNil: each number is of its kind, each slice within its weight. No condition. -/
import Derived.Test.YtkgjokidfbpnbaaPInputsNily
import Derived.Test.YtkgjokidfbpnbaaOpen
import Derived.KernelRfl
namespace Go.Proofs.Ytkgjokidfbpnbaa.GdsInputsNil
open Go.Proofs.Ytkgjokidfbpnbaa.PInputsNil Go.Proofs.Ytkgjokidfbpnbaa.Open Go.Proofs.YtkgjokidfbpnbaaW.PrintWords
set_option linter.unusedVariables false
def G0 (x : Int) : Prop := (Lit.int .i64 x).wf = true
def G1 (x : Int) : Prop := (Lit.int .i64 x).wf = true
/- YOURS:
theorem InputsNil (a0 : Int) (a1 : Int) (g0 : G0 a0) (g1 : G1 a1) : joustlaw15_InputsNil.f a0 a1 = some true -/
end Go.Proofs.Ytkgjokidfbpnbaa.GdsInputsNil
