/- The law InputsNil is true of all numbers. No condition. -/
import Derived.Test.YtkgjokidfbpnbaaPInputsNily
import Derived.Test.YtkgjokidfbpnbaaGdsInputsNil
namespace Go.Proofs.Ytkgjokidfbpnbaa.PureInputsNil
set_option linter.unusedVariables false
open Go Go.RowKit Go.Proofs.Ytkgjokidfbpnbaa.PInputsNil Go.Proofs.Ytkgjokidfbpnbaa.GdsInputsNil
theorem InputsNil (a0 : Int) (a1 : Int) (g0 : G0 a0) (g1 : G1 a1) : joustlaw15_InputsNil.f a0 a1 = some true := rfl
end Go.Proofs.Ytkgjokidfbpnbaa.PureInputsNil
