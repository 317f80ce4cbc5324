/- The law InputsStream is true of all inputs. No condition. -/
import Derived.Test.YtkgjokidfbpnbaaPInputsStreamy
import Derived.Test.YtkgjokidfbpnbaaGdsInputsStream
namespace Go.Proofs.Ytkgjokidfbpnbaa.PureInputsStream
set_option linter.unusedVariables false
open Go Go.RowKit Go.Proofs.Ytkgjokidfbpnbaa.PInputsStream Go.Proofs.Ytkgjokidfbpnbaa.GdsInputsStream
theorem InputsStream (a0 : (List (Int × (Int × Bool)))) (a1 : Int) (a2 : Int) (g0 : G0 a0) (g1 : G1 a1) (g2 : G2 a2) : joustlaw15_InputsStream.f a0 a1 a2 = some true := rfl
end Go.Proofs.Ytkgjokidfbpnbaa.PureInputsStream
