/- The law InputsGuess is true of all inputs. No condition. -/
import Derived.Test.YtkgjokidfbpnbaaPInputsGuessy
import Derived.Test.YtkgjokidfbpnbaaGdsInputsGuess
namespace Go.Proofs.Ytkgjokidfbpnbaa.PureInputsGuess
set_option linter.unusedVariables false
open Go Go.RowKit Go.Proofs.Ytkgjokidfbpnbaa.PInputsGuess Go.Proofs.Ytkgjokidfbpnbaa.GdsInputsGuess
theorem InputsGuess (a0 : (List (Int × (Int × Bool)))) (a1 : Int) (a2 : (Int × (Int × Bool))) (g0 : G0 a0) (g1 : G1 a1) (g2 : G2 a2) : joustlaw15_InputsGuess.f a0 a1 a2.1 a2.2.1 a2.2.2 = some true := rfl
end Go.Proofs.Ytkgjokidfbpnbaa.PureInputsGuess
