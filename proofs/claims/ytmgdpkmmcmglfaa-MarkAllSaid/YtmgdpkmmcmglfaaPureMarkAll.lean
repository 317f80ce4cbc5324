/- The law MarkAll is true of all numbers. Condition: each number within its kind. -/
import Derived.Test.YtmgdpkmmcmglfaaPMarkAlly
import Derived.Test.YtmgdpkmmcmglfaaGdsMarkAll
namespace Go.Proofs.Ytmgdpkmmcmglfaa.PureMarkAll
set_option linter.unusedVariables false
open Go Go.RowKit Go.Proofs.Ytmgdpkmmcmglfaa.PMarkAll Go.Proofs.Ytmgdpkmmcmglfaa.GdsMarkAll
theorem MarkAll (a0 : (Int × (Int × (Int × (Int × Int))))) (a1 : Int) (a2 : Int) (a3 : Int) (g0 : G0 a0) (g1 : G1 a1) (g2 : G2 a2) (g3 : G3 a3) : joustlaw17_MarkAll.f a0.1 a0.2.1 a0.2.2.1 a0.2.2.2.1 a0.2.2.2.2 a1 a2 a3 = some true := rfl
end Go.Proofs.Ytmgdpkmmcmglfaa.PureMarkAll
