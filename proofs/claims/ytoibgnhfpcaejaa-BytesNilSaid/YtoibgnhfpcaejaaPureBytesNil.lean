/- The law BytesNil is true for every number: a nil writer, and a nil reader. Condition: the number is within its kind. -/
import Derived.Test.YtoibgnhfpcaejaaPBytesNily
import Derived.Test.YtoibgnhfpcaejaaGdsBytesNil
namespace Go.Proofs.Ytoibgnhfpcaejaa.PureBytesNil
set_option linter.unusedVariables false
open Go Go.RowKit Go.Proofs.Ytoibgnhfpcaejaa.PBytesNil Go.Proofs.Ytoibgnhfpcaejaa.GdsBytesNil
theorem BytesNil (a0 : Int) (g0 : G0 a0) : joustlaw11_BytesNil.f a0 = some true := rfl
end Go.Proofs.Ytoibgnhfpcaejaa.PureBytesNil
