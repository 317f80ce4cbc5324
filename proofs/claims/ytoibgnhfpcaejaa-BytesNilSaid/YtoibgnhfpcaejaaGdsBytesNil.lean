/- What the row says of each argument of BytesNil: each number is of its kind, each slice within its weight. No condition. -/
import Derived.Test.YtoibgnhfpcaejaaPBytesNily
import Derived.Test.YtoibgnhfpcaejaaOpen
import Derived.KernelRfl
namespace Go.Proofs.Ytoibgnhfpcaejaa.GdsBytesNil
open Go.Proofs.Ytoibgnhfpcaejaa.PBytesNil Go.Proofs.Ytoibgnhfpcaejaa.Open Go.Proofs.YtoibgnhfpcaejaaW.PrintWords
set_option linter.unusedVariables false
def G0 (x : Int) : Prop := (Lit.int .i64 x).wf = true
/- YOURS:
theorem BytesNil (a0 : Int) (g0 : G0 a0) : joustlaw11_BytesNil.f a0 = some true -/
end Go.Proofs.Ytoibgnhfpcaejaa.GdsBytesNil
