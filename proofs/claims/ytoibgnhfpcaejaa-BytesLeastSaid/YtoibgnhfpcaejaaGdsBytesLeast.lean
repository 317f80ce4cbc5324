/- What the row says of each argument of BytesLeast: each number is of its kind, each slice within its weight. No condition. -/
import Derived.Test.YtoibgnhfpcaejaaPBytesLeasty
import Derived.Test.YtoibgnhfpcaejaaOpen
import Derived.KernelRfl
namespace Go.Proofs.Ytoibgnhfpcaejaa.GdsBytesLeast
open Go.Proofs.Ytoibgnhfpcaejaa.PBytesLeast Go.Proofs.Ytoibgnhfpcaejaa.Open Go.Proofs.YtoibgnhfpcaejaaW.PrintWords
set_option linter.unusedVariables false
def G0 (x : Int) : Prop := (Lit.int .i64 x).wf = true
/- YOURS:
theorem BytesLeast (a0 : Int) (g0 : G0 a0) : joustlaw11_BytesLeast.f a0 = some true -/
end Go.Proofs.Ytoibgnhfpcaejaa.GdsBytesLeast
