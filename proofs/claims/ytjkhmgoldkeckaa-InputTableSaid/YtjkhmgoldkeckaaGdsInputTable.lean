/- What the row says of each argument of InputTable: each number is of its kind, each slice within its weight. No condition. -/
import Derived.Test.YtjkhmgoldkeckaaPInputTabley
import Derived.Test.YtjkhmgoldkeckaaOpen
import Derived.KernelRfl
namespace Go.Proofs.Ytjkhmgoldkeckaa.GdsInputTable
open Go.Proofs.Ytjkhmgoldkeckaa.PInputTable Go.Proofs.Ytjkhmgoldkeckaa.Open Go.Proofs.YtjkhmgoldkeckaaW.PrintWords
set_option linter.unusedVariables false
def G0 (x : Int) : Prop := (Lit.int .u8 x).wf = true
/- YOURS:
theorem InputTable (a0 : Int) (g0 : G0 a0) : ∃ k, joustlaw04_InputTable.f k a0 = some true -/
def Said : Prop := ∀ (a0 : Int), G0 a0 → ∃ k, joustlaw04_InputTable.f k a0 = some true
end Go.Proofs.Ytjkhmgoldkeckaa.GdsInputTable
