/- What the row says of each argument of InputGuess: each number is of its kind, each slice within its weight. No condition. -/
import Derived.Test.YtjkhmgoldkeckaaPInputGuessy
import Derived.Test.YtjkhmgoldkeckaaOpen
import Derived.KernelRfl
namespace Go.Proofs.Ytjkhmgoldkeckaa.GdsInputGuess
open Go.Proofs.Ytjkhmgoldkeckaa.PInputGuess Go.Proofs.Ytjkhmgoldkeckaa.Open Go.Proofs.YtjkhmgoldkeckaaW.PrintWords
set_option linter.unusedVariables false
def G0 (x : (Int × (Int × Bool))) : Prop := ((Lit.int .i64 x.1).wf = true ∧ (Lit.int .i64 x.2.1).wf = true ∧ True)
theorem o0 : Opens Try.prog 23 (Kd.pair (Kd.int .i64) (Kd.pair (Kd.int .i64) Kd.bool)) G0 := (opens_struct0 Try.underlying23 (by kernel_rfl) (opensFs_cons rfl (by kernel_rfl) (opens_int Try.underlying3) (opensFs_cons rfl (by kernel_rfl) (opens_int Try.underlying3) (opensFs_one rfl (by kernel_rfl) (opens_bool Try.underlying4)))))
def G1 (x : Bool) : Prop := True
/- YOURS:
theorem InputGuess (a0 : (Int × (Int × Bool))) (a1 : Bool) (g0 : G0 a0) (g1 : G1 a1) : ∃ k, joustlaw04_InputGuess.f k a0.1 a0.2.1 a0.2.2 a1 = some true -/
def Said : Prop := ∀ (a0 : (Int × (Int × Bool))) (a1 : Bool), G0 a0 → G1 a1 → ∃ k, joustlaw04_InputGuess.f k a0.1 a0.2.1 a0.2.2 a1 = some true
end Go.Proofs.Ytjkhmgoldkeckaa.GdsInputGuess
