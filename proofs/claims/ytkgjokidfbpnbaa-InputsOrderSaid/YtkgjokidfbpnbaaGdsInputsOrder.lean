/- What the row says of each argument of InputsOrder: each number is of its kind, each slice within its weight. No condition. -/
import Derived.Test.YtkgjokidfbpnbaaPInputsOrdery
import Derived.Test.YtkgjokidfbpnbaaOpen
import Derived.KernelRfl
namespace Go.Proofs.Ytkgjokidfbpnbaa.GdsInputsOrder
open Go.Proofs.Ytkgjokidfbpnbaa.PInputsOrder Go.Proofs.Ytkgjokidfbpnbaa.Open Go.Proofs.YtkgjokidfbpnbaaW.PrintWords
set_option linter.unusedVariables false
def G0 (x : (List (Int × (Int × Bool)))) : Prop := (x.length * 24 ≤ 140737488351232 ∧ ∀ y ∈ x, ((Lit.int .i64 y.1).wf = true ∧ (Lit.int .i64 y.2.1).wf = true ∧ True))
theorem o0 : Opens Try.prog 22 (Kd.slice 24 (Kd.pair (Kd.int .i64) (Kd.pair (Kd.int .i64) Kd.bool))) G0 := (opens_slice (B := 24) Try.underlying22 (by kernel_rfl) (by kernel_rfl) (opens_struct0 Try.underlying24 (by kernel_rfl) (opensFs_cons rfl (by kernel_rfl) (opens_int Try.underlying3) (opensFs_cons rfl (by kernel_rfl) (opens_int Try.underlying3) (opensFs_one rfl (by kernel_rfl) (opens_bool Try.underlying4))))))
def G1 (x : (List Int)) : Prop := (x.length * 8 ≤ 140737488351232 ∧ ∀ y ∈ x, (Lit.int .i64 y).wf = true)
theorem o1 : Opens Try.prog 39 (Kd.slice 3 (Kd.int .i64)) G1 := (opens_slice (B := 8) Try.underlying39 (by kernel_rfl) (by kernel_rfl) (opens_int Try.underlying3))
def G2 (x : Int) : Prop := (Lit.int .i64 x).wf = true
/- YOURS:
theorem InputsOrder (a0 : (List (Int × (Int × Bool)))) (a1 : (List Int)) (a2 : Int) (g0 : G0 a0) (g1 : G1 a1) (g2 : G2 a2) : joustlaw15_InputsOrder.f a0 a1 a2 = some true -/
end Go.Proofs.Ytkgjokidfbpnbaa.GdsInputsOrder
