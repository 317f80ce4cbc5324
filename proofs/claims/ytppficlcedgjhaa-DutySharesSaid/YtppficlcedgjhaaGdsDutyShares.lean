/- What the row says of each argument of DutyShares: each number is of its kind, each slice within its weight. No condition. -/
import Derived.Test.YtppficlcedgjhaaPDutySharesy
import Derived.Test.YtppficlcedgjhaaOpen
import Derived.KernelRfl
namespace Go.Proofs.Ytppficlcedgjhaa.GdsDutyShares
open Go.Proofs.Ytppficlcedgjhaa.PDutyShares Go.Proofs.Ytppficlcedgjhaa.Open Go.Proofs.YtppficlcedgjhaaW.PrintWords
set_option linter.unusedVariables false
def G0 (x : (Int × (Int × (Int × (Int × Int))))) : Prop := ((Lit.int .i64 x.1).wf = true ∧ (Lit.int .i64 x.2.1).wf = true ∧ (Lit.int .i64 x.2.2.1).wf = true ∧ (Lit.int .i64 x.2.2.2.1).wf = true ∧ (Lit.int .u64 x.2.2.2.2).wf = true)
theorem o0 : Opens Try.prog 24 (Kd.pair (Kd.int .i64) (Kd.pair (Kd.int .i64) (Kd.pair (Kd.int .i64) (Kd.pair (Kd.int .i64) (Kd.int .u64))))) G0 := (opens_struct0 Try.underlying24 (by kernel_rfl) (opensFs_cons rfl (by kernel_rfl) (opens_int Try.underlying3) (opensFs_cons rfl (by kernel_rfl) (opens_int Try.underlying3) (opensFs_cons rfl (by kernel_rfl) (opens_int Try.underlying3) (opensFs_cons rfl (by kernel_rfl) (opens_int Try.underlying3) (opensFs_one rfl (by kernel_rfl) (opens_int Try.underlying22)))))))
/- YOURS:
theorem DutyShares (a0 : (Int × (Int × (Int × (Int × Int))))) (g0 : G0 a0) : ∃ k, joustlaw22_DutyShares.f k a0.1 a0.2.1 a0.2.2.1 a0.2.2.2.1 a0.2.2.2.2 = some true -/
def Said : Prop := ∀ (a0 : (Int × (Int × (Int × (Int × Int))))), G0 a0 → ∃ k, joustlaw22_DutyShares.f k a0.1 a0.2.1 a0.2.2.1 a0.2.2.2.1 a0.2.2.2.2 = some true
end Go.Proofs.Ytppficlcedgjhaa.GdsDutyShares
