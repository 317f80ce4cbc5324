/- What the row says of each argument of DutyStranger: each number is of its kind, each slice within its weight. No condition. -/
import Derived.Test.YtppficlcedgjhaaPDutyStrangery
import Derived.Test.YtppficlcedgjhaaOpen
import Derived.KernelRfl
namespace Go.Proofs.Ytppficlcedgjhaa.GdsDutyStranger
open Go.Proofs.Ytppficlcedgjhaa.PDutyStranger Go.Proofs.Ytppficlcedgjhaa.Open Go.Proofs.YtppficlcedgjhaaW.PrintWords
set_option linter.unusedVariables false
def G0 (x : (Int × (Int × (Int × (Int × Int))))) : Prop := ((Lit.int .i64 x.1).wf = true ∧ (Lit.int .i64 x.2.1).wf = true ∧ (Lit.int .i64 x.2.2.1).wf = true ∧ (Lit.int .i64 x.2.2.2.1).wf = true ∧ (Lit.int .u64 x.2.2.2.2).wf = true)
theorem o0 : Opens Try.prog 24 (Kd.pair (Kd.int .i64) (Kd.pair (Kd.int .i64) (Kd.pair (Kd.int .i64) (Kd.pair (Kd.int .i64) (Kd.int .u64))))) G0 := (opens_struct0 Try.underlying24 (by kernel_rfl) (opensFs_cons rfl (by kernel_rfl) (opens_int Try.underlying3) (opensFs_cons rfl (by kernel_rfl) (opens_int Try.underlying3) (opensFs_cons rfl (by kernel_rfl) (opens_int Try.underlying3) (opensFs_cons rfl (by kernel_rfl) (opens_int Try.underlying3) (opensFs_one rfl (by kernel_rfl) (opens_int Try.underlying22)))))))
def G1 (x : Int) : Prop := (Lit.int .i64 x).wf = true
def G2 (x : Int) : Prop := (Lit.int .i64 x).wf = true
def G3 (x : Int) : Prop := (Lit.int .i64 x).wf = true
def G4 (x : Int) : Prop := (Lit.int .i64 x).wf = true
/- YOURS:
theorem DutyStranger (a0 : (Int × (Int × (Int × (Int × Int))))) (a1 : Int) (a2 : Int) (a3 : Int) (a4 : Int) (g0 : G0 a0) (g1 : G1 a1) (g2 : G2 a2) (g3 : G3 a3) (g4 : G4 a4) : ∃ k, joustlaw22_DutyStranger.f k a0.1 a0.2.1 a0.2.2.1 a0.2.2.2.1 a0.2.2.2.2 a1 a2 a3 a4 = some true -/
def Said : Prop := ∀ (a0 : (Int × (Int × (Int × (Int × Int))))) (a1 : Int) (a2 : Int) (a3 : Int) (a4 : Int), G0 a0 → G1 a1 → G2 a2 → G3 a3 → G4 a4 → ∃ k, joustlaw22_DutyStranger.f k a0.1 a0.2.1 a0.2.2.1 a0.2.2.2.1 a0.2.2.2.2 a1 a2 a3 a4 = some true
end Go.Proofs.Ytppficlcedgjhaa.GdsDutyStranger
