/- What the row says of each argument of DutyTells: each number is of its kind, each slice within its weight. No condition. -/
import Derived.Test.YtppficlcedgjhaaPDutyTellsz
import Derived.Test.YtppficlcedgjhaaOpen
import Derived.KernelRfl
namespace Go.Proofs.Ytppficlcedgjhaa.GdsDutyTells
open Go.Proofs.Ytppficlcedgjhaa.PDutyTells Go.Proofs.Ytppficlcedgjhaa.Open Go.Proofs.YtppficlcedgjhaaW.PrintWords
set_option linter.unusedVariables false
def G0 (x : (Int × (Int × (Int × (Int × Int))))) : Prop := ((Lit.int .i64 x.1).wf = true ∧ (Lit.int .i64 x.2.1).wf = true ∧ (Lit.int .i64 x.2.2.1).wf = true ∧ (Lit.int .i64 x.2.2.2.1).wf = true ∧ (Lit.int .u64 x.2.2.2.2).wf = true)
theorem o0 : Opens Try.prog 24 (Kd.pair (Kd.int .i64) (Kd.pair (Kd.int .i64) (Kd.pair (Kd.int .i64) (Kd.pair (Kd.int .i64) (Kd.int .u64))))) G0 := (opens_struct0 Try.underlying24 (by kernel_rfl) (opensFs_cons rfl (by kernel_rfl) (opens_int Try.underlying3) (opensFs_cons rfl (by kernel_rfl) (opens_int Try.underlying3) (opensFs_cons rfl (by kernel_rfl) (opens_int Try.underlying3) (opensFs_cons rfl (by kernel_rfl) (opens_int Try.underlying3) (opensFs_one rfl (by kernel_rfl) (opens_int Try.underlying22)))))))
def G1 (x : Int) : Prop := (Lit.int .i64 x).wf = true
def G2 (x : Int) : Prop := (Lit.int .i64 x).wf = true
def G3 (x : (List Int)) : Prop := (x.length * 8 ≤ 140737488351232 ∧ ∀ y ∈ x, (Lit.int .i64 y).wf = true)
theorem o3 : Opens Try.prog 36 (Kd.slice 3 (Kd.int .i64)) G3 := (opens_slice (B := 8) Try.underlying36 (by kernel_rfl) (by kernel_rfl) (opens_int Try.underlying3))
/- YOURS:
theorem DutyTells (a0 : (Int × (Int × (Int × (Int × Int))))) (a1 : Int) (a2 : Int) (a3 : (List Int)) (g0 : G0 a0) (g1 : G1 a1) (g2 : G2 a2) (g3 : G3 a3) : ∃ k, joustlaw22_DutyTells.f k a0.1 a0.2.1 a0.2.2.1 a0.2.2.2.1 a0.2.2.2.2 a1 a2 a3 = some true -/
def Said : Prop := ∀ (a0 : (Int × (Int × (Int × (Int × Int))))) (a1 : Int) (a2 : Int) (a3 : (List Int)), G0 a0 → G1 a1 → G2 a2 → G3 a3 → ∃ k, joustlaw22_DutyTells.f k a0.1 a0.2.1 a0.2.2.1 a0.2.2.2.1 a0.2.2.2.2 a1 a2 a3 = some true
end Go.Proofs.Ytppficlcedgjhaa.GdsDutyTells
