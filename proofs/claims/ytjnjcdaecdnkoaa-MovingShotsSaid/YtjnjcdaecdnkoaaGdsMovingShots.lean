/- What the row says of each argument of MovingShots: each number is of its kind, each slice within its weight. No condition. -/
import Derived.Test.YtjnjcdaecdnkoaaPMovingShotsy
import Derived.Test.YtjnjcdaecdnkoaaOpen
import Derived.KernelRfl
namespace Go.Proofs.Ytjnjcdaecdnkoaa.GdsMovingShots
open Go.Proofs.Ytjnjcdaecdnkoaa.PMovingShots Go.Proofs.Ytjnjcdaecdnkoaa.Open Go.Proofs.YtjnjcdaecdnkoaaW.PrintWords
set_option linter.unusedVariables false
def G0 (x : (Int × (Int × (Int × (Int × Int))))) : Prop := ((Lit.int .i64 x.1).wf = true ∧ (Lit.int .i64 x.2.1).wf = true ∧ (Lit.int .i64 x.2.2.1).wf = true ∧ (Lit.int .i64 x.2.2.2.1).wf = true ∧ (Lit.int .u64 x.2.2.2.2).wf = true)
theorem o0 : Opens Try.prog 24 (Kd.pair (Kd.int .i64) (Kd.pair (Kd.int .i64) (Kd.pair (Kd.int .i64) (Kd.pair (Kd.int .i64) (Kd.int .u64))))) G0 := (opens_struct0 Try.underlying24 (by kernel_rfl) (opensFs_cons rfl (by kernel_rfl) (opens_int Try.underlying3) (opensFs_cons rfl (by kernel_rfl) (opens_int Try.underlying3) (opensFs_cons rfl (by kernel_rfl) (opens_int Try.underlying3) (opensFs_cons rfl (by kernel_rfl) (opens_int Try.underlying3) (opensFs_one rfl (by kernel_rfl) (opens_int Try.underlying22)))))))
def G1 (x : Int) : Prop := (Lit.int .i64 x).wf = true
def G2 (x : Int) : Prop := (Lit.int .i64 x).wf = true
def G3 (x : (Int × (Int × Bool))) : Prop := ((Lit.int .i64 x.1).wf = true ∧ (Lit.int .i64 x.2.1).wf = true ∧ True)
theorem o3 : Opens Try.prog 28 (Kd.pair (Kd.int .i64) (Kd.pair (Kd.int .i64) Kd.bool)) G3 := (opens_struct0 Try.underlying28 (by kernel_rfl) (opensFs_cons rfl (by kernel_rfl) (opens_int Try.underlying3) (opensFs_cons rfl (by kernel_rfl) (opens_int Try.underlying3) (opensFs_one rfl (by kernel_rfl) (opens_bool Try.underlying4)))))
/- YOURS:
theorem MovingShots (a0 : (Int × (Int × (Int × (Int × Int))))) (a1 : Int) (a2 : Int) (a3 : (Int × (Int × Bool))) (g0 : G0 a0) (g1 : G1 a1) (g2 : G2 a2) (g3 : G3 a3) : ∃ k, joustlaw07_MovingShots.f k a0.1 a0.2.1 a0.2.2.1 a0.2.2.2.1 a0.2.2.2.2 a1 a2 a3.1 a3.2.1 a3.2.2 = some true -/
def Said : Prop := ∀ (a0 : (Int × (Int × (Int × (Int × Int))))) (a1 : Int) (a2 : Int) (a3 : (Int × (Int × Bool))), G0 a0 → G1 a1 → G2 a2 → G3 a3 → ∃ k, joustlaw07_MovingShots.f k a0.1 a0.2.1 a0.2.2.1 a0.2.2.2.1 a0.2.2.2.2 a1 a2 a3.1 a3.2.1 a3.2.2 = some true
end Go.Proofs.Ytjnjcdaecdnkoaa.GdsMovingShots
