/- What the row says of each argument of MarkAll: each number is of its kind, each slice within its weight. No condition. -/
import Derived.Test.YtmgdpkmmcmglfaaPMarkAlly
import Derived.Test.YtmgdpkmmcmglfaaOpen
import Derived.KernelRfl
namespace Go.Proofs.Ytmgdpkmmcmglfaa.GdsMarkAll
open Go.Proofs.Ytmgdpkmmcmglfaa.PMarkAll Go.Proofs.Ytmgdpkmmcmglfaa.Open Go.Proofs.YtmgdpkmmcmglfaaW.PrintWords
set_option linter.unusedVariables false
def G0 (x : (Int × (Int × (Int × (Int × Int))))) : Prop := ((Lit.int .i64 x.1).wf = true ∧ (Lit.int .i64 x.2.1).wf = true ∧ (Lit.int .i64 x.2.2.1).wf = true ∧ (Lit.int .i64 x.2.2.2.1).wf = true ∧ (Lit.int .u64 x.2.2.2.2).wf = true)
theorem o0 : Opens Try.prog 24 (Kd.pair (Kd.int .i64) (Kd.pair (Kd.int .i64) (Kd.pair (Kd.int .i64) (Kd.pair (Kd.int .i64) (Kd.int .u64))))) G0 := (opens_struct0 Try.underlying24 (by kernel_rfl) (opensFs_cons rfl (by kernel_rfl) (opens_int Try.underlying3) (opensFs_cons rfl (by kernel_rfl) (opens_int Try.underlying3) (opensFs_cons rfl (by kernel_rfl) (opens_int Try.underlying3) (opensFs_cons rfl (by kernel_rfl) (opens_int Try.underlying3) (opensFs_one rfl (by kernel_rfl) (opens_int Try.underlying22)))))))
def G1 (x : Int) : Prop := (Lit.int .i64 x).wf = true
def G2 (x : Int) : Prop := (Lit.int .i64 x).wf = true
def G3 (x : Int) : Prop := (Lit.int .i64 x).wf = true
/- YOURS:
theorem MarkAll (a0 : (Int × (Int × (Int × (Int × Int))))) (a1 : Int) (a2 : Int) (a3 : Int) (g0 : G0 a0) (g1 : G1 a1) (g2 : G2 a2) (g3 : G3 a3) : joustlaw17_MarkAll.f a0.1 a0.2.1 a0.2.2.1 a0.2.2.2.1 a0.2.2.2.2 a1 a2 a3 = some true -/
end Go.Proofs.Ytmgdpkmmcmglfaa.GdsMarkAll
