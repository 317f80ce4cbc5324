/- What the row says of each argument of MarkOrder: each number is of its kind, each slice within its weight. No condition. -/
import Derived.Test.YtmgdpkmmcmglfaaPMarkOrdery
import Derived.Test.YtmgdpkmmcmglfaaOpen
import Derived.KernelRfl
namespace Go.Proofs.Ytmgdpkmmcmglfaa.GdsMarkOrder
open Go.Proofs.Ytmgdpkmmcmglfaa.PMarkOrder Go.Proofs.Ytmgdpkmmcmglfaa.Open Go.Proofs.YtmgdpkmmcmglfaaW.PrintWords
set_option linter.unusedVariables false
def G0 (x : (Int × (Int × (Int × (Int × Int))))) : Prop := ((Lit.int .i64 x.1).wf = true ∧ (Lit.int .i64 x.2.1).wf = true ∧ (Lit.int .i64 x.2.2.1).wf = true ∧ (Lit.int .i64 x.2.2.2.1).wf = true ∧ (Lit.int .u64 x.2.2.2.2).wf = true)
theorem o0 : Opens Try.prog 24 (Kd.pair (Kd.int .i64) (Kd.pair (Kd.int .i64) (Kd.pair (Kd.int .i64) (Kd.pair (Kd.int .i64) (Kd.int .u64))))) G0 := (opens_struct0 Try.underlying24 (by kernel_rfl) (opensFs_cons rfl (by kernel_rfl) (opens_int Try.underlying3) (opensFs_cons rfl (by kernel_rfl) (opens_int Try.underlying3) (opensFs_cons rfl (by kernel_rfl) (opens_int Try.underlying3) (opensFs_cons rfl (by kernel_rfl) (opens_int Try.underlying3) (opensFs_one rfl (by kernel_rfl) (opens_int Try.underlying22)))))))
def G1 (x : (List (Int × (Int × ((List Bool) × (List (List Bool))))))) : Prop := (x.length * 64 ≤ 140737488351232 ∧ ∀ y ∈ x, ((Lit.int .i64 y.1).wf = true ∧ (Lit.int .i64 y.2.1).wf = true ∧ (y.2.2.1.length * 1 ≤ 140737488351232 ∧ ∀ yy ∈ y.2.2.1, True) ∧ (y.2.2.2.length * 24 ≤ 140737488351232 ∧ ∀ yy ∈ y.2.2.2, (yy.length * 1 ≤ 140737488351232 ∧ ∀ yyy ∈ yy, True))))
theorem o1 : Opens Try.prog 25 (Kd.slice 44 (Kd.pair (Kd.int .i64) (Kd.pair (Kd.int .i64) (Kd.pair (Kd.slice 4 Kd.bool) (Kd.slice 41 (Kd.slice 4 Kd.bool)))))) G1 := (opens_slice (B := 64) Try.underlying25 (by kernel_rfl) (by kernel_rfl) (opens_struct0 Try.underlying44 (by kernel_rfl) (opensFs_cons rfl (by kernel_rfl) (opens_int Try.underlying3) (opensFs_cons rfl (by kernel_rfl) (opens_int Try.underlying3) (opensFs_cons rfl (by kernel_rfl) (opens_slice (B := 1) Try.underlying41 (by kernel_rfl) (by kernel_rfl) (opens_bool Try.underlying4)) (opensFs_one rfl (by kernel_rfl) (opens_slice (B := 24) Try.underlying42 (by kernel_rfl) (by kernel_rfl) (opens_slice (B := 1) Try.underlying41 (by kernel_rfl) (by kernel_rfl) (opens_bool Try.underlying4)))))))))
def G2 (x : (List Int)) : Prop := (x.length * 8 ≤ 140737488351232 ∧ ∀ y ∈ x, (Lit.int .i64 y).wf = true)
theorem o2 : Opens Try.prog 34 (Kd.slice 3 (Kd.int .i64)) G2 := (opens_slice (B := 8) Try.underlying34 (by kernel_rfl) (by kernel_rfl) (opens_int Try.underlying3))
/- YOURS:
theorem MarkOrder (a0 : (Int × (Int × (Int × (Int × Int))))) (a1 : (List (Int × (Int × ((List Bool) × (List (List Bool))))))) (a2 : (List Int)) (g0 : G0 a0) (g1 : G1 a1) (g2 : G2 a2) : joustlaw17_MarkOrder.f a0.1 a0.2.1 a0.2.2.1 a0.2.2.2.1 a0.2.2.2.2 a1 a2 = some true -/
end Go.Proofs.Ytmgdpkmmcmglfaa.GdsMarkOrder
