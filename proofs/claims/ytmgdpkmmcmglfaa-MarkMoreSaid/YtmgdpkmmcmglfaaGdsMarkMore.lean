/- What the row says of each argument of MarkMore: each number is of its kind, each slice within its weight. No condition. -/
import Derived.Test.YtmgdpkmmcmglfaaPMarkMorey
import Derived.Test.YtmgdpkmmcmglfaaOpen
import Derived.KernelRfl
namespace Go.Proofs.Ytmgdpkmmcmglfaa.GdsMarkMore
open Go.Proofs.Ytmgdpkmmcmglfaa.PMarkMore Go.Proofs.Ytmgdpkmmcmglfaa.Open Go.Proofs.YtmgdpkmmcmglfaaW.PrintWords
set_option linter.unusedVariables false
def G0 (x : (Int × (Int × (Int × (Int × Int))))) : Prop := ((Lit.int .i64 x.1).wf = true ∧ (Lit.int .i64 x.2.1).wf = true ∧ (Lit.int .i64 x.2.2.1).wf = true ∧ (Lit.int .i64 x.2.2.2.1).wf = true ∧ (Lit.int .u64 x.2.2.2.2).wf = true)
theorem o0 : Opens Try.prog 24 (Kd.pair (Kd.int .i64) (Kd.pair (Kd.int .i64) (Kd.pair (Kd.int .i64) (Kd.pair (Kd.int .i64) (Kd.int .u64))))) G0 := (opens_struct0 Try.underlying24 (by kernel_rfl) (opensFs_cons rfl (by kernel_rfl) (opens_int Try.underlying3) (opensFs_cons rfl (by kernel_rfl) (opens_int Try.underlying3) (opensFs_cons rfl (by kernel_rfl) (opens_int Try.underlying3) (opensFs_cons rfl (by kernel_rfl) (opens_int Try.underlying3) (opensFs_one rfl (by kernel_rfl) (opens_int Try.underlying22)))))))
def G1 (x : (List (Int × (Int × ((List Bool) × (List (List Bool))))))) : Prop := (x.length * 64 ≤ 140737488351232 ∧ ∀ y ∈ x, ((Lit.int .i64 y.1).wf = true ∧ (Lit.int .i64 y.2.1).wf = true ∧ (y.2.2.1.length * 1 ≤ 140737488351232 ∧ ∀ yy ∈ y.2.2.1, True) ∧ (y.2.2.2.length * 24 ≤ 140737488351232 ∧ ∀ yy ∈ y.2.2.2, (yy.length * 1 ≤ 140737488351232 ∧ ∀ yyy ∈ yy, True))))
theorem o1 : Opens Try.prog 25 (Kd.slice 44 (Kd.pair (Kd.int .i64) (Kd.pair (Kd.int .i64) (Kd.pair (Kd.slice 4 Kd.bool) (Kd.slice 41 (Kd.slice 4 Kd.bool)))))) G1 := (opens_slice (B := 64) Try.underlying25 (by kernel_rfl) (by kernel_rfl) (opens_struct0 Try.underlying44 (by kernel_rfl) (opensFs_cons rfl (by kernel_rfl) (opens_int Try.underlying3) (opensFs_cons rfl (by kernel_rfl) (opens_int Try.underlying3) (opensFs_cons rfl (by kernel_rfl) (opens_slice (B := 1) Try.underlying41 (by kernel_rfl) (by kernel_rfl) (opens_bool Try.underlying4)) (opensFs_one rfl (by kernel_rfl) (opens_slice (B := 24) Try.underlying42 (by kernel_rfl) (by kernel_rfl) (opens_slice (B := 1) Try.underlying41 (by kernel_rfl) (by kernel_rfl) (opens_bool Try.underlying4)))))))))
def G2 (x : Int) : Prop := (Lit.int .i64 x).wf = true
def G3 (x : Int) : Prop := (Lit.int .i64 x).wf = true
def G4 (x : Int) : Prop := (Lit.int .i64 x).wf = true
/- YOURS:
theorem MarkMore (a0 : (Int × (Int × (Int × (Int × Int))))) (a1 : (List (Int × (Int × ((List Bool) × (List (List Bool))))))) (a2 : Int) (a3 : Int) (a4 : Int) (g0 : G0 a0) (g1 : G1 a1) (g2 : G2 a2) (g3 : G3 a3) (g4 : G4 a4) : joustlaw17_MarkMore.f a0.1 a0.2.1 a0.2.2.1 a0.2.2.2.1 a0.2.2.2.2 a1 a2 a3 a4 = some true -/
end Go.Proofs.Ytmgdpkmmcmglfaa.GdsMarkMore
