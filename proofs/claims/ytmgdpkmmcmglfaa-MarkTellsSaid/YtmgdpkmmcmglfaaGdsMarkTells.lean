/- What the row says of each argument of MarkTells: each number is of its kind, each slice within its weight. No condition. -/
import Derived.Test.YtmgdpkmmcmglfaaPMarkTellsy
import Derived.Test.YtmgdpkmmcmglfaaOpen
import Derived.KernelRfl
namespace Go.Proofs.Ytmgdpkmmcmglfaa.GdsMarkTells
open Go.Proofs.Ytmgdpkmmcmglfaa.PMarkTells Go.Proofs.Ytmgdpkmmcmglfaa.Open Go.Proofs.YtmgdpkmmcmglfaaW.PrintWords
set_option linter.unusedVariables false
def G0 (x : (Int × (Int × (Int × (Int × Int))))) : Prop := ((Lit.int .i64 x.1).wf = true ∧ (Lit.int .i64 x.2.1).wf = true ∧ (Lit.int .i64 x.2.2.1).wf = true ∧ (Lit.int .i64 x.2.2.2.1).wf = true ∧ (Lit.int .u64 x.2.2.2.2).wf = true)
theorem o0 : Opens Try.prog 24 (Kd.pair (Kd.int .i64) (Kd.pair (Kd.int .i64) (Kd.pair (Kd.int .i64) (Kd.pair (Kd.int .i64) (Kd.int .u64))))) G0 := (opens_struct0 Try.underlying24 (by kernel_rfl) (opensFs_cons rfl (by kernel_rfl) (opens_int Try.underlying3) (opensFs_cons rfl (by kernel_rfl) (opens_int Try.underlying3) (opensFs_cons rfl (by kernel_rfl) (opens_int Try.underlying3) (opensFs_cons rfl (by kernel_rfl) (opens_int Try.underlying3) (opensFs_one rfl (by kernel_rfl) (opens_int Try.underlying22)))))))
def G1 (x : (List S44)) : Prop := (x.length * 64 ≤ 140737488351232 ∧ ∀ y ∈ x, ((Lit.int .i64 y.f0).wf = true ∧ (Lit.int .i64 y.f1).wf = true ∧ (y.f2.length * 1 ≤ 140737488351232 ∧ ∀ yy ∈ y.f2, True) ∧ (y.f3.length * 24 ≤ 140737488351232 ∧ ∀ yy ∈ y.f3, (yy.length * 1 ≤ 140737488351232 ∧ ∀ yyy ∈ yy, True))))
theorem o1 : Opens Try.prog 25 (Kd.slice 44 k44) G1 := (opens_slice (B := 64) Try.underlying25 (by kernel_rfl) (by kernel_rfl) (opens_struct (fun x : S44 => (x.f0, x.f1, x.f2, x.f3)) (fun a : (Int × (Int × ((List Bool) × (List (List Bool))))) => (⟨a.1, a.2.1, a.2.2.1, a.2.2.2⟩ : S44)) (fun _ => rfl) Try.underlying44 (by kernel_rfl) (opensFs_cons rfl (by kernel_rfl) (opens_int Try.underlying3) (opensFs_cons rfl (by kernel_rfl) (opens_int Try.underlying3) (opensFs_cons rfl (by kernel_rfl) (opens_slice (B := 1) Try.underlying41 (by kernel_rfl) (by kernel_rfl) (opens_bool Try.underlying4)) (opensFs_one rfl (by kernel_rfl) (opens_slice (B := 24) Try.underlying42 (by kernel_rfl) (by kernel_rfl) (opens_slice (B := 1) Try.underlying41 (by kernel_rfl) (by kernel_rfl) (opens_bool Try.underlying4)))))))))
/- YOURS:
theorem MarkTells (a0 : (Int × (Int × (Int × (Int × Int))))) (a1 : (List S44)) (g0 : G0 a0) (g1 : G1 a1) : ∃ k, joustlaw17_MarkTells.f k a0.1 a0.2.1 a0.2.2.1 a0.2.2.2.1 a0.2.2.2.2 a1 = some true -/
def Said : Prop := ∀ (a0 : (Int × (Int × (Int × (Int × Int))))) (a1 : (List S44)), G0 a0 → G1 a1 → ∃ k, joustlaw17_MarkTells.f k a0.1 a0.2.1 a0.2.2.1 a0.2.2.2.1 a0.2.2.2.2 a1 = some true
end Go.Proofs.Ytmgdpkmmcmglfaa.GdsMarkTells
