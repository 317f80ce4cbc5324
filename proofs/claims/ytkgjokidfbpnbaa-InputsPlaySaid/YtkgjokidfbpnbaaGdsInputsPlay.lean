/- What the row says of each argument of InputsPlay: each number is of its kind, each slice within its weight. No condition. -/
import Derived.Test.YtkgjokidfbpnbaaPInputsPlayy
import Derived.Test.YtkgjokidfbpnbaaOpen
import Derived.KernelRfl
namespace Go.Proofs.Ytkgjokidfbpnbaa.GdsInputsPlay
open Go.Proofs.Ytkgjokidfbpnbaa.PInputsPlay Go.Proofs.Ytkgjokidfbpnbaa.Open Go.Proofs.YtkgjokidfbpnbaaW.PrintWords
set_option linter.unusedVariables false
def G0 (x : Int) : Prop := (Lit.int .i64 x).wf = true
def G1 (x : (List (Int × (Int × (Int × (List (Int × (Int × Bool)))))))) : Prop := (x.length * 48 ≤ 140737488351232 ∧ ∀ y ∈ x, ((Lit.int .i64 y.1).wf = true ∧ (Lit.int .i64 y.2.1).wf = true ∧ (Lit.int .i64 y.2.2.1).wf = true ∧ (y.2.2.2.length * 24 ≤ 140737488351232 ∧ ∀ yy ∈ y.2.2.2, ((Lit.int .i64 yy.1).wf = true ∧ (Lit.int .i64 yy.2.1).wf = true ∧ True))))
theorem o1 : Opens Try.prog 43 (Kd.slice 47 (Kd.pair (Kd.int .i64) (Kd.pair (Kd.int .i64) (Kd.pair (Kd.int .i64) (Kd.slice 24 (Kd.pair (Kd.int .i64) (Kd.pair (Kd.int .i64) Kd.bool))))))) G1 := (opens_slice (B := 48) Try.underlying43 (by kernel_rfl) (by kernel_rfl) (opens_struct0 Try.underlying47 (by kernel_rfl) (opensFs_cons rfl (by kernel_rfl) (opens_int Try.underlying3) (opensFs_cons rfl (by kernel_rfl) (opens_int Try.underlying3) (opensFs_cons rfl (by kernel_rfl) (opens_int Try.underlying3) (opensFs_one rfl (by kernel_rfl) (opens_slice (B := 24) Try.underlying22 (by kernel_rfl) (by kernel_rfl) (opens_struct0 Try.underlying24 (by kernel_rfl) (opensFs_cons rfl (by kernel_rfl) (opens_int Try.underlying3) (opensFs_cons rfl (by kernel_rfl) (opens_int Try.underlying3) (opensFs_one rfl (by kernel_rfl) (opens_bool Try.underlying4))))))))))))
def G2 (x : Int) : Prop := (Lit.int .i64 x).wf = true
def G3 (x : Int) : Prop := (Lit.int .i64 x).wf = true
def G4 (x : Int) : Prop := (Lit.int .i64 x).wf = true
/- YOURS:
theorem InputsPlay (a0 : Int) (a1 : (List (Int × (Int × (Int × (List (Int × (Int × Bool)))))))) (a2 : Int) (a3 : Int) (a4 : Int) (g0 : G0 a0) (g1 : G1 a1) (g2 : G2 a2) (g3 : G3 a3) (g4 : G4 a4) : joustlaw15_InputsPlay.f a0 a1 a2 a3 a4 = some true -/
end Go.Proofs.Ytkgjokidfbpnbaa.GdsInputsPlay
