/- What the row says of each argument of MovingWalls: each number is of its kind, each slice within its weight. No condition. -/
import Derived.Test.YtjnjcdaecdnkoaaPMovingWallsy
import Derived.Test.YtjnjcdaecdnkoaaOpen
import Derived.KernelRfl
namespace Go.Proofs.Ytjnjcdaecdnkoaa.GdsMovingWalls
open Go.Proofs.Ytjnjcdaecdnkoaa.PMovingWalls Go.Proofs.Ytjnjcdaecdnkoaa.Open Go.Proofs.YtjnjcdaecdnkoaaW.PrintWords
set_option linter.unusedVariables false
def G0 (x : (Int × (Int × (Int × (Int × Int))))) : Prop := ((Lit.int .i64 x.1).wf = true ∧ (Lit.int .i64 x.2.1).wf = true ∧ (Lit.int .i64 x.2.2.1).wf = true ∧ (Lit.int .i64 x.2.2.2.1).wf = true ∧ (Lit.int .u64 x.2.2.2.2).wf = true)
theorem o0 : Opens Try.prog 24 (Kd.pair (Kd.int .i64) (Kd.pair (Kd.int .i64) (Kd.pair (Kd.int .i64) (Kd.pair (Kd.int .i64) (Kd.int .u64))))) G0 := (opens_struct0 Try.underlying24 (by kernel_rfl) (opensFs_cons rfl (by kernel_rfl) (opens_int Try.underlying3) (opensFs_cons rfl (by kernel_rfl) (opens_int Try.underlying3) (opensFs_cons rfl (by kernel_rfl) (opens_int Try.underlying3) (opensFs_cons rfl (by kernel_rfl) (opens_int Try.underlying3) (opensFs_one rfl (by kernel_rfl) (opens_int Try.underlying22)))))))
def G1 (x : Int) : Prop := (Lit.int .i64 x).wf = true
def G2 (x : Int) : Prop := (Lit.int .i64 x).wf = true
def G3 (x : (List S28)) : Prop := (x.length * 24 ≤ 140737488351232 ∧ ∀ y ∈ x, ((Lit.int .i64 y.f0).wf = true ∧ (Lit.int .i64 y.f1).wf = true ∧ True))
theorem o3 : Opens Try.prog 51 (Kd.slice 28 k28) G3 := (opens_slice (B := 24) Try.underlying51 (by kernel_rfl) (by kernel_rfl) (opens_struct (fun x : S28 => (x.f0, x.f1, x.f2)) (fun a : (Int × (Int × Bool)) => (⟨a.1, a.2.1, a.2.2⟩ : S28)) (fun _ => rfl) Try.underlying28 (by kernel_rfl) (opensFs_cons rfl (by kernel_rfl) (opens_int Try.underlying3) (opensFs_cons rfl (by kernel_rfl) (opens_int Try.underlying3) (opensFs_one rfl (by kernel_rfl) (opens_bool Try.underlying4))))))
/- YOURS:
theorem MovingWalls (a0 : (Int × (Int × (Int × (Int × Int))))) (a1 : Int) (a2 : Int) (a3 : (List S28)) (g0 : G0 a0) (g1 : G1 a1) (g2 : G2 a2) (g3 : G3 a3) : ∃ k, joustlaw07_MovingWalls.f k a0.1 a0.2.1 a0.2.2.1 a0.2.2.2.1 a0.2.2.2.2 a1 a2 a3 = some true -/
def Said : Prop := ∀ (a0 : (Int × (Int × (Int × (Int × Int))))) (a1 : Int) (a2 : Int) (a3 : (List S28)), G0 a0 → G1 a1 → G2 a2 → G3 a3 → ∃ k, joustlaw07_MovingWalls.f k a0.1 a0.2.1 a0.2.2.1 a0.2.2.2.1 a0.2.2.2.2 a1 a2 a3 = some true
end Go.Proofs.Ytjnjcdaecdnkoaa.GdsMovingWalls
