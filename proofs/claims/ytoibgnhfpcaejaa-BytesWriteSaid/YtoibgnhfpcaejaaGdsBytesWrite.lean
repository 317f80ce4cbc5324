/- What the row says of each argument of BytesWrite: each number is of its kind, each slice within its weight. No condition. -/
import Derived.Test.YtoibgnhfpcaejaaPBytesWritey
import Derived.Test.YtoibgnhfpcaejaaOpen
import Derived.KernelRfl
namespace Go.Proofs.Ytoibgnhfpcaejaa.GdsBytesWrite
open Go.Proofs.Ytoibgnhfpcaejaa.PBytesWrite Go.Proofs.Ytoibgnhfpcaejaa.Open Go.Proofs.YtoibgnhfpcaejaaW.PrintWords
set_option linter.unusedVariables false
def G0 (x : (List S41)) : Prop := (x.length * 40 ≤ 140737488351232 ∧ ∀ y ∈ x, (True ∧ (Lit.int .i64 y.f1).wf = true ∧ (y.f2.length * 1 ≤ 140737488351232 ∧ ∀ yy ∈ y.f2, (Lit.int .u8 yy).wf = true)))
theorem o0 : Opens Try.prog 39 (Kd.slice 41 k41) G0 := (opens_slice (B := 40) Try.underlying39 (by kernel_rfl) (by kernel_rfl) (opens_struct (fun x : S41 => (x.f0, x.f1, x.f2)) (fun a : (Bool × (Int × (List Int))) => (⟨a.1, a.2.1, a.2.2⟩ : S41)) (fun _ => rfl) Try.underlying41 (by kernel_rfl) (opensFs_cons rfl (by kernel_rfl) (opens_bool Try.underlying4) (opensFs_cons rfl (by kernel_rfl) (opens_int Try.underlying3) (opensFs_one rfl (by kernel_rfl) (opens_slice (B := 1) Try.underlying22 (by kernel_rfl) (by kernel_rfl) (opens_int Try.underlying5)))))))
/- YOURS:
theorem BytesWrite (a0 : (List S41)) (g0 : G0 a0) : joustlaw11_BytesWrite.f a0 = some true -/
end Go.Proofs.Ytoibgnhfpcaejaa.GdsBytesWrite
