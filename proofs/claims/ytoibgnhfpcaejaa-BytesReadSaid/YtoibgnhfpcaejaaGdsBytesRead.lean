/- What the row says of each argument of BytesRead: each number is of its kind, each slice within its weight. No condition. -/
import Derived.Test.YtoibgnhfpcaejaaPBytesReady
import Derived.Test.YtoibgnhfpcaejaaOpen
import Derived.KernelRfl
namespace Go.Proofs.Ytoibgnhfpcaejaa.GdsBytesRead
open Go.Proofs.Ytoibgnhfpcaejaa.PBytesRead Go.Proofs.Ytoibgnhfpcaejaa.Open Go.Proofs.YtoibgnhfpcaejaaW.PrintWords
set_option linter.unusedVariables false
def G0 (x : (List Int)) : Prop := (x.length * 1 ≤ 140737488351232 ∧ ∀ y ∈ x, (Lit.int .u8 y).wf = true)
theorem o0 : Opens Try.prog 22 (Kd.slice 5 (Kd.int .u8)) G0 := (opens_slice (B := 1) Try.underlying22 (by kernel_rfl) (by kernel_rfl) (opens_int Try.underlying5))
def G1 (x : (List Int)) : Prop := (x.length * 8 ≤ 140737488351232 ∧ ∀ y ∈ x, (Lit.int .i64 y).wf = true)
theorem o1 : Opens Try.prog 35 (Kd.slice 3 (Kd.int .i64)) G1 := (opens_slice (B := 8) Try.underlying35 (by kernel_rfl) (by kernel_rfl) (opens_int Try.underlying3))
/- YOURS:
theorem BytesRead (a0 : (List Int)) (a1 : (List Int)) (g0 : G0 a0) (g1 : G1 a1) : joustlaw11_BytesRead.f a0 a1 = some true -/
end Go.Proofs.Ytoibgnhfpcaejaa.GdsBytesRead
