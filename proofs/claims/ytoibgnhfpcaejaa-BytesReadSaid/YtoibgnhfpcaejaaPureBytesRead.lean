/- The law BytesRead is true of all bytes, and whatever is asked for. Condition: bytes are bytes. -/
import Derived.Test.YtoibgnhfpcaejaaPBytesReady
import Derived.Test.YtoibgnhfpcaejaaGdsBytesRead
namespace Go.Proofs.Ytoibgnhfpcaejaa.PureBytesRead
set_option linter.unusedVariables false
open Go Go.RowKit Go.Proofs.Ytoibgnhfpcaejaa.PBytesRead Go.Proofs.Ytoibgnhfpcaejaa.GdsBytesRead
theorem wf_u8 {x : Int} (h : (Lit.int .u8 x).wf = true) : 0 ≤ x ∧ x < 256 := by
  simp [Lit.wf, IntKind.min, IntKind.max, IntKind.signed, IntKind.bits] at h
  omega
theorem BytesRead (a0 : (List Int)) (a1 : (List Int)) (g0 : G0 a0) (g1 : G1 a1) : joustlaw11_BytesRead.f a0 a1 = some true := by
  unfold joustlaw11_BytesRead.f
  rw [if_pos]
  intro x hx
  exact wf_u8 (g0.2 x hx)
end Go.Proofs.Ytoibgnhfpcaejaa.PureBytesRead
