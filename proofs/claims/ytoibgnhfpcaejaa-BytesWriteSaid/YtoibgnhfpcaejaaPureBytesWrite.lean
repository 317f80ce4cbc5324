/- The law BytesWrite is true of all items. Condition: the numbers are within their kind. -/
import Derived.Test.YtoibgnhfpcaejaaPBytesWritey
import Derived.Test.YtoibgnhfpcaejaaGdsBytesWrite
namespace Go.Proofs.Ytoibgnhfpcaejaa.PureBytesWrite
set_option linter.unusedVariables false
open Go Go.RowKit Go.Proofs.Ytoibgnhfpcaejaa.PBytesWrite Go.Proofs.Ytoibgnhfpcaejaa.GdsBytesWrite
theorem wf_i64 {x : Int} (h : (Lit.int .i64 x).wf = true) : -9223372036854775808 ≤ x ∧ x ≤ 9223372036854775807 := by
  simp only [Lit.wf, IntKind.min, IntKind.max, IntKind.signed, IntKind.bits, Bool.and_eq_true, decide_eq_true_eq, if_true] at h
  obtain ⟨h1, h2⟩ := h
  constructor
  · simpa using h1
  · have h3 : x ≤ 2 ^ (64 - 1) - 1 := by simpa using h2
    omega
theorem wf_u8 {x : Int} (h : (Lit.int .u8 x).wf = true) : 0 ≤ x ∧ x < 256 := by
  simp [Lit.wf, IntKind.min, IntKind.max, IntKind.signed, IntKind.bits] at h
  omega
theorem BytesWrite (a0 : (List S41)) (g0 : G0 a0) : joustlaw11_BytesWrite.f a0 = some true := by
  unfold joustlaw11_BytesWrite.f
  rw [if_pos]
  intro x hx
  have h := g0.2 x hx
  exact ⟨wf_i64 h.2.1, fun y hy => wf_u8 (h.2.2.2 y hy)⟩
end Go.Proofs.Ytoibgnhfpcaejaa.PureBytesWrite
