/- The law BytesMany is true of all numbers and bytes. Condition: the numbers are within their kind. -/
import Derived.Test.YtoibgnhfpcaejaaPBytesManyy
import Derived.Test.YtoibgnhfpcaejaaGdsBytesMany
namespace Go.Proofs.Ytoibgnhfpcaejaa.PureBytesMany
set_option linter.unusedVariables false
open Go Go.RowKit Go.Proofs.Ytoibgnhfpcaejaa.PBytesMany Go.Proofs.Ytoibgnhfpcaejaa.GdsBytesMany
theorem wf_i64 {x : Int} (h : (Lit.int .i64 x).wf = true) : -9223372036854775808 ≤ x ∧ x ≤ 9223372036854775807 := by
  simp only [Lit.wf, IntKind.min, IntKind.max, IntKind.signed, IntKind.bits, Bool.and_eq_true, decide_eq_true_eq, if_true] at h
  obtain ⟨h1, h2⟩ := h
  constructor
  · simpa using h1
  · have h3 : x ≤ 2 ^ (64 - 1) - 1 := by simpa using h2
    omega
theorem BytesMany (a0 : (List Int)) (a1 : (List Int)) (g0 : G0 a0) (g1 : G1 a1) : joustlaw11_BytesMany.f a0 a1 = some true := by
  unfold joustlaw11_BytesMany.f
  rw [if_pos]
  intro x hx
  exact wf_i64 (g0.2 x hx)
end Go.Proofs.Ytoibgnhfpcaejaa.PureBytesMany
