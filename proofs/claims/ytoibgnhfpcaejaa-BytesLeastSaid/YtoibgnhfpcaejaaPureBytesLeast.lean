/- The law BytesLeast is true for every number. Condition: the number is within its kind. -/
import Derived.Test.YtoibgnhfpcaejaaPBytesLeasty
import Derived.Test.YtoibgnhfpcaejaaGdsBytesLeast
namespace Go.Proofs.Ytoibgnhfpcaejaa.PureBytesLeast
set_option linter.unusedVariables false
open Go Go.RowKit Go.Proofs.Ytoibgnhfpcaejaa.PBytesLeast Go.Proofs.Ytoibgnhfpcaejaa.GdsBytesLeast
theorem BytesLeast (a0 : Int) (g0 : G0 a0) : joustlaw11_BytesLeast.f a0 = some true := by
  have h := g0
  unfold G0 at h
  simp only [Lit.wf, IntKind.min, IntKind.max, IntKind.signed, IntKind.bits, Bool.and_eq_true, decide_eq_true_eq, if_true] at h
  unfold joustlaw11_BytesLeast.f
  rw [if_pos]
  obtain ⟨h1, h2⟩ := h
  constructor
  · simpa using h1
  · have h3 : a0 ≤ 2 ^ (64 - 1) - 1 := by simpa using h2
    omega
end Go.Proofs.Ytoibgnhfpcaejaa.PureBytesLeast
