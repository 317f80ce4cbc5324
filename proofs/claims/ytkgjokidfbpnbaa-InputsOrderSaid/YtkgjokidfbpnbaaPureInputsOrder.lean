/- The law InputsOrder is true of all inputs. Condition: the numbers are within their kind. -/
import Derived.Test.YtkgjokidfbpnbaaPInputsOrdery
import Derived.Test.YtkgjokidfbpnbaaGdsInputsOrder
namespace Go.Proofs.Ytkgjokidfbpnbaa.PureInputsOrder
set_option linter.unusedVariables false
open Go Go.RowKit Go.Proofs.Ytkgjokidfbpnbaa.PInputsOrder Go.Proofs.Ytkgjokidfbpnbaa.GdsInputsOrder
theorem wf_i64 {x : Int} (h : (Lit.int .i64 x).wf = true) : -9223372036854775808 ≤ x ∧ x ≤ 9223372036854775807 := by
  simp only [Lit.wf, IntKind.min, IntKind.max, IntKind.signed, IntKind.bits, Bool.and_eq_true, decide_eq_true_eq, if_true] at h
  obtain ⟨h1, h2⟩ := h
  constructor
  · simpa using h1
  · have h3 : x ≤ 2 ^ (64 - 1) - 1 := by simpa using h2
    omega
theorem InputsOrder (a0 : (List (Int × (Int × Bool)))) (a1 : (List Int)) (a2 : Int) (g0 : G0 a0) (g1 : G1 a1) (g2 : G2 a2) : joustlaw15_InputsOrder.f a0 a1 a2 = some true := by
  unfold joustlaw15_InputsOrder.f
  rw [if_pos (fun x hx => wf_i64 (g1.2 x hx))]
end Go.Proofs.Ytkgjokidfbpnbaa.PureInputsOrder
