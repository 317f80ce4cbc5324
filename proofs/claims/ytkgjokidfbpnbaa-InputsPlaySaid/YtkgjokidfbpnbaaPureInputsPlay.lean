/- The law InputsPlay is true of all inputs. Condition: the numbers are within their kind, the rows within their weight. -/
import Derived.Test.YtkgjokidfbpnbaaPInputsPlayy
import Derived.Test.YtkgjokidfbpnbaaGdsInputsPlay
namespace Go.Proofs.Ytkgjokidfbpnbaa.PureInputsPlay
set_option linter.unusedVariables false
open Go Go.RowKit Go.Proofs.Ytkgjokidfbpnbaa.PInputsPlay Go.Proofs.Ytkgjokidfbpnbaa.GdsInputsPlay
theorem wf_i64 {x : Int} (h : (Lit.int .i64 x).wf = true) : -9223372036854775808 ≤ x ∧ x ≤ 9223372036854775807 := by
  simp only [Lit.wf, IntKind.min, IntKind.max, IntKind.signed, IntKind.bits, Bool.and_eq_true, decide_eq_true_eq, if_true] at h
  obtain ⟨h1, h2⟩ := h
  constructor
  · simpa using h1
  · have h3 : x ≤ 2 ^ (64 - 1) - 1 := by simpa using h2
    omega
theorem InputsPlay (a0 : Int) (a1 : (List (Int × (Int × (Int × (List (Int × (Int × Bool)))))))) (a2 : Int) (a3 : Int) (a4 : Int) (g0 : G0 a0) (g1 : G1 a1) (g2 : G2 a2) (g3 : G3 a3) (g4 : G4 a4) : joustlaw15_InputsPlay.f a0 a1 a2 a3 a4 = some true := by
  unfold joustlaw15_InputsPlay.f
  have h1 := g1.1
  have h5 : ∀ x ∈ a1, InW.I64 x.1 ∧ InW.I64 x.2.1 ∧ InW.I64 x.2.2.1 ∧ x.2.2.2.length ≤ 140737488351232 := fun x hx => by
    obtain ⟨q1, q2, q3, q4, _⟩ := g1.2 x hx
    exact ⟨wf_i64 q1, wf_i64 q2, wf_i64 q3, by omega⟩
  rw [if_pos ⟨wf_i64 g0, wf_i64 g2, wf_i64 g3, wf_i64 g4, by omega, h5⟩]
end Go.Proofs.Ytkgjokidfbpnbaa.PureInputsPlay
