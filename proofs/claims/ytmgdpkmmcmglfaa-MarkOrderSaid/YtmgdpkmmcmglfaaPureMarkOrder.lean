/- The law MarkOrder is true of all. Condition: each number within its kind, the rows within their weight. -/
import Derived.Test.YtmgdpkmmcmglfaaPMarkOrdery
import Derived.Test.YtmgdpkmmcmglfaaGdsMarkOrder
namespace Go.Proofs.Ytmgdpkmmcmglfaa.PureMarkOrder
set_option linter.unusedVariables false
open Go Go.RowKit Go.Proofs.Ytmgdpkmmcmglfaa.PMarkOrder Go.Proofs.Ytmgdpkmmcmglfaa.GdsMarkOrder
theorem MarkOrder (a0 : (Int × (Int × (Int × (Int × Int))))) (a1 : (List (Int × (Int × ((List Bool) × (List (List Bool))))))) (a2 : (List Int)) (g0 : G0 a0) (g1 : G1 a1) (g2 : G2 a2) : joustlaw17_MarkOrder.f a0.1 a0.2.1 a0.2.2.1 a0.2.2.2.1 a0.2.2.2.2 a1 a2 = some true := by
  unfold joustlaw17_MarkOrder.f
  have h1 := g1.1
  have h2 : ∀ x ∈ a1, x.2.2.1.length < 4611686018427387904 ∧ x.2.2.2.length < 4611686018427387904 := fun x hx => by
    obtain ⟨_, _, ⟨q1, _⟩, q2, _⟩ := g1.2 x hx
    exact ⟨by omega, by omega⟩
  rw [if_pos ⟨by omega, h2⟩]
end Go.Proofs.Ytmgdpkmmcmglfaa.PureMarkOrder
