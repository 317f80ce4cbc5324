/- The law MarkMore is true of all. Condition: each number within its kind, the rows within their weight. -/
import Derived.Test.YtmgdpkmmcmglfaaPMarkMorey
import Derived.Test.YtmgdpkmmcmglfaaGdsMarkMore
namespace Go.Proofs.Ytmgdpkmmcmglfaa.PureMarkMore
set_option linter.unusedVariables false
open Go Go.RowKit Go.Proofs.Ytmgdpkmmcmglfaa.PMarkMore Go.Proofs.Ytmgdpkmmcmglfaa.GdsMarkMore
theorem MarkMore (a0 : (Int × (Int × (Int × (Int × Int))))) (a1 : (List (Int × (Int × ((List Bool) × (List (List Bool))))))) (a2 : Int) (a3 : Int) (a4 : Int) (g0 : G0 a0) (g1 : G1 a1) (g2 : G2 a2) (g3 : G3 a3) (g4 : G4 a4) : joustlaw17_MarkMore.f a0.1 a0.2.1 a0.2.2.1 a0.2.2.2.1 a0.2.2.2.2 a1 a2 a3 a4 = some true := by
  unfold joustlaw17_MarkMore.f
  have h1 := g1.1
  have h2 : ∀ x ∈ a1, x.2.2.1.length < 4611686018427387904 ∧ x.2.2.2.length < 4611686018427387904 := fun x hx => by
    obtain ⟨_, _, ⟨q1, _⟩, q2, _⟩ := g1.2 x hx
    exact ⟨by omega, by omega⟩
  rw [if_pos ⟨by omega, h2⟩]
end Go.Proofs.Ytmgdpkmmcmglfaa.PureMarkMore
