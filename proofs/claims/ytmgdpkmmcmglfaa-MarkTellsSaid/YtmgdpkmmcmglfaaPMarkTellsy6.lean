/- The document's Mark, as the law calls it. Condition: a config that is right, lines as few says. -/
import Derived.Test.YtmgdpkmmcmglfaaPMarkTellsz0
import Derived.Test.YtmgdpkmmcmglfaaPMarkTellsz4
import Derived.Test.YtmgdpkmmcmglfaaPMarkTellsz5
import Derived.Test.YtmgdpkmmcmglfaaMarkG
namespace Go.Proofs.Ytmgdpkmmcmglfaa.PMarkTells
open Go.RowKit Go.Proofs.YtmgdpkmmcmglfaaW.PrintWords Go.Proofs.YtmgdpkmmcmglfaaW.PrintLast Go.Proofs.YtmgdpkmmcmglfaaW.PrintMore
set_option linter.unusedVariables false
instance (l : List S44) : Decidable (PureM.fewP l) := by unfold PureM.fewP; infer_instance
def joustref15_Mark.f (k : Nat) (a0_0 : Int) (a0_1 : Int) (a0_2 : Int) (a0_3 : Int) (a0_4 : Int) (l1 : List (S44)) : Option (List Int) := if PureM.R a0_0 a0_1 a0_2 a0_3 ∧ PureM.fewP l1 then MarkW.ofG a0_0 a0_1 a0_2 a0_3 a0_4 (l1.map PureM.tol) else none
theorem joustref15_Mark.mono : ∀ a0 a1 a2 a3 a4 a5 k, LeO (joustref15_Mark.f k a0 a1 a2 a3 a4 a5) (joustref15_Mark.f (k + 1) a0 a1 a2 a3 a4 a5) := fun a0 a1 a2 a3 a4 a5 k => LeO.refl _
theorem joustref15_Mark.calls (k : Nat) (a0_0 : Int) (a0_1 : Int) (a0_2 : Int) (a0_3 : Int) (a0_4 : Int) (A1 : Option Addr) (c1 : Nat) (l1 : List (S44)) (r : List Int) (w : World) (hr1 : Kd.C k44 w A1 l1.length l1) (hc1 : l1.length ≤ c1) (h : joustref15_Mark.f k a0_0 a0_1 a0_2 a0_3 a0_4 l1 = some r) :
    Calls Try.prog 12 #[.agg #[.int .i64 a0_0, .int .i64 a0_1, .int .i64 a0_2, .int .i64 a0_3, .int .u64 a0_4], .slice A1 l1.length c1] w fun e w' => ∃ v0_ : Value, e = .returned (v0_) ∧ Kd.R (Kd.int .i64) 3 w' w.heap.size (fun _ => True) v0_ r ∧ Below w.heap.size w w' := by
  unfold joustref15_Mark.f at h
  by_cases hc : PureM.R a0_0 a0_1 a0_2 a0_3 ∧ PureM.fewP l1
  · rw [if_pos hc] at h
    by_cases hf : MarkW.fitG a0_0 a0_1 a0_2 a0_3 a0_4 (l1.map PureM.tol)
    · obtain ⟨b, h1, h2, h3⟩ := MarkW.ofG_ends hf
      rw [h] at h1
      obtain rfl := Option.some.inj h1
      refine (RMark.mark.calls a0_0 a0_1 a0_2 a0_3 a0_4 A1 c1 l1 w hr1 hc1 hc.1 hc.2 hf).mono ?_
      rintro e w' ⟨v0, ms, e1, hR, hB, hr, hs⟩
      rw [MarkW.ends_one hr hs h2 h3] at hR
      exact ⟨v0, e1, hR, hB⟩
    · unfold MarkW.ofG at h
      rw [if_neg hf] at h
      cases h
  · rw [if_neg hc] at h
    cases h
end Go.Proofs.Ytmgdpkmmcmglfaa.PMarkTells
