/- The printed law MarkTells is true for all numbers and lines: how far lines are sure is as the document tells it. Condition: each number within its kind. -/
import Derived.Test.YtmgdpkmmcmglfaaPMarkTellsy
import Derived.Test.YtmgdpkmmcmglfaaGdsMarkTells
import Derived.Test.YtmgdpkmmcmglfaaMarkP
import Derived.OpenShut
namespace Go.Proofs.Ytmgdpkmmcmglfaa.PureMarkTells
set_option linter.unusedVariables false
open Go Go.RowKit Go.Proofs.Ytmgdpkmmcmglfaa.PMarkTells Go.Proofs.Ytmgdpkmmcmglfaa.GdsMarkTells Go.Proofs.YtmgdpkmmcmglfaaW.PrintWords Go.Proofs.YtmgdpkmmcmglfaaW.PrintLast Go.Proofs.Ytmgdpkmmcmglfaa.PureM
open Go.Proofs.Ytmgdpkmmcmglfaa.MarkW (Line LineS nearG ofG fitG initM madeP resF)
theorem awake_eq {k : Nat} (hk : 10 ≤ k) : joustlaw17_awake.f k = some true := by
  unfold joustlaw17_awake.f
  have h : R 1 1 1 1 := by decide
  have e : mark_Of.f 1 1 1 1 0 [⟨0, 5, [true, true, false], [[false], [false], [false]]⟩] = some [7] := by
    show MarkW.ofG 1 1 1 1 0 [(0, 5, [true, true, false], [[false], [false], [false]])] = some [7]
    decide +kernel
  rw [new_eq 0 h, Option.bind_some, e, Option.bind_some, plain_eq _ _ (by decide) (by show 1 < k; omega), Option.bind_some, decide_eq_true rfl]
theorem wf_i64 {x : Int} (h : (Lit.int .i64 x).wf = true) : MarkW.I64 x := by
  simp only [Lit.wf, IntKind.min, IntKind.max, IntKind.signed, IntKind.bits, Bool.and_eq_true, decide_eq_true_eq, if_true] at h
  obtain ⟨h1, h2⟩ := h
  constructor
  · simpa using h1
  · have h3 : x ≤ 2 ^ (64 - 1) - 1 := by simpa using h2
    omega
theorem MarkTells (a0 : (Int × (Int × (Int × (Int × Int))))) (a1 : (List S44)) (g0 : G0 a0) (g1 : G1 a1) : ∃ k, joustlaw17_MarkTells.f k a0.1 a0.2.1 a0.2.2.1 a0.2.2.2.1 a0.2.2.2.2 a1 = some true := by
  obtain ⟨c, r, p, w, s⟩ := a0
  simp only
  have dull : ∀ (k : Nat) (y1 y2 y3 y4 y5 : Int), 20 ≤ k → joustlaw17_MarkTells.j0 k a1 true c r p w s y1 y2 y3 y4 y5 = some true := by
    intro k y1 y2 y3 y4 y5 hk
    obtain ⟨k, rfl⟩ : ∃ q, k = q + 1 := ⟨k - 1, by omega⟩
    simp only [joustlaw17_MarkTells.j0]
    rw [if_pos trivial, awake_eq (by omega), Option.bind_some]
  by_cases h : R c r p w
  · have hlen : a1.length < 4611686018427387904 := by have := g1.1; omega
    have hb : ∀ x ∈ a1, x.f2.length < 4611686018427387904 ∧ x.f3.length < 4611686018427387904 := fun x hx => by
      have := g1.2 x hx
      have h2 := this.2.2.1.1
      have h3 := this.2.2.2.1
      omega
    obtain ⟨v, hv, hv2⟩ := few_eq hlen hb a1.length (most a1) 0 (by omega) (Nat.le_refl _) (fun j _ h => absurd h (by omega))
    have hvk : ∀ k, most a1 ≤ k → ∃ v, joustlaw17_few.f k a1 = some v ∧ (v = true → fewP a1) := fun k hk => by
      unfold joustlaw17_few.f
      exact few_eq hlen hb a1.length k 0 (by omega) hk (fun j _ h => absurd h (by omega))
    clear hv hv2 v
    by_cases hfw : fewP a1
    · have hfit := GridP.fit_of_few s (RR h) (l := a1.map tol) (by have := hfw.1; simp; omega) (fun x hx => by
        obtain ⟨y, hy, rfl⟩ := List.mem_map.1 hx
        have := hfw.2 y hy
        exact ⟨by show y.f2.length ≤ 100; omega, by show y.f3.length ≤ 100; omega, wf_i64 (g1.2 y hy).1⟩)
      obtain ⟨b0, hb0, hr0, hs0⟩ := MarkW.ofG_ends hfit
      obtain ⟨v, hv, hv2⟩ := hvk (most a1 + 300) (by omega)
      refine ⟨most a1 + 300, ?_⟩
      unfold joustlaw17_MarkTells.f
      rw [new_eq s h, Option.bind_some, if_pos rfl, hv, Option.bind_some]
      cases v with
      | false => exact dull _ _ _ _ _ _ (by omega)
      | true =>
        obtain ⟨k, hk⟩ : ∃ k, most a1 + 300 = k + 1 := ⟨most a1 + 299, by omega⟩
        rw [hk]
        simp only [joustlaw17_MarkTells.j0]
        have e1 : mark_Of.f c r p w s a1 = some (resF b0) := hb0
        have e2 : joustref15_Mark.f k c r p w s a1 = some (resF b0) := by
          unfold joustref15_Mark.f
          rw [if_pos ⟨h, hfw⟩]
          exact hb0
        have hl0 : (resF b0).length ≤ 20 := by
          have h9 := hr0.ge.len
          have : (resF b0).length = b0.length := by simp [resF]
          rw [this, ← h9]
          have := hfw.1
          simp [initM]
          omega
        rw [if_neg (by decide), awake_eq (by omega), Option.bind_some, if_pos rfl, e1, Option.bind_some, e2, Option.bind_some, plain_eq _ _ (by omega) (by omega), Option.bind_some, decide_eq_true rfl]
    · obtain ⟨v, hv, hv2⟩ := hvk (most a1 + 300) (by omega)
      refine ⟨most a1 + 300, ?_⟩
      unfold joustlaw17_MarkTells.f
      rw [new_eq s h, Option.bind_some, if_pos rfl, hv, Option.bind_some]
      cases v with
      | false => exact dull _ _ _ _ _ _ (by omega)
      | true => exact absurd (hv2 rfl) hfw
  · refine ⟨300, ?_⟩
    unfold joustlaw17_MarkTells.f
    rw [new_no s h, Option.bind_some, if_neg (by decide)]
    exact dull _ _ _ _ _ _ (by omega)
end Go.Proofs.Ytmgdpkmmcmglfaa.PureMarkTells
