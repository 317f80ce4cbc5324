/- What the row says of each argument of CheckOpens: each number is of its kind, each slice within its weight. No condition. -/
import Derived.Test.YtbaboeodklgpeaaPCheckOpensy
import Derived.Test.YtbaboeodklgpeaaOpen
import Derived.KernelRfl
namespace Go.Proofs.Ytbaboeodklgpeaa.GdsCheckOpens
open Go.Proofs.Ytbaboeodklgpeaa.PCheckOpens Go.Proofs.Ytbaboeodklgpeaa.Open Go.Proofs.YtbaboeodklgpeaaW.PrintWords
set_option linter.unusedVariables false
def G0 (x : (List Int)) : Prop := (x.length * 1 ≤ 140737488351232 ∧ ∀ y ∈ x, (Lit.int .u8 y).wf = true)
theorem o0 : Opens Try.prog 22 (Kd.slice 5 (Kd.int .u8)) G0 := (opens_slice (B := 1) Try.underlying22 (by kernel_rfl) (by kernel_rfl) (opens_int Try.underlying5))
/- YOURS:
theorem CheckOpens (a0 : (List Int)) (g0 : G0 a0) : ∃ k, joustlaw13_CheckOpens.f k a0 = some true -/
def Said : Prop := ∀ (a0 : (List Int)), G0 a0 → ∃ k, joustlaw13_CheckOpens.f k a0 = some true
end Go.Proofs.Ytbaboeodklgpeaa.GdsCheckOpens
