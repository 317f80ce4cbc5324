/- What the row says of each argument of CheckTells: each number is of its kind, each slice within its weight. No condition. -/
import Derived.Test.YtbaboeodklgpeaaPCheckTellsy
import Derived.Test.YtbaboeodklgpeaaOpen
import Derived.KernelRfl
namespace Go.Proofs.Ytbaboeodklgpeaa.GdsCheckTells
open Go.Proofs.Ytbaboeodklgpeaa.PCheckTells Go.Proofs.Ytbaboeodklgpeaa.Open Go.Proofs.YtbaboeodklgpeaaW.PrintWords
set_option linter.unusedVariables false
def G0 (x : (List Int)) : Prop := (x.length * 1 ≤ 140737488351232 ∧ ∀ y ∈ x, (Lit.int .u8 y).wf = true)
theorem o0 : Opens Try.prog 22 (Kd.slice 5 (Kd.int .u8)) G0 := (opens_slice (B := 1) Try.underlying22 (by kernel_rfl) (by kernel_rfl) (opens_int Try.underlying5))
def G1 (x : (List Int)) : Prop := (x.length * 1 ≤ 140737488351232 ∧ ∀ y ∈ x, (Lit.int .u8 y).wf = true)
theorem o1 : Opens Try.prog 22 (Kd.slice 5 (Kd.int .u8)) G1 := (opens_slice (B := 1) Try.underlying22 (by kernel_rfl) (by kernel_rfl) (opens_int Try.underlying5))
def G2 (x : (List Int)) : Prop := (x.length * 1 ≤ 140737488351232 ∧ ∀ y ∈ x, (Lit.int .u8 y).wf = true)
theorem o2 : Opens Try.prog 22 (Kd.slice 5 (Kd.int .u8)) G2 := (opens_slice (B := 1) Try.underlying22 (by kernel_rfl) (by kernel_rfl) (opens_int Try.underlying5))
/- YOURS:
theorem CheckTells (a0 : (List Int)) (a1 : (List Int)) (a2 : (List Int)) (g0 : G0 a0) (g1 : G1 a1) (g2 : G2 a2) : ∃ k, joustlaw13_CheckTells.f k a0 a1 a2 = some true -/
def Said : Prop := ∀ (a0 : (List Int)) (a1 : (List Int)) (a2 : (List Int)), G0 a0 → G1 a1 → G2 a2 → ∃ k, joustlaw13_CheckTells.f k a0 a1 a2 = some true
end Go.Proofs.Ytbaboeodklgpeaa.GdsCheckTells
