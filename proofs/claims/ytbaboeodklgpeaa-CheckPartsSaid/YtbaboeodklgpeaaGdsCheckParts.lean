/- What the row says of each argument of CheckParts: each number is of its kind, each slice within its weight. No condition. -/
import Derived.Test.YtbaboeodklgpeaaPCheckPartsy
import Derived.Test.YtbaboeodklgpeaaOpen
import Derived.KernelRfl
namespace Go.Proofs.Ytbaboeodklgpeaa.GdsCheckParts
open Go.Proofs.Ytbaboeodklgpeaa.PCheckParts Go.Proofs.Ytbaboeodklgpeaa.Open Go.Proofs.YtbaboeodklgpeaaW.PrintWords
set_option linter.unusedVariables false
def G0 (x : (List Int)) : Prop := (x.length * 1 ≤ 140737488351232 ∧ ∀ y ∈ x, (Lit.int .u8 y).wf = true)
theorem o0 : Opens Try.prog 22 (Kd.slice 5 (Kd.int .u8)) G0 := (opens_slice (B := 1) Try.underlying22 (by kernel_rfl) (by kernel_rfl) (opens_int Try.underlying5))
def G1 (x : (List Int)) : Prop := (x.length * 8 ≤ 140737488351232 ∧ ∀ y ∈ x, (Lit.int .i64 y).wf = true)
theorem o1 : Opens Try.prog 37 (Kd.slice 3 (Kd.int .i64)) G1 := (opens_slice (B := 8) Try.underlying37 (by kernel_rfl) (by kernel_rfl) (opens_int Try.underlying3))
def G2 (x : Int) : Prop := (Lit.int .i64 x).wf = true
def G3 (x : Int) : Prop := (Lit.int .u8 x).wf = true
/- YOURS:
theorem CheckParts (a0 : (List Int)) (a1 : (List Int)) (a2 : Int) (a3 : Int) (g0 : G0 a0) (g1 : G1 a1) (g2 : G2 a2) (g3 : G3 a3) : ∃ k, joustlaw13_CheckParts.f k a0 a1 a2 a3 = some true -/
def Said : Prop := ∀ (a0 : (List Int)) (a1 : (List Int)) (a2 : Int) (a3 : Int), G0 a0 → G1 a1 → G2 a2 → G3 a3 → ∃ k, joustlaw13_CheckParts.f k a0 a1 a2 a3 = some true
end Go.Proofs.Ytbaboeodklgpeaa.GdsCheckParts
