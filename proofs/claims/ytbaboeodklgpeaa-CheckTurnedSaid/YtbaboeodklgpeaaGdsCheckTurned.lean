/- What the row says of each argument of CheckTurned: each number is of its kind, each slice within its weight. No condition. -/
import Derived.Test.YtbaboeodklgpeaaPCheckTurnedy
import Derived.Test.YtbaboeodklgpeaaOpen
import Derived.KernelRfl
namespace Go.Proofs.Ytbaboeodklgpeaa.GdsCheckTurned
open Go.Proofs.Ytbaboeodklgpeaa.PCheckTurned Go.Proofs.Ytbaboeodklgpeaa.Open Go.Proofs.YtbaboeodklgpeaaW.PrintWords
set_option linter.unusedVariables false
def G0 (x : (List Int)) : Prop := (x.length * 1 ≤ 140737488351232 ∧ ∀ y ∈ x, (Lit.int .u8 y).wf = true)
theorem o0 : Opens Try.prog 22 (Kd.slice 5 (Kd.int .u8)) G0 := (opens_slice (B := 1) Try.underlying22 (by kernel_rfl) (by kernel_rfl) (opens_int Try.underlying5))
def G1 (x : Int) : Prop := (Lit.int .i64 x).wf = true
def G2 (x : Int) : Prop := (Lit.int .u8 x).wf = true
def G3 (x : Int) : Prop := (Lit.int .i64 x).wf = true
def G4 (x : (List Int)) : Prop := (x.length * 1 ≤ 140737488351232 ∧ ∀ y ∈ x, (Lit.int .u8 y).wf = true)
theorem o4 : Opens Try.prog 22 (Kd.slice 5 (Kd.int .u8)) G4 := (opens_slice (B := 1) Try.underlying22 (by kernel_rfl) (by kernel_rfl) (opens_int Try.underlying5))
/- YOURS:
theorem CheckTurned (a0 : (List Int)) (a1 : Int) (a2 : Int) (a3 : Int) (a4 : (List Int)) (g0 : G0 a0) (g1 : G1 a1) (g2 : G2 a2) (g3 : G3 a3) (g4 : G4 a4) : ∃ k, joustlaw13_CheckTurned.f k a0 a1 a2 a3 a4 = some true -/
def Said : Prop := ∀ (a0 : (List Int)) (a1 : Int) (a2 : Int) (a3 : Int) (a4 : (List Int)), G0 a0 → G1 a1 → G2 a2 → G3 a3 → G4 a4 → ∃ k, joustlaw13_CheckTurned.f k a0 a1 a2 a3 a4 = some true
end Go.Proofs.Ytbaboeodklgpeaa.GdsCheckTurned
