/- Functions that a law reaches, and what their Go code computes. No condition. (Written by a program of this session, a turned copy of the print.) -/
import Derived.Test.YtjnjcdaecdnkoaaX
import Derived.Test.YtjnjcdaecdnkoaaPMovingNearz0
import Derived.Test.YtjnjcdaecdnkoaaPMovingNearz6
namespace Go.Proofs.Ytjnjcdaecdnkoaa.PMovingNear
open Go.RowKit Go.Proofs.YtjnjcdaecdnkoaaW.PrintWords Go.Proofs.YtjnjcdaecdnkoaaW.PrintLast Go.Proofs.YtjnjcdaecdnkoaaW.PrintMore
attribute [local go_sem] max2_int min2_int max_two min_two max_three min_three max_four min_four   -- for this text's walks alone
set_option linter.unusedVariables false
set_option linter.unusedSimpArgs false

/-! ### moving_pace: function 32 -/
def moving_pace.f (a0 : Int) : Option (Int) := (fixed_Clamp.f a0 (-1) 1).bind fun t164 => (some (wrap64 (t164 * 160)))
set_option maxHeartbeats 8000000 in
set_option maxRecDepth 100000 in
theorem moving_pace.calls (a0 : Int) (r : Int) (w : World) (h : moving_pace.f a0 = some r) :
    Calls Try.prog 32 #[.int .i64 a0] w fun e w' => e = .returned (.int .i64 r) ∧ Drawn0 w w' := by
  have H : ((fixed_Clamp.f a0 (-1) 1).bind fun t164 => (some (wrap64 (t164 * 160)))) = some r := h
  clear h
  replace H := Option.bind_eq_some_iff.mp H
  obtain ⟨t164, A20, H⟩ := H
  (try dsimp -simprocs only at H)
  have A2 := Aside0.mk A20
  clear A20
  obtain rfl := Option.some.inj H
  go_enter Try.func32, Try.ntmps32
  go_wp2_with (first | ((with_reducible refine gate_callee (f := 29) rfl ?_); refine goesL_ (some 4) rfl rfl Try.func29 (by kernel_rfl) rfl #[.int .i64 a0, .int .i64 (-1), .int .i64 1] rfl (by (try simp only [List.map_toArray, List.map_cons, List.map_nil]); first | done | rfl | (simp only [List.length_drop, List.length_take]; rfl)) ?_; (with_reducible refine (fixed_Clamp.calls a0 (-1) 1 t164 _ A2.out).mono ?_); rintro e w' ⟨rfl, ⟨nd, rfl⟩⟩; refine ⟨_, rfl, ?_⟩))
  go_ret
  exact ⟨by first | rfl | (simp; done) | (simp [*]; done), by repeat (first | exact Drawn0.refl _ | apply Drawn0.step)⟩

end Go.Proofs.Ytjnjcdaecdnkoaa.PMovingNear
