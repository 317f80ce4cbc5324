/- What the law BytesNil comes to: true for every number. No condition. -/
import Derived.Test.YtoibgnhfpcaejaaBytesA
namespace Go.Proofs.Ytoibgnhfpcaejaa.PBytesNil
open Go.RowKit Go.Proofs.YtoibgnhfpcaejaaW.PrintWords Go.Proofs.YtoibgnhfpcaejaaW.PrintLast Go.Proofs.YtoibgnhfpcaejaaW.PrintMore Go.Proofs.Ytoibgnhfpcaejaa.BytesW
attribute [local go_sem] max2_int min2_int max_two min_two max_three min_three max_four min_four   -- for this text's walks alone
set_option linter.unusedVariables false
set_option linter.unusedSimpArgs false
def joustlaw11_BytesNil.f (a0 : Int) : Option (Bool) := some true
set_option maxHeartbeats 8000000 in
set_option maxRecDepth 100000 in
theorem joustlaw11_BytesNil.calls (a0 : Int) (r : Bool) (w : World) (hr_ : Aside0 (r = true)) (h : joustlaw11_BytesNil.f a0 = some r) :
    Calls Try.prog 7 #[.int .i64 a0] w fun e w' => e = .returned (.bool r) ∧ Below w.heap.size w w' := by
  obtain rfl := hr_.out
  clear h hr_
  go_enter Try.func7, Try.ntmps7
  go_wp2
  refine bodyPost_ret (results_none rfl _ _ _) rfl ?_
  go_wp2_with (first | (go_at_call 12; (refine (BytesW.awake.calls _).mono ?_); rintro e w1 ⟨rfl, hb1⟩))
  go_enter Try.func15, Try.ntmps15
  go_wp2
  refine bodyPost_ret (results_none rfl _ _ _) rfl ?_
  go_wp2_with (first | (go_at_call 12; (refine (BytesW.awake.calls _).mono ?_); rintro e w1 ⟨rfl, hb1⟩))
  go_enter Try.func14, Try.ntmps14
  go_wp2
  go_ret
  exact ⟨rfl, below_step (below_alloc (below_alloc (Below.refl _ _) _) _) hb1⟩
end Go.Proofs.Ytoibgnhfpcaejaa.PBytesNil
