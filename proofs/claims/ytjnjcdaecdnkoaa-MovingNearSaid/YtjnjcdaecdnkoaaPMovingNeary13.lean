/- Functions that a law reaches, and what their Go code computes. No condition. (Written by a program of this session, a turned copy of the print.) -/
import Derived.Test.YtjnjcdaecdnkoaaX
import Derived.Test.YtjnjcdaecdnkoaaPMovingNearz0
import Derived.Test.YtjnjcdaecdnkoaaPMovingNearz1
import Derived.Test.YtjnjcdaecdnkoaaPMovingNearz2
import Derived.Test.YtjnjcdaecdnkoaaPMovingNearz3
import Derived.Test.YtjnjcdaecdnkoaaPMovingNearz7
import Derived.Test.YtjnjcdaecdnkoaaPMovingNeary10
import Derived.Test.YtjnjcdaecdnkoaaPMovingNeary11
import Derived.Test.YtjnjcdaecdnkoaaPMovingNeary12
namespace Go.Proofs.Ytjnjcdaecdnkoaa.PMovingNear
open Go.RowKit Go.Proofs.YtjnjcdaecdnkoaaW.PrintWords Go.Proofs.YtjnjcdaecdnkoaaW.PrintLast Go.Proofs.YtjnjcdaecdnkoaaW.PrintMore
attribute [local go_sem] max2_int min2_int max_two min_two max_three min_three max_four min_four   -- for this text's walks alone
set_option linter.unusedVariables false
set_option linter.unusedSimpArgs false
theorem au13_0 {p : Prop} (h : p := by repeat (first | (with_reducible first | exact HB.out | apply below_alloc | apply pw_below_drewN | apply below_drew1 | refine below_set ?_ GE230.out | refine below_set ?_ GE231.out | refine below_set ?_ GE232.out | refine below_set ?_ GE244.out) | exact HB.out)) : p := h
theorem au13_1 {p : Prop} (h : p := by (with_reducible repeat (first | refine blk_drewN ?_ _ | refine blk_drew ?_ | refine blk_alloc ?_ _)); exact BK230.out) : p := h
theorem au13_2 {p : Prop} (h : p := by (with_reducible repeat (first | refine blk_drewN ?_ _ | refine blk_drew ?_ | refine blk_alloc ?_ _)); exact BK231.out) : p := h
theorem au13_3 {p : Prop} (h : p := by (with_reducible repeat (first | refine blk_drewN ?_ _ | refine blk_drew ?_ | refine blk_alloc ?_ _)); exact BK232.out) : p := h
theorem au13_4 {p : Prop} (h : p := by (with_reducible repeat (first | refine blk_drewN ?_ _ | refine blk_drew ?_ | refine blk_alloc ?_ _)); exact BK244.out) : p := h
theorem au13_5 {p : Prop} (h : p := by repeat (first | (with_reducible first | exact HB.out | apply below_alloc | apply pw_below_drewN | apply below_drew1 | refine below_set ?_ GE230.out | refine below_set ?_ GE231.out | refine below_set ?_ GE232.out | refine below_set ?_ GE244.out | refine below_set ?_ GE261.out) | exact HB.out)) : p := h
theorem au13_6 {p : Prop} (h : p := by repeat (first | (with_reducible first | exact HB.out | apply below_alloc | apply pw_below_drewN | apply below_drew1 | refine below_set ?_ GE230.out | refine below_set ?_ GE231.out | refine below_set ?_ GE232.out | refine below_set ?_ GE244.out | refine below_set ?_ GE261.out | refine below_set ?_ GE272.out) | exact HB.out)) : p := h
theorem au13_7 {p : Prop} (h : p := by (with_reducible repeat (first | refine blk_drewN ?_ _ | refine blk_drew ?_ | refine blk_alloc ?_ _)); refine blk_put (cs := #[.int .i64 t238, .int .i64 t239, .int .i64 t240, .int .i64 t241, .int .u64 0]) ?_ 4 _ rfl; (with_reducible repeat (first | refine blk_drewN ?_ _ | refine blk_drew ?_ | refine blk_alloc ?_ _)); refine blk_put (cs := #[.int .i64 t238, .int .i64 t239, .int .i64 t240, .int .i64 0, .int .u64 0]) ?_ 3 _ rfl; (with_reducible repeat (first | refine blk_drewN ?_ _ | refine blk_drew ?_ | refine blk_alloc ?_ _)); refine blk_put (cs := #[.int .i64 t238, .int .i64 t239, .int .i64 0, .int .i64 0, .int .u64 0]) ?_ 2 _ rfl; (with_reducible repeat (first | refine blk_drewN ?_ _ | refine blk_drew ?_ | refine blk_alloc ?_ _)); refine blk_put (cs := #[.int .i64 t238, .int .i64 0, .int .i64 0, .int .i64 0, .int .u64 0]) ?_ 1 _ rfl; (with_reducible repeat (first | refine blk_drewN ?_ _ | refine blk_drew ?_ | refine blk_alloc ?_ _)); refine blk_put (cs := #[.int .i64 0, .int .i64 0, .int .i64 0, .int .i64 0, .int .u64 0]) ?_ 0 _ rfl; (with_reducible repeat (first | refine blk_drewN ?_ _ | refine blk_drew ?_ | refine blk_alloc ?_ _)); exact BK244.out) : p := h
theorem au13_8 {p : Prop} (h : p := by (try simp only [List.map_toArray, List.map_cons, List.map_nil]); first | done | rfl | (simp only [List.length_drop, List.length_take]; rfl)) : p := h
theorem au13_9 {p : Prop} (h : p := by (with_reducible repeat (first | refine blk_drewN ?_ _ | refine blk_drew ?_ | refine blk_alloc ?_ _)); exact BK261.out) : p := h
theorem au13_10 {p : Prop} (h : p := by (with_reducible repeat (first | refine blk_drewN ?_ _ | refine blk_drew ?_ | refine blk_alloc ?_ _)); refine blk_far ?_ NB232_244.out _; (with_reducible repeat (first | refine blk_drewN ?_ _ | refine blk_drew ?_ | refine blk_alloc ?_ _)); refine blk_far ?_ NB232_244.out _; (with_reducible repeat (first | refine blk_drewN ?_ _ | refine blk_drew ?_ | refine blk_alloc ?_ _)); refine blk_far ?_ NB232_244.out _; (with_reducible repeat (first | refine blk_drewN ?_ _ | refine blk_drew ?_ | refine blk_alloc ?_ _)); refine blk_far ?_ NB232_244.out _; (with_reducible repeat (first | refine blk_drewN ?_ _ | refine blk_drew ?_ | refine blk_alloc ?_ _)); refine blk_far ?_ NB232_244.out _; (with_reducible repeat (first | refine blk_drewN ?_ _ | refine blk_drew ?_ | refine blk_alloc ?_ _)); exact BK232.out) : p := h
theorem au13_11 {p : Prop} (h : p := by (with_reducible repeat (first | refine blk_drewN ?_ _ | refine blk_drew ?_ | refine blk_alloc ?_ _)); refine blk_far ?_ NB231_244.out _; (with_reducible repeat (first | refine blk_drewN ?_ _ | refine blk_drew ?_ | refine blk_alloc ?_ _)); refine blk_far ?_ NB231_244.out _; (with_reducible repeat (first | refine blk_drewN ?_ _ | refine blk_drew ?_ | refine blk_alloc ?_ _)); refine blk_far ?_ NB231_244.out _; (with_reducible repeat (first | refine blk_drewN ?_ _ | refine blk_drew ?_ | refine blk_alloc ?_ _)); refine blk_far ?_ NB231_244.out _; (with_reducible repeat (first | refine blk_drewN ?_ _ | refine blk_drew ?_ | refine blk_alloc ?_ _)); refine blk_far ?_ NB231_244.out _; (with_reducible repeat (first | refine blk_drewN ?_ _ | refine blk_drew ?_ | refine blk_alloc ?_ _)); exact BK231.out) : p := h
theorem au13_12 {p : Prop} (h : p := by (with_reducible repeat (first | refine blk_drewN ?_ _ | refine blk_drew ?_ | refine blk_alloc ?_ _)); refine blk_far ?_ NB230_244.out _; (with_reducible repeat (first | refine blk_drewN ?_ _ | refine blk_drew ?_ | refine blk_alloc ?_ _)); refine blk_far ?_ NB230_244.out _; (with_reducible repeat (first | refine blk_drewN ?_ _ | refine blk_drew ?_ | refine blk_alloc ?_ _)); refine blk_far ?_ NB230_244.out _; (with_reducible repeat (first | refine blk_drewN ?_ _ | refine blk_drew ?_ | refine blk_alloc ?_ _)); refine blk_far ?_ NB230_244.out _; (with_reducible repeat (first | refine blk_drewN ?_ _ | refine blk_drew ?_ | refine blk_alloc ?_ _)); refine blk_far ?_ NB230_244.out _; (with_reducible repeat (first | refine blk_drewN ?_ _ | refine blk_drew ?_ | refine blk_alloc ?_ _)); exact BK230.out) : p := h
theorem au13_13 {p : Prop} (h : p := by rw [hg]; exact Nat.ne_of_lt (blk_lt (g := gb231) (o := .cells #[.int .i64 a1_0, .int .i64 a1_1, .int .i64 a1_2, .int .i64 a1_3, .int .i64 a1_4, .int .i64 a1_5, .int .i64 a1_6, .int .i64 a1_7, .int .i64 a1_8] 26 (0, 0)) au13_2)) : p := h
theorem au13_14 {p : Prop} (h : p := by rw [hg]; exact Nat.ne_of_gt (blk_lt (g := gb231) (o := .cells #[.int .i64 a1_0, .int .i64 a1_1, .int .i64 a1_2, .int .i64 a1_3, .int .i64 a1_4, .int .i64 a1_5, .int .i64 a1_6, .int .i64 a1_7, .int .i64 a1_8] 26 (0, 0)) au13_2)) : p := h
theorem au13_15 {p : Prop} (h : p := by rw [hg]; exact Nat.ne_of_lt (blk_lt (g := gb230) (o := .cells #[.int .i64 t233, .int .i64 t234, .int .i64 t235, .int .i64 t236, .int .u64 t237] 24 (0, 0)) au13_1)) : p := h
theorem au13_16 {p : Prop} (h : p := by rw [hg]; exact Nat.ne_of_gt (blk_lt (g := gb230) (o := .cells #[.int .i64 t233, .int .i64 t234, .int .i64 t235, .int .i64 t236, .int .u64 t237] 24 (0, 0)) au13_1)) : p := h
theorem au13_17 {p : Prop} (h : p := by rw [hg]; exact Nat.ne_of_lt (blk_lt (g := gb244) (o := .cells #[.int .i64 t238, .int .i64 t239, .int .i64 t240, .int .i64 t241, .int .u64 t242] 30 (0, 0)) au13_4)) : p := h
theorem au13_18 {p : Prop} (h : p := by rw [hg]; exact Nat.ne_of_gt (blk_lt (g := gb244) (o := .cells #[.int .i64 t238, .int .i64 t239, .int .i64 t240, .int .i64 t241, .int .u64 t242] 30 (0, 0)) au13_4)) : p := h
theorem au13_19 {p : Prop} (h : p := by repeat (first | (with_reducible first | exact HB.out | apply below_alloc | apply pw_below_drewN | apply below_drew1 | refine below_set ?_ GE230.out | refine below_set ?_ GE231.out | refine below_set ?_ GE232.out) | exact HB.out)) : p := h
theorem au13_20 {p : Prop} (h : p := by rw [hg]; exact Nat.ne_of_lt (blk_lt (g := gb232) (o := .cells #[.int .i64 a2_0, .int .i64 a2_1, .bool a2_2] 28 (0, 0)) au13_3)) : p := h
theorem au13_21 {p : Prop} (h : p := by rw [hg]; exact Nat.ne_of_gt (blk_lt (g := gb232) (o := .cells #[.int .i64 a2_0, .int .i64 a2_1, .bool a2_2] 28 (0, 0)) au13_3)) : p := h
theorem au13_22 {p : Prop} (h : p := by (with_reducible repeat (first | refine blk_drewN ?_ _ | refine blk_drew ?_ | refine blk_alloc ?_ _)); exact BK272.out) : p := h
theorem au13_23 {p : Prop} (h : p := by repeat (first | (with_reducible first | exact HB.out | apply below_alloc | apply pw_below_drewN | apply below_drew1 | refine below_set ?_ GE230.out | refine below_set ?_ GE231.out) | exact HB.out)) : p := h
theorem au13_24 {p : Prop} (h : p := by simp only [putAll, Act.put, List.setIfInBounds_toArray, List.set_cons_zero, List.set_cons_succ]) : p := h
theorem au13_25 {p : Prop} (h : p := by repeat (first | (with_reducible first | exact HB.out | apply below_alloc | apply pw_below_drewN | apply below_drew1 | refine below_set ?_ GE230.out) | exact HB.out)) : p := h

attribute [local go_sem high] eqA26
/-! ### joustlaw07_MovingNear: function 4 -/
mutual
def joustlaw07_MovingNear.j0 : Nat → Int → Bool → Int → Int → Int → Int → Int → Int → Int → Int → Int → Int → Int → Int → Int → Int → Int → Int → Bool → Int → Int → Int → Int → Int → Option (Bool)
  | 0, _, _, _, _, _, _, _, _, _, _, _, _, _, _, _, _, _, _, _, _, _, _, _, _ => none
  | k + 1, x8, x36, x231000, x231001, x231002, x231003, x231004, x232000, x232001, x232002, x232003, x232004, x232005, x232006, x232007, x232008, x233000, x233001, x233002, x245000, x245001, x245002, x245003, x245004 => if x36 = true then ((joustlaw07_awake.f k).bind fun t247 => (if t247 = true then (some (x8 == 0)) else (some false))) else ((joustplay_Input.f x233000 x233001 x233002).bind fun bt248 => ((moving_Steer.f k x232000 x232001 x232002 x232003 x232004 x232005 x232006 x232007 x232008 bt248.1 bt248.2.1 bt248.2.2).bind fun bt251 => ((moving_Go.f k x245000 x245001 x245002 x245003 x245004 bt251.1 bt251.2.1 bt251.2.2.1 bt251.2.2.2.1 bt251.2.2.2.2.1 bt251.2.2.2.2.2.1 bt251.2.2.2.2.2.2.1 bt251.2.2.2.2.2.2.2.1 bt251.2.2.2.2.2.2.2.2.1).bind fun bt262 => (if bt262.2.2.2.2.2.2.2.2.2 = true then ((joustref03_Of.f x231000 x231001 x231002 x231003 x231004 x232002 x232003).bind fun t273 => ((joustref03_Of.f x231000 x231001 x231002 x231003 x231004 bt262.2.2.1 bt262.2.2.2.1).bind fun t274 => ((joustref03_Near.f k x231000 x231001 x231002 x231003 x231004 t273).bind fun t275 => (joustlaw07_MovingNear.l0 k t274 t275 false 0 x231000 x231001 x231002 x231003 x231004 x232000 x232001 x232002 x232003 x232004 x232005 x232006 x232007 x232008 bt262.1 bt262.2.1 bt262.2.2.1 bt262.2.2.2.1 bt262.2.2.2.2.1 bt262.2.2.2.2.2.1 bt262.2.2.2.2.2.2.1 bt262.2.2.2.2.2.2.2.1 bt262.2.2.2.2.2.2.2.2.1)))) else (if x232001 = 2 then (some (bt262.1 == 0 && (bt262.2.1 == 0 && (bt262.2.2.1 == 0 && (bt262.2.2.2.1 == 0 && (bt262.2.2.2.2.1 == 0 && (bt262.2.2.2.2.2.1 == 0 && (bt262.2.2.2.2.2.2.1 == 0 && (bt262.2.2.2.2.2.2.2.1 == 0 && (bt262.2.2.2.2.2.2.2.2.1 == 0)))))))))) else (some false))))))
def joustlaw07_MovingNear.l0 : Nat → Int → List Int → Bool → Int → Int → Int → Int → Int → Int → Int → Int → Int → Int → Int → Int → Int → Int → Int → Int → Int → Int → Int → Int → Int → Int → Int → Int → Option (Bool)
  | 0, _, _, _, _, _, _, _, _, _, _, _, _, _, _, _, _, _, _, _, _, _, _, _, _, _, _, _ => none
  | k + 1, x14, x15, x16, x17, x231000, x231001, x231002, x231003, x231004, x232000, x232001, x232002, x232003, x232004, x232005, x232006, x232007, x232008, x273000, x273001, x273002, x273003, x273004, x273005, x273006, x273007, x273008 => if x17 < (x15.length : Int) then (if x16 = true then (joustlaw07_MovingNear.l0 k x14 x15 true (wrap64 (x17 + 1)) x231000 x231001 x231002 x231003 x231004 x232000 x232001 x232002 x232003 x232004 x232005 x232006 x232007 x232008 x273000 x273001 x273002 x273003 x273004 x273005 x273006 x273007 x273008) else (if 0 ≤ x17 then (joustlaw07_MovingNear.l0 k x14 x15 ((rd x15 x17) == x14) (wrap64 (x17 + 1)) x231000 x231001 x231002 x231003 x231004 x232000 x232001 x232002 x232003 x232004 x232005 x232006 x232007 x232008 x273000 x273001 x273002 x273003 x273004 x273005 x273006 x273007 x273008) else (none))) else (if x16 = true then ((joustref05_Right.f x231000 x231001 x231002 x231003 x231004 x273000 x273001 x273002 x273003 x273004 x273005 x273006 x273007 x273008).bind fun t279 => (if t279 = true then (if x273000 = x232000 then (if x273001 = x232001 then (some (x273006 == x232006)) else (some false)) else (some false)) else (some false))) else (some false))
end
def joustlaw07_MovingNear.f (k : Nat) (a0_0 : Int) (a0_1 : Int) (a0_2 : Int) (a0_3 : Int) (a0_4 : Int) (a1_0 : Int) (a1_1 : Int) (a1_2 : Int) (a1_3 : Int) (a1_4 : Int) (a1_5 : Int) (a1_6 : Int) (a1_7 : Int) (a1_8 : Int) (a2_0 : Int) (a2_1 : Int) (a2_2 : Bool) : Option (Bool) := (joustplay_Config.f a0_0 a0_1 a0_2 a0_3 a0_4).bind fun bt233 => ((grid_New.f bt233.1 bt233.2.1 bt233.2.2.1 bt233.2.2.2.1 bt233.2.2.2.2).bind fun bt238 => ((joustlaw07_awake.f k).bind fun t245 => (if t245 = true then (if bt238.2.2.2.2.2 = 0 then ((joustref05_Right.f bt233.1 bt233.2.1 bt233.2.2.1 bt233.2.2.2.1 bt233.2.2.2.2 a1_0 a1_1 a1_2 a1_3 a1_4 a1_5 a1_6 a1_7 a1_8).bind fun t246 => (joustlaw07_MovingNear.j0 k bt238.2.2.2.2.2 (!t246) bt233.1 bt233.2.1 bt233.2.2.1 bt233.2.2.2.1 bt233.2.2.2.2 a1_0 a1_1 a1_2 a1_3 a1_4 a1_5 a1_6 a1_7 a1_8 a2_0 a2_1 a2_2 bt238.1 bt238.2.1 bt238.2.2.1 bt238.2.2.2.1 bt238.2.2.2.2.1)) else (joustlaw07_MovingNear.j0 k bt238.2.2.2.2.2 true bt233.1 bt233.2.1 bt233.2.2.1 bt233.2.2.2.1 bt233.2.2.2.2 a1_0 a1_1 a1_2 a1_3 a1_4 a1_5 a1_6 a1_7 a1_8 a2_0 a2_1 a2_2 bt238.1 bt238.2.1 bt238.2.2.1 bt238.2.2.2.1 bt238.2.2.2.2.1)) else (joustlaw07_MovingNear.j0 k bt238.2.2.2.2.2 true bt233.1 bt233.2.1 bt233.2.2.1 bt233.2.2.2.1 bt233.2.2.2.2 a1_0 a1_1 a1_2 a1_3 a1_4 a1_5 a1_6 a1_7 a1_8 a2_0 a2_1 a2_2 bt238.1 bt238.2.1 bt238.2.2.1 bt238.2.2.2.1 bt238.2.2.2.2.1))))
theorem joustlaw07_MovingNear.mono_l : ∀ k, (∀ y0 y1 y2 y3 y4 y5 y6 y7 y8 y9 y10 y11 y12 y13 y14 y15 y16 y17 y18 y19 y20 y21 y22 y23, LeO (joustlaw07_MovingNear.j0 k y0 y1 y2 y3 y4 y5 y6 y7 y8 y9 y10 y11 y12 y13 y14 y15 y16 y17 y18 y19 y20 y21 y22 y23) (joustlaw07_MovingNear.j0 (k + 1) y0 y1 y2 y3 y4 y5 y6 y7 y8 y9 y10 y11 y12 y13 y14 y15 y16 y17 y18 y19 y20 y21 y22 y23)) ∧ (∀ y0 y1 y2 y3 y4 y5 y6 y7 y8 y9 y10 y11 y12 y13 y14 y15 y16 y17 y18 y19 y20 y21 y22 y23 y24 y25 y26, LeO (joustlaw07_MovingNear.l0 k y0 y1 y2 y3 y4 y5 y6 y7 y8 y9 y10 y11 y12 y13 y14 y15 y16 y17 y18 y19 y20 y21 y22 y23 y24 y25 y26) (joustlaw07_MovingNear.l0 (k + 1) y0 y1 y2 y3 y4 y5 y6 y7 y8 y9 y10 y11 y12 y13 y14 y15 y16 y17 y18 y19 y20 y21 y22 y23 y24 y25 y26))
  | 0 => ⟨fun _ _ _ _ _ _ _ _ _ _ _ _ _ _ _ _ _ _ _ _ _ _ _ _ r h => by simp [joustlaw07_MovingNear.j0] at h, fun _ _ _ _ _ _ _ _ _ _ _ _ _ _ _ _ _ _ _ _ _ _ _ _ _ _ _ r h => by simp [joustlaw07_MovingNear.l0] at h⟩
  | k + 1 => by
    obtain ⟨ih0, ih1⟩ := joustlaw07_MovingNear.mono_l k
    refine ⟨?_, ?_⟩
    · intro y0 y1 y2 y3 y4 y5 y6 y7 y8 y9 y10 y11 y12 y13 y14 y15 y16 y17 y18 y19 y20 y21 y22 y23
      unfold joustlaw07_MovingNear.j0
      repeat' first
      | (with_reducible exact ih0 _ _ _ _ _ _ _ _ _ _ _ _ _ _ _ _ _ _ _ _ _ _ _ _)
      | (with_reducible exact ih1 _ _ _ _ _ _ _ _ _ _ _ _ _ _ _ _ _ _ _ _ _ _ _ _ _ _ _)
      | (with_reducible exact joustlaw07_awake.mono _)
      | (with_reducible exact joustref03_Near.mono _ _ _ _ _ _ _)
      | (with_reducible exact moving_Go.mono _ _ _ _ _ _ _ _ _ _ _ _ _ _ _)
      | (with_reducible exact moving_Steer.mono _ _ _ _ _ _ _ _ _ _ _ _ _)
      | (with_reducible exact LeO.refl _)
      | (with_reducible exact LeO.none _)
      | (with_reducible refine LeO.ite ?_ ?_)
      | (with_reducible refine LeO.bind ?_ (fun _ => ?_))
      | exact ih0 _ _ _ _ _ _ _ _ _ _ _ _ _ _ _ _ _ _ _ _ _ _ _ _
      | exact ih1 _ _ _ _ _ _ _ _ _ _ _ _ _ _ _ _ _ _ _ _ _ _ _ _ _ _ _
      | exact joustlaw07_awake.mono _
      | exact joustref03_Near.mono _ _ _ _ _ _ _
      | exact moving_Go.mono _ _ _ _ _ _ _ _ _ _ _ _ _ _ _
      | exact moving_Steer.mono _ _ _ _ _ _ _ _ _ _ _ _ _
      | exact LeO.none _
      | refine LeO.ite ?_ ?_
      | refine LeO.bind ?_ (fun _ => ?_)
    · intro y0 y1 y2 y3 y4 y5 y6 y7 y8 y9 y10 y11 y12 y13 y14 y15 y16 y17 y18 y19 y20 y21 y22 y23 y24 y25 y26
      unfold joustlaw07_MovingNear.l0
      repeat' first
      | (with_reducible exact ih0 _ _ _ _ _ _ _ _ _ _ _ _ _ _ _ _ _ _ _ _ _ _ _ _)
      | (with_reducible exact ih1 _ _ _ _ _ _ _ _ _ _ _ _ _ _ _ _ _ _ _ _ _ _ _ _ _ _ _)
      | (with_reducible exact joustlaw07_awake.mono _)
      | (with_reducible exact joustref03_Near.mono _ _ _ _ _ _ _)
      | (with_reducible exact moving_Go.mono _ _ _ _ _ _ _ _ _ _ _ _ _ _ _)
      | (with_reducible exact moving_Steer.mono _ _ _ _ _ _ _ _ _ _ _ _ _)
      | (with_reducible exact LeO.refl _)
      | (with_reducible exact LeO.none _)
      | (with_reducible refine LeO.ite ?_ ?_)
      | (with_reducible refine LeO.bind ?_ (fun _ => ?_))
      | exact ih0 _ _ _ _ _ _ _ _ _ _ _ _ _ _ _ _ _ _ _ _ _ _ _ _
      | exact ih1 _ _ _ _ _ _ _ _ _ _ _ _ _ _ _ _ _ _ _ _ _ _ _ _ _ _ _
      | exact joustlaw07_awake.mono _
      | exact joustref03_Near.mono _ _ _ _ _ _ _
      | exact moving_Go.mono _ _ _ _ _ _ _ _ _ _ _ _ _ _ _
      | exact moving_Steer.mono _ _ _ _ _ _ _ _ _ _ _ _ _
      | exact LeO.none _
      | refine LeO.ite ?_ ?_
      | refine LeO.bind ?_ (fun _ => ?_)
theorem joustlaw07_MovingNear.mono : ∀ a0 a1 a2 a3 a4 a5 a6 a7 a8 a9 a10 a11 a12 a13 a14 a15 a16 k, LeO (joustlaw07_MovingNear.f k a0 a1 a2 a3 a4 a5 a6 a7 a8 a9 a10 a11 a12 a13 a14 a15 a16) (joustlaw07_MovingNear.f (k + 1) a0 a1 a2 a3 a4 a5 a6 a7 a8 a9 a10 a11 a12 a13 a14 a15 a16) := by
  intro a0 a1 a2 a3 a4 a5 a6 a7 a8 a9 a10 a11 a12 a13 a14 a15 a16 k
  obtain ⟨ih0, ih1⟩ := joustlaw07_MovingNear.mono_l k
  unfold joustlaw07_MovingNear.f
  repeat' first
      | (with_reducible exact ih0 _ _ _ _ _ _ _ _ _ _ _ _ _ _ _ _ _ _ _ _ _ _ _ _)
      | (with_reducible exact ih1 _ _ _ _ _ _ _ _ _ _ _ _ _ _ _ _ _ _ _ _ _ _ _ _ _ _ _)
      | (with_reducible exact joustlaw07_awake.mono _)
      | (with_reducible exact joustref03_Near.mono _ _ _ _ _ _ _)
      | (with_reducible exact moving_Go.mono _ _ _ _ _ _ _ _ _ _ _ _ _ _ _)
      | (with_reducible exact moving_Steer.mono _ _ _ _ _ _ _ _ _ _ _ _ _)
      | (with_reducible exact LeO.refl _)
      | (with_reducible exact LeO.none _)
      | (with_reducible refine LeO.ite ?_ ?_)
      | (with_reducible refine LeO.bind ?_ (fun _ => ?_))
      | exact ih0 _ _ _ _ _ _ _ _ _ _ _ _ _ _ _ _ _ _ _ _ _ _ _ _
      | exact ih1 _ _ _ _ _ _ _ _ _ _ _ _ _ _ _ _ _ _ _ _ _ _ _ _ _ _ _
      | exact joustlaw07_awake.mono _
      | exact joustref03_Near.mono _ _ _ _ _ _ _
      | exact moving_Go.mono _ _ _ _ _ _ _ _ _ _ _ _ _ _ _
      | exact moving_Steer.mono _ _ _ _ _ _ _ _ _ _ _ _ _
      | exact LeO.none _
      | refine LeO.ite ?_ ?_
      | refine LeO.bind ?_ (fun _ => ?_)
def joustlaw07_MovingNear.T5 : Bool × List (List Nat × List Nat) := (true, [([], []), ([], []), ([1], [1]), ([0, 2, 2], [0, 2]), ([3], [3]), ([4], [4]), ([4], [4]), ([], []), ([7, 5, 3, 0, 1, 2, 3, 4, 5, 7], [5, 7]), ([6, 8, 0, 1, 2, 3, 4, 5, 6, 7, 8], [6])])
def joustlaw07_MovingNear.B5 : List Nat := [0, 0, 2, 7, 15, 31, 31, 0, 191, 511]
theorem joustlaw07_MovingNear.tab5 : rtab .any (opsOf Try.f4 5) = joustlaw07_MovingNear.T5 := by kernel_rfl
theorem joustlaw07_MovingNear.bits5 : waitsOk joustlaw07_MovingNear.T5.2 joustlaw07_MovingNear.B5 = true := by kernel_rfl
def joustlaw07_MovingNear.T9 : Bool × List (List Nat × List Nat) := (true, [([], []), ([], []), ([1], [1]), ([], []), ([3], [3]), ([0, 2, 4], [0, 2, 4]), ([], []), ([], []), ([7], [7]), ([], []), ([9], [9]), ([6, 8, 10, 5], [6, 8, 10]), ([5, 11, 0, 1, 2, 3, 4, 5], [5]), ([11, 12, 0, 1, 2, 3, 4, 5, 6, 7, 8, 9, 10, 11, 12], [11])])
def joustlaw07_MovingNear.B9 : List Nat := [0, 0, 2, 0, 8, 31, 0, 0, 128, 0, 512, 2047, 4095, 8191]
theorem joustlaw07_MovingNear.tab9 : rtab .any (opsOf Try.f4 9) = joustlaw07_MovingNear.T9 := by kernel_rfl
theorem joustlaw07_MovingNear.bits9 : waitsOk joustlaw07_MovingNear.T9.2 joustlaw07_MovingNear.B9 = true := by kernel_rfl
set_option maxHeartbeats 8000000 in
set_option maxRecDepth 100000 in
theorem joustlaw07_MovingNear.calls (k : Nat) (a0_0 : Int) (a0_1 : Int) (a0_2 : Int) (a0_3 : Int) (a0_4 : Int) (a1_0 : Int) (a1_1 : Int) (a1_2 : Int) (a1_3 : Int) (a1_4 : Int) (a1_5 : Int) (a1_6 : Int) (a1_7 : Int) (a1_8 : Int) (a2_0 : Int) (a2_1 : Int) (a2_2 : Bool) (r : Bool) (w : World) (hr_ : Aside0 (r = true)) (h : joustlaw07_MovingNear.f k a0_0 a0_1 a0_2 a0_3 a0_4 a1_0 a1_1 a1_2 a1_3 a1_4 a1_5 a1_6 a1_7 a1_8 a2_0 a2_1 a2_2 = some r) :
    Calls Try.prog 4 #[.agg #[.int .i64 a0_0, .int .i64 a0_1, .int .i64 a0_2, .int .i64 a0_3, .int .u64 a0_4], .agg #[.int .i64 a1_0, .int .i64 a1_1, .int .i64 a1_2, .int .i64 a1_3, .int .i64 a1_4, .int .i64 a1_5, .int .i64 a1_6, .int .i64 a1_7, .int .i64 a1_8], .agg #[.int .i64 a2_0, .int .i64 a2_1, .bool a2_2]] w fun e w' => e = .returned (.bool r) ∧ Below w.heap.size w w' := by
  have hu24 := Try.underlying24
  have hu26 := Try.underlying26
  have hu28 := Try.underlying28
  have hu30 := Try.underlying30
  have HB := Aside0.mk (Below.refl w.heap.size w)
  have H : ((joustplay_Config.f a0_0 a0_1 a0_2 a0_3 a0_4).bind fun bt233 => ((grid_New.f bt233.1 bt233.2.1 bt233.2.2.1 bt233.2.2.2.1 bt233.2.2.2.2).bind fun bt238 => ((joustlaw07_awake.f k).bind fun t245 => (if t245 = true then (if bt238.2.2.2.2.2 = 0 then ((joustref05_Right.f bt233.1 bt233.2.1 bt233.2.2.1 bt233.2.2.2.1 bt233.2.2.2.2 a1_0 a1_1 a1_2 a1_3 a1_4 a1_5 a1_6 a1_7 a1_8).bind fun t246 => (joustlaw07_MovingNear.j0 k bt238.2.2.2.2.2 (!t246) bt233.1 bt233.2.1 bt233.2.2.1 bt233.2.2.2.1 bt233.2.2.2.2 a1_0 a1_1 a1_2 a1_3 a1_4 a1_5 a1_6 a1_7 a1_8 a2_0 a2_1 a2_2 bt238.1 bt238.2.1 bt238.2.2.1 bt238.2.2.2.1 bt238.2.2.2.2.1)) else (joustlaw07_MovingNear.j0 k bt238.2.2.2.2.2 true bt233.1 bt233.2.1 bt233.2.2.1 bt233.2.2.2.1 bt233.2.2.2.2 a1_0 a1_1 a1_2 a1_3 a1_4 a1_5 a1_6 a1_7 a1_8 a2_0 a2_1 a2_2 bt238.1 bt238.2.1 bt238.2.2.1 bt238.2.2.2.1 bt238.2.2.2.2.1)) else (joustlaw07_MovingNear.j0 k bt238.2.2.2.2.2 true bt233.1 bt233.2.1 bt233.2.2.1 bt233.2.2.2.1 bt233.2.2.2.2 a1_0 a1_1 a1_2 a1_3 a1_4 a1_5 a1_6 a1_7 a1_8 a2_0 a2_1 a2_2 bt238.1 bt238.2.1 bt238.2.2.1 bt238.2.2.2.1 bt238.2.2.2.2.1))))) = some r := h
  clear h
  replace H := Option.bind_eq_some_iff.mp H
  obtain ⟨⟨t233, t234, t235, t236, t237⟩, A40, H⟩ := H
  replace H : ((grid_New.f t233 t234 t235 t236 t237).bind fun bt238 => ((joustlaw07_awake.f k).bind fun t245 => (if t245 = true then (if bt238.2.2.2.2.2 = 0 then ((joustref05_Right.f t233 t234 t235 t236 t237 a1_0 a1_1 a1_2 a1_3 a1_4 a1_5 a1_6 a1_7 a1_8).bind fun t246 => (joustlaw07_MovingNear.j0 k bt238.2.2.2.2.2 (!t246) t233 t234 t235 t236 t237 a1_0 a1_1 a1_2 a1_3 a1_4 a1_5 a1_6 a1_7 a1_8 a2_0 a2_1 a2_2 bt238.1 bt238.2.1 bt238.2.2.1 bt238.2.2.2.1 bt238.2.2.2.2.1)) else (joustlaw07_MovingNear.j0 k bt238.2.2.2.2.2 true t233 t234 t235 t236 t237 a1_0 a1_1 a1_2 a1_3 a1_4 a1_5 a1_6 a1_7 a1_8 a2_0 a2_1 a2_2 bt238.1 bt238.2.1 bt238.2.2.1 bt238.2.2.2.1 bt238.2.2.2.2.1)) else (joustlaw07_MovingNear.j0 k bt238.2.2.2.2.2 true t233 t234 t235 t236 t237 a1_0 a1_1 a1_2 a1_3 a1_4 a1_5 a1_6 a1_7 a1_8 a2_0 a2_1 a2_2 bt238.1 bt238.2.1 bt238.2.2.1 bt238.2.2.2.1 bt238.2.2.2.2.1)))) = some r := H
  have A4 := Aside0.mk A40
  clear A40
  replace H := Option.bind_eq_some_iff.mp H
  obtain ⟨⟨t238, t239, t240, t241, t242, t243⟩, A50, H⟩ := H
  replace H : ((joustlaw07_awake.f k).bind fun t245 => (if t245 = true then (if t243 = 0 then ((joustref05_Right.f t233 t234 t235 t236 t237 a1_0 a1_1 a1_2 a1_3 a1_4 a1_5 a1_6 a1_7 a1_8).bind fun t246 => (joustlaw07_MovingNear.j0 k t243 (!t246) t233 t234 t235 t236 t237 a1_0 a1_1 a1_2 a1_3 a1_4 a1_5 a1_6 a1_7 a1_8 a2_0 a2_1 a2_2 t238 t239 t240 t241 t242)) else (joustlaw07_MovingNear.j0 k t243 true t233 t234 t235 t236 t237 a1_0 a1_1 a1_2 a1_3 a1_4 a1_5 a1_6 a1_7 a1_8 a2_0 a2_1 a2_2 t238 t239 t240 t241 t242)) else (joustlaw07_MovingNear.j0 k t243 true t233 t234 t235 t236 t237 a1_0 a1_1 a1_2 a1_3 a1_4 a1_5 a1_6 a1_7 a1_8 a2_0 a2_1 a2_2 t238 t239 t240 t241 t242))) = some r := H
  have A5 := Aside0.mk A50
  clear A50
  have HC6 := Aside0.mk H
  clear H
  go_enter Try.func4, Try.ntmps4
  go_upto_region 3 with (first | ((with_reducible refine gate_dst (N := 3) rfl ?_); refine box_event ?hg (N := 3) ?hd (cs := #[.int .i64 a0_0, .int .i64 a0_1, .int .i64 a0_2, .int .i64 a0_3, .int .u64 a0_4]) (t := 24) ?hr ?_; (case hd => rfl); (case hg => rfl); (case hr => first | (go_simp; done) | (go_simp; rfl)); intro gb230 hg w7 hbox hb; have n0_ := Aside0.mk (below_step (by repeat (first | (with_reducible first | exact HB.out | apply below_alloc | apply pw_below_drewN | apply below_drew1) | exact HB.out)) hb); have n1_ := Aside0.mk (hbox); have n2_ := Aside0.mk ((by rw [hg]; exact (below_size (by repeat (first | (with_reducible first | exact HB.out | apply below_alloc | apply pw_below_drewN | apply below_drew1) | exact HB.out))) : w.heap.size ≤ gb230)); have n3_ := Aside0.mk ((by rw [hg]; exact (below_size (by repeat (first | (with_reducible first | exact HB.out | apply below_alloc | apply pw_below_drewN | apply below_drew1) | exact HB.out))) : w.heap.size ≤ gb230)); clear HB; have HB := n0_; have BK230 := n1_; have GW230 := n2_; have GE230 := n3_; clear n0_ n1_ n2_ n3_; clear hb hbox hg) | ((with_reducible refine gate_dst (N := 4) rfl ?_); refine box_event ?hg (N := 4) ?hd (cs := #[.int .i64 a1_0, .int .i64 a1_1, .int .i64 a1_2, .int .i64 a1_3, .int .i64 a1_4, .int .i64 a1_5, .int .i64 a1_6, .int .i64 a1_7, .int .i64 a1_8]) (t := 26) ?hr ?_; (case hd => rfl); (case hg => rfl); (case hr => first | (go_simp; done) | (go_simp; rfl)); intro gb231 hg w8 hbox hb; have n0_ := Aside0.mk (blk_below (g := gb230) (o := .cells #[.int .i64 a0_0, .int .i64 a0_1, .int .i64 a0_2, .int .i64 a0_3, .int .u64 a0_4] 24 (0, 0)) au13_1 hb); have n1_ := Aside0.mk (below_step au13_25 hb); have n2_ := Aside0.mk (hbox); have n3_ := Aside0.mk ((by rw [hg]; exact (below_size au13_25) : w.heap.size ≤ gb231)); have n4_ := Aside0.mk ((by rw [hg]; exact (below_size au13_25) : w.heap.size ≤ gb231)); have n5_ := Aside0.mk ((by rw [hg]; exact Nat.ne_of_lt (blk_lt (g := gb230) (o := .cells #[.int .i64 a0_0, .int .i64 a0_1, .int .i64 a0_2, .int .i64 a0_3, .int .u64 a0_4] 24 (0, 0)) au13_1) : gb230 ≠ gb231)); have n6_ := Aside0.mk ((by rw [hg]; exact Nat.ne_of_gt (blk_lt (g := gb230) (o := .cells #[.int .i64 a0_0, .int .i64 a0_1, .int .i64 a0_2, .int .i64 a0_3, .int .u64 a0_4] 24 (0, 0)) au13_1) : gb231 ≠ gb230)); clear BK230; clear HB; have BK230 := n0_; have HB := n1_; have BK231 := n2_; have GW231 := n3_; have GE231 := n4_; have NB230_231 := n5_; have NB231_230 := n6_; clear n0_ n1_ n2_ n3_ n4_ n5_ n6_; clear hb hbox hg) | ((with_reducible refine gate_dst (N := 5) rfl ?_); refine box_event ?hg (N := 5) ?hd (cs := #[.int .i64 a2_0, .int .i64 a2_1, .bool a2_2]) (t := 28) ?hr ?_; (case hd => rfl); (case hg => rfl); (case hr => first | (go_simp; done) | (go_simp; rfl)); intro gb232 hg w9 hbox hb; have n0_ := Aside0.mk (blk_below (g := gb230) (o := .cells #[.int .i64 a0_0, .int .i64 a0_1, .int .i64 a0_2, .int .i64 a0_3, .int .u64 a0_4] 24 (0, 0)) au13_1 hb); have n1_ := Aside0.mk (blk_below (g := gb231) (o := .cells #[.int .i64 a1_0, .int .i64 a1_1, .int .i64 a1_2, .int .i64 a1_3, .int .i64 a1_4, .int .i64 a1_5, .int .i64 a1_6, .int .i64 a1_7, .int .i64 a1_8] 26 (0, 0)) au13_2 hb); have n2_ := Aside0.mk (below_step au13_23 hb); have n3_ := Aside0.mk (hbox); have n4_ := Aside0.mk ((by rw [hg]; exact (below_size au13_23) : w.heap.size ≤ gb232)); have n5_ := Aside0.mk ((by rw [hg]; exact (below_size au13_23) : w.heap.size ≤ gb232)); have n6_ := Aside0.mk ((by rw [hg]; exact Nat.ne_of_lt (blk_lt (g := gb230) (o := .cells #[.int .i64 a0_0, .int .i64 a0_1, .int .i64 a0_2, .int .i64 a0_3, .int .u64 a0_4] 24 (0, 0)) au13_1) : gb230 ≠ gb232)); have n7_ := Aside0.mk ((by rw [hg]; exact Nat.ne_of_gt (blk_lt (g := gb230) (o := .cells #[.int .i64 a0_0, .int .i64 a0_1, .int .i64 a0_2, .int .i64 a0_3, .int .u64 a0_4] 24 (0, 0)) au13_1) : gb232 ≠ gb230)); have n8_ := Aside0.mk ((au13_13 : gb231 ≠ gb232)); have n9_ := Aside0.mk ((au13_14 : gb232 ≠ gb231)); clear BK230; clear BK231; clear HB; have BK230 := n0_; have BK231 := n1_; have HB := n2_; have BK232 := n3_; have GW232 := n4_; have GE232 := n5_; have NB230_232 := n6_; have NB232_230 := n7_; have NB231_232 := n8_; have NB232_231 := n9_; clear n0_ n1_ n2_ n3_ n4_ n5_ n6_ n7_ n8_ n9_; clear hb hbox hg; have hnb10 := NB230_231.out; have hnc10 := NB231_230.out; have hnb11 := NB230_232.out; have hnc11 := NB232_230.out; have hcz12_0 : w9.cell? ⟨gb230, 0, none⟩ = some (.int .i64 a0_0) := (blk_cell BK230.out 0).trans rfl; have hcz12_1 : w9.cell? ⟨gb230, 1, none⟩ = some (.int .i64 a0_1) := (blk_cell BK230.out 1).trans rfl; have hcz12_2 : w9.cell? ⟨gb230, 2, none⟩ = some (.int .i64 a0_2) := (blk_cell BK230.out 2).trans rfl; have hcz12_3 : w9.cell? ⟨gb230, 3, none⟩ = some (.int .i64 a0_3) := (blk_cell BK230.out 3).trans rfl; have hcz12_4 : w9.cell? ⟨gb230, 4, none⟩ = some (.int .u64 a0_4) := (blk_cell BK230.out 4).trans rfl; have hfz12_0 := blk_frozen BK230.out 0; have hfz12_1 := blk_frozen BK230.out 1; have hfz12_2 := blk_frozen BK230.out 2; have hfz12_3 := blk_frozen BK230.out 3; have hfz12_4 := blk_frozen BK230.out 4) | ((with_reducible refine gate_callee (f := 16) rfl ?_); refine goesL_ (some 19) rfl rfl Try.func16 (by kernel_rfl) rfl #[.agg #[.int .i64 a0_0, .int .i64 a0_1, .int .i64 a0_2, .int .i64 a0_3, .int .u64 a0_4]] rfl au13_8 ?_; (with_reducible refine (joustplay_Config.calls a0_0 a0_1 a0_2 a0_3 a0_4 t233 t234 t235 t236 t237 _ A4.out).mono ?_); rintro e w13 ⟨rfl, hb⟩; refine ⟨_, rfl, ?_⟩; have n0_ := Aside0.mk (blk_below (g := gb230) (o := .cells #[.int .i64 a0_0, .int .i64 a0_1, .int .i64 a0_2, .int .i64 a0_3, .int .u64 a0_4] 24 (0, 0)) au13_1 hb); have n1_ := Aside0.mk (blk_below (g := gb231) (o := .cells #[.int .i64 a1_0, .int .i64 a1_1, .int .i64 a1_2, .int .i64 a1_3, .int .i64 a1_4, .int .i64 a1_5, .int .i64 a1_6, .int .i64 a1_7, .int .i64 a1_8] 26 (0, 0)) au13_2 hb); have n2_ := Aside0.mk (blk_below (g := gb232) (o := .cells #[.int .i64 a2_0, .int .i64 a2_1, .bool a2_2] 28 (0, 0)) au13_3 hb); have n3_ := Aside0.mk (below_step au13_19 hb); clear BK230; clear BK231; clear BK232; clear HB; have BK230 := n0_; have BK231 := n1_; have BK232 := n2_; have HB := n3_; clear n0_ n1_ n2_ n3_; (try clear hb); (try clear hb2); (try clear hk); (try clear hi); have hcz14_0 : w13.cell? ⟨gb230, 0, none⟩ = some (.int .i64 a0_0) := (blk_cell BK230.out 0).trans rfl; have hcz14_1 : w13.cell? ⟨gb230, 1, none⟩ = some (.int .i64 a0_1) := (blk_cell BK230.out 1).trans rfl; have hcz14_2 : w13.cell? ⟨gb230, 2, none⟩ = some (.int .i64 a0_2) := (blk_cell BK230.out 2).trans rfl; have hcz14_3 : w13.cell? ⟨gb230, 3, none⟩ = some (.int .i64 a0_3) := (blk_cell BK230.out 3).trans rfl; have hcz14_4 : w13.cell? ⟨gb230, 4, none⟩ = some (.int .u64 a0_4) := (blk_cell BK230.out 4).trans rfl; have hfz14_0 := blk_frozen BK230.out 0; have hfz14_1 := blk_frozen BK230.out 1; have hfz14_2 := blk_frozen BK230.out 2; have hfz14_3 := blk_frozen BK230.out 3; have hfz14_4 := blk_frozen BK230.out 4) | ((with_reducible refine gate_callee (f := 8) rfl ?_); refine goesL_ (some 22) rfl rfl Try.func8 (by kernel_rfl) rfl #[.agg #[.int .i64 t233, .int .i64 t234, .int .i64 t235, .int .i64 t236, .int .u64 t237]] rfl au13_8 ?_; (with_reducible refine (grid_New.calls t233 t234 t235 t236 t237 t238 t239 t240 t241 t242 t243 _ A5.out).mono ?_); rintro e w15 ⟨rfl, hb⟩; refine ⟨_, rfl, ?_⟩; have n0_ := Aside0.mk (blk_below (g := gb230) (o := .cells #[.int .i64 t233, .int .i64 t234, .int .i64 t235, .int .i64 t236, .int .u64 t237] 24 (0, 0)) (by (with_reducible repeat (first | refine blk_drewN ?_ _ | refine blk_drew ?_ | refine blk_alloc ?_ _)); refine blk_put (cs := #[.int .i64 t233, .int .i64 t234, .int .i64 t235, .int .i64 t236, .int .u64 a0_4]) ?_ 4 _ rfl; (with_reducible repeat (first | refine blk_drewN ?_ _ | refine blk_drew ?_ | refine blk_alloc ?_ _)); refine blk_put (cs := #[.int .i64 t233, .int .i64 t234, .int .i64 t235, .int .i64 a0_3, .int .u64 a0_4]) ?_ 3 _ rfl; (with_reducible repeat (first | refine blk_drewN ?_ _ | refine blk_drew ?_ | refine blk_alloc ?_ _)); refine blk_put (cs := #[.int .i64 t233, .int .i64 t234, .int .i64 a0_2, .int .i64 a0_3, .int .u64 a0_4]) ?_ 2 _ rfl; (with_reducible repeat (first | refine blk_drewN ?_ _ | refine blk_drew ?_ | refine blk_alloc ?_ _)); refine blk_put (cs := #[.int .i64 t233, .int .i64 a0_1, .int .i64 a0_2, .int .i64 a0_3, .int .u64 a0_4]) ?_ 1 _ rfl; (with_reducible repeat (first | refine blk_drewN ?_ _ | refine blk_drew ?_ | refine blk_alloc ?_ _)); refine blk_put (cs := #[.int .i64 a0_0, .int .i64 a0_1, .int .i64 a0_2, .int .i64 a0_3, .int .u64 a0_4]) ?_ 0 _ rfl; (with_reducible repeat (first | refine blk_drewN ?_ _ | refine blk_drew ?_ | refine blk_alloc ?_ _)); exact BK230.out) hb); have n1_ := Aside0.mk (blk_below (g := gb231) (o := .cells #[.int .i64 a1_0, .int .i64 a1_1, .int .i64 a1_2, .int .i64 a1_3, .int .i64 a1_4, .int .i64 a1_5, .int .i64 a1_6, .int .i64 a1_7, .int .i64 a1_8] 26 (0, 0)) (by (with_reducible repeat (first | refine blk_drewN ?_ _ | refine blk_drew ?_ | refine blk_alloc ?_ _)); refine blk_far ?_ NB231_230.out _; (with_reducible repeat (first | refine blk_drewN ?_ _ | refine blk_drew ?_ | refine blk_alloc ?_ _)); refine blk_far ?_ NB231_230.out _; (with_reducible repeat (first | refine blk_drewN ?_ _ | refine blk_drew ?_ | refine blk_alloc ?_ _)); refine blk_far ?_ NB231_230.out _; (with_reducible repeat (first | refine blk_drewN ?_ _ | refine blk_drew ?_ | refine blk_alloc ?_ _)); refine blk_far ?_ NB231_230.out _; (with_reducible repeat (first | refine blk_drewN ?_ _ | refine blk_drew ?_ | refine blk_alloc ?_ _)); refine blk_far ?_ NB231_230.out _; (with_reducible repeat (first | refine blk_drewN ?_ _ | refine blk_drew ?_ | refine blk_alloc ?_ _)); exact BK231.out) hb); have n2_ := Aside0.mk (blk_below (g := gb232) (o := .cells #[.int .i64 a2_0, .int .i64 a2_1, .bool a2_2] 28 (0, 0)) (by (with_reducible repeat (first | refine blk_drewN ?_ _ | refine blk_drew ?_ | refine blk_alloc ?_ _)); refine blk_far ?_ NB232_230.out _; (with_reducible repeat (first | refine blk_drewN ?_ _ | refine blk_drew ?_ | refine blk_alloc ?_ _)); refine blk_far ?_ NB232_230.out _; (with_reducible repeat (first | refine blk_drewN ?_ _ | refine blk_drew ?_ | refine blk_alloc ?_ _)); refine blk_far ?_ NB232_230.out _; (with_reducible repeat (first | refine blk_drewN ?_ _ | refine blk_drew ?_ | refine blk_alloc ?_ _)); refine blk_far ?_ NB232_230.out _; (with_reducible repeat (first | refine blk_drewN ?_ _ | refine blk_drew ?_ | refine blk_alloc ?_ _)); refine blk_far ?_ NB232_230.out _; (with_reducible repeat (first | refine blk_drewN ?_ _ | refine blk_drew ?_ | refine blk_alloc ?_ _)); exact BK232.out) hb); have n3_ := Aside0.mk (below_step au13_19 hb); clear BK230; clear BK231; clear BK232; clear HB; have BK230 := n0_; have BK231 := n1_; have BK232 := n2_; have HB := n3_; clear n0_ n1_ n2_ n3_; (try clear hb); (try clear hb2); (try clear hk); (try clear hi)) | ((with_reducible refine gate_dst (N := 7) rfl ?_); refine box_event ?hg (N := 7) ?hd (cs := #[.int .i64 0, .int .i64 0, .int .i64 0, .int .i64 0, .int .u64 0]) (t := 30) ?hr ?_; (case hd => rfl); (case hg => rfl); (case hr => first | (go_simp; done) | (go_simp; rfl)); intro gb244 hg w16 hbox hb; have n0_ := Aside0.mk (blk_below (g := gb230) (o := .cells #[.int .i64 t233, .int .i64 t234, .int .i64 t235, .int .i64 t236, .int .u64 t237] 24 (0, 0)) au13_1 hb); have n1_ := Aside0.mk (blk_below (g := gb231) (o := .cells #[.int .i64 a1_0, .int .i64 a1_1, .int .i64 a1_2, .int .i64 a1_3, .int .i64 a1_4, .int .i64 a1_5, .int .i64 a1_6, .int .i64 a1_7, .int .i64 a1_8] 26 (0, 0)) au13_2 hb); have n2_ := Aside0.mk (blk_below (g := gb232) (o := .cells #[.int .i64 a2_0, .int .i64 a2_1, .bool a2_2] 28 (0, 0)) au13_3 hb); have n3_ := Aside0.mk (below_step au13_19 hb); have n4_ := Aside0.mk (hbox); have n5_ := Aside0.mk ((by rw [hg]; exact (below_size au13_19) : w.heap.size ≤ gb244)); have n6_ := Aside0.mk ((by rw [hg]; exact (below_size au13_19) : w.heap.size ≤ gb244)); have n7_ := Aside0.mk ((au13_15 : gb230 ≠ gb244)); have n8_ := Aside0.mk ((au13_16 : gb244 ≠ gb230)); have n9_ := Aside0.mk ((au13_13 : gb231 ≠ gb244)); have n10_ := Aside0.mk ((au13_14 : gb244 ≠ gb231)); have n11_ := Aside0.mk ((au13_20 : gb232 ≠ gb244)); have n12_ := Aside0.mk ((au13_21 : gb244 ≠ gb232)); clear BK230; clear BK231; clear BK232; clear HB; have BK230 := n0_; have BK231 := n1_; have BK232 := n2_; have HB := n3_; have BK244 := n4_; have GW244 := n5_; have GE244 := n6_; have NB230_244 := n7_; have NB244_230 := n8_; have NB231_244 := n9_; have NB244_231 := n10_; have NB232_244 := n11_; have NB244_232 := n12_; clear n0_ n1_ n2_ n3_ n4_ n5_ n6_ n7_ n8_ n9_ n10_ n11_ n12_; clear hb hbox hg; have hnb17 := NB244_230.out; have hnc17 := NB230_244.out; have hnb18 := NB244_231.out; have hnc18 := NB231_244.out; have hnb19 := NB244_232.out; have hnc19 := NB232_244.out; have hcz20_0 : w16.cell? ⟨gb244, 0, none⟩ = some (.int .i64 0) := (blk_cell BK244.out 0).trans rfl; have hcz20_1 : w16.cell? ⟨gb244, 1, none⟩ = some (.int .i64 0) := (blk_cell BK244.out 1).trans rfl; have hcz20_2 : w16.cell? ⟨gb244, 2, none⟩ = some (.int .i64 0) := (blk_cell BK244.out 2).trans rfl; have hcz20_3 : w16.cell? ⟨gb244, 3, none⟩ = some (.int .i64 0) := (blk_cell BK244.out 3).trans rfl; have hcz20_4 : w16.cell? ⟨gb244, 4, none⟩ = some (.int .u64 0) := (blk_cell BK244.out 4).trans rfl; have hfz20_0 := blk_frozen BK244.out 0; have hfz20_1 := blk_frozen BK244.out 1; have hfz20_2 := blk_frozen BK244.out 2; have hfz20_3 := blk_frozen BK244.out 3; have hfz20_4 := blk_frozen BK244.out 4))
  (try simp only [Act.put, List.setIfInBounds_toArray, List.set_cons_zero, List.set_cons_succ])
  go_cut [36] (fun v36 wc => ∃ (kq : Nat) (x36_5 : Bool), v36 = .bool x36_5 ∧ Aside0 (joustlaw07_MovingNear.j0 kq t243 x36_5 t233 t234 t235 t236 t237 a1_0 a1_1 a1_2 a1_3 a1_4 a1_5 a1_6 a1_7 a1_8 a2_0 a2_1 a2_2 t238 t239 t240 t241 t242 = some r) ∧ Aside0 (kq ≤ k) ∧ Aside0 (wc.heap[gb230]? = some (.cells #[.int .i64 t233, .int .i64 t234, .int .i64 t235, .int .i64 t236, .int .u64 t237] 24 (0, 0))) ∧ Aside0 (wc.heap[gb231]? = some (.cells #[.int .i64 a1_0, .int .i64 a1_1, .int .i64 a1_2, .int .i64 a1_3, .int .i64 a1_4, .int .i64 a1_5, .int .i64 a1_6, .int .i64 a1_7, .int .i64 a1_8] 26 (0, 0))) ∧ Aside0 (wc.heap[gb232]? = some (.cells #[.int .i64 a2_0, .int .i64 a2_1, .bool a2_2] 28 (0, 0))) ∧ Aside0 (wc.heap[gb244]? = some (.cells #[.int .i64 t238, .int .i64 t239, .int .i64 t240, .int .i64 t241, .int .u64 t242] 30 (0, 0))) ∧ Aside0 (Below w.heap.size w wc))
  case first =>
    have H := HC6.out
    clear HC6
    replace H := Option.bind_eq_some_iff.mp H
    obtain ⟨t245, A210, H⟩ := H
    (try dsimp -simprocs only at H)
    have A21 := Aside0.mk A210
    clear A210
    by_cases c22 : t245 = true
    · subst c22
      have H1 : (if t243 = 0 then ((joustref05_Right.f t233 t234 t235 t236 t237 a1_0 a1_1 a1_2 a1_3 a1_4 a1_5 a1_6 a1_7 a1_8).bind fun t246 => (joustlaw07_MovingNear.j0 k t243 (!t246) t233 t234 t235 t236 t237 a1_0 a1_1 a1_2 a1_3 a1_4 a1_5 a1_6 a1_7 a1_8 a2_0 a2_1 a2_2 t238 t239 t240 t241 t242)) else (joustlaw07_MovingNear.j0 k t243 true t233 t234 t235 t236 t237 a1_0 a1_1 a1_2 a1_3 a1_4 a1_5 a1_6 a1_7 a1_8 a2_0 a2_1 a2_2 t238 t239 t240 t241 t242)) = some r := by rw [if_pos rfl] at H; exact H
      clear H
      have H := H1
      clear H1
      by_cases c23 : t243 = 0
      · rw [if_pos c23] at H
        have c23b0 : (t243 == 0) = true := beq_iff_eq.mpr c23
        have c23b1 : (t243 != 0) = false := bne_eq_false_iff_eq.mpr c23
        clear c23
        (first | rw [c23b0] | (simp only [i64_w, i32_w]; rw [c23b0]) | skip)
        replace H := Option.bind_eq_some_iff.mp H
        obtain ⟨t246, A240, H⟩ := H
        (try dsimp -simprocs only at H)
        have A24 := Aside0.mk A240
        clear A240
        have H' := Aside0.mk H
        clear H
        go_wp2_with (first | ((with_reducible refine gate_callee (f := 13) rfl ?_); refine goesL_ (some 25) rfl rfl Try.func13 (by kernel_rfl) rfl #[] rfl au13_8 ?_; (with_reducible refine (joustlaw07_awake.calls k  true _ A21.out).mono ?_); rintro e w25 ⟨rfl, hb⟩; refine ⟨_, rfl, ?_⟩; have n0_ := Aside0.mk (blk_below (g := gb230) (o := .cells #[.int .i64 t233, .int .i64 t234, .int .i64 t235, .int .i64 t236, .int .u64 t237] 24 (0, 0)) au13_12 hb); have n1_ := Aside0.mk (blk_below (g := gb231) (o := .cells #[.int .i64 a1_0, .int .i64 a1_1, .int .i64 a1_2, .int .i64 a1_3, .int .i64 a1_4, .int .i64 a1_5, .int .i64 a1_6, .int .i64 a1_7, .int .i64 a1_8] 26 (0, 0)) au13_11 hb); have n2_ := Aside0.mk (blk_below (g := gb232) (o := .cells #[.int .i64 a2_0, .int .i64 a2_1, .bool a2_2] 28 (0, 0)) au13_10 hb); have n3_ := Aside0.mk (blk_below (g := gb244) (o := .cells #[.int .i64 t238, .int .i64 t239, .int .i64 t240, .int .i64 t241, .int .u64 t242] 30 (0, 0)) au13_7 hb); have n4_ := Aside0.mk (below_step au13_0 hb); clear BK230; clear BK231; clear BK232; clear BK244; clear HB; have BK230 := n0_; have BK231 := n1_; have BK232 := n2_; have BK244 := n3_; have HB := n4_; clear n0_ n1_ n2_ n3_ n4_; (try clear hb); (try clear hb2); (try clear hk); (try clear hi); have hnb26 := NB230_231.out; have hnc26 := NB231_230.out; have hnb27 := NB230_232.out; have hnc27 := NB232_230.out; have hnb28 := NB230_244.out; have hnc28 := NB244_230.out; have hcz29_0 : w25.cell? ⟨gb230, 0, none⟩ = some (.int .i64 t233) := (blk_cell BK230.out 0).trans rfl; have hcz29_1 : w25.cell? ⟨gb230, 1, none⟩ = some (.int .i64 t234) := (blk_cell BK230.out 1).trans rfl; have hcz29_2 : w25.cell? ⟨gb230, 2, none⟩ = some (.int .i64 t235) := (blk_cell BK230.out 2).trans rfl; have hcz29_3 : w25.cell? ⟨gb230, 3, none⟩ = some (.int .i64 t236) := (blk_cell BK230.out 3).trans rfl; have hcz29_4 : w25.cell? ⟨gb230, 4, none⟩ = some (.int .u64 t237) := (blk_cell BK230.out 4).trans rfl; have hfz29_0 := blk_frozen BK230.out 0; have hfz29_1 := blk_frozen BK230.out 1; have hfz29_2 := blk_frozen BK230.out 2; have hfz29_3 := blk_frozen BK230.out 3; have hfz29_4 := blk_frozen BK230.out 4; have hnb30 := NB231_232.out; have hnc30 := NB232_231.out; have hnb31 := NB231_244.out; have hnc31 := NB244_231.out; have hcz32_0 : w25.cell? ⟨gb231, 0, none⟩ = some (.int .i64 a1_0) := (blk_cell BK231.out 0).trans rfl; have hcz32_1 : w25.cell? ⟨gb231, 1, none⟩ = some (.int .i64 a1_1) := (blk_cell BK231.out 1).trans rfl; have hcz32_2 : w25.cell? ⟨gb231, 2, none⟩ = some (.int .i64 a1_2) := (blk_cell BK231.out 2).trans rfl; have hcz32_3 : w25.cell? ⟨gb231, 3, none⟩ = some (.int .i64 a1_3) := (blk_cell BK231.out 3).trans rfl; have hcz32_4 : w25.cell? ⟨gb231, 4, none⟩ = some (.int .i64 a1_4) := (blk_cell BK231.out 4).trans rfl; have hcz32_5 : w25.cell? ⟨gb231, 5, none⟩ = some (.int .i64 a1_5) := (blk_cell BK231.out 5).trans rfl; have hcz32_6 : w25.cell? ⟨gb231, 6, none⟩ = some (.int .i64 a1_6) := (blk_cell BK231.out 6).trans rfl; have hcz32_7 : w25.cell? ⟨gb231, 7, none⟩ = some (.int .i64 a1_7) := (blk_cell BK231.out 7).trans rfl; have hcz32_8 : w25.cell? ⟨gb231, 8, none⟩ = some (.int .i64 a1_8) := (blk_cell BK231.out 8).trans rfl; have hfz32_0 := blk_frozen BK231.out 0; have hfz32_1 := blk_frozen BK231.out 1; have hfz32_2 := blk_frozen BK231.out 2; have hfz32_3 := blk_frozen BK231.out 3; have hfz32_4 := blk_frozen BK231.out 4; have hfz32_5 := blk_frozen BK231.out 5; have hfz32_6 := blk_frozen BK231.out 6; have hfz32_7 := blk_frozen BK231.out 7; have hfz32_8 := blk_frozen BK231.out 8) | (go_at_call 17; (with_reducible refine (joustref05_Right.calls t233 t234 t235 t236 t237 a1_0 a1_1 a1_2 a1_3 a1_4 a1_5 a1_6 a1_7 a1_8 t246 _ A24.out).mono ?_); rintro e w33 ⟨rfl, hb⟩; have n0_ := Aside0.mk (blk_below (g := gb230) (o := .cells #[.int .i64 t233, .int .i64 t234, .int .i64 t235, .int .i64 t236, .int .u64 t237] 24 (0, 0)) au13_1 hb); have n1_ := Aside0.mk (blk_below (g := gb231) (o := .cells #[.int .i64 a1_0, .int .i64 a1_1, .int .i64 a1_2, .int .i64 a1_3, .int .i64 a1_4, .int .i64 a1_5, .int .i64 a1_6, .int .i64 a1_7, .int .i64 a1_8] 26 (0, 0)) au13_2 hb); have n2_ := Aside0.mk (blk_below (g := gb232) (o := .cells #[.int .i64 a2_0, .int .i64 a2_1, .bool a2_2] 28 (0, 0)) au13_3 hb); have n3_ := Aside0.mk (blk_below (g := gb244) (o := .cells #[.int .i64 t238, .int .i64 t239, .int .i64 t240, .int .i64 t241, .int .u64 t242] 30 (0, 0)) au13_4 hb); have n4_ := Aside0.mk (below_step au13_0 hb); clear BK230; clear BK231; clear BK232; clear BK244; clear HB; have BK230 := n0_; have BK231 := n1_; have BK232 := n2_; have BK244 := n3_; have HB := n4_; clear n0_ n1_ n2_ n3_ n4_; (try clear hb); (try clear hb2); (try clear hk); (try clear hi)))
        go_meet
        case rel => exact ⟨_, (!t246), (by first | rfl | (simp; done) | (simp [*]; done)), H', ⟨by first | omega | exact Nat.le_refl _⟩, ⟨au13_1⟩, ⟨au13_2⟩, ⟨au13_3⟩, ⟨au13_4⟩, ⟨au13_0⟩⟩
      · rw [if_neg c23] at H
        have c23b0 : (t243 == 0) = false := beq_eq_false_iff_ne.mpr c23
        have c23b1 : (t243 != 0) = true := bne_iff_ne.mpr c23
        (first | rw [c23b0] | (simp only [i64_w, i32_w]; rw [c23b0]) | skip)
        have H' := Aside0.mk H
        clear H
        go_wp2_with (first | ((with_reducible refine gate_callee (f := 13) rfl ?_); refine goesL_ (some 25) rfl rfl Try.func13 (by kernel_rfl) rfl #[] rfl au13_8 ?_; (with_reducible refine (joustlaw07_awake.calls k  true _ A21.out).mono ?_); rintro e w34 ⟨rfl, hb⟩; refine ⟨_, rfl, ?_⟩; have n0_ := Aside0.mk (blk_below (g := gb230) (o := .cells #[.int .i64 t233, .int .i64 t234, .int .i64 t235, .int .i64 t236, .int .u64 t237] 24 (0, 0)) au13_12 hb); have n1_ := Aside0.mk (blk_below (g := gb231) (o := .cells #[.int .i64 a1_0, .int .i64 a1_1, .int .i64 a1_2, .int .i64 a1_3, .int .i64 a1_4, .int .i64 a1_5, .int .i64 a1_6, .int .i64 a1_7, .int .i64 a1_8] 26 (0, 0)) au13_11 hb); have n2_ := Aside0.mk (blk_below (g := gb232) (o := .cells #[.int .i64 a2_0, .int .i64 a2_1, .bool a2_2] 28 (0, 0)) au13_10 hb); have n3_ := Aside0.mk (blk_below (g := gb244) (o := .cells #[.int .i64 t238, .int .i64 t239, .int .i64 t240, .int .i64 t241, .int .u64 t242] 30 (0, 0)) au13_7 hb); have n4_ := Aside0.mk (below_step au13_0 hb); clear BK230; clear BK231; clear BK232; clear BK244; clear HB; have BK230 := n0_; have BK231 := n1_; have BK232 := n2_; have BK244 := n3_; have HB := n4_; clear n0_ n1_ n2_ n3_ n4_; (try clear hb); (try clear hb2); (try clear hk); (try clear hi)))
        go_meet
        case rel => exact ⟨_, (true), (by first | rfl | (simp; done) | (simp [*]; done)), H', ⟨by first | omega | exact Nat.le_refl _⟩, ⟨au13_1⟩, ⟨au13_2⟩, ⟨au13_3⟩, ⟨au13_4⟩, ⟨au13_0⟩⟩
    · replace c22 := Bool.eq_false_iff.mpr c22
      subst c22
      have H1 : (joustlaw07_MovingNear.j0 k t243 true t233 t234 t235 t236 t237 a1_0 a1_1 a1_2 a1_3 a1_4 a1_5 a1_6 a1_7 a1_8 a2_0 a2_1 a2_2 t238 t239 t240 t241 t242) = some r := by rw [if_neg (show ¬ (false = true) by decide)] at H; exact H
      clear H
      have H := H1
      clear H1
      have H' := Aside0.mk H
      clear H
      go_wp2_with (first | ((with_reducible refine gate_callee (f := 13) rfl ?_); refine goesL_ (some 25) rfl rfl Try.func13 (by kernel_rfl) rfl #[] rfl au13_8 ?_; (with_reducible refine (joustlaw07_awake.calls k  false _ A21.out).mono ?_); rintro e w35 ⟨rfl, hb⟩; refine ⟨_, rfl, ?_⟩; have n0_ := Aside0.mk (blk_below (g := gb230) (o := .cells #[.int .i64 t233, .int .i64 t234, .int .i64 t235, .int .i64 t236, .int .u64 t237] 24 (0, 0)) au13_12 hb); have n1_ := Aside0.mk (blk_below (g := gb231) (o := .cells #[.int .i64 a1_0, .int .i64 a1_1, .int .i64 a1_2, .int .i64 a1_3, .int .i64 a1_4, .int .i64 a1_5, .int .i64 a1_6, .int .i64 a1_7, .int .i64 a1_8] 26 (0, 0)) au13_11 hb); have n2_ := Aside0.mk (blk_below (g := gb232) (o := .cells #[.int .i64 a2_0, .int .i64 a2_1, .bool a2_2] 28 (0, 0)) au13_10 hb); have n3_ := Aside0.mk (blk_below (g := gb244) (o := .cells #[.int .i64 t238, .int .i64 t239, .int .i64 t240, .int .i64 t241, .int .u64 t242] 30 (0, 0)) au13_7 hb); have n4_ := Aside0.mk (below_step au13_0 hb); clear BK230; clear BK231; clear BK232; clear BK244; clear HB; have BK230 := n0_; have BK231 := n1_; have BK232 := n2_; have BK244 := n3_; have HB := n4_; clear n0_ n1_ n2_ n3_ n4_; (try clear hb); (try clear hb2); (try clear hk); (try clear hi)))
      go_meet
      case rel => exact ⟨_, (true), (by first | rfl | (simp; done) | (simp [*]; done)), H', ⟨by first | omega | exact Nat.le_refl _⟩, ⟨au13_1⟩, ⟨au13_2⟩, ⟨au13_3⟩, ⟨au13_4⟩, ⟨au13_0⟩⟩
  case rest =>
    clear HC6
    try clear c1
    try clear c2
    try clear p2
    try clear c3
    try clear c4
    try clear c8
    try clear c10
    try clear c11
    try clear c13
    try clear c16
    try clear c17
    try clear c18
    try clear c19
    try clear c22
    try clear c23
    try clear c23b0
    try clear c23b1
    try clear c26
    try clear c27
    try clear c28
    try clear c30
    try clear c31
    try clear hcz12_0
    try clear hcz12_1
    try clear hcz12_2
    try clear hcz12_3
    try clear hcz12_4
    try clear hcz14_0
    try clear hcz14_1
    try clear hcz14_2
    try clear hcz14_3
    try clear hcz14_4
    try clear hcz20_0
    try clear hcz20_1
    try clear hcz20_2
    try clear hcz20_3
    try clear hcz20_4
    try clear hcz29_0
    try clear hcz29_1
    try clear hcz29_2
    try clear hcz29_3
    try clear hcz29_4
    try clear hcz32_0
    try clear hcz32_1
    try clear hcz32_2
    try clear hcz32_3
    try clear hcz32_4
    try clear hcz32_5
    try clear hcz32_6
    try clear hcz32_7
    try clear hcz32_8
    try clear hfz12_0
    try clear hfz12_1
    try clear hfz12_2
    try clear hfz12_3
    try clear hfz12_4
    try clear hfz14_0
    try clear hfz14_1
    try clear hfz14_2
    try clear hfz14_3
    try clear hfz14_4
    try clear hfz20_0
    try clear hfz20_1
    try clear hfz20_2
    try clear hfz20_3
    try clear hfz20_4
    try clear hfz29_0
    try clear hfz29_1
    try clear hfz29_2
    try clear hfz29_3
    try clear hfz29_4
    try clear hfz32_0
    try clear hfz32_1
    try clear hfz32_2
    try clear hfz32_3
    try clear hfz32_4
    try clear hfz32_5
    try clear hfz32_6
    try clear hfz32_7
    try clear hfz32_8
    obtain ⟨kq, x36_5, rfl, HA, HJ5, BK230, BK231, BK232, BK244, HB⟩ := hcut
    cases kq with
    | zero => exact absurd HA.out (by simp [joustlaw07_MovingNear.j0])
    | succ kj5 =>
      have H := HA.out
      clear HA
      simp only [joustlaw07_MovingNear.j0] at H
      by_cases c36 : x36_5 = true
      · subst c36
        have H1 : ((joustlaw07_awake.f kj5).bind fun t247 => (if t247 = true then (some (t243 == 0)) else (some false))) = some r := by rw [if_pos rfl] at H; exact H
        clear H
        have H := H1
        clear H1
        replace H := Option.bind_eq_some_iff.mp H
        obtain ⟨t247, A370, H⟩ := H
        (try dsimp -simprocs only at H)
        have A37 := Aside0.mk A370
        clear A370
        by_cases c38 : t247 = true
        · subst c38
          have H1 : (some (t243 == 0)) = some r := by rw [if_pos rfl] at H; exact H
          clear H
          have H := H1
          clear H1
          obtain rfl := Option.some.inj H
          go_wp2_with (first | ((with_reducible refine gate_callee (f := 13) rfl ?_); refine goesL_ (some 37) rfl rfl Try.func13 (by kernel_rfl) rfl #[] rfl au13_8 ?_; (with_reducible refine (joustlaw07_awake.calls kj5  true _ A37.out).mono ?_); rintro e w39 ⟨rfl, hb⟩; refine ⟨_, rfl, ?_⟩; have n0_ := Aside0.mk (blk_below (g := gb230) (o := .cells #[.int .i64 t233, .int .i64 t234, .int .i64 t235, .int .i64 t236, .int .u64 t237] 24 (0, 0)) au13_1 hb); have n1_ := Aside0.mk (blk_below (g := gb231) (o := .cells #[.int .i64 a1_0, .int .i64 a1_1, .int .i64 a1_2, .int .i64 a1_3, .int .i64 a1_4, .int .i64 a1_5, .int .i64 a1_6, .int .i64 a1_7, .int .i64 a1_8] 26 (0, 0)) au13_2 hb); have n2_ := Aside0.mk (blk_below (g := gb232) (o := .cells #[.int .i64 a2_0, .int .i64 a2_1, .bool a2_2] 28 (0, 0)) au13_3 hb); have n3_ := Aside0.mk (blk_below (g := gb244) (o := .cells #[.int .i64 t238, .int .i64 t239, .int .i64 t240, .int .i64 t241, .int .u64 t242] 30 (0, 0)) au13_4 hb); have n4_ := Aside0.mk (below_step au13_0 hb); clear BK230; clear BK231; clear BK232; clear BK244; clear HB; have BK230 := n0_; have BK231 := n1_; have BK232 := n2_; have BK244 := n3_; have HB := n4_; clear n0_ n1_ n2_ n3_ n4_; (try clear hb); (try clear hb2); (try clear hk); (try clear hi)))
          go_ret
          exact ⟨by first | rfl | (simp [errW_none, errW_some] <;> rfl) | (simp [*, errW_none, errW_some] <;> rfl), au13_0⟩
        · replace c38 := Bool.eq_false_iff.mpr c38
          subst c38
          have H1 : (some false) = some r := by rw [if_neg (show ¬ (false = true) by decide)] at H; exact H
          clear H
          have H := H1
          clear H1
          exact absurd (H.trans (congrArg some hr_.out)) (by decide)
      · replace c36 := Bool.eq_false_iff.mpr c36
        subst c36
        have H1 : ((joustplay_Input.f a2_0 a2_1 a2_2).bind fun bt248 => ((moving_Steer.f kj5 a1_0 a1_1 a1_2 a1_3 a1_4 a1_5 a1_6 a1_7 a1_8 bt248.1 bt248.2.1 bt248.2.2).bind fun bt251 => ((moving_Go.f kj5 t238 t239 t240 t241 t242 bt251.1 bt251.2.1 bt251.2.2.1 bt251.2.2.2.1 bt251.2.2.2.2.1 bt251.2.2.2.2.2.1 bt251.2.2.2.2.2.2.1 bt251.2.2.2.2.2.2.2.1 bt251.2.2.2.2.2.2.2.2.1).bind fun bt262 => (if bt262.2.2.2.2.2.2.2.2.2 = true then ((joustref03_Of.f t233 t234 t235 t236 t237 a1_2 a1_3).bind fun t273 => ((joustref03_Of.f t233 t234 t235 t236 t237 bt262.2.2.1 bt262.2.2.2.1).bind fun t274 => ((joustref03_Near.f kj5 t233 t234 t235 t236 t237 t273).bind fun t275 => (joustlaw07_MovingNear.l0 kj5 t274 t275 false 0 t233 t234 t235 t236 t237 a1_0 a1_1 a1_2 a1_3 a1_4 a1_5 a1_6 a1_7 a1_8 bt262.1 bt262.2.1 bt262.2.2.1 bt262.2.2.2.1 bt262.2.2.2.2.1 bt262.2.2.2.2.2.1 bt262.2.2.2.2.2.2.1 bt262.2.2.2.2.2.2.2.1 bt262.2.2.2.2.2.2.2.2.1)))) else (if a1_1 = 2 then (some (bt262.1 == 0 && (bt262.2.1 == 0 && (bt262.2.2.1 == 0 && (bt262.2.2.2.1 == 0 && (bt262.2.2.2.2.1 == 0 && (bt262.2.2.2.2.2.1 == 0 && (bt262.2.2.2.2.2.2.1 == 0 && (bt262.2.2.2.2.2.2.2.1 == 0 && (bt262.2.2.2.2.2.2.2.2.1 == 0)))))))))) else (some false)))))) = some r := by rw [if_neg (show ¬ (false = true) by decide)] at H; exact H
        clear H
        have H := H1
        clear H1
        replace H := Option.bind_eq_some_iff.mp H
        obtain ⟨⟨t248, t249, t250⟩, A400, H⟩ := H
        replace H : ((moving_Steer.f kj5 a1_0 a1_1 a1_2 a1_3 a1_4 a1_5 a1_6 a1_7 a1_8 t248 t249 t250).bind fun bt251 => ((moving_Go.f kj5 t238 t239 t240 t241 t242 bt251.1 bt251.2.1 bt251.2.2.1 bt251.2.2.2.1 bt251.2.2.2.2.1 bt251.2.2.2.2.2.1 bt251.2.2.2.2.2.2.1 bt251.2.2.2.2.2.2.2.1 bt251.2.2.2.2.2.2.2.2.1).bind fun bt262 => (if bt262.2.2.2.2.2.2.2.2.2 = true then ((joustref03_Of.f t233 t234 t235 t236 t237 a1_2 a1_3).bind fun t273 => ((joustref03_Of.f t233 t234 t235 t236 t237 bt262.2.2.1 bt262.2.2.2.1).bind fun t274 => ((joustref03_Near.f kj5 t233 t234 t235 t236 t237 t273).bind fun t275 => (joustlaw07_MovingNear.l0 kj5 t274 t275 false 0 t233 t234 t235 t236 t237 a1_0 a1_1 a1_2 a1_3 a1_4 a1_5 a1_6 a1_7 a1_8 bt262.1 bt262.2.1 bt262.2.2.1 bt262.2.2.2.1 bt262.2.2.2.2.1 bt262.2.2.2.2.2.1 bt262.2.2.2.2.2.2.1 bt262.2.2.2.2.2.2.2.1 bt262.2.2.2.2.2.2.2.2.1)))) else (if a1_1 = 2 then (some (bt262.1 == 0 && (bt262.2.1 == 0 && (bt262.2.2.1 == 0 && (bt262.2.2.2.1 == 0 && (bt262.2.2.2.2.1 == 0 && (bt262.2.2.2.2.2.1 == 0 && (bt262.2.2.2.2.2.2.1 == 0 && (bt262.2.2.2.2.2.2.2.1 == 0 && (bt262.2.2.2.2.2.2.2.2.1 == 0)))))))))) else (some false))))) = some r := H
        have A40 := Aside0.mk A400
        clear A400
        replace H := Option.bind_eq_some_iff.mp H
        obtain ⟨⟨t251, t252, t253, t254, t255, t256, t257, t258, t259, t260⟩, A410, H⟩ := H
        replace H : ((moving_Go.f kj5 t238 t239 t240 t241 t242 t251 t252 t253 t254 t255 t256 t257 t258 t259).bind fun bt262 => (if bt262.2.2.2.2.2.2.2.2.2 = true then ((joustref03_Of.f t233 t234 t235 t236 t237 a1_2 a1_3).bind fun t273 => ((joustref03_Of.f t233 t234 t235 t236 t237 bt262.2.2.1 bt262.2.2.2.1).bind fun t274 => ((joustref03_Near.f kj5 t233 t234 t235 t236 t237 t273).bind fun t275 => (joustlaw07_MovingNear.l0 kj5 t274 t275 false 0 t233 t234 t235 t236 t237 a1_0 a1_1 a1_2 a1_3 a1_4 a1_5 a1_6 a1_7 a1_8 bt262.1 bt262.2.1 bt262.2.2.1 bt262.2.2.2.1 bt262.2.2.2.2.1 bt262.2.2.2.2.2.1 bt262.2.2.2.2.2.2.1 bt262.2.2.2.2.2.2.2.1 bt262.2.2.2.2.2.2.2.2.1)))) else (if a1_1 = 2 then (some (bt262.1 == 0 && (bt262.2.1 == 0 && (bt262.2.2.1 == 0 && (bt262.2.2.2.1 == 0 && (bt262.2.2.2.2.1 == 0 && (bt262.2.2.2.2.2.1 == 0 && (bt262.2.2.2.2.2.2.1 == 0 && (bt262.2.2.2.2.2.2.2.1 == 0 && (bt262.2.2.2.2.2.2.2.2.1 == 0)))))))))) else (some false)))) = some r := H
        have A41 := Aside0.mk A410
        clear A410
        replace H := Option.bind_eq_some_iff.mp H
        obtain ⟨⟨t262, t263, t264, t265, t266, t267, t268, t269, t270, t271⟩, A420, H⟩ := H
        replace H : (if t271 = true then ((joustref03_Of.f t233 t234 t235 t236 t237 a1_2 a1_3).bind fun t273 => ((joustref03_Of.f t233 t234 t235 t236 t237 t264 t265).bind fun t274 => ((joustref03_Near.f kj5 t233 t234 t235 t236 t237 t273).bind fun t275 => (joustlaw07_MovingNear.l0 kj5 t274 t275 false 0 t233 t234 t235 t236 t237 a1_0 a1_1 a1_2 a1_3 a1_4 a1_5 a1_6 a1_7 a1_8 t262 t263 t264 t265 t266 t267 t268 t269 t270)))) else (if a1_1 = 2 then (some (t262 == 0 && (t263 == 0 && (t264 == 0 && (t265 == 0 && (t266 == 0 && (t267 == 0 && (t268 == 0 && (t269 == 0 && (t270 == 0)))))))))) else (some false))) = some r := H
        have A42 := Aside0.mk A420
        clear A420
        by_cases c43 : t271 = true
        · subst c43
          have H1 : ((joustref03_Of.f t233 t234 t235 t236 t237 a1_2 a1_3).bind fun t273 => ((joustref03_Of.f t233 t234 t235 t236 t237 t264 t265).bind fun t274 => ((joustref03_Near.f kj5 t233 t234 t235 t236 t237 t273).bind fun t275 => (joustlaw07_MovingNear.l0 kj5 t274 t275 false 0 t233 t234 t235 t236 t237 a1_0 a1_1 a1_2 a1_3 a1_4 a1_5 a1_6 a1_7 a1_8 t262 t263 t264 t265 t266 t267 t268 t269 t270)))) = some r := by rw [if_pos rfl] at H; exact H
          clear H
          have H := H1
          clear H1
          replace H := Option.bind_eq_some_iff.mp H
          obtain ⟨t273, A440, H⟩ := H
          (try dsimp -simprocs only at H)
          have A44 := Aside0.mk A440
          clear A440
          replace H := Option.bind_eq_some_iff.mp H
          obtain ⟨t274, A450, H⟩ := H
          (try dsimp -simprocs only at H)
          have A45 := Aside0.mk A450
          clear A450
          replace H := Option.bind_eq_some_iff.mp H
          obtain ⟨t275, A460, H⟩ := H
          (try dsimp -simprocs only at H)
          have A46 := Aside0.mk A460
          clear A460
          have H' := Aside0.mk H
          clear H
          try go_wp2
          have n0_ := Aside0.mk (blk_drew BK230.out)
          have n1_ := Aside0.mk (blk_drew BK231.out)
          have n2_ := Aside0.mk (blk_drew BK232.out)
          have n3_ := Aside0.mk (blk_drew BK244.out)
          have n4_ := Aside0.mk (below_drew1 HB.out)
          clear BK230
          clear BK231
          clear BK232
          clear BK244
          clear HB
          have BK230 := n0_
          have BK231 := n1_
          have BK232 := n2_
          have BK244 := n3_
          have HB := n4_
          clear n0_ n1_ n2_ n3_ n4_
          refine start_ (n := 10) (S := fun w' => w'.cell? ⟨gb231, 0, none⟩ = some (.int .i64 a1_0) ∧ w'.cell? ⟨gb231, 1, none⟩ = some (.int .i64 a1_1) ∧ w'.cell? ⟨gb231, 2, none⟩ = some (.int .i64 a1_2) ∧ w'.cell? ⟨gb231, 3, none⟩ = some (.int .i64 a1_3) ∧ w'.cell? ⟨gb231, 4, none⟩ = some (.int .i64 a1_4) ∧ w'.cell? ⟨gb231, 5, none⟩ = some (.int .i64 a1_5) ∧ w'.cell? ⟨gb231, 6, none⟩ = some (.int .i64 a1_6) ∧ w'.cell? ⟨gb231, 7, none⟩ = some (.int .i64 a1_7) ∧ w'.cell? ⟨gb231, 8, none⟩ = some (.int .i64 a1_8) ∧ w'.cell? ⟨gb232, 0, none⟩ = some (.int .i64 a2_0) ∧ w'.cell? ⟨gb232, 1, none⟩ = some (.int .i64 a2_1) ∧ w'.cell? ⟨gb232, 2, none⟩ = some (.bool a2_2)) (ds := []) #[false, false, false, false, false, false, false, false, false, false] (by kernel_rfl) rfl rfl ⟨(blk_cell BK231.out 0).trans rfl, (blk_cell BK231.out 1).trans rfl, (blk_cell BK231.out 2).trans rfl, (blk_cell BK231.out 3).trans rfl, (blk_cell BK231.out 4).trans rfl, (blk_cell BK231.out 5).trans rfl, (blk_cell BK231.out 6).trans rfl, (blk_cell BK231.out 7).trans rfl, (blk_cell BK231.out 8).trans rfl, (blk_cell BK232.out 0).trans rfl, (blk_cell BK232.out 1).trans rfl, (blk_cell BK232.out 2).trans rfl⟩ (fun hHeld => ?_); refine with_tabW joustlaw07_MovingNear.tab5 joustlaw07_MovingNear.bits5 (fun HT_ HW_ => ?_)
          generalize wc.drew = w47 at BK230 BK231 BK232 BK244 HB hHeld ⊢
          refine take_ (i := 0) (N := some 43) (v := ?_) (a' := ?_) #[true, false, false, false, false, false, false, false, false, false] rfl rfl (take_ofW HT_.out HW_.out (by kernel_rfl)) (fun _ _ _ h => h) (Or.inl ⟨by rfl, ?_⟩) hHeld ?_ ?_
          rotate_left
          · rintro w' ⟨s0, s1, s2, s3, s4, s5, s6, s7, s8, s9, s10, s11⟩
            go_simp
            with_reducible rfl
          rotate_left
          · simp only [Act.put, List.setIfInBounds_toArray, List.set_cons_zero, List.set_cons_succ, i64_w, i32_w]
            rfl
          refine take_ (i := 1) (N := some 44) (v := ?_) (a' := ?_) #[true, true, false, false, false, false, false, false, false, false] rfl rfl (take_ofW HT_.out HW_.out (by kernel_rfl)) (fun _ _ _ h => h) (Or.inl ⟨by rfl, ?_⟩) hHeld ?_ ?_
          rotate_left
          · rintro w' ⟨s0, s1, s2, s3, s4, s5, s6, s7, s8, s9, s10, s11⟩
            go_simp
            with_reducible rfl
          rotate_left
          · simp only [Act.put, List.setIfInBounds_toArray, List.set_cons_zero, List.set_cons_succ, i64_w, i32_w]
            rfl
          refine join_ (σ := Nat) 2 #[true, true, true, true, true, true, true, true, false, false] (fun s_ => [(45, .agg #[.int .i64 t248, .int .i64 t249, .bool t250]), (46, .tuple #[.agg #[.int .i64 t251, .int .i64 t252, .int .i64 t253, .int .i64 t254, .int .i64 t255, .int .i64 t256, .int .i64 t257, .int .i64 t258, .int .i64 t259], .bool t260]), (9, .pointer (some ⟨s_, 0, none⟩)), (42, .tuple #[.agg #[.int .i64 t251, .int .i64 t252, .int .i64 t253, .int .i64 t254, .int .i64 t255, .int .i64 t256, .int .i64 t257, .int .i64 t258, .int .i64 t259], .bool t260]), (47, .agg #[.int .i64 t251, .int .i64 t252, .int .i64 t253, .int .i64 t254, .int .i64 t255, .int .i64 t256, .int .i64 t257, .int .i64 t258, .int .i64 t259]), (48, .bool t260)]) (fun s_ w' => (w'.cell? ⟨gb231, 0, none⟩ = some (.int .i64 a1_0) ∧ w'.cell? ⟨gb231, 1, none⟩ = some (.int .i64 a1_1) ∧ w'.cell? ⟨gb231, 2, none⟩ = some (.int .i64 a1_2) ∧ w'.cell? ⟨gb231, 3, none⟩ = some (.int .i64 a1_3) ∧ w'.cell? ⟨gb231, 4, none⟩ = some (.int .i64 a1_4) ∧ w'.cell? ⟨gb231, 5, none⟩ = some (.int .i64 a1_5) ∧ w'.cell? ⟨gb231, 6, none⟩ = some (.int .i64 a1_6) ∧ w'.cell? ⟨gb231, 7, none⟩ = some (.int .i64 a1_7) ∧ w'.cell? ⟨gb231, 8, none⟩ = some (.int .i64 a1_8) ∧ w'.cell? ⟨gb232, 0, none⟩ = some (.int .i64 a2_0) ∧ w'.cell? ⟨gb232, 1, none⟩ = some (.int .i64 a2_1) ∧ w'.cell? ⟨gb232, 2, none⟩ = some (.bool a2_2)) ∧ (w'.heap[gb230]? = some (.cells #[.int .i64 t233, .int .i64 t234, .int .i64 t235, .int .i64 t236, .int .u64 t237] 24 (0, 0))) ∧ (w'.heap[gb231]? = some (.cells #[.int .i64 a1_0, .int .i64 a1_1, .int .i64 a1_2, .int .i64 a1_3, .int .i64 a1_4, .int .i64 a1_5, .int .i64 a1_6, .int .i64 a1_7, .int .i64 a1_8] 26 (0, 0))) ∧ (w'.heap[gb232]? = some (.cells #[.int .i64 a2_0, .int .i64 a2_1, .bool a2_2] 28 (0, 0))) ∧ (w'.heap[gb244]? = some (.cells #[.int .i64 t238, .int .i64 t239, .int .i64 t240, .int .i64 t241, .int .u64 t242] 30 (0, 0))) ∧ (w'.heap[s_]? = some (.cells #[.int .i64 0, .int .i64 0, .int .i64 0, .int .i64 0, .int .i64 0, .int .i64 0, .int .i64 0, .int .i64 0, .int .i64 0] 26 (0, 0))) ∧ (w.heap.size ≤ s_) ∧ (w.heap.size ≤ s_) ∧ (gb230 ≠ s_) ∧ (s_ ≠ gb230) ∧ (gb231 ≠ s_) ∧ (s_ ≠ gb231) ∧ (gb232 ≠ s_) ∧ (s_ ≠ gb232) ∧ (gb244 ≠ s_) ∧ (s_ ≠ gb244) ∧ (Below w.heap.size w w')) ?_ ?_
          rotate_left
          · intro hCont
            refine two_ (i := 2) (j := 7) (Ni := some 45) (Nj := some 9) #[true, true, true, false, false, false, false, false, false, false] #[true, true, false, false, false, false, false, true, false, false] rfl rfl rfl rfl (two_of HT_.out (by kernel_rfl)) (by decide) (by decide) (fun K hK => ?_) (fun K hK => ?_)
            · skip
              refine goes_ Try.func18 (by kernel_rfl) rfl #[.agg #[.int .i64 a2_0, .int .i64 a2_1, .bool a2_2]] (by rfl) rfl rfl au13_8 ?_
              with_reducible refine (joustplay_Input.calls a2_0 a2_1 a2_2 t248 t249 t250 _ A40.out).mono ?_
              rintro e w48 ⟨rfl, hb⟩
              refine ⟨_, rfl, ?_⟩
              have n0_ := Aside0.mk (blk_below (g := gb230) (o := .cells #[.int .i64 t233, .int .i64 t234, .int .i64 t235, .int .i64 t236, .int .u64 t237] 24 (0, 0)) au13_1 hb)
              have n1_ := Aside0.mk (blk_below (g := gb231) (o := .cells #[.int .i64 a1_0, .int .i64 a1_1, .int .i64 a1_2, .int .i64 a1_3, .int .i64 a1_4, .int .i64 a1_5, .int .i64 a1_6, .int .i64 a1_7, .int .i64 a1_8] 26 (0, 0)) au13_2 hb)
              have n2_ := Aside0.mk (blk_below (g := gb232) (o := .cells #[.int .i64 a2_0, .int .i64 a2_1, .bool a2_2] 28 (0, 0)) au13_3 hb)
              have n3_ := Aside0.mk (blk_below (g := gb244) (o := .cells #[.int .i64 t238, .int .i64 t239, .int .i64 t240, .int .i64 t241, .int .u64 t242] 30 (0, 0)) au13_4 hb)
              have n4_ := Aside0.mk (below_step au13_0 hb)
              clear BK230
              clear BK231
              clear BK232
              clear BK244
              clear HB
              have BK230 := n0_
              have BK231 := n1_
              have BK232 := n2_
              have BK244 := n3_
              have HB := n4_
              clear n0_ n1_ n2_ n3_ n4_
              (try clear hb)
              (try clear hb2)
              (try clear hk)
              (try clear hi)
              refine hK.out _ _ ⟨(blk_cell BK231.out 0).trans rfl, (blk_cell BK231.out 1).trans rfl, (blk_cell BK231.out 2).trans rfl, (blk_cell BK231.out 3).trans rfl, (blk_cell BK231.out 4).trans rfl, (blk_cell BK231.out 5).trans rfl, (blk_cell BK231.out 6).trans rfl, (blk_cell BK231.out 7).trans rfl, (blk_cell BK231.out 8).trans rfl, (blk_cell BK232.out 0).trans rfl, (blk_cell BK232.out 1).trans rfl, (blk_cell BK232.out 2).trans rfl⟩ (fun hHeld => ?_)
              clear hK K
              refine norm_ (a' := ?_) ?_ ?_
              rotate_left
              · show Act.put _ (some 45) _ = _
                simp only [Act.put, List.setIfInBounds_toArray, List.set_cons_zero, List.set_cons_succ, i64_w, i32_w]
                rfl
              refine two_ (i := 3) (j := 7) (Ni := some 46) (Nj := some 9) #[true, true, true, true, false, false, false, false, false, false] #[true, true, true, false, false, false, false, true, false, false] rfl rfl rfl rfl (two_of HT_.out (by kernel_rfl)) (by decide) (by decide) (fun K hK => ?_) (fun K hK => ?_)
              · skip
                refine goes_ Try.func9 (by kernel_rfl) rfl #[.agg #[.int .i64 a1_0, .int .i64 a1_1, .int .i64 a1_2, .int .i64 a1_3, .int .i64 a1_4, .int .i64 a1_5, .int .i64 a1_6, .int .i64 a1_7, .int .i64 a1_8], .agg #[.int .i64 t248, .int .i64 t249, .bool t250]] (by rfl) rfl rfl au13_8 ?_
                with_reducible refine (moving_Steer.calls kj5 a1_0 a1_1 a1_2 a1_3 a1_4 a1_5 a1_6 a1_7 a1_8 t248 t249 t250 t251 t252 t253 t254 t255 t256 t257 t258 t259 t260 _ A41.out).mono ?_
                rintro e w49 ⟨rfl, hb⟩
                refine ⟨_, rfl, ?_⟩
                have n0_ := Aside0.mk (blk_below (g := gb230) (o := .cells #[.int .i64 t233, .int .i64 t234, .int .i64 t235, .int .i64 t236, .int .u64 t237] 24 (0, 0)) au13_1 hb)
                have n1_ := Aside0.mk (blk_below (g := gb231) (o := .cells #[.int .i64 a1_0, .int .i64 a1_1, .int .i64 a1_2, .int .i64 a1_3, .int .i64 a1_4, .int .i64 a1_5, .int .i64 a1_6, .int .i64 a1_7, .int .i64 a1_8] 26 (0, 0)) au13_2 hb)
                have n2_ := Aside0.mk (blk_below (g := gb232) (o := .cells #[.int .i64 a2_0, .int .i64 a2_1, .bool a2_2] 28 (0, 0)) au13_3 hb)
                have n3_ := Aside0.mk (blk_below (g := gb244) (o := .cells #[.int .i64 t238, .int .i64 t239, .int .i64 t240, .int .i64 t241, .int .u64 t242] 30 (0, 0)) au13_4 hb)
                have n4_ := Aside0.mk (below_step au13_0 hb)
                clear BK230
                clear BK231
                clear BK232
                clear BK244
                clear HB
                have BK230 := n0_
                have BK231 := n1_
                have BK232 := n2_
                have BK244 := n3_
                have HB := n4_
                clear n0_ n1_ n2_ n3_ n4_
                (try clear hb)
                (try clear hb2)
                (try clear hk)
                (try clear hi)
                refine hK.out _ _ ⟨(blk_cell BK231.out 0).trans rfl, (blk_cell BK231.out 1).trans rfl, (blk_cell BK231.out 2).trans rfl, (blk_cell BK231.out 3).trans rfl, (blk_cell BK231.out 4).trans rfl, (blk_cell BK231.out 5).trans rfl, (blk_cell BK231.out 6).trans rfl, (blk_cell BK231.out 7).trans rfl, (blk_cell BK231.out 8).trans rfl, (blk_cell BK232.out 0).trans rfl, (blk_cell BK232.out 1).trans rfl, (blk_cell BK232.out 2).trans rfl⟩ (fun hHeld => ?_)
                clear hK K
                refine norm_ (a' := ?_) ?_ ?_
                rotate_left
                · show Act.put _ (some 46) _ = _
                  simp only [Act.put, List.setIfInBounds_toArray, List.set_cons_zero, List.set_cons_succ, i64_w, i32_w]
                  rfl
                refine pure_ (i := 4) (N := some 42) (v := ?_) (a' := ?_) #[true, true, true, true, true, false, false, false, false, false] rfl rfl (any_of HT_.out (by kernel_rfl)) (fun _ _ _ h => h) (Or.inl ⟨by rfl, ?_⟩) ?_ ?_
                rotate_left
                · intro w'
                  go_simp
                  with_reducible rfl
                rotate_left
                · simp only [Act.put, List.setIfInBounds_toArray, List.set_cons_zero, List.set_cons_succ, i64_w, i32_w]
                  rfl
                refine pure_ (i := 5) (N := some 47) (v := ?_) (a' := ?_) #[true, true, true, true, true, true, false, false, false, false] rfl rfl (any_of HT_.out (by kernel_rfl)) (fun _ _ _ h => h) (Or.inl ⟨by rfl, ?_⟩) ?_ ?_
                rotate_left
                · intro w'
                  go_simp
                  with_reducible rfl
                rotate_left
                · simp only [Act.put, List.setIfInBounds_toArray, List.set_cons_zero, List.set_cons_succ, i64_w, i32_w]
                  rfl
                refine pure_ (i := 6) (N := some 48) (v := ?_) (a' := ?_) #[true, true, true, true, true, true, true, false, false, false] rfl rfl (any_of HT_.out (by kernel_rfl)) (fun _ _ _ h => h) (Or.inl ⟨by rfl, ?_⟩) ?_ ?_
                rotate_left
                · intro w'
                  go_simp
                  with_reducible rfl
                rotate_left
                · simp only [Act.put, List.setIfInBounds_toArray, List.set_cons_zero, List.set_cons_succ, i64_w, i32_w]
                  rfl
                refine one_ (i := 7) (N := some 9) #[true, true, true, true, true, true, true, true, false, false] rfl rfl (one_of HT_.out (by kernel_rfl)) (by decide) (fun K hK => ?_)
                refine box_step ?hg (N := 9) ?hd (cs := #[.int .i64 0, .int .i64 0, .int .i64 0, .int .i64 0, .int .i64 0, .int .i64 0, .int .i64 0, .int .i64 0, .int .i64 0]) (t := 26) ?hr ?_; (case hd => rfl); (case hg => rfl); (case hr => first | (go_simp; done) | (go_simp; rfl))
                intro gb261 hg w50 hbox hb
                have n0_ := Aside0.mk (blk_below (g := gb230) (o := .cells #[.int .i64 t233, .int .i64 t234, .int .i64 t235, .int .i64 t236, .int .u64 t237] 24 (0, 0)) au13_1 hb)
                have n1_ := Aside0.mk (blk_below (g := gb231) (o := .cells #[.int .i64 a1_0, .int .i64 a1_1, .int .i64 a1_2, .int .i64 a1_3, .int .i64 a1_4, .int .i64 a1_5, .int .i64 a1_6, .int .i64 a1_7, .int .i64 a1_8] 26 (0, 0)) au13_2 hb)
                have n2_ := Aside0.mk (blk_below (g := gb232) (o := .cells #[.int .i64 a2_0, .int .i64 a2_1, .bool a2_2] 28 (0, 0)) au13_3 hb)
                have n3_ := Aside0.mk (blk_below (g := gb244) (o := .cells #[.int .i64 t238, .int .i64 t239, .int .i64 t240, .int .i64 t241, .int .u64 t242] 30 (0, 0)) au13_4 hb)
                have n4_ := Aside0.mk (below_step au13_0 hb)
                have n5_ := Aside0.mk (hbox)
                have n6_ := Aside0.mk ((by rw [hg]; exact (below_size au13_0) : w.heap.size ≤ gb261))
                have n7_ := Aside0.mk ((by rw [hg]; exact (below_size au13_0) : w.heap.size ≤ gb261))
                have n8_ := Aside0.mk ((au13_15 : gb230 ≠ gb261))
                have n9_ := Aside0.mk ((au13_16 : gb261 ≠ gb230))
                have n10_ := Aside0.mk ((au13_13 : gb231 ≠ gb261))
                have n11_ := Aside0.mk ((au13_14 : gb261 ≠ gb231))
                have n12_ := Aside0.mk ((au13_20 : gb232 ≠ gb261))
                have n13_ := Aside0.mk ((au13_21 : gb261 ≠ gb232))
                have n14_ := Aside0.mk ((au13_17 : gb244 ≠ gb261))
                have n15_ := Aside0.mk ((au13_18 : gb261 ≠ gb244))
                clear BK230
                clear BK231
                clear BK232
                clear BK244
                clear HB
                have BK230 := n0_
                have BK231 := n1_
                have BK232 := n2_
                have BK244 := n3_
                have HB := n4_
                have BK261 := n5_
                have GW261 := n6_
                have GE261 := n7_
                have NB230_261 := n8_
                have NB261_230 := n9_
                have NB231_261 := n10_
                have NB261_231 := n11_
                have NB232_261 := n12_
                have NB261_232 := n13_
                have NB244_261 := n14_
                have NB261_244 := n15_
                clear n0_ n1_ n2_ n3_ n4_ n5_ n6_ n7_ n8_ n9_ n10_ n11_ n12_ n13_ n14_ n15_
                clear hb hbox hg
                refine hK.out _ _ ⟨(blk_cell BK231.out 0).trans rfl, (blk_cell BK231.out 1).trans rfl, (blk_cell BK231.out 2).trans rfl, (blk_cell BK231.out 3).trans rfl, (blk_cell BK231.out 4).trans rfl, (blk_cell BK231.out 5).trans rfl, (blk_cell BK231.out 6).trans rfl, (blk_cell BK231.out 7).trans rfl, (blk_cell BK231.out 8).trans rfl, (blk_cell BK232.out 0).trans rfl, (blk_cell BK232.out 1).trans rfl, (blk_cell BK232.out 2).trans rfl⟩ (fun hHeld => ?_)
                clear hK K
                refine norm_ (a' := ?_) ?_ ?_
                rotate_left
                · show Act.put _ (some 9) _ = _
                  simp only [Act.put, List.setIfInBounds_toArray, List.set_cons_zero, List.set_cons_succ, i64_w, i32_w]
                  rfl
                exact norm_ au13_24 (hCont (gb261) _ ⟨hHeld, au13_1, au13_2, au13_3, au13_4, au13_9, GW261.out, GE261.out, NB230_261.out, NB261_230.out, NB231_261.out, NB261_231.out, NB232_261.out, NB261_232.out, NB244_261.out, NB261_244.out, au13_5⟩)
              · skip
                refine box_step ?hg (N := 9) ?hd (cs := #[.int .i64 0, .int .i64 0, .int .i64 0, .int .i64 0, .int .i64 0, .int .i64 0, .int .i64 0, .int .i64 0, .int .i64 0]) (t := 26) ?hr ?_; (case hd => rfl); (case hg => rfl); (case hr => first | (go_simp; done) | (go_simp; rfl))
                intro gb261 hg w49 hbox hb
                have n0_ := Aside0.mk (blk_below (g := gb230) (o := .cells #[.int .i64 t233, .int .i64 t234, .int .i64 t235, .int .i64 t236, .int .u64 t237] 24 (0, 0)) au13_1 hb)
                have n1_ := Aside0.mk (blk_below (g := gb231) (o := .cells #[.int .i64 a1_0, .int .i64 a1_1, .int .i64 a1_2, .int .i64 a1_3, .int .i64 a1_4, .int .i64 a1_5, .int .i64 a1_6, .int .i64 a1_7, .int .i64 a1_8] 26 (0, 0)) au13_2 hb)
                have n2_ := Aside0.mk (blk_below (g := gb232) (o := .cells #[.int .i64 a2_0, .int .i64 a2_1, .bool a2_2] 28 (0, 0)) au13_3 hb)
                have n3_ := Aside0.mk (blk_below (g := gb244) (o := .cells #[.int .i64 t238, .int .i64 t239, .int .i64 t240, .int .i64 t241, .int .u64 t242] 30 (0, 0)) au13_4 hb)
                have n4_ := Aside0.mk (below_step au13_0 hb)
                have n5_ := Aside0.mk (hbox)
                have n6_ := Aside0.mk ((by rw [hg]; exact (below_size au13_0) : w.heap.size ≤ gb261))
                have n7_ := Aside0.mk ((by rw [hg]; exact (below_size au13_0) : w.heap.size ≤ gb261))
                have n8_ := Aside0.mk ((au13_15 : gb230 ≠ gb261))
                have n9_ := Aside0.mk ((au13_16 : gb261 ≠ gb230))
                have n10_ := Aside0.mk ((au13_13 : gb231 ≠ gb261))
                have n11_ := Aside0.mk ((au13_14 : gb261 ≠ gb231))
                have n12_ := Aside0.mk ((au13_20 : gb232 ≠ gb261))
                have n13_ := Aside0.mk ((au13_21 : gb261 ≠ gb232))
                have n14_ := Aside0.mk ((au13_17 : gb244 ≠ gb261))
                have n15_ := Aside0.mk ((au13_18 : gb261 ≠ gb244))
                clear BK230
                clear BK231
                clear BK232
                clear BK244
                clear HB
                have BK230 := n0_
                have BK231 := n1_
                have BK232 := n2_
                have BK244 := n3_
                have HB := n4_
                have BK261 := n5_
                have GW261 := n6_
                have GE261 := n7_
                have NB230_261 := n8_
                have NB261_230 := n9_
                have NB231_261 := n10_
                have NB261_231 := n11_
                have NB232_261 := n12_
                have NB261_232 := n13_
                have NB244_261 := n14_
                have NB261_244 := n15_
                clear n0_ n1_ n2_ n3_ n4_ n5_ n6_ n7_ n8_ n9_ n10_ n11_ n12_ n13_ n14_ n15_
                clear hb hbox hg
                refine hK.out _ _ ⟨(blk_cell BK231.out 0).trans rfl, (blk_cell BK231.out 1).trans rfl, (blk_cell BK231.out 2).trans rfl, (blk_cell BK231.out 3).trans rfl, (blk_cell BK231.out 4).trans rfl, (blk_cell BK231.out 5).trans rfl, (blk_cell BK231.out 6).trans rfl, (blk_cell BK231.out 7).trans rfl, (blk_cell BK231.out 8).trans rfl, (blk_cell BK232.out 0).trans rfl, (blk_cell BK232.out 1).trans rfl, (blk_cell BK232.out 2).trans rfl⟩ (fun hHeld => ?_)
                clear hK K
                refine norm_ (a' := ?_) ?_ ?_
                rotate_left
                · show Act.put _ (some 9) _ = _
                  simp only [Act.put, List.setIfInBounds_toArray, List.set_cons_zero, List.set_cons_succ, i64_w, i32_w]
                  rfl
                refine one_ (i := 3) (N := some 46) #[true, true, true, true, false, false, false, true, false, false] rfl rfl (one_of HT_.out (by kernel_rfl)) (by decide) (fun K hK => ?_)
                refine goes_ Try.func9 (by kernel_rfl) rfl #[.agg #[.int .i64 a1_0, .int .i64 a1_1, .int .i64 a1_2, .int .i64 a1_3, .int .i64 a1_4, .int .i64 a1_5, .int .i64 a1_6, .int .i64 a1_7, .int .i64 a1_8], .agg #[.int .i64 t248, .int .i64 t249, .bool t250]] (by rfl) rfl rfl au13_8 ?_
                with_reducible refine (moving_Steer.calls kj5 a1_0 a1_1 a1_2 a1_3 a1_4 a1_5 a1_6 a1_7 a1_8 t248 t249 t250 t251 t252 t253 t254 t255 t256 t257 t258 t259 t260 _ A41.out).mono ?_
                rintro e w50 ⟨rfl, hb⟩
                refine ⟨_, rfl, ?_⟩
                have n0_ := Aside0.mk (blk_below (g := gb230) (o := .cells #[.int .i64 t233, .int .i64 t234, .int .i64 t235, .int .i64 t236, .int .u64 t237] 24 (0, 0)) au13_1 hb)
                have n1_ := Aside0.mk (blk_below (g := gb231) (o := .cells #[.int .i64 a1_0, .int .i64 a1_1, .int .i64 a1_2, .int .i64 a1_3, .int .i64 a1_4, .int .i64 a1_5, .int .i64 a1_6, .int .i64 a1_7, .int .i64 a1_8] 26 (0, 0)) au13_2 hb)
                have n2_ := Aside0.mk (blk_below (g := gb232) (o := .cells #[.int .i64 a2_0, .int .i64 a2_1, .bool a2_2] 28 (0, 0)) au13_3 hb)
                have n3_ := Aside0.mk (blk_below (g := gb244) (o := .cells #[.int .i64 t238, .int .i64 t239, .int .i64 t240, .int .i64 t241, .int .u64 t242] 30 (0, 0)) au13_4 hb)
                have n4_ := Aside0.mk (blk_below (g := gb261) (o := .cells #[.int .i64 0, .int .i64 0, .int .i64 0, .int .i64 0, .int .i64 0, .int .i64 0, .int .i64 0, .int .i64 0, .int .i64 0] 26 (0, 0)) au13_9 hb)
                have n5_ := Aside0.mk (below_step au13_5 hb)
                clear BK230
                clear BK231
                clear BK232
                clear BK244
                clear BK261
                clear HB
                have BK230 := n0_
                have BK231 := n1_
                have BK232 := n2_
                have BK244 := n3_
                have BK261 := n4_
                have HB := n5_
                clear n0_ n1_ n2_ n3_ n4_ n5_
                (try clear hb)
                (try clear hb2)
                (try clear hk)
                (try clear hi)
                refine hK.out _ _ ⟨(blk_cell BK231.out 0).trans rfl, (blk_cell BK231.out 1).trans rfl, (blk_cell BK231.out 2).trans rfl, (blk_cell BK231.out 3).trans rfl, (blk_cell BK231.out 4).trans rfl, (blk_cell BK231.out 5).trans rfl, (blk_cell BK231.out 6).trans rfl, (blk_cell BK231.out 7).trans rfl, (blk_cell BK231.out 8).trans rfl, (blk_cell BK232.out 0).trans rfl, (blk_cell BK232.out 1).trans rfl, (blk_cell BK232.out 2).trans rfl⟩ (fun hHeld => ?_)
                clear hK K
                refine norm_ (a' := ?_) ?_ ?_
                rotate_left
                · show Act.put _ (some 46) _ = _
                  simp only [Act.put, List.setIfInBounds_toArray, List.set_cons_zero, List.set_cons_succ, i64_w, i32_w]
                  rfl
                refine pure_ (i := 4) (N := some 42) (v := ?_) (a' := ?_) #[true, true, true, true, true, false, false, true, false, false] rfl rfl (any_of HT_.out (by kernel_rfl)) (fun _ _ _ h => h) (Or.inl ⟨by rfl, ?_⟩) ?_ ?_
                rotate_left
                · intro w'
                  go_simp
                  with_reducible rfl
                rotate_left
                · simp only [Act.put, List.setIfInBounds_toArray, List.set_cons_zero, List.set_cons_succ, i64_w, i32_w]
                  rfl
                refine pure_ (i := 5) (N := some 47) (v := ?_) (a' := ?_) #[true, true, true, true, true, true, false, true, false, false] rfl rfl (any_of HT_.out (by kernel_rfl)) (fun _ _ _ h => h) (Or.inl ⟨by rfl, ?_⟩) ?_ ?_
                rotate_left
                · intro w'
                  go_simp
                  with_reducible rfl
                rotate_left
                · simp only [Act.put, List.setIfInBounds_toArray, List.set_cons_zero, List.set_cons_succ, i64_w, i32_w]
                  rfl
                refine pure_ (i := 6) (N := some 48) (v := ?_) (a' := ?_) #[true, true, true, true, true, true, true, true, false, false] rfl rfl (any_of HT_.out (by kernel_rfl)) (fun _ _ _ h => h) (Or.inl ⟨by rfl, ?_⟩) ?_ ?_
                rotate_left
                · intro w'
                  go_simp
                  with_reducible rfl
                rotate_left
                · simp only [Act.put, List.setIfInBounds_toArray, List.set_cons_zero, List.set_cons_succ, i64_w, i32_w]
                  rfl
                exact norm_ au13_24 (hCont (gb261) _ ⟨hHeld, au13_1, au13_2, au13_3, au13_4, au13_9, GW261.out, GE261.out, NB230_261.out, NB261_230.out, NB231_261.out, NB261_231.out, NB232_261.out, NB261_232.out, NB244_261.out, NB261_244.out, au13_5⟩)
            · skip
              refine box_step ?hg (N := 9) ?hd (cs := #[.int .i64 0, .int .i64 0, .int .i64 0, .int .i64 0, .int .i64 0, .int .i64 0, .int .i64 0, .int .i64 0, .int .i64 0]) (t := 26) ?hr ?_; (case hd => rfl); (case hg => rfl); (case hr => first | (go_simp; done) | (go_simp; rfl))
              intro gb261 hg w48 hbox hb
              have n0_ := Aside0.mk (blk_below (g := gb230) (o := .cells #[.int .i64 t233, .int .i64 t234, .int .i64 t235, .int .i64 t236, .int .u64 t237] 24 (0, 0)) au13_1 hb)
              have n1_ := Aside0.mk (blk_below (g := gb231) (o := .cells #[.int .i64 a1_0, .int .i64 a1_1, .int .i64 a1_2, .int .i64 a1_3, .int .i64 a1_4, .int .i64 a1_5, .int .i64 a1_6, .int .i64 a1_7, .int .i64 a1_8] 26 (0, 0)) au13_2 hb)
              have n2_ := Aside0.mk (blk_below (g := gb232) (o := .cells #[.int .i64 a2_0, .int .i64 a2_1, .bool a2_2] 28 (0, 0)) au13_3 hb)
              have n3_ := Aside0.mk (blk_below (g := gb244) (o := .cells #[.int .i64 t238, .int .i64 t239, .int .i64 t240, .int .i64 t241, .int .u64 t242] 30 (0, 0)) au13_4 hb)
              have n4_ := Aside0.mk (below_step au13_0 hb)
              have n5_ := Aside0.mk (hbox)
              have n6_ := Aside0.mk ((by rw [hg]; exact (below_size au13_0) : w.heap.size ≤ gb261))
              have n7_ := Aside0.mk ((by rw [hg]; exact (below_size au13_0) : w.heap.size ≤ gb261))
              have n8_ := Aside0.mk ((au13_15 : gb230 ≠ gb261))
              have n9_ := Aside0.mk ((au13_16 : gb261 ≠ gb230))
              have n10_ := Aside0.mk ((au13_13 : gb231 ≠ gb261))
              have n11_ := Aside0.mk ((au13_14 : gb261 ≠ gb231))
              have n12_ := Aside0.mk ((au13_20 : gb232 ≠ gb261))
              have n13_ := Aside0.mk ((au13_21 : gb261 ≠ gb232))
              have n14_ := Aside0.mk ((au13_17 : gb244 ≠ gb261))
              have n15_ := Aside0.mk ((au13_18 : gb261 ≠ gb244))
              clear BK230
              clear BK231
              clear BK232
              clear BK244
              clear HB
              have BK230 := n0_
              have BK231 := n1_
              have BK232 := n2_
              have BK244 := n3_
              have HB := n4_
              have BK261 := n5_
              have GW261 := n6_
              have GE261 := n7_
              have NB230_261 := n8_
              have NB261_230 := n9_
              have NB231_261 := n10_
              have NB261_231 := n11_
              have NB232_261 := n12_
              have NB261_232 := n13_
              have NB244_261 := n14_
              have NB261_244 := n15_
              clear n0_ n1_ n2_ n3_ n4_ n5_ n6_ n7_ n8_ n9_ n10_ n11_ n12_ n13_ n14_ n15_
              clear hb hbox hg
              refine hK.out _ _ ⟨(blk_cell BK231.out 0).trans rfl, (blk_cell BK231.out 1).trans rfl, (blk_cell BK231.out 2).trans rfl, (blk_cell BK231.out 3).trans rfl, (blk_cell BK231.out 4).trans rfl, (blk_cell BK231.out 5).trans rfl, (blk_cell BK231.out 6).trans rfl, (blk_cell BK231.out 7).trans rfl, (blk_cell BK231.out 8).trans rfl, (blk_cell BK232.out 0).trans rfl, (blk_cell BK232.out 1).trans rfl, (blk_cell BK232.out 2).trans rfl⟩ (fun hHeld => ?_)
              clear hK K
              refine norm_ (a' := ?_) ?_ ?_
              rotate_left
              · show Act.put _ (some 9) _ = _
                simp only [Act.put, List.setIfInBounds_toArray, List.set_cons_zero, List.set_cons_succ, i64_w, i32_w]
                rfl
              refine one_ (i := 2) (N := some 45) #[true, true, true, false, false, false, false, true, false, false] rfl rfl (one_of HT_.out (by kernel_rfl)) (by decide) (fun K hK => ?_)
              refine goes_ Try.func18 (by kernel_rfl) rfl #[.agg #[.int .i64 a2_0, .int .i64 a2_1, .bool a2_2]] (by rfl) rfl rfl au13_8 ?_
              with_reducible refine (joustplay_Input.calls a2_0 a2_1 a2_2 t248 t249 t250 _ A40.out).mono ?_
              rintro e w49 ⟨rfl, hb⟩
              refine ⟨_, rfl, ?_⟩
              have n0_ := Aside0.mk (blk_below (g := gb230) (o := .cells #[.int .i64 t233, .int .i64 t234, .int .i64 t235, .int .i64 t236, .int .u64 t237] 24 (0, 0)) au13_1 hb)
              have n1_ := Aside0.mk (blk_below (g := gb231) (o := .cells #[.int .i64 a1_0, .int .i64 a1_1, .int .i64 a1_2, .int .i64 a1_3, .int .i64 a1_4, .int .i64 a1_5, .int .i64 a1_6, .int .i64 a1_7, .int .i64 a1_8] 26 (0, 0)) au13_2 hb)
              have n2_ := Aside0.mk (blk_below (g := gb232) (o := .cells #[.int .i64 a2_0, .int .i64 a2_1, .bool a2_2] 28 (0, 0)) au13_3 hb)
              have n3_ := Aside0.mk (blk_below (g := gb244) (o := .cells #[.int .i64 t238, .int .i64 t239, .int .i64 t240, .int .i64 t241, .int .u64 t242] 30 (0, 0)) au13_4 hb)
              have n4_ := Aside0.mk (blk_below (g := gb261) (o := .cells #[.int .i64 0, .int .i64 0, .int .i64 0, .int .i64 0, .int .i64 0, .int .i64 0, .int .i64 0, .int .i64 0, .int .i64 0] 26 (0, 0)) au13_9 hb)
              have n5_ := Aside0.mk (below_step au13_5 hb)
              clear BK230
              clear BK231
              clear BK232
              clear BK244
              clear BK261
              clear HB
              have BK230 := n0_
              have BK231 := n1_
              have BK232 := n2_
              have BK244 := n3_
              have BK261 := n4_
              have HB := n5_
              clear n0_ n1_ n2_ n3_ n4_ n5_
              (try clear hb)
              (try clear hb2)
              (try clear hk)
              (try clear hi)
              refine hK.out _ _ ⟨(blk_cell BK231.out 0).trans rfl, (blk_cell BK231.out 1).trans rfl, (blk_cell BK231.out 2).trans rfl, (blk_cell BK231.out 3).trans rfl, (blk_cell BK231.out 4).trans rfl, (blk_cell BK231.out 5).trans rfl, (blk_cell BK231.out 6).trans rfl, (blk_cell BK231.out 7).trans rfl, (blk_cell BK231.out 8).trans rfl, (blk_cell BK232.out 0).trans rfl, (blk_cell BK232.out 1).trans rfl, (blk_cell BK232.out 2).trans rfl⟩ (fun hHeld => ?_)
              clear hK K
              refine norm_ (a' := ?_) ?_ ?_
              rotate_left
              · show Act.put _ (some 45) _ = _
                simp only [Act.put, List.setIfInBounds_toArray, List.set_cons_zero, List.set_cons_succ, i64_w, i32_w]
                rfl
              refine one_ (i := 3) (N := some 46) #[true, true, true, true, false, false, false, true, false, false] rfl rfl (one_of HT_.out (by kernel_rfl)) (by decide) (fun K hK => ?_)
              refine goes_ Try.func9 (by kernel_rfl) rfl #[.agg #[.int .i64 a1_0, .int .i64 a1_1, .int .i64 a1_2, .int .i64 a1_3, .int .i64 a1_4, .int .i64 a1_5, .int .i64 a1_6, .int .i64 a1_7, .int .i64 a1_8], .agg #[.int .i64 t248, .int .i64 t249, .bool t250]] (by rfl) rfl rfl au13_8 ?_
              with_reducible refine (moving_Steer.calls kj5 a1_0 a1_1 a1_2 a1_3 a1_4 a1_5 a1_6 a1_7 a1_8 t248 t249 t250 t251 t252 t253 t254 t255 t256 t257 t258 t259 t260 _ A41.out).mono ?_
              rintro e w50 ⟨rfl, hb⟩
              refine ⟨_, rfl, ?_⟩
              have n0_ := Aside0.mk (blk_below (g := gb230) (o := .cells #[.int .i64 t233, .int .i64 t234, .int .i64 t235, .int .i64 t236, .int .u64 t237] 24 (0, 0)) au13_1 hb)
              have n1_ := Aside0.mk (blk_below (g := gb231) (o := .cells #[.int .i64 a1_0, .int .i64 a1_1, .int .i64 a1_2, .int .i64 a1_3, .int .i64 a1_4, .int .i64 a1_5, .int .i64 a1_6, .int .i64 a1_7, .int .i64 a1_8] 26 (0, 0)) au13_2 hb)
              have n2_ := Aside0.mk (blk_below (g := gb232) (o := .cells #[.int .i64 a2_0, .int .i64 a2_1, .bool a2_2] 28 (0, 0)) au13_3 hb)
              have n3_ := Aside0.mk (blk_below (g := gb244) (o := .cells #[.int .i64 t238, .int .i64 t239, .int .i64 t240, .int .i64 t241, .int .u64 t242] 30 (0, 0)) au13_4 hb)
              have n4_ := Aside0.mk (blk_below (g := gb261) (o := .cells #[.int .i64 0, .int .i64 0, .int .i64 0, .int .i64 0, .int .i64 0, .int .i64 0, .int .i64 0, .int .i64 0, .int .i64 0] 26 (0, 0)) au13_9 hb)
              have n5_ := Aside0.mk (below_step au13_5 hb)
              clear BK230
              clear BK231
              clear BK232
              clear BK244
              clear BK261
              clear HB
              have BK230 := n0_
              have BK231 := n1_
              have BK232 := n2_
              have BK244 := n3_
              have BK261 := n4_
              have HB := n5_
              clear n0_ n1_ n2_ n3_ n4_ n5_
              (try clear hb)
              (try clear hb2)
              (try clear hk)
              (try clear hi)
              refine hK.out _ _ ⟨(blk_cell BK231.out 0).trans rfl, (blk_cell BK231.out 1).trans rfl, (blk_cell BK231.out 2).trans rfl, (blk_cell BK231.out 3).trans rfl, (blk_cell BK231.out 4).trans rfl, (blk_cell BK231.out 5).trans rfl, (blk_cell BK231.out 6).trans rfl, (blk_cell BK231.out 7).trans rfl, (blk_cell BK231.out 8).trans rfl, (blk_cell BK232.out 0).trans rfl, (blk_cell BK232.out 1).trans rfl, (blk_cell BK232.out 2).trans rfl⟩ (fun hHeld => ?_)
              clear hK K
              refine norm_ (a' := ?_) ?_ ?_
              rotate_left
              · show Act.put _ (some 46) _ = _
                simp only [Act.put, List.setIfInBounds_toArray, List.set_cons_zero, List.set_cons_succ, i64_w, i32_w]
                rfl
              refine pure_ (i := 4) (N := some 42) (v := ?_) (a' := ?_) #[true, true, true, true, true, false, false, true, false, false] rfl rfl (any_of HT_.out (by kernel_rfl)) (fun _ _ _ h => h) (Or.inl ⟨by rfl, ?_⟩) ?_ ?_
              rotate_left
              · intro w'
                go_simp
                with_reducible rfl
              rotate_left
              · simp only [Act.put, List.setIfInBounds_toArray, List.set_cons_zero, List.set_cons_succ, i64_w, i32_w]
                rfl
              refine pure_ (i := 5) (N := some 47) (v := ?_) (a' := ?_) #[true, true, true, true, true, true, false, true, false, false] rfl rfl (any_of HT_.out (by kernel_rfl)) (fun _ _ _ h => h) (Or.inl ⟨by rfl, ?_⟩) ?_ ?_
              rotate_left
              · intro w'
                go_simp
                with_reducible rfl
              rotate_left
              · simp only [Act.put, List.setIfInBounds_toArray, List.set_cons_zero, List.set_cons_succ, i64_w, i32_w]
                rfl
              refine pure_ (i := 6) (N := some 48) (v := ?_) (a' := ?_) #[true, true, true, true, true, true, true, true, false, false] rfl rfl (any_of HT_.out (by kernel_rfl)) (fun _ _ _ h => h) (Or.inl ⟨by rfl, ?_⟩) ?_ ?_
              rotate_left
              · intro w'
                go_simp
                with_reducible rfl
              rotate_left
              · simp only [Act.put, List.setIfInBounds_toArray, List.set_cons_zero, List.set_cons_succ, i64_w, i32_w]
                rfl
              exact norm_ au13_24 (hCont (gb261) _ ⟨hHeld, au13_1, au13_2, au13_3, au13_4, au13_9, GW261.out, GE261.out, NB230_261.out, NB261_230.out, NB231_261.out, NB261_231.out, NB232_261.out, NB261_232.out, NB244_261.out, NB261_244.out, au13_5⟩)
          rintro gb261 w51 ⟨hS_, h0_, h1_, h2_, h3_, h4_, h5_, h6_, h7_, h8_, h9_, h10_, h11_, h12_, h13_, h14_, h15_⟩
          have n0_ : Aside0 (w51.heap[gb230]? = some (.cells #[.int .i64 t233, .int .i64 t234, .int .i64 t235, .int .i64 t236, .int .u64 t237] 24 (0, 0))) := ⟨h0_⟩
          have n1_ : Aside0 (w51.heap[gb231]? = some (.cells #[.int .i64 a1_0, .int .i64 a1_1, .int .i64 a1_2, .int .i64 a1_3, .int .i64 a1_4, .int .i64 a1_5, .int .i64 a1_6, .int .i64 a1_7, .int .i64 a1_8] 26 (0, 0))) := ⟨h1_⟩
          have n2_ : Aside0 (w51.heap[gb232]? = some (.cells #[.int .i64 a2_0, .int .i64 a2_1, .bool a2_2] 28 (0, 0))) := ⟨h2_⟩
          have n3_ : Aside0 (w51.heap[gb244]? = some (.cells #[.int .i64 t238, .int .i64 t239, .int .i64 t240, .int .i64 t241, .int .u64 t242] 30 (0, 0))) := ⟨h3_⟩
          have n4_ : Aside0 (w51.heap[gb261]? = some (.cells #[.int .i64 0, .int .i64 0, .int .i64 0, .int .i64 0, .int .i64 0, .int .i64 0, .int .i64 0, .int .i64 0, .int .i64 0] 26 (0, 0))) := ⟨h4_⟩
          have n5_ : Aside0 (w.heap.size ≤ gb261) := ⟨h5_⟩
          have n6_ : Aside0 (w.heap.size ≤ gb261) := ⟨h6_⟩
          have n7_ : Aside0 (gb230 ≠ gb261) := ⟨h7_⟩
          have n8_ : Aside0 (gb261 ≠ gb230) := ⟨h8_⟩
          have n9_ : Aside0 (gb231 ≠ gb261) := ⟨h9_⟩
          have n10_ : Aside0 (gb261 ≠ gb231) := ⟨h10_⟩
          have n11_ : Aside0 (gb232 ≠ gb261) := ⟨h11_⟩
          have n12_ : Aside0 (gb261 ≠ gb232) := ⟨h12_⟩
          have n13_ : Aside0 (gb244 ≠ gb261) := ⟨h13_⟩
          have n14_ : Aside0 (gb261 ≠ gb244) := ⟨h14_⟩
          have n15_ : Aside0 (Below w.heap.size w w51) := ⟨h15_⟩
          clear BK230
          clear BK231
          clear BK232
          clear BK244
          clear HB
          clear h0_ h1_ h2_ h3_ h4_ h5_ h6_ h7_ h8_ h9_ h10_ h11_ h12_ h13_ h14_ h15_
          have BK230 := n0_
          have BK231 := n1_
          have BK232 := n2_
          have BK244 := n3_
          have BK261 := n4_
          have GW261 := n5_
          have GE261 := n6_
          have NB230_261 := n7_
          have NB261_230 := n8_
          have NB231_261 := n9_
          have NB261_231 := n10_
          have NB232_261 := n11_
          have NB261_232 := n12_
          have NB244_261 := n13_
          have NB261_244 := n14_
          have HB := n15_
          clear n0_ n1_ n2_ n3_ n4_ n5_ n6_ n7_ n8_ n9_ n10_ n11_ n12_ n13_ n14_ n15_
          have hHeld : w51.cell? ⟨gb231, 0, none⟩ = some (.int .i64 a1_0) ∧ w51.cell? ⟨gb231, 1, none⟩ = some (.int .i64 a1_1) ∧ w51.cell? ⟨gb231, 2, none⟩ = some (.int .i64 a1_2) ∧ w51.cell? ⟨gb231, 3, none⟩ = some (.int .i64 a1_3) ∧ w51.cell? ⟨gb231, 4, none⟩ = some (.int .i64 a1_4) ∧ w51.cell? ⟨gb231, 5, none⟩ = some (.int .i64 a1_5) ∧ w51.cell? ⟨gb231, 6, none⟩ = some (.int .i64 a1_6) ∧ w51.cell? ⟨gb231, 7, none⟩ = some (.int .i64 a1_7) ∧ w51.cell? ⟨gb231, 8, none⟩ = some (.int .i64 a1_8) ∧ w51.cell? ⟨gb232, 0, none⟩ = some (.int .i64 a2_0) ∧ w51.cell? ⟨gb232, 1, none⟩ = some (.int .i64 a2_1) ∧ w51.cell? ⟨gb232, 2, none⟩ = some (.bool a2_2) := hS_
          refine norm_ (a' := ?_) ?_ ?_
          rotate_left
          · simp only [putAll, Act.put, List.setIfInBounds_toArray, List.set_cons_zero, List.set_cons_succ]
            rfl
          refine one_ (i := 8) (N := none) #[true, true, true, true, true, true, true, true, true, false] rfl rfl (one_of HT_.out (by kernel_rfl)) (by decide) (fun K hK => ?_)
          have hs52 : w51.cell? ⟨gb261, 0, none⟩ = some (.int .i64 0) := (blk_cell BK261.out 0).trans rfl
          have hfs52 := blk_frozen BK261.out 0
          have hns52_0 := NB230_261.out
          have hns52_1 := NB231_261.out
          have hns52_2 := NB232_261.out
          have hns52_3 := NB244_261.out
          have hms52_0 := NB261_230.out
          have hms52_1 := NB261_231.out
          have hms52_2 := NB261_232.out
          have hms52_3 := NB261_244.out
          have hs53 : w51.cell? ⟨gb261, 1, none⟩ = some (.int .i64 0) := (blk_cell BK261.out 1).trans rfl
          have hfs53 := blk_frozen BK261.out 1
          have hns53_0 := NB230_261.out
          have hns53_1 := NB231_261.out
          have hns53_2 := NB232_261.out
          have hns53_3 := NB244_261.out
          have hms53_0 := NB261_230.out
          have hms53_1 := NB261_231.out
          have hms53_2 := NB261_232.out
          have hms53_3 := NB261_244.out
          have hs54 : w51.cell? ⟨gb261, 2, none⟩ = some (.int .i64 0) := (blk_cell BK261.out 2).trans rfl
          have hfs54 := blk_frozen BK261.out 2
          have hns54_0 := NB230_261.out
          have hns54_1 := NB231_261.out
          have hns54_2 := NB232_261.out
          have hns54_3 := NB244_261.out
          have hms54_0 := NB261_230.out
          have hms54_1 := NB261_231.out
          have hms54_2 := NB261_232.out
          have hms54_3 := NB261_244.out
          have hs55 : w51.cell? ⟨gb261, 3, none⟩ = some (.int .i64 0) := (blk_cell BK261.out 3).trans rfl
          have hfs55 := blk_frozen BK261.out 3
          have hns55_0 := NB230_261.out
          have hns55_1 := NB231_261.out
          have hns55_2 := NB232_261.out
          have hns55_3 := NB244_261.out
          have hms55_0 := NB261_230.out
          have hms55_1 := NB261_231.out
          have hms55_2 := NB261_232.out
          have hms55_3 := NB261_244.out
          have hs56 : w51.cell? ⟨gb261, 4, none⟩ = some (.int .i64 0) := (blk_cell BK261.out 4).trans rfl
          have hfs56 := blk_frozen BK261.out 4
          have hns56_0 := NB230_261.out
          have hns56_1 := NB231_261.out
          have hns56_2 := NB232_261.out
          have hns56_3 := NB244_261.out
          have hms56_0 := NB261_230.out
          have hms56_1 := NB261_231.out
          have hms56_2 := NB261_232.out
          have hms56_3 := NB261_244.out
          have hs57 : w51.cell? ⟨gb261, 5, none⟩ = some (.int .i64 0) := (blk_cell BK261.out 5).trans rfl
          have hfs57 := blk_frozen BK261.out 5
          have hns57_0 := NB230_261.out
          have hns57_1 := NB231_261.out
          have hns57_2 := NB232_261.out
          have hns57_3 := NB244_261.out
          have hms57_0 := NB261_230.out
          have hms57_1 := NB261_231.out
          have hms57_2 := NB261_232.out
          have hms57_3 := NB261_244.out
          have hs58 : w51.cell? ⟨gb261, 6, none⟩ = some (.int .i64 0) := (blk_cell BK261.out 6).trans rfl
          have hfs58 := blk_frozen BK261.out 6
          have hns58_0 := NB230_261.out
          have hns58_1 := NB231_261.out
          have hns58_2 := NB232_261.out
          have hns58_3 := NB244_261.out
          have hms58_0 := NB261_230.out
          have hms58_1 := NB261_231.out
          have hms58_2 := NB261_232.out
          have hms58_3 := NB261_244.out
          have hs59 : w51.cell? ⟨gb261, 7, none⟩ = some (.int .i64 0) := (blk_cell BK261.out 7).trans rfl
          have hfs59 := blk_frozen BK261.out 7
          have hns59_0 := NB230_261.out
          have hns59_1 := NB231_261.out
          have hns59_2 := NB232_261.out
          have hns59_3 := NB244_261.out
          have hms59_0 := NB261_230.out
          have hms59_1 := NB261_231.out
          have hms59_2 := NB261_232.out
          have hms59_3 := NB261_244.out
          have hs60 : w51.cell? ⟨gb261, 8, none⟩ = some (.int .i64 0) := (blk_cell BK261.out 8).trans rfl
          have hfs60 := blk_frozen BK261.out 8
          have hns60_0 := NB230_261.out
          have hns60_1 := NB231_261.out
          have hns60_2 := NB232_261.out
          have hns60_3 := NB244_261.out
          have hms60_0 := NB261_230.out
          have hms60_1 := NB261_231.out
          have hms60_2 := NB261_232.out
          have hms60_3 := NB261_244.out
          refine skip_ (w1 := ?_) (by rfl) rfl ?_ ?_
          rotate_left
          · go_simp
            rfl
          refine hK.out _ _ ⟨((cell_far (p := ⟨gb261, _, none⟩) NB231_261.out _).trans (((cell_far (p := ⟨gb261, _, none⟩) NB231_261.out _).trans (((cell_far (p := ⟨gb261, _, none⟩) NB231_261.out _).trans (((cell_far (p := ⟨gb261, _, none⟩) NB231_261.out _).trans (((cell_far (p := ⟨gb261, _, none⟩) NB231_261.out _).trans (((cell_far (p := ⟨gb261, _, none⟩) NB231_261.out _).trans (((cell_far (p := ⟨gb261, _, none⟩) NB231_261.out _).trans (((cell_far (p := ⟨gb261, _, none⟩) NB231_261.out _).trans (((cell_far (p := ⟨gb261, _, none⟩) NB231_261.out _).trans (hHeld.1)))))))))))))))))), ((cell_far (p := ⟨gb261, _, none⟩) NB231_261.out _).trans (((cell_far (p := ⟨gb261, _, none⟩) NB231_261.out _).trans (((cell_far (p := ⟨gb261, _, none⟩) NB231_261.out _).trans (((cell_far (p := ⟨gb261, _, none⟩) NB231_261.out _).trans (((cell_far (p := ⟨gb261, _, none⟩) NB231_261.out _).trans (((cell_far (p := ⟨gb261, _, none⟩) NB231_261.out _).trans (((cell_far (p := ⟨gb261, _, none⟩) NB231_261.out _).trans (((cell_far (p := ⟨gb261, _, none⟩) NB231_261.out _).trans (((cell_far (p := ⟨gb261, _, none⟩) NB231_261.out _).trans (hHeld.2.1)))))))))))))))))), ((cell_far (p := ⟨gb261, _, none⟩) NB231_261.out _).trans (((cell_far (p := ⟨gb261, _, none⟩) NB231_261.out _).trans (((cell_far (p := ⟨gb261, _, none⟩) NB231_261.out _).trans (((cell_far (p := ⟨gb261, _, none⟩) NB231_261.out _).trans (((cell_far (p := ⟨gb261, _, none⟩) NB231_261.out _).trans (((cell_far (p := ⟨gb261, _, none⟩) NB231_261.out _).trans (((cell_far (p := ⟨gb261, _, none⟩) NB231_261.out _).trans (((cell_far (p := ⟨gb261, _, none⟩) NB231_261.out _).trans (((cell_far (p := ⟨gb261, _, none⟩) NB231_261.out _).trans (hHeld.2.2.1)))))))))))))))))), ((cell_far (p := ⟨gb261, _, none⟩) NB231_261.out _).trans (((cell_far (p := ⟨gb261, _, none⟩) NB231_261.out _).trans (((cell_far (p := ⟨gb261, _, none⟩) NB231_261.out _).trans (((cell_far (p := ⟨gb261, _, none⟩) NB231_261.out _).trans (((cell_far (p := ⟨gb261, _, none⟩) NB231_261.out _).trans (((cell_far (p := ⟨gb261, _, none⟩) NB231_261.out _).trans (((cell_far (p := ⟨gb261, _, none⟩) NB231_261.out _).trans (((cell_far (p := ⟨gb261, _, none⟩) NB231_261.out _).trans (((cell_far (p := ⟨gb261, _, none⟩) NB231_261.out _).trans (hHeld.2.2.2.1)))))))))))))))))), ((cell_far (p := ⟨gb261, _, none⟩) NB231_261.out _).trans (((cell_far (p := ⟨gb261, _, none⟩) NB231_261.out _).trans (((cell_far (p := ⟨gb261, _, none⟩) NB231_261.out _).trans (((cell_far (p := ⟨gb261, _, none⟩) NB231_261.out _).trans (((cell_far (p := ⟨gb261, _, none⟩) NB231_261.out _).trans (((cell_far (p := ⟨gb261, _, none⟩) NB231_261.out _).trans (((cell_far (p := ⟨gb261, _, none⟩) NB231_261.out _).trans (((cell_far (p := ⟨gb261, _, none⟩) NB231_261.out _).trans (((cell_far (p := ⟨gb261, _, none⟩) NB231_261.out _).trans (hHeld.2.2.2.2.1)))))))))))))))))), ((cell_far (p := ⟨gb261, _, none⟩) NB231_261.out _).trans (((cell_far (p := ⟨gb261, _, none⟩) NB231_261.out _).trans (((cell_far (p := ⟨gb261, _, none⟩) NB231_261.out _).trans (((cell_far (p := ⟨gb261, _, none⟩) NB231_261.out _).trans (((cell_far (p := ⟨gb261, _, none⟩) NB231_261.out _).trans (((cell_far (p := ⟨gb261, _, none⟩) NB231_261.out _).trans (((cell_far (p := ⟨gb261, _, none⟩) NB231_261.out _).trans (((cell_far (p := ⟨gb261, _, none⟩) NB231_261.out _).trans (((cell_far (p := ⟨gb261, _, none⟩) NB231_261.out _).trans (hHeld.2.2.2.2.2.1)))))))))))))))))), ((cell_far (p := ⟨gb261, _, none⟩) NB231_261.out _).trans (((cell_far (p := ⟨gb261, _, none⟩) NB231_261.out _).trans (((cell_far (p := ⟨gb261, _, none⟩) NB231_261.out _).trans (((cell_far (p := ⟨gb261, _, none⟩) NB231_261.out _).trans (((cell_far (p := ⟨gb261, _, none⟩) NB231_261.out _).trans (((cell_far (p := ⟨gb261, _, none⟩) NB231_261.out _).trans (((cell_far (p := ⟨gb261, _, none⟩) NB231_261.out _).trans (((cell_far (p := ⟨gb261, _, none⟩) NB231_261.out _).trans (((cell_far (p := ⟨gb261, _, none⟩) NB231_261.out _).trans (hHeld.2.2.2.2.2.2.1)))))))))))))))))), ((cell_far (p := ⟨gb261, _, none⟩) NB231_261.out _).trans (((cell_far (p := ⟨gb261, _, none⟩) NB231_261.out _).trans (((cell_far (p := ⟨gb261, _, none⟩) NB231_261.out _).trans (((cell_far (p := ⟨gb261, _, none⟩) NB231_261.out _).trans (((cell_far (p := ⟨gb261, _, none⟩) NB231_261.out _).trans (((cell_far (p := ⟨gb261, _, none⟩) NB231_261.out _).trans (((cell_far (p := ⟨gb261, _, none⟩) NB231_261.out _).trans (((cell_far (p := ⟨gb261, _, none⟩) NB231_261.out _).trans (((cell_far (p := ⟨gb261, _, none⟩) NB231_261.out _).trans (hHeld.2.2.2.2.2.2.2.1)))))))))))))))))), ((cell_far (p := ⟨gb261, _, none⟩) NB231_261.out _).trans (((cell_far (p := ⟨gb261, _, none⟩) NB231_261.out _).trans (((cell_far (p := ⟨gb261, _, none⟩) NB231_261.out _).trans (((cell_far (p := ⟨gb261, _, none⟩) NB231_261.out _).trans (((cell_far (p := ⟨gb261, _, none⟩) NB231_261.out _).trans (((cell_far (p := ⟨gb261, _, none⟩) NB231_261.out _).trans (((cell_far (p := ⟨gb261, _, none⟩) NB231_261.out _).trans (((cell_far (p := ⟨gb261, _, none⟩) NB231_261.out _).trans (((cell_far (p := ⟨gb261, _, none⟩) NB231_261.out _).trans (hHeld.2.2.2.2.2.2.2.2.1)))))))))))))))))), ((cell_far (p := ⟨gb261, _, none⟩) NB232_261.out _).trans (((cell_far (p := ⟨gb261, _, none⟩) NB232_261.out _).trans (((cell_far (p := ⟨gb261, _, none⟩) NB232_261.out _).trans (((cell_far (p := ⟨gb261, _, none⟩) NB232_261.out _).trans (((cell_far (p := ⟨gb261, _, none⟩) NB232_261.out _).trans (((cell_far (p := ⟨gb261, _, none⟩) NB232_261.out _).trans (((cell_far (p := ⟨gb261, _, none⟩) NB232_261.out _).trans (((cell_far (p := ⟨gb261, _, none⟩) NB232_261.out _).trans (((cell_far (p := ⟨gb261, _, none⟩) NB232_261.out _).trans (hHeld.2.2.2.2.2.2.2.2.2.1)))))))))))))))))), ((cell_far (p := ⟨gb261, _, none⟩) NB232_261.out _).trans (((cell_far (p := ⟨gb261, _, none⟩) NB232_261.out _).trans (((cell_far (p := ⟨gb261, _, none⟩) NB232_261.out _).trans (((cell_far (p := ⟨gb261, _, none⟩) NB232_261.out _).trans (((cell_far (p := ⟨gb261, _, none⟩) NB232_261.out _).trans (((cell_far (p := ⟨gb261, _, none⟩) NB232_261.out _).trans (((cell_far (p := ⟨gb261, _, none⟩) NB232_261.out _).trans (((cell_far (p := ⟨gb261, _, none⟩) NB232_261.out _).trans (((cell_far (p := ⟨gb261, _, none⟩) NB232_261.out _).trans (hHeld.2.2.2.2.2.2.2.2.2.2.1)))))))))))))))))), ((cell_far (p := ⟨gb261, _, none⟩) NB232_261.out _).trans (((cell_far (p := ⟨gb261, _, none⟩) NB232_261.out _).trans (((cell_far (p := ⟨gb261, _, none⟩) NB232_261.out _).trans (((cell_far (p := ⟨gb261, _, none⟩) NB232_261.out _).trans (((cell_far (p := ⟨gb261, _, none⟩) NB232_261.out _).trans (((cell_far (p := ⟨gb261, _, none⟩) NB232_261.out _).trans (((cell_far (p := ⟨gb261, _, none⟩) NB232_261.out _).trans (((cell_far (p := ⟨gb261, _, none⟩) NB232_261.out _).trans (((cell_far (p := ⟨gb261, _, none⟩) NB232_261.out _).trans (hHeld.2.2.2.2.2.2.2.2.2.2.2))))))))))))))))))⟩ (fun hHeld => ?_)
          clear hK K
          refine pure_ (i := 9) (N := some 10) (v := ?_) (a' := ?_) #[true, true, true, true, true, true, true, true, true, true] rfl rfl (any_of HT_.out (by kernel_rfl)) (fun _ _ _ h => h) (Or.inl ⟨by rfl, ?_⟩) ?_ ?_
          rotate_left
          · intro w'
            go_simp
            with_reducible rfl
          rotate_left
          · simp only [Act.put, List.setIfInBounds_toArray, List.set_cons_zero, List.set_cons_succ, i64_w, i32_w]
            rfl
          refine done_ (done_of HT_.out (by kernel_rfl)) ?_
          have hnb61 := NB244_230.out
          have hnc61 := NB230_244.out
          have hnb62 := NB244_231.out
          have hnc62 := NB231_244.out
          have hnb63 := NB244_232.out
          have hnc63 := NB232_244.out
          have hnb64 := NB244_261.out
          have hnc64 := NB261_244.out
          have hcz65_0 : w51.cell? ⟨gb244, 0, none⟩ = some (.int .i64 t238) := (blk_cell BK244.out 0).trans rfl
          have hcz65_1 : w51.cell? ⟨gb244, 1, none⟩ = some (.int .i64 t239) := (blk_cell BK244.out 1).trans rfl
          have hcz65_2 : w51.cell? ⟨gb244, 2, none⟩ = some (.int .i64 t240) := (blk_cell BK244.out 2).trans rfl
          have hcz65_3 : w51.cell? ⟨gb244, 3, none⟩ = some (.int .i64 t241) := (blk_cell BK244.out 3).trans rfl
          have hcz65_4 : w51.cell? ⟨gb244, 4, none⟩ = some (.int .u64 t242) := (blk_cell BK244.out 4).trans rfl
          have hfz65_0 := blk_frozen BK244.out 0
          have hfz65_1 := blk_frozen BK244.out 1
          have hfz65_2 := blk_frozen BK244.out 2
          have hfz65_3 := blk_frozen BK244.out 3
          have hfz65_4 := blk_frozen BK244.out 4
          have hnb66 := NB261_230.out
          have hnc66 := NB230_261.out
          have hnb67 := NB261_231.out
          have hnc67 := NB231_261.out
          have hnb68 := NB261_232.out
          have hnc68 := NB232_261.out
          have hcz69_0 : w51.cell? ⟨gb261, 0, none⟩ = some (.int .i64 0) := (blk_cell BK261.out 0).trans rfl
          have hcz69_1 : w51.cell? ⟨gb261, 1, none⟩ = some (.int .i64 0) := (blk_cell BK261.out 1).trans rfl
          have hcz69_2 : w51.cell? ⟨gb261, 2, none⟩ = some (.int .i64 0) := (blk_cell BK261.out 2).trans rfl
          have hcz69_3 : w51.cell? ⟨gb261, 3, none⟩ = some (.int .i64 0) := (blk_cell BK261.out 3).trans rfl
          have hcz69_4 : w51.cell? ⟨gb261, 4, none⟩ = some (.int .i64 0) := (blk_cell BK261.out 4).trans rfl
          have hcz69_5 : w51.cell? ⟨gb261, 5, none⟩ = some (.int .i64 0) := (blk_cell BK261.out 5).trans rfl
          have hcz69_6 : w51.cell? ⟨gb261, 6, none⟩ = some (.int .i64 0) := (blk_cell BK261.out 6).trans rfl
          have hcz69_7 : w51.cell? ⟨gb261, 7, none⟩ = some (.int .i64 0) := (blk_cell BK261.out 7).trans rfl
          have hcz69_8 : w51.cell? ⟨gb261, 8, none⟩ = some (.int .i64 0) := (blk_cell BK261.out 8).trans rfl
          have hfz69_0 := blk_frozen BK261.out 0
          have hfz69_1 := blk_frozen BK261.out 1
          have hfz69_2 := blk_frozen BK261.out 2
          have hfz69_3 := blk_frozen BK261.out 3
          have hfz69_4 := blk_frozen BK261.out 4
          have hfz69_5 := blk_frozen BK261.out 5
          have hfz69_6 := blk_frozen BK261.out 6
          have hfz69_7 := blk_frozen BK261.out 7
          have hfz69_8 := blk_frozen BK261.out 8
          try go_wp2_with (first | ((with_reducible refine gate_callee (f := 11) rfl ?_); refine goesL_ (some 52) rfl rfl Try.func11 (by kernel_rfl) rfl #[.agg #[.int .i64 t238, .int .i64 t239, .int .i64 t240, .int .i64 t241, .int .u64 t242], .agg #[.int .i64 t251, .int .i64 t252, .int .i64 t253, .int .i64 t254, .int .i64 t255, .int .i64 t256, .int .i64 t257, .int .i64 t258, .int .i64 t259]] rfl au13_8 ?_; (with_reducible refine (moving_Go.calls kj5 t238 t239 t240 t241 t242 t251 t252 t253 t254 t255 t256 t257 t258 t259 t262 t263 t264 t265 t266 t267 t268 t269 t270 true _ A42.out).mono ?_); rintro e w70 ⟨rfl, hb⟩; refine ⟨_, rfl, ?_⟩; have n0_ := Aside0.mk (blk_below (g := gb230) (o := .cells #[.int .i64 t233, .int .i64 t234, .int .i64 t235, .int .i64 t236, .int .u64 t237] 24 (0, 0)) (by (with_reducible repeat (first | refine blk_drewN ?_ _ | refine blk_drew ?_ | refine blk_alloc ?_ _)); refine blk_far ?_ NB230_261.out _; (with_reducible repeat (first | refine blk_drewN ?_ _ | refine blk_drew ?_ | refine blk_alloc ?_ _)); refine blk_far ?_ NB230_261.out _; (with_reducible repeat (first | refine blk_drewN ?_ _ | refine blk_drew ?_ | refine blk_alloc ?_ _)); refine blk_far ?_ NB230_261.out _; (with_reducible repeat (first | refine blk_drewN ?_ _ | refine blk_drew ?_ | refine blk_alloc ?_ _)); refine blk_far ?_ NB230_261.out _; (with_reducible repeat (first | refine blk_drewN ?_ _ | refine blk_drew ?_ | refine blk_alloc ?_ _)); refine blk_far ?_ NB230_261.out _; (with_reducible repeat (first | refine blk_drewN ?_ _ | refine blk_drew ?_ | refine blk_alloc ?_ _)); refine blk_far ?_ NB230_261.out _; (with_reducible repeat (first | refine blk_drewN ?_ _ | refine blk_drew ?_ | refine blk_alloc ?_ _)); refine blk_far ?_ NB230_261.out _; (with_reducible repeat (first | refine blk_drewN ?_ _ | refine blk_drew ?_ | refine blk_alloc ?_ _)); refine blk_far ?_ NB230_261.out _; (with_reducible repeat (first | refine blk_drewN ?_ _ | refine blk_drew ?_ | refine blk_alloc ?_ _)); refine blk_far ?_ NB230_261.out _; (with_reducible repeat (first | refine blk_drewN ?_ _ | refine blk_drew ?_ | refine blk_alloc ?_ _)); exact BK230.out) hb); have n1_ := Aside0.mk (blk_below (g := gb231) (o := .cells #[.int .i64 a1_0, .int .i64 a1_1, .int .i64 a1_2, .int .i64 a1_3, .int .i64 a1_4, .int .i64 a1_5, .int .i64 a1_6, .int .i64 a1_7, .int .i64 a1_8] 26 (0, 0)) (by (with_reducible repeat (first | refine blk_drewN ?_ _ | refine blk_drew ?_ | refine blk_alloc ?_ _)); refine blk_far ?_ NB231_261.out _; (with_reducible repeat (first | refine blk_drewN ?_ _ | refine blk_drew ?_ | refine blk_alloc ?_ _)); refine blk_far ?_ NB231_261.out _; (with_reducible repeat (first | refine blk_drewN ?_ _ | refine blk_drew ?_ | refine blk_alloc ?_ _)); refine blk_far ?_ NB231_261.out _; (with_reducible repeat (first | refine blk_drewN ?_ _ | refine blk_drew ?_ | refine blk_alloc ?_ _)); refine blk_far ?_ NB231_261.out _; (with_reducible repeat (first | refine blk_drewN ?_ _ | refine blk_drew ?_ | refine blk_alloc ?_ _)); refine blk_far ?_ NB231_261.out _; (with_reducible repeat (first | refine blk_drewN ?_ _ | refine blk_drew ?_ | refine blk_alloc ?_ _)); refine blk_far ?_ NB231_261.out _; (with_reducible repeat (first | refine blk_drewN ?_ _ | refine blk_drew ?_ | refine blk_alloc ?_ _)); refine blk_far ?_ NB231_261.out _; (with_reducible repeat (first | refine blk_drewN ?_ _ | refine blk_drew ?_ | refine blk_alloc ?_ _)); refine blk_far ?_ NB231_261.out _; (with_reducible repeat (first | refine blk_drewN ?_ _ | refine blk_drew ?_ | refine blk_alloc ?_ _)); refine blk_far ?_ NB231_261.out _; (with_reducible repeat (first | refine blk_drewN ?_ _ | refine blk_drew ?_ | refine blk_alloc ?_ _)); exact BK231.out) hb); have n2_ := Aside0.mk (blk_below (g := gb232) (o := .cells #[.int .i64 a2_0, .int .i64 a2_1, .bool a2_2] 28 (0, 0)) (by (with_reducible repeat (first | refine blk_drewN ?_ _ | refine blk_drew ?_ | refine blk_alloc ?_ _)); refine blk_far ?_ NB232_261.out _; (with_reducible repeat (first | refine blk_drewN ?_ _ | refine blk_drew ?_ | refine blk_alloc ?_ _)); refine blk_far ?_ NB232_261.out _; (with_reducible repeat (first | refine blk_drewN ?_ _ | refine blk_drew ?_ | refine blk_alloc ?_ _)); refine blk_far ?_ NB232_261.out _; (with_reducible repeat (first | refine blk_drewN ?_ _ | refine blk_drew ?_ | refine blk_alloc ?_ _)); refine blk_far ?_ NB232_261.out _; (with_reducible repeat (first | refine blk_drewN ?_ _ | refine blk_drew ?_ | refine blk_alloc ?_ _)); refine blk_far ?_ NB232_261.out _; (with_reducible repeat (first | refine blk_drewN ?_ _ | refine blk_drew ?_ | refine blk_alloc ?_ _)); refine blk_far ?_ NB232_261.out _; (with_reducible repeat (first | refine blk_drewN ?_ _ | refine blk_drew ?_ | refine blk_alloc ?_ _)); refine blk_far ?_ NB232_261.out _; (with_reducible repeat (first | refine blk_drewN ?_ _ | refine blk_drew ?_ | refine blk_alloc ?_ _)); refine blk_far ?_ NB232_261.out _; (with_reducible repeat (first | refine blk_drewN ?_ _ | refine blk_drew ?_ | refine blk_alloc ?_ _)); refine blk_far ?_ NB232_261.out _; (with_reducible repeat (first | refine blk_drewN ?_ _ | refine blk_drew ?_ | refine blk_alloc ?_ _)); exact BK232.out) hb); have n3_ := Aside0.mk (blk_below (g := gb244) (o := .cells #[.int .i64 t238, .int .i64 t239, .int .i64 t240, .int .i64 t241, .int .u64 t242] 30 (0, 0)) (by (with_reducible repeat (first | refine blk_drewN ?_ _ | refine blk_drew ?_ | refine blk_alloc ?_ _)); refine blk_far ?_ NB244_261.out _; (with_reducible repeat (first | refine blk_drewN ?_ _ | refine blk_drew ?_ | refine blk_alloc ?_ _)); refine blk_far ?_ NB244_261.out _; (with_reducible repeat (first | refine blk_drewN ?_ _ | refine blk_drew ?_ | refine blk_alloc ?_ _)); refine blk_far ?_ NB244_261.out _; (with_reducible repeat (first | refine blk_drewN ?_ _ | refine blk_drew ?_ | refine blk_alloc ?_ _)); refine blk_far ?_ NB244_261.out _; (with_reducible repeat (first | refine blk_drewN ?_ _ | refine blk_drew ?_ | refine blk_alloc ?_ _)); refine blk_far ?_ NB244_261.out _; (with_reducible repeat (first | refine blk_drewN ?_ _ | refine blk_drew ?_ | refine blk_alloc ?_ _)); refine blk_far ?_ NB244_261.out _; (with_reducible repeat (first | refine blk_drewN ?_ _ | refine blk_drew ?_ | refine blk_alloc ?_ _)); refine blk_far ?_ NB244_261.out _; (with_reducible repeat (first | refine blk_drewN ?_ _ | refine blk_drew ?_ | refine blk_alloc ?_ _)); refine blk_far ?_ NB244_261.out _; (with_reducible repeat (first | refine blk_drewN ?_ _ | refine blk_drew ?_ | refine blk_alloc ?_ _)); refine blk_far ?_ NB244_261.out _; (with_reducible repeat (first | refine blk_drewN ?_ _ | refine blk_drew ?_ | refine blk_alloc ?_ _)); exact BK244.out) hb); have n4_ := Aside0.mk (blk_below (g := gb261) (o := .cells #[.int .i64 t251, .int .i64 t252, .int .i64 t253, .int .i64 t254, .int .i64 t255, .int .i64 t256, .int .i64 t257, .int .i64 t258, .int .i64 t259] 26 (0, 0)) (by (with_reducible repeat (first | refine blk_drewN ?_ _ | refine blk_drew ?_ | refine blk_alloc ?_ _)); refine blk_put (cs := #[.int .i64 t251, .int .i64 t252, .int .i64 t253, .int .i64 t254, .int .i64 t255, .int .i64 t256, .int .i64 t257, .int .i64 t258, .int .i64 0]) ?_ 8 _ rfl; (with_reducible repeat (first | refine blk_drewN ?_ _ | refine blk_drew ?_ | refine blk_alloc ?_ _)); refine blk_put (cs := #[.int .i64 t251, .int .i64 t252, .int .i64 t253, .int .i64 t254, .int .i64 t255, .int .i64 t256, .int .i64 t257, .int .i64 0, .int .i64 0]) ?_ 7 _ rfl; (with_reducible repeat (first | refine blk_drewN ?_ _ | refine blk_drew ?_ | refine blk_alloc ?_ _)); refine blk_put (cs := #[.int .i64 t251, .int .i64 t252, .int .i64 t253, .int .i64 t254, .int .i64 t255, .int .i64 t256, .int .i64 0, .int .i64 0, .int .i64 0]) ?_ 6 _ rfl; (with_reducible repeat (first | refine blk_drewN ?_ _ | refine blk_drew ?_ | refine blk_alloc ?_ _)); refine blk_put (cs := #[.int .i64 t251, .int .i64 t252, .int .i64 t253, .int .i64 t254, .int .i64 t255, .int .i64 0, .int .i64 0, .int .i64 0, .int .i64 0]) ?_ 5 _ rfl; (with_reducible repeat (first | refine blk_drewN ?_ _ | refine blk_drew ?_ | refine blk_alloc ?_ _)); refine blk_put (cs := #[.int .i64 t251, .int .i64 t252, .int .i64 t253, .int .i64 t254, .int .i64 0, .int .i64 0, .int .i64 0, .int .i64 0, .int .i64 0]) ?_ 4 _ rfl; (with_reducible repeat (first | refine blk_drewN ?_ _ | refine blk_drew ?_ | refine blk_alloc ?_ _)); refine blk_put (cs := #[.int .i64 t251, .int .i64 t252, .int .i64 t253, .int .i64 0, .int .i64 0, .int .i64 0, .int .i64 0, .int .i64 0, .int .i64 0]) ?_ 3 _ rfl; (with_reducible repeat (first | refine blk_drewN ?_ _ | refine blk_drew ?_ | refine blk_alloc ?_ _)); refine blk_put (cs := #[.int .i64 t251, .int .i64 t252, .int .i64 0, .int .i64 0, .int .i64 0, .int .i64 0, .int .i64 0, .int .i64 0, .int .i64 0]) ?_ 2 _ rfl; (with_reducible repeat (first | refine blk_drewN ?_ _ | refine blk_drew ?_ | refine blk_alloc ?_ _)); refine blk_put (cs := #[.int .i64 t251, .int .i64 0, .int .i64 0, .int .i64 0, .int .i64 0, .int .i64 0, .int .i64 0, .int .i64 0, .int .i64 0]) ?_ 1 _ rfl; (with_reducible repeat (first | refine blk_drewN ?_ _ | refine blk_drew ?_ | refine blk_alloc ?_ _)); refine blk_put (cs := #[.int .i64 0, .int .i64 0, .int .i64 0, .int .i64 0, .int .i64 0, .int .i64 0, .int .i64 0, .int .i64 0, .int .i64 0]) ?_ 0 _ rfl; (with_reducible repeat (first | refine blk_drewN ?_ _ | refine blk_drew ?_ | refine blk_alloc ?_ _)); exact BK261.out) hb); have n5_ := Aside0.mk (below_step au13_5 hb); clear BK230; clear BK231; clear BK232; clear BK244; clear BK261; clear HB; have BK230 := n0_; have BK231 := n1_; have BK232 := n2_; have BK244 := n3_; have BK261 := n4_; have HB := n5_; clear n0_ n1_ n2_ n3_ n4_ n5_; (try clear hb); (try clear hb2); (try clear hk); (try clear hi)) | ((with_reducible refine gate_dst (N := 11) rfl ?_); refine box_event ?hg (N := 11) ?hd (cs := #[.int .i64 0, .int .i64 0, .int .i64 0, .int .i64 0, .int .i64 0, .int .i64 0, .int .i64 0, .int .i64 0, .int .i64 0]) (t := 26) ?hr ?_; (case hd => rfl); (case hg => rfl); (case hr => first | (go_simp; done) | (go_simp; rfl)); intro gb272 hg w71 hbox hb; have n0_ := Aside0.mk (blk_below (g := gb230) (o := .cells #[.int .i64 t233, .int .i64 t234, .int .i64 t235, .int .i64 t236, .int .u64 t237] 24 (0, 0)) au13_1 hb); have n1_ := Aside0.mk (blk_below (g := gb231) (o := .cells #[.int .i64 a1_0, .int .i64 a1_1, .int .i64 a1_2, .int .i64 a1_3, .int .i64 a1_4, .int .i64 a1_5, .int .i64 a1_6, .int .i64 a1_7, .int .i64 a1_8] 26 (0, 0)) au13_2 hb); have n2_ := Aside0.mk (blk_below (g := gb232) (o := .cells #[.int .i64 a2_0, .int .i64 a2_1, .bool a2_2] 28 (0, 0)) au13_3 hb); have n3_ := Aside0.mk (blk_below (g := gb244) (o := .cells #[.int .i64 t238, .int .i64 t239, .int .i64 t240, .int .i64 t241, .int .u64 t242] 30 (0, 0)) au13_4 hb); have n4_ := Aside0.mk (blk_below (g := gb261) (o := .cells #[.int .i64 t251, .int .i64 t252, .int .i64 t253, .int .i64 t254, .int .i64 t255, .int .i64 t256, .int .i64 t257, .int .i64 t258, .int .i64 t259] 26 (0, 0)) au13_9 hb); have n5_ := Aside0.mk (below_step au13_5 hb); have n6_ := Aside0.mk (hbox); have n7_ := Aside0.mk ((by rw [hg]; exact (below_size au13_5) : w.heap.size ≤ gb272)); have n8_ := Aside0.mk ((by rw [hg]; exact (below_size au13_5) : w.heap.size ≤ gb272)); have n9_ := Aside0.mk ((au13_15 : gb230 ≠ gb272)); have n10_ := Aside0.mk ((au13_16 : gb272 ≠ gb230)); have n11_ := Aside0.mk ((au13_13 : gb231 ≠ gb272)); have n12_ := Aside0.mk ((au13_14 : gb272 ≠ gb231)); have n13_ := Aside0.mk ((au13_20 : gb232 ≠ gb272)); have n14_ := Aside0.mk ((au13_21 : gb272 ≠ gb232)); have n15_ := Aside0.mk ((au13_17 : gb244 ≠ gb272)); have n16_ := Aside0.mk ((au13_18 : gb272 ≠ gb244)); have n17_ := Aside0.mk ((by rw [hg]; exact Nat.ne_of_lt (blk_lt (g := gb261) (o := .cells #[.int .i64 t251, .int .i64 t252, .int .i64 t253, .int .i64 t254, .int .i64 t255, .int .i64 t256, .int .i64 t257, .int .i64 t258, .int .i64 t259] 26 (0, 0)) au13_9) : gb261 ≠ gb272)); have n18_ := Aside0.mk ((by rw [hg]; exact Nat.ne_of_gt (blk_lt (g := gb261) (o := .cells #[.int .i64 t251, .int .i64 t252, .int .i64 t253, .int .i64 t254, .int .i64 t255, .int .i64 t256, .int .i64 t257, .int .i64 t258, .int .i64 t259] 26 (0, 0)) au13_9) : gb272 ≠ gb261)); clear BK230; clear BK231; clear BK232; clear BK244; clear BK261; clear HB; have BK230 := n0_; have BK231 := n1_; have BK232 := n2_; have BK244 := n3_; have BK261 := n4_; have HB := n5_; have BK272 := n6_; have GW272 := n7_; have GE272 := n8_; have NB230_272 := n9_; have NB272_230 := n10_; have NB231_272 := n11_; have NB272_231 := n12_; have NB232_272 := n13_; have NB272_232 := n14_; have NB244_272 := n15_; have NB272_244 := n16_; have NB261_272 := n17_; have NB272_261 := n18_; clear n0_ n1_ n2_ n3_ n4_ n5_ n6_ n7_ n8_ n9_ n10_ n11_ n12_ n13_ n14_ n15_ n16_ n17_ n18_; clear hb hbox hg; have hnb72 := NB272_230.out; have hnc72 := NB230_272.out; have hnb73 := NB272_231.out; have hnc73 := NB231_272.out; have hnb74 := NB272_232.out; have hnc74 := NB232_272.out; have hnb75 := NB272_244.out; have hnc75 := NB244_272.out; have hnb76 := NB272_261.out; have hnc76 := NB261_272.out; have hcz77_0 : w71.cell? ⟨gb272, 0, none⟩ = some (.int .i64 0) := (blk_cell BK272.out 0).trans rfl; have hcz77_1 : w71.cell? ⟨gb272, 1, none⟩ = some (.int .i64 0) := (blk_cell BK272.out 1).trans rfl; have hcz77_2 : w71.cell? ⟨gb272, 2, none⟩ = some (.int .i64 0) := (blk_cell BK272.out 2).trans rfl; have hcz77_3 : w71.cell? ⟨gb272, 3, none⟩ = some (.int .i64 0) := (blk_cell BK272.out 3).trans rfl; have hcz77_4 : w71.cell? ⟨gb272, 4, none⟩ = some (.int .i64 0) := (blk_cell BK272.out 4).trans rfl; have hcz77_5 : w71.cell? ⟨gb272, 5, none⟩ = some (.int .i64 0) := (blk_cell BK272.out 5).trans rfl; have hcz77_6 : w71.cell? ⟨gb272, 6, none⟩ = some (.int .i64 0) := (blk_cell BK272.out 6).trans rfl; have hcz77_7 : w71.cell? ⟨gb272, 7, none⟩ = some (.int .i64 0) := (blk_cell BK272.out 7).trans rfl; have hcz77_8 : w71.cell? ⟨gb272, 8, none⟩ = some (.int .i64 0) := (blk_cell BK272.out 8).trans rfl; have hfz77_0 := blk_frozen BK272.out 0; have hfz77_1 := blk_frozen BK272.out 1; have hfz77_2 := blk_frozen BK272.out 2; have hfz77_3 := blk_frozen BK272.out 3; have hfz77_4 := blk_frozen BK272.out 4; have hfz77_5 := blk_frozen BK272.out 5; have hfz77_6 := blk_frozen BK272.out 6; have hfz77_7 := blk_frozen BK272.out 7; have hfz77_8 := blk_frozen BK272.out 8))
          have n0_ : Aside0 ((((((((((w71.setCell ⟨gb272, 0, none⟩ (.int .i64 t262)).setCell ⟨gb272, 1, none⟩ (.int .i64 t263)).setCell ⟨gb272, 2, none⟩ (.int .i64 t264)).setCell ⟨gb272, 3, none⟩ (.int .i64 t265)).setCell ⟨gb272, 4, none⟩ (.int .i64 t266)).setCell ⟨gb272, 5, none⟩ (.int .i64 t267)).setCell ⟨gb272, 6, none⟩ (.int .i64 t268)).setCell ⟨gb272, 7, none⟩ (.int .i64 t269)).setCell ⟨gb272, 8, none⟩ (.int .i64 t270)).heap[gb230]? = some (.cells #[.int .i64 t233, .int .i64 t234, .int .i64 t235, .int .i64 t236, .int .u64 t237] 24 (0, 0))) := ⟨by (with_reducible repeat (first | refine blk_drewN ?_ _ | refine blk_drew ?_ | refine blk_alloc ?_ _)); refine blk_far ?_ NB230_272.out _; (with_reducible repeat (first | refine blk_drewN ?_ _ | refine blk_drew ?_ | refine blk_alloc ?_ _)); refine blk_far ?_ NB230_272.out _; (with_reducible repeat (first | refine blk_drewN ?_ _ | refine blk_drew ?_ | refine blk_alloc ?_ _)); refine blk_far ?_ NB230_272.out _; (with_reducible repeat (first | refine blk_drewN ?_ _ | refine blk_drew ?_ | refine blk_alloc ?_ _)); refine blk_far ?_ NB230_272.out _; (with_reducible repeat (first | refine blk_drewN ?_ _ | refine blk_drew ?_ | refine blk_alloc ?_ _)); refine blk_far ?_ NB230_272.out _; (with_reducible repeat (first | refine blk_drewN ?_ _ | refine blk_drew ?_ | refine blk_alloc ?_ _)); refine blk_far ?_ NB230_272.out _; (with_reducible repeat (first | refine blk_drewN ?_ _ | refine blk_drew ?_ | refine blk_alloc ?_ _)); refine blk_far ?_ NB230_272.out _; (with_reducible repeat (first | refine blk_drewN ?_ _ | refine blk_drew ?_ | refine blk_alloc ?_ _)); refine blk_far ?_ NB230_272.out _; (with_reducible repeat (first | refine blk_drewN ?_ _ | refine blk_drew ?_ | refine blk_alloc ?_ _)); refine blk_far ?_ NB230_272.out _; (with_reducible repeat (first | refine blk_drewN ?_ _ | refine blk_drew ?_ | refine blk_alloc ?_ _)); exact BK230.out⟩
          have n1_ : Aside0 ((((((((((w71.setCell ⟨gb272, 0, none⟩ (.int .i64 t262)).setCell ⟨gb272, 1, none⟩ (.int .i64 t263)).setCell ⟨gb272, 2, none⟩ (.int .i64 t264)).setCell ⟨gb272, 3, none⟩ (.int .i64 t265)).setCell ⟨gb272, 4, none⟩ (.int .i64 t266)).setCell ⟨gb272, 5, none⟩ (.int .i64 t267)).setCell ⟨gb272, 6, none⟩ (.int .i64 t268)).setCell ⟨gb272, 7, none⟩ (.int .i64 t269)).setCell ⟨gb272, 8, none⟩ (.int .i64 t270)).heap[gb231]? = some (.cells #[.int .i64 a1_0, .int .i64 a1_1, .int .i64 a1_2, .int .i64 a1_3, .int .i64 a1_4, .int .i64 a1_5, .int .i64 a1_6, .int .i64 a1_7, .int .i64 a1_8] 26 (0, 0))) := ⟨by (with_reducible repeat (first | refine blk_drewN ?_ _ | refine blk_drew ?_ | refine blk_alloc ?_ _)); refine blk_far ?_ NB231_272.out _; (with_reducible repeat (first | refine blk_drewN ?_ _ | refine blk_drew ?_ | refine blk_alloc ?_ _)); refine blk_far ?_ NB231_272.out _; (with_reducible repeat (first | refine blk_drewN ?_ _ | refine blk_drew ?_ | refine blk_alloc ?_ _)); refine blk_far ?_ NB231_272.out _; (with_reducible repeat (first | refine blk_drewN ?_ _ | refine blk_drew ?_ | refine blk_alloc ?_ _)); refine blk_far ?_ NB231_272.out _; (with_reducible repeat (first | refine blk_drewN ?_ _ | refine blk_drew ?_ | refine blk_alloc ?_ _)); refine blk_far ?_ NB231_272.out _; (with_reducible repeat (first | refine blk_drewN ?_ _ | refine blk_drew ?_ | refine blk_alloc ?_ _)); refine blk_far ?_ NB231_272.out _; (with_reducible repeat (first | refine blk_drewN ?_ _ | refine blk_drew ?_ | refine blk_alloc ?_ _)); refine blk_far ?_ NB231_272.out _; (with_reducible repeat (first | refine blk_drewN ?_ _ | refine blk_drew ?_ | refine blk_alloc ?_ _)); refine blk_far ?_ NB231_272.out _; (with_reducible repeat (first | refine blk_drewN ?_ _ | refine blk_drew ?_ | refine blk_alloc ?_ _)); refine blk_far ?_ NB231_272.out _; (with_reducible repeat (first | refine blk_drewN ?_ _ | refine blk_drew ?_ | refine blk_alloc ?_ _)); exact BK231.out⟩
          have n2_ : Aside0 ((((((((((w71.setCell ⟨gb272, 0, none⟩ (.int .i64 t262)).setCell ⟨gb272, 1, none⟩ (.int .i64 t263)).setCell ⟨gb272, 2, none⟩ (.int .i64 t264)).setCell ⟨gb272, 3, none⟩ (.int .i64 t265)).setCell ⟨gb272, 4, none⟩ (.int .i64 t266)).setCell ⟨gb272, 5, none⟩ (.int .i64 t267)).setCell ⟨gb272, 6, none⟩ (.int .i64 t268)).setCell ⟨gb272, 7, none⟩ (.int .i64 t269)).setCell ⟨gb272, 8, none⟩ (.int .i64 t270)).heap[gb232]? = some (.cells #[.int .i64 a2_0, .int .i64 a2_1, .bool a2_2] 28 (0, 0))) := ⟨by (with_reducible repeat (first | refine blk_drewN ?_ _ | refine blk_drew ?_ | refine blk_alloc ?_ _)); refine blk_far ?_ NB232_272.out _; (with_reducible repeat (first | refine blk_drewN ?_ _ | refine blk_drew ?_ | refine blk_alloc ?_ _)); refine blk_far ?_ NB232_272.out _; (with_reducible repeat (first | refine blk_drewN ?_ _ | refine blk_drew ?_ | refine blk_alloc ?_ _)); refine blk_far ?_ NB232_272.out _; (with_reducible repeat (first | refine blk_drewN ?_ _ | refine blk_drew ?_ | refine blk_alloc ?_ _)); refine blk_far ?_ NB232_272.out _; (with_reducible repeat (first | refine blk_drewN ?_ _ | refine blk_drew ?_ | refine blk_alloc ?_ _)); refine blk_far ?_ NB232_272.out _; (with_reducible repeat (first | refine blk_drewN ?_ _ | refine blk_drew ?_ | refine blk_alloc ?_ _)); refine blk_far ?_ NB232_272.out _; (with_reducible repeat (first | refine blk_drewN ?_ _ | refine blk_drew ?_ | refine blk_alloc ?_ _)); refine blk_far ?_ NB232_272.out _; (with_reducible repeat (first | refine blk_drewN ?_ _ | refine blk_drew ?_ | refine blk_alloc ?_ _)); refine blk_far ?_ NB232_272.out _; (with_reducible repeat (first | refine blk_drewN ?_ _ | refine blk_drew ?_ | refine blk_alloc ?_ _)); refine blk_far ?_ NB232_272.out _; (with_reducible repeat (first | refine blk_drewN ?_ _ | refine blk_drew ?_ | refine blk_alloc ?_ _)); exact BK232.out⟩
          have n3_ : Aside0 ((((((((((w71.setCell ⟨gb272, 0, none⟩ (.int .i64 t262)).setCell ⟨gb272, 1, none⟩ (.int .i64 t263)).setCell ⟨gb272, 2, none⟩ (.int .i64 t264)).setCell ⟨gb272, 3, none⟩ (.int .i64 t265)).setCell ⟨gb272, 4, none⟩ (.int .i64 t266)).setCell ⟨gb272, 5, none⟩ (.int .i64 t267)).setCell ⟨gb272, 6, none⟩ (.int .i64 t268)).setCell ⟨gb272, 7, none⟩ (.int .i64 t269)).setCell ⟨gb272, 8, none⟩ (.int .i64 t270)).heap[gb244]? = some (.cells #[.int .i64 t238, .int .i64 t239, .int .i64 t240, .int .i64 t241, .int .u64 t242] 30 (0, 0))) := ⟨by (with_reducible repeat (first | refine blk_drewN ?_ _ | refine blk_drew ?_ | refine blk_alloc ?_ _)); refine blk_far ?_ NB244_272.out _; (with_reducible repeat (first | refine blk_drewN ?_ _ | refine blk_drew ?_ | refine blk_alloc ?_ _)); refine blk_far ?_ NB244_272.out _; (with_reducible repeat (first | refine blk_drewN ?_ _ | refine blk_drew ?_ | refine blk_alloc ?_ _)); refine blk_far ?_ NB244_272.out _; (with_reducible repeat (first | refine blk_drewN ?_ _ | refine blk_drew ?_ | refine blk_alloc ?_ _)); refine blk_far ?_ NB244_272.out _; (with_reducible repeat (first | refine blk_drewN ?_ _ | refine blk_drew ?_ | refine blk_alloc ?_ _)); refine blk_far ?_ NB244_272.out _; (with_reducible repeat (first | refine blk_drewN ?_ _ | refine blk_drew ?_ | refine blk_alloc ?_ _)); refine blk_far ?_ NB244_272.out _; (with_reducible repeat (first | refine blk_drewN ?_ _ | refine blk_drew ?_ | refine blk_alloc ?_ _)); refine blk_far ?_ NB244_272.out _; (with_reducible repeat (first | refine blk_drewN ?_ _ | refine blk_drew ?_ | refine blk_alloc ?_ _)); refine blk_far ?_ NB244_272.out _; (with_reducible repeat (first | refine blk_drewN ?_ _ | refine blk_drew ?_ | refine blk_alloc ?_ _)); refine blk_far ?_ NB244_272.out _; (with_reducible repeat (first | refine blk_drewN ?_ _ | refine blk_drew ?_ | refine blk_alloc ?_ _)); exact BK244.out⟩
          have n4_ : Aside0 ((((((((((w71.setCell ⟨gb272, 0, none⟩ (.int .i64 t262)).setCell ⟨gb272, 1, none⟩ (.int .i64 t263)).setCell ⟨gb272, 2, none⟩ (.int .i64 t264)).setCell ⟨gb272, 3, none⟩ (.int .i64 t265)).setCell ⟨gb272, 4, none⟩ (.int .i64 t266)).setCell ⟨gb272, 5, none⟩ (.int .i64 t267)).setCell ⟨gb272, 6, none⟩ (.int .i64 t268)).setCell ⟨gb272, 7, none⟩ (.int .i64 t269)).setCell ⟨gb272, 8, none⟩ (.int .i64 t270)).heap[gb261]? = some (.cells #[.int .i64 t251, .int .i64 t252, .int .i64 t253, .int .i64 t254, .int .i64 t255, .int .i64 t256, .int .i64 t257, .int .i64 t258, .int .i64 t259] 26 (0, 0))) := ⟨by (with_reducible repeat (first | refine blk_drewN ?_ _ | refine blk_drew ?_ | refine blk_alloc ?_ _)); refine blk_far ?_ NB261_272.out _; (with_reducible repeat (first | refine blk_drewN ?_ _ | refine blk_drew ?_ | refine blk_alloc ?_ _)); refine blk_far ?_ NB261_272.out _; (with_reducible repeat (first | refine blk_drewN ?_ _ | refine blk_drew ?_ | refine blk_alloc ?_ _)); refine blk_far ?_ NB261_272.out _; (with_reducible repeat (first | refine blk_drewN ?_ _ | refine blk_drew ?_ | refine blk_alloc ?_ _)); refine blk_far ?_ NB261_272.out _; (with_reducible repeat (first | refine blk_drewN ?_ _ | refine blk_drew ?_ | refine blk_alloc ?_ _)); refine blk_far ?_ NB261_272.out _; (with_reducible repeat (first | refine blk_drewN ?_ _ | refine blk_drew ?_ | refine blk_alloc ?_ _)); refine blk_far ?_ NB261_272.out _; (with_reducible repeat (first | refine blk_drewN ?_ _ | refine blk_drew ?_ | refine blk_alloc ?_ _)); refine blk_far ?_ NB261_272.out _; (with_reducible repeat (first | refine blk_drewN ?_ _ | refine blk_drew ?_ | refine blk_alloc ?_ _)); refine blk_far ?_ NB261_272.out _; (with_reducible repeat (first | refine blk_drewN ?_ _ | refine blk_drew ?_ | refine blk_alloc ?_ _)); refine blk_far ?_ NB261_272.out _; (with_reducible repeat (first | refine blk_drewN ?_ _ | refine blk_drew ?_ | refine blk_alloc ?_ _)); exact BK261.out⟩
          have n5_ : Aside0 ((((((((((w71.setCell ⟨gb272, 0, none⟩ (.int .i64 t262)).setCell ⟨gb272, 1, none⟩ (.int .i64 t263)).setCell ⟨gb272, 2, none⟩ (.int .i64 t264)).setCell ⟨gb272, 3, none⟩ (.int .i64 t265)).setCell ⟨gb272, 4, none⟩ (.int .i64 t266)).setCell ⟨gb272, 5, none⟩ (.int .i64 t267)).setCell ⟨gb272, 6, none⟩ (.int .i64 t268)).setCell ⟨gb272, 7, none⟩ (.int .i64 t269)).setCell ⟨gb272, 8, none⟩ (.int .i64 t270)).heap[gb272]? = some (.cells #[.int .i64 t262, .int .i64 t263, .int .i64 t264, .int .i64 t265, .int .i64 t266, .int .i64 t267, .int .i64 t268, .int .i64 t269, .int .i64 t270] 26 (0, 0))) := ⟨by (with_reducible repeat (first | refine blk_drewN ?_ _ | refine blk_drew ?_ | refine blk_alloc ?_ _)); refine blk_put (cs := #[.int .i64 t262, .int .i64 t263, .int .i64 t264, .int .i64 t265, .int .i64 t266, .int .i64 t267, .int .i64 t268, .int .i64 t269, .int .i64 0]) ?_ 8 _ rfl; (with_reducible repeat (first | refine blk_drewN ?_ _ | refine blk_drew ?_ | refine blk_alloc ?_ _)); refine blk_put (cs := #[.int .i64 t262, .int .i64 t263, .int .i64 t264, .int .i64 t265, .int .i64 t266, .int .i64 t267, .int .i64 t268, .int .i64 0, .int .i64 0]) ?_ 7 _ rfl; (with_reducible repeat (first | refine blk_drewN ?_ _ | refine blk_drew ?_ | refine blk_alloc ?_ _)); refine blk_put (cs := #[.int .i64 t262, .int .i64 t263, .int .i64 t264, .int .i64 t265, .int .i64 t266, .int .i64 t267, .int .i64 0, .int .i64 0, .int .i64 0]) ?_ 6 _ rfl; (with_reducible repeat (first | refine blk_drewN ?_ _ | refine blk_drew ?_ | refine blk_alloc ?_ _)); refine blk_put (cs := #[.int .i64 t262, .int .i64 t263, .int .i64 t264, .int .i64 t265, .int .i64 t266, .int .i64 0, .int .i64 0, .int .i64 0, .int .i64 0]) ?_ 5 _ rfl; (with_reducible repeat (first | refine blk_drewN ?_ _ | refine blk_drew ?_ | refine blk_alloc ?_ _)); refine blk_put (cs := #[.int .i64 t262, .int .i64 t263, .int .i64 t264, .int .i64 t265, .int .i64 0, .int .i64 0, .int .i64 0, .int .i64 0, .int .i64 0]) ?_ 4 _ rfl; (with_reducible repeat (first | refine blk_drewN ?_ _ | refine blk_drew ?_ | refine blk_alloc ?_ _)); refine blk_put (cs := #[.int .i64 t262, .int .i64 t263, .int .i64 t264, .int .i64 0, .int .i64 0, .int .i64 0, .int .i64 0, .int .i64 0, .int .i64 0]) ?_ 3 _ rfl; (with_reducible repeat (first | refine blk_drewN ?_ _ | refine blk_drew ?_ | refine blk_alloc ?_ _)); refine blk_put (cs := #[.int .i64 t262, .int .i64 t263, .int .i64 0, .int .i64 0, .int .i64 0, .int .i64 0, .int .i64 0, .int .i64 0, .int .i64 0]) ?_ 2 _ rfl; (with_reducible repeat (first | refine blk_drewN ?_ _ | refine blk_drew ?_ | refine blk_alloc ?_ _)); refine blk_put (cs := #[.int .i64 t262, .int .i64 0, .int .i64 0, .int .i64 0, .int .i64 0, .int .i64 0, .int .i64 0, .int .i64 0, .int .i64 0]) ?_ 1 _ rfl; (with_reducible repeat (first | refine blk_drewN ?_ _ | refine blk_drew ?_ | refine blk_alloc ?_ _)); refine blk_put (cs := #[.int .i64 0, .int .i64 0, .int .i64 0, .int .i64 0, .int .i64 0, .int .i64 0, .int .i64 0, .int .i64 0, .int .i64 0]) ?_ 0 _ rfl; (with_reducible repeat (first | refine blk_drewN ?_ _ | refine blk_drew ?_ | refine blk_alloc ?_ _)); exact BK272.out⟩
          have n6_ : Aside0 (Below w.heap.size w (((((((((w71.setCell ⟨gb272, 0, none⟩ (.int .i64 t262)).setCell ⟨gb272, 1, none⟩ (.int .i64 t263)).setCell ⟨gb272, 2, none⟩ (.int .i64 t264)).setCell ⟨gb272, 3, none⟩ (.int .i64 t265)).setCell ⟨gb272, 4, none⟩ (.int .i64 t266)).setCell ⟨gb272, 5, none⟩ (.int .i64 t267)).setCell ⟨gb272, 6, none⟩ (.int .i64 t268)).setCell ⟨gb272, 7, none⟩ (.int .i64 t269)).setCell ⟨gb272, 8, none⟩ (.int .i64 t270))) := ⟨au13_6⟩
          (try clear BK230)
          (try clear BK231)
          (try clear BK232)
          (try clear BK244)
          (try clear BK261)
          (try clear BK272)
          (try clear HB)
          generalize (((((((((w71.setCell ⟨gb272, 0, none⟩ (.int .i64 t262)).setCell ⟨gb272, 1, none⟩ (.int .i64 t263)).setCell ⟨gb272, 2, none⟩ (.int .i64 t264)).setCell ⟨gb272, 3, none⟩ (.int .i64 t265)).setCell ⟨gb272, 4, none⟩ (.int .i64 t266)).setCell ⟨gb272, 5, none⟩ (.int .i64 t267)).setCell ⟨gb272, 6, none⟩ (.int .i64 t268)).setCell ⟨gb272, 7, none⟩ (.int .i64 t269)).setCell ⟨gb272, 8, none⟩ (.int .i64 t270)) = w78 at n0_ n1_ n2_ n3_ n4_ n5_ n6_ ⊢
          have BK230 := n0_
          have BK231 := n1_
          have BK232 := n2_
          have BK244 := n3_
          have BK261 := n4_
          have BK272 := n5_
          have HB := n6_
          clear n0_ n1_ n2_ n3_ n4_ n5_ n6_
          have n0_ := Aside0.mk (blk_drew BK230.out)
          have n1_ := Aside0.mk (blk_drew BK231.out)
          have n2_ := Aside0.mk (blk_drew BK232.out)
          have n3_ := Aside0.mk (blk_drew BK244.out)
          have n4_ := Aside0.mk (blk_drew BK261.out)
          have n5_ := Aside0.mk (blk_drew BK272.out)
          have n6_ := Aside0.mk (below_drew1 HB.out)
          clear BK230
          clear BK231
          clear BK232
          clear BK244
          clear BK261
          clear BK272
          clear HB
          have BK230 := n0_
          have BK231 := n1_
          have BK232 := n2_
          have BK244 := n3_
          have BK261 := n4_
          have BK272 := n5_
          have HB := n6_
          clear n0_ n1_ n2_ n3_ n4_ n5_ n6_
          refine start_ (n := 14) (S := fun w' => w'.cell? ⟨gb230, 0, none⟩ = some (.int .i64 t233) ∧ w'.cell? ⟨gb230, 1, none⟩ = some (.int .i64 t234) ∧ w'.cell? ⟨gb230, 2, none⟩ = some (.int .i64 t235) ∧ w'.cell? ⟨gb230, 3, none⟩ = some (.int .i64 t236) ∧ w'.cell? ⟨gb230, 4, none⟩ = some (.int .u64 t237) ∧ w'.cell? ⟨gb231, 0, none⟩ = some (.int .i64 a1_0) ∧ w'.cell? ⟨gb231, 1, none⟩ = some (.int .i64 a1_1) ∧ w'.cell? ⟨gb231, 2, none⟩ = some (.int .i64 a1_2) ∧ w'.cell? ⟨gb231, 3, none⟩ = some (.int .i64 a1_3) ∧ w'.cell? ⟨gb231, 4, none⟩ = some (.int .i64 a1_4) ∧ w'.cell? ⟨gb231, 5, none⟩ = some (.int .i64 a1_5) ∧ w'.cell? ⟨gb231, 6, none⟩ = some (.int .i64 a1_6) ∧ w'.cell? ⟨gb231, 7, none⟩ = some (.int .i64 a1_7) ∧ w'.cell? ⟨gb231, 8, none⟩ = some (.int .i64 a1_8) ∧ w'.cell? ⟨gb272, 0, none⟩ = some (.int .i64 t262) ∧ w'.cell? ⟨gb272, 1, none⟩ = some (.int .i64 t263) ∧ w'.cell? ⟨gb272, 2, none⟩ = some (.int .i64 t264) ∧ w'.cell? ⟨gb272, 3, none⟩ = some (.int .i64 t265) ∧ w'.cell? ⟨gb272, 4, none⟩ = some (.int .i64 t266) ∧ w'.cell? ⟨gb272, 5, none⟩ = some (.int .i64 t267) ∧ w'.cell? ⟨gb272, 6, none⟩ = some (.int .i64 t268) ∧ w'.cell? ⟨gb272, 7, none⟩ = some (.int .i64 t269) ∧ w'.cell? ⟨gb272, 8, none⟩ = some (.int .i64 t270)) (ds := []) #[false, false, false, false, false, false, false, false, false, false, false, false, false, false] (by kernel_rfl) rfl rfl ⟨(blk_cell BK230.out 0).trans rfl, (blk_cell BK230.out 1).trans rfl, (blk_cell BK230.out 2).trans rfl, (blk_cell BK230.out 3).trans rfl, (blk_cell BK230.out 4).trans rfl, (blk_cell BK231.out 0).trans rfl, (blk_cell BK231.out 1).trans rfl, (blk_cell BK231.out 2).trans rfl, (blk_cell BK231.out 3).trans rfl, (blk_cell BK231.out 4).trans rfl, (blk_cell BK231.out 5).trans rfl, (blk_cell BK231.out 6).trans rfl, (blk_cell BK231.out 7).trans rfl, (blk_cell BK231.out 8).trans rfl, (blk_cell BK272.out 0).trans rfl, (blk_cell BK272.out 1).trans rfl, (blk_cell BK272.out 2).trans rfl, (blk_cell BK272.out 3).trans rfl, (blk_cell BK272.out 4).trans rfl, (blk_cell BK272.out 5).trans rfl, (blk_cell BK272.out 6).trans rfl, (blk_cell BK272.out 7).trans rfl, (blk_cell BK272.out 8).trans rfl⟩ (fun hHeld => ?_); refine with_tabW joustlaw07_MovingNear.tab9 joustlaw07_MovingNear.bits9 (fun HT_ HW_ => ?_)
          generalize w78.drew = w79 at BK230 BK231 BK232 BK244 BK261 BK272 HB hHeld ⊢
          refine pure_ (i := 1) (N := some 66) (v := ?_) (a' := ?_) #[false, true, false, false, false, false, false, false, false, false, false, false, false, false] rfl rfl (any_of HT_.out (by kernel_rfl)) (fun _ _ _ h => h) (Or.inl ⟨by rfl, ?_⟩) ?_ ?_
          rotate_left
          · intro w'
            go_simp
            with_reducible rfl
          rotate_left
          · simp only [Act.put, List.setIfInBounds_toArray, List.set_cons_zero, List.set_cons_succ, i64_w, i32_w]
            rfl
          refine pure_ (i := 3) (N := some 68) (v := ?_) (a' := ?_) #[false, true, false, true, false, false, false, false, false, false, false, false, false, false] rfl rfl (any_of HT_.out (by kernel_rfl)) (fun _ _ _ h => h) (Or.inl ⟨by rfl, ?_⟩) ?_ ?_
          rotate_left
          · intro w'
            go_simp
            with_reducible rfl
          rotate_left
          · simp only [Act.put, List.setIfInBounds_toArray, List.set_cons_zero, List.set_cons_succ, i64_w, i32_w]
            rfl
          refine pure_ (i := 7) (N := some 72) (v := ?_) (a' := ?_) #[false, true, false, true, false, false, false, true, false, false, false, false, false, false] rfl rfl (any_of HT_.out (by kernel_rfl)) (fun _ _ _ h => h) (Or.inl ⟨by rfl, ?_⟩) ?_ ?_
          rotate_left
          · intro w'
            go_simp
            with_reducible rfl
          rotate_left
          · simp only [Act.put, List.setIfInBounds_toArray, List.set_cons_zero, List.set_cons_succ, i64_w, i32_w]
            rfl
          refine pure_ (i := 9) (N := some 74) (v := ?_) (a' := ?_) #[false, true, false, true, false, false, false, true, false, true, false, false, false, false] rfl rfl (any_of HT_.out (by kernel_rfl)) (fun _ _ _ h => h) (Or.inl ⟨by rfl, ?_⟩) ?_ ?_
          rotate_left
          · intro w'
            go_simp
            with_reducible rfl
          rotate_left
          · simp only [Act.put, List.setIfInBounds_toArray, List.set_cons_zero, List.set_cons_succ, i64_w, i32_w]
            rfl
          refine take_ (i := 0) (N := some 65) (v := ?_) (a' := ?_) #[true, true, false, true, false, false, false, true, false, true, false, false, false, false] rfl rfl (take_ofW HT_.out HW_.out (by kernel_rfl)) (fun _ _ _ h => h) (Or.inl ⟨by rfl, ?_⟩) hHeld ?_ ?_
          rotate_left
          · rintro w' ⟨s0, s1, s2, s3, s4, s5, s6, s7, s8, s9, s10, s11, s12, s13, s14, s15, s16, s17, s18, s19, s20, s21, s22⟩
            go_simp
            with_reducible rfl
          rotate_left
          · simp only [Act.put, List.setIfInBounds_toArray, List.set_cons_zero, List.set_cons_succ, i64_w, i32_w]
            rfl
          refine take_ (i := 2) (N := some 67) (v := ?_) (a' := ?_) #[true, true, true, true, false, false, false, true, false, true, false, false, false, false] rfl rfl (take_ofW HT_.out HW_.out (by kernel_rfl)) (fun _ _ _ h => h) (Or.inl ⟨by rfl, ?_⟩) hHeld ?_ ?_
          rotate_left
          · rintro w' ⟨s0, s1, s2, s3, s4, s5, s6, s7, s8, s9, s10, s11, s12, s13, s14, s15, s16, s17, s18, s19, s20, s21, s22⟩
            go_simp
            with_reducible rfl
          rotate_left
          · simp only [Act.put, List.setIfInBounds_toArray, List.set_cons_zero, List.set_cons_succ, i64_w, i32_w]
            rfl
          refine take_ (i := 4) (N := some 69) (v := ?_) (a' := ?_) #[true, true, true, true, true, false, false, true, false, true, false, false, false, false] rfl rfl (take_ofW HT_.out HW_.out (by kernel_rfl)) (fun _ _ _ h => h) (Or.inl ⟨by rfl, ?_⟩) hHeld ?_ ?_
          rotate_left
          · rintro w' ⟨s0, s1, s2, s3, s4, s5, s6, s7, s8, s9, s10, s11, s12, s13, s14, s15, s16, s17, s18, s19, s20, s21, s22⟩
            go_simp
            with_reducible rfl
          rotate_left
          · simp only [Act.put, List.setIfInBounds_toArray, List.set_cons_zero, List.set_cons_succ, i64_w, i32_w]
            rfl
          refine take_ (i := 6) (N := some 71) (v := ?_) (a' := ?_) #[true, true, true, true, true, false, true, true, false, true, false, false, false, false] rfl rfl (take_ofW HT_.out HW_.out (by kernel_rfl)) (fun _ _ _ h => h) (Or.inl ⟨by rfl, ?_⟩) hHeld ?_ ?_
          rotate_left
          · rintro w' ⟨s0, s1, s2, s3, s4, s5, s6, s7, s8, s9, s10, s11, s12, s13, s14, s15, s16, s17, s18, s19, s20, s21, s22⟩
            go_simp
            with_reducible rfl
          rotate_left
          · simp only [Act.put, List.setIfInBounds_toArray, List.set_cons_zero, List.set_cons_succ, i64_w, i32_w]
            rfl
          refine take_ (i := 8) (N := some 73) (v := ?_) (a' := ?_) #[true, true, true, true, true, false, true, true, true, true, false, false, false, false] rfl rfl (take_ofW HT_.out HW_.out (by kernel_rfl)) (fun _ _ _ h => h) (Or.inl ⟨by rfl, ?_⟩) hHeld ?_ ?_
          rotate_left
          · rintro w' ⟨s0, s1, s2, s3, s4, s5, s6, s7, s8, s9, s10, s11, s12, s13, s14, s15, s16, s17, s18, s19, s20, s21, s22⟩
            go_simp
            with_reducible rfl
          rotate_left
          · simp only [Act.put, List.setIfInBounds_toArray, List.set_cons_zero, List.set_cons_succ, i64_w, i32_w]
            rfl
          refine take_ (i := 10) (N := some 75) (v := ?_) (a' := ?_) #[true, true, true, true, true, false, true, true, true, true, true, false, false, false] rfl rfl (take_ofW HT_.out HW_.out (by kernel_rfl)) (fun _ _ _ h => h) (Or.inl ⟨by rfl, ?_⟩) hHeld ?_ ?_
          rotate_left
          · rintro w' ⟨s0, s1, s2, s3, s4, s5, s6, s7, s8, s9, s10, s11, s12, s13, s14, s15, s16, s17, s18, s19, s20, s21, s22⟩
            go_simp
            with_reducible rfl
          rotate_left
          · simp only [Act.put, List.setIfInBounds_toArray, List.set_cons_zero, List.set_cons_succ, i64_w, i32_w]
            rfl
          refine one_ (i := 5) (N := some 70) #[true, true, true, true, true, true, true, true, true, true, true, false, false, false] rfl rfl (one_of HT_.out (by kernel_rfl)) (by decide) (fun K hK => ?_)
          refine goes_ Try.func19 (by kernel_rfl) rfl #[.agg #[.int .i64 t233, .int .i64 t234, .int .i64 t235, .int .i64 t236, .int .u64 t237], .int .i64 a1_2, .int .i64 a1_3] (by rfl) rfl rfl au13_8 ?_
          with_reducible refine (joustref03_Of.calls t233 t234 t235 t236 t237 a1_2 a1_3 t273 _ A44.out).mono ?_
          rintro e w80 ⟨rfl, hb⟩
          refine ⟨_, rfl, ?_⟩
          have n0_ := Aside0.mk (blk_below (g := gb230) (o := .cells #[.int .i64 t233, .int .i64 t234, .int .i64 t235, .int .i64 t236, .int .u64 t237] 24 (0, 0)) au13_1 hb)
          have n1_ := Aside0.mk (blk_below (g := gb231) (o := .cells #[.int .i64 a1_0, .int .i64 a1_1, .int .i64 a1_2, .int .i64 a1_3, .int .i64 a1_4, .int .i64 a1_5, .int .i64 a1_6, .int .i64 a1_7, .int .i64 a1_8] 26 (0, 0)) au13_2 hb)
          have n2_ := Aside0.mk (blk_below (g := gb232) (o := .cells #[.int .i64 a2_0, .int .i64 a2_1, .bool a2_2] 28 (0, 0)) au13_3 hb)
          have n3_ := Aside0.mk (blk_below (g := gb244) (o := .cells #[.int .i64 t238, .int .i64 t239, .int .i64 t240, .int .i64 t241, .int .u64 t242] 30 (0, 0)) au13_4 hb)
          have n4_ := Aside0.mk (blk_below (g := gb261) (o := .cells #[.int .i64 t251, .int .i64 t252, .int .i64 t253, .int .i64 t254, .int .i64 t255, .int .i64 t256, .int .i64 t257, .int .i64 t258, .int .i64 t259] 26 (0, 0)) au13_9 hb)
          have n5_ := Aside0.mk (blk_below (g := gb272) (o := .cells #[.int .i64 t262, .int .i64 t263, .int .i64 t264, .int .i64 t265, .int .i64 t266, .int .i64 t267, .int .i64 t268, .int .i64 t269, .int .i64 t270] 26 (0, 0)) au13_22 hb)
          have n6_ := Aside0.mk (below_step au13_6 hb)
          clear BK230
          clear BK231
          clear BK232
          clear BK244
          clear BK261
          clear BK272
          clear HB
          have BK230 := n0_
          have BK231 := n1_
          have BK232 := n2_
          have BK244 := n3_
          have BK261 := n4_
          have BK272 := n5_
          have HB := n6_
          clear n0_ n1_ n2_ n3_ n4_ n5_ n6_
          (try clear hb)
          (try clear hb2)
          (try clear hk)
          (try clear hi)
          refine hK.out _ _ ⟨(blk_cell BK230.out 0).trans rfl, (blk_cell BK230.out 1).trans rfl, (blk_cell BK230.out 2).trans rfl, (blk_cell BK230.out 3).trans rfl, (blk_cell BK230.out 4).trans rfl, (blk_cell BK231.out 0).trans rfl, (blk_cell BK231.out 1).trans rfl, (blk_cell BK231.out 2).trans rfl, (blk_cell BK231.out 3).trans rfl, (blk_cell BK231.out 4).trans rfl, (blk_cell BK231.out 5).trans rfl, (blk_cell BK231.out 6).trans rfl, (blk_cell BK231.out 7).trans rfl, (blk_cell BK231.out 8).trans rfl, (blk_cell BK272.out 0).trans rfl, (blk_cell BK272.out 1).trans rfl, (blk_cell BK272.out 2).trans rfl, (blk_cell BK272.out 3).trans rfl, (blk_cell BK272.out 4).trans rfl, (blk_cell BK272.out 5).trans rfl, (blk_cell BK272.out 6).trans rfl, (blk_cell BK272.out 7).trans rfl, (blk_cell BK272.out 8).trans rfl⟩ (fun hHeld => ?_)
          clear hK K
          refine norm_ (a' := ?_) ?_ ?_
          rotate_left
          · show Act.put _ (some 70) _ = _
            simp only [Act.put, List.setIfInBounds_toArray, List.set_cons_zero, List.set_cons_succ, i64_w, i32_w]
            rfl
          refine one_ (i := 11) (N := some 76) #[true, true, true, true, true, true, true, true, true, true, true, true, false, false] rfl rfl (one_of HT_.out (by kernel_rfl)) (by decide) (fun K hK => ?_)
          refine goes_ Try.func19 (by kernel_rfl) rfl #[.agg #[.int .i64 t233, .int .i64 t234, .int .i64 t235, .int .i64 t236, .int .u64 t237], .int .i64 t264, .int .i64 t265] (by rfl) rfl rfl au13_8 ?_
          with_reducible refine (joustref03_Of.calls t233 t234 t235 t236 t237 t264 t265 t274 _ A45.out).mono ?_
          rintro e w81 ⟨rfl, hb⟩
          refine ⟨_, rfl, ?_⟩
          have n0_ := Aside0.mk (blk_below (g := gb230) (o := .cells #[.int .i64 t233, .int .i64 t234, .int .i64 t235, .int .i64 t236, .int .u64 t237] 24 (0, 0)) au13_1 hb)
          have n1_ := Aside0.mk (blk_below (g := gb231) (o := .cells #[.int .i64 a1_0, .int .i64 a1_1, .int .i64 a1_2, .int .i64 a1_3, .int .i64 a1_4, .int .i64 a1_5, .int .i64 a1_6, .int .i64 a1_7, .int .i64 a1_8] 26 (0, 0)) au13_2 hb)
          have n2_ := Aside0.mk (blk_below (g := gb232) (o := .cells #[.int .i64 a2_0, .int .i64 a2_1, .bool a2_2] 28 (0, 0)) au13_3 hb)
          have n3_ := Aside0.mk (blk_below (g := gb244) (o := .cells #[.int .i64 t238, .int .i64 t239, .int .i64 t240, .int .i64 t241, .int .u64 t242] 30 (0, 0)) au13_4 hb)
          have n4_ := Aside0.mk (blk_below (g := gb261) (o := .cells #[.int .i64 t251, .int .i64 t252, .int .i64 t253, .int .i64 t254, .int .i64 t255, .int .i64 t256, .int .i64 t257, .int .i64 t258, .int .i64 t259] 26 (0, 0)) au13_9 hb)
          have n5_ := Aside0.mk (blk_below (g := gb272) (o := .cells #[.int .i64 t262, .int .i64 t263, .int .i64 t264, .int .i64 t265, .int .i64 t266, .int .i64 t267, .int .i64 t268, .int .i64 t269, .int .i64 t270] 26 (0, 0)) au13_22 hb)
          have n6_ := Aside0.mk (below_step au13_6 hb)
          clear BK230
          clear BK231
          clear BK232
          clear BK244
          clear BK261
          clear BK272
          clear HB
          have BK230 := n0_
          have BK231 := n1_
          have BK232 := n2_
          have BK244 := n3_
          have BK261 := n4_
          have BK272 := n5_
          have HB := n6_
          clear n0_ n1_ n2_ n3_ n4_ n5_ n6_
          (try clear hb)
          (try clear hb2)
          (try clear hk)
          (try clear hi)
          refine hK.out _ _ ⟨(blk_cell BK230.out 0).trans rfl, (blk_cell BK230.out 1).trans rfl, (blk_cell BK230.out 2).trans rfl, (blk_cell BK230.out 3).trans rfl, (blk_cell BK230.out 4).trans rfl, (blk_cell BK231.out 0).trans rfl, (blk_cell BK231.out 1).trans rfl, (blk_cell BK231.out 2).trans rfl, (blk_cell BK231.out 3).trans rfl, (blk_cell BK231.out 4).trans rfl, (blk_cell BK231.out 5).trans rfl, (blk_cell BK231.out 6).trans rfl, (blk_cell BK231.out 7).trans rfl, (blk_cell BK231.out 8).trans rfl, (blk_cell BK272.out 0).trans rfl, (blk_cell BK272.out 1).trans rfl, (blk_cell BK272.out 2).trans rfl, (blk_cell BK272.out 3).trans rfl, (blk_cell BK272.out 4).trans rfl, (blk_cell BK272.out 5).trans rfl, (blk_cell BK272.out 6).trans rfl, (blk_cell BK272.out 7).trans rfl, (blk_cell BK272.out 8).trans rfl⟩ (fun hHeld => ?_)
          clear hK K
          refine norm_ (a' := ?_) ?_ ?_
          rotate_left
          · show Act.put _ (some 76) _ = _
            simp only [Act.put, List.setIfInBounds_toArray, List.set_cons_zero, List.set_cons_succ, i64_w, i32_w]
            rfl
          refine pure_ (i := 12) (N := some 13) (v := ?_) (a' := ?_) #[true, true, true, true, true, true, true, true, true, true, true, true, true, false] rfl rfl (any_of HT_.out (by kernel_rfl)) (fun _ _ _ h => h) (Or.inl ⟨by rfl, ?_⟩) ?_ ?_
          rotate_left
          · intro w'
            go_simp
            with_reducible rfl
          rotate_left
          · simp only [Act.put, List.setIfInBounds_toArray, List.set_cons_zero, List.set_cons_succ, i64_w, i32_w]
            rfl
          refine pure_ (i := 13) (N := some 14) (v := ?_) (a' := ?_) #[true, true, true, true, true, true, true, true, true, true, true, true, true, true] rfl rfl (any_of HT_.out (by kernel_rfl)) (fun _ _ _ h => h) (Or.inl ⟨by rfl, ?_⟩) ?_ ?_
          rotate_left
          · intro w'
            go_simp
            with_reducible rfl
          rotate_left
          · simp only [Act.put, List.setIfInBounds_toArray, List.set_cons_zero, List.set_cons_succ, i64_w, i32_w]
            rfl
          refine done_ (done_of HT_.out (by kernel_rfl)) ?_
          have hnb82 := NB230_231.out
          have hnc82 := NB231_230.out
          have hnb83 := NB230_232.out
          have hnc83 := NB232_230.out
          have hcz84_0 : w81.cell? ⟨gb230, 0, none⟩ = some (.int .i64 t233) := (blk_cell BK230.out 0).trans rfl
          have hcz84_1 : w81.cell? ⟨gb230, 1, none⟩ = some (.int .i64 t234) := (blk_cell BK230.out 1).trans rfl
          have hcz84_2 : w81.cell? ⟨gb230, 2, none⟩ = some (.int .i64 t235) := (blk_cell BK230.out 2).trans rfl
          have hcz84_3 : w81.cell? ⟨gb230, 3, none⟩ = some (.int .i64 t236) := (blk_cell BK230.out 3).trans rfl
          have hcz84_4 : w81.cell? ⟨gb230, 4, none⟩ = some (.int .u64 t237) := (blk_cell BK230.out 4).trans rfl
          have hfz84_0 := blk_frozen BK230.out 0
          have hfz84_1 := blk_frozen BK230.out 1
          have hfz84_2 := blk_frozen BK230.out 2
          have hfz84_3 := blk_frozen BK230.out 3
          have hfz84_4 := blk_frozen BK230.out 4
          try go_wp2_with (first | ((with_reducible refine gate_callee (f := 20) rfl ?_); refine goesL_ (some 79) rfl rfl Try.func20 (by kernel_rfl) rfl #[.agg #[.int .i64 t233, .int .i64 t234, .int .i64 t235, .int .i64 t236, .int .u64 t237], .int .i64 t273] rfl au13_8 ?_; (with_reducible refine (joustref03_Near.calls kj5 t233 t234 t235 t236 t237 t273 t275 _ A46.out).mono ?_); rintro e w85 ⟨v276, rfl, ho0, hb⟩; refine ⟨_, rfl, ?_⟩; have n0_ := Aside0.mk (Kd.R_lower ho0 (below_size au13_6)); have n1_ := Aside0.mk (blk_below (g := gb230) (o := .cells #[.int .i64 t233, .int .i64 t234, .int .i64 t235, .int .i64 t236, .int .u64 t237] 24 (0, 0)) au13_1 hb); have n2_ := Aside0.mk (blk_below (g := gb231) (o := .cells #[.int .i64 a1_0, .int .i64 a1_1, .int .i64 a1_2, .int .i64 a1_3, .int .i64 a1_4, .int .i64 a1_5, .int .i64 a1_6, .int .i64 a1_7, .int .i64 a1_8] 26 (0, 0)) au13_2 hb); have n3_ := Aside0.mk (blk_below (g := gb232) (o := .cells #[.int .i64 a2_0, .int .i64 a2_1, .bool a2_2] 28 (0, 0)) au13_3 hb); have n4_ := Aside0.mk (blk_below (g := gb244) (o := .cells #[.int .i64 t238, .int .i64 t239, .int .i64 t240, .int .i64 t241, .int .u64 t242] 30 (0, 0)) au13_4 hb); have n5_ := Aside0.mk (blk_below (g := gb261) (o := .cells #[.int .i64 t251, .int .i64 t252, .int .i64 t253, .int .i64 t254, .int .i64 t255, .int .i64 t256, .int .i64 t257, .int .i64 t258, .int .i64 t259] 26 (0, 0)) au13_9 hb); have n6_ := Aside0.mk (blk_below (g := gb272) (o := .cells #[.int .i64 t262, .int .i64 t263, .int .i64 t264, .int .i64 t265, .int .i64 t266, .int .i64 t267, .int .i64 t268, .int .i64 t269, .int .i64 t270] 26 (0, 0)) au13_22 hb); have n7_ := Aside0.mk (below_step au13_6 hb); clear BK230; clear BK231; clear BK232; clear BK244; clear BK261; clear BK272; clear HB; have HO277 := n0_; have BK230 := n1_; have BK231 := n2_; have BK232 := n3_; have BK244 := n4_; have BK261 := n5_; have BK272 := n6_; have HB := n7_; clear n0_ n1_ n2_ n3_ n4_ n5_ n6_ n7_; (try clear hb); (try clear hb2); (try clear hk); (try clear hi); (try clear ho0)))
          go_loopg [16, 17] kj5 (fun kq v16 v17 w' => ∃ (x16_2 : Bool) (x17_2 : Int), v16 = .bool x16_2 ∧ v17 = .int .i64 x17_2 ∧ Aside0 (joustlaw07_MovingNear.l0 kq t274 t275 x16_2 x17_2 t233 t234 t235 t236 t237 a1_0 a1_1 a1_2 a1_3 a1_4 a1_5 a1_6 a1_7 a1_8 t262 t263 t264 t265 t266 t267 t268 t269 t270 = some r) ∧ Aside0 (kq ≤ kj5) ∧ Aside0 (Kd.R (Kd.int .i64) 3 w' w.heap.size (fun _ => True) v276 t275) ∧ Aside0 (w'.heap[gb230]? = some (.cells #[.int .i64 t233, .int .i64 t234, .int .i64 t235, .int .i64 t236, .int .u64 t237] 24 (0, 0))) ∧ Aside0 (w'.heap[gb231]? = some (.cells #[.int .i64 a1_0, .int .i64 a1_1, .int .i64 a1_2, .int .i64 a1_3, .int .i64 a1_4, .int .i64 a1_5, .int .i64 a1_6, .int .i64 a1_7, .int .i64 a1_8] 26 (0, 0))) ∧ Aside0 (w'.heap[gb232]? = some (.cells #[.int .i64 a2_0, .int .i64 a2_1, .bool a2_2] 28 (0, 0))) ∧ Aside0 (w'.heap[gb244]? = some (.cells #[.int .i64 t238, .int .i64 t239, .int .i64 t240, .int .i64 t241, .int .u64 t242] 30 (0, 0))) ∧ Aside0 (w'.heap[gb261]? = some (.cells #[.int .i64 t251, .int .i64 t252, .int .i64 t253, .int .i64 t254, .int .i64 t255, .int .i64 t256, .int .i64 t257, .int .i64 t258, .int .i64 t259] 26 (0, 0))) ∧ Aside0 (w'.heap[gb272]? = some (.cells #[.int .i64 t262, .int .i64 t263, .int .i64 t264, .int .i64 t265, .int .i64 t266, .int .i64 t267, .int .i64 t268, .int .i64 t269, .int .i64 t270] 26 (0, 0))) ∧ Aside0 (Below w.heap.size w w'))
          case atStart => exact ⟨(false), (0), (by first | rfl | (simp; done) | (simp [*]; done)), (by first | rfl | (simp; done) | (simp [*]; done)), H', ⟨Nat.le_refl _⟩, ⟨by (with_reducible repeat (first | apply Kd.R_alloc | apply Kd.R_drewN | apply Kd.R_drew)); exact HO277.out⟩, ⟨au13_1⟩, ⟨au13_2⟩, ⟨au13_3⟩, ⟨au13_4⟩, ⟨au13_9⟩, ⟨au13_22⟩, ⟨au13_6⟩⟩
          case round =>
            clear H'
            try clear c1
            try clear c2
            try clear p2
            try clear c6
            try clear c7
            try clear c8
            try clear c9
            try clear c11
            try clear c18
            try clear c19
            try clear c20
            try clear c61
            try clear c62
            try clear c63
            try clear c64
            try clear c66
            try clear c67
            try clear c68
            try clear c72
            try clear c73
            try clear c74
            try clear c75
            try clear c76
            try clear c82
            try clear c83
            try clear hcz65_0
            try clear hcz65_1
            try clear hcz65_2
            try clear hcz65_3
            try clear hcz65_4
            try clear hcz69_0
            try clear hcz69_1
            try clear hcz69_2
            try clear hcz69_3
            try clear hcz69_4
            try clear hcz69_5
            try clear hcz69_6
            try clear hcz69_7
            try clear hcz69_8
            try clear hcz77_0
            try clear hcz77_1
            try clear hcz77_2
            try clear hcz77_3
            try clear hcz77_4
            try clear hcz77_5
            try clear hcz77_6
            try clear hcz77_7
            try clear hcz77_8
            try clear hcz84_0
            try clear hcz84_1
            try clear hcz84_2
            try clear hcz84_3
            try clear hcz84_4
            try clear hfz65_0
            try clear hfz65_1
            try clear hfz65_2
            try clear hfz65_3
            try clear hfz65_4
            try clear hfz69_0
            try clear hfz69_1
            try clear hfz69_2
            try clear hfz69_3
            try clear hfz69_4
            try clear hfz69_5
            try clear hfz69_6
            try clear hfz69_7
            try clear hfz69_8
            try clear hfz77_0
            try clear hfz77_1
            try clear hfz77_2
            try clear hfz77_3
            try clear hfz77_4
            try clear hfz77_5
            try clear hfz77_6
            try clear hfz77_7
            try clear hfz77_8
            try clear hfz84_0
            try clear hfz84_1
            try clear hfz84_2
            try clear hfz84_3
            try clear hfz84_4
            obtain ⟨x16_2, x17_2, rfl, rfl, HA, HK2, HO_15, BK230, BK231, BK232, BK244, BK261, BK272, HB⟩ := hrel
            cases gk with
            | zero => exact absurd HA.out (by simp [joustlaw07_MovingNear.l0])
            | succ k2 =>
              have H := HA.out
              clear HA
              simp only [joustlaw07_MovingNear.l0] at H
              by_cases c86 : x17_2 < (t275.length : Int)
              · rw [if_pos c86] at H
                have c86b0 : decide (x17_2 < (t275.length : Int)) = true := decide_eq_true c86
                clear c86
                by_cases c87 : x16_2 = true
                · subst c87
                  have H1 : (joustlaw07_MovingNear.l0 k2 t274 t275 true (wrap64 (x17_2 + 1)) t233 t234 t235 t236 t237 a1_0 a1_1 a1_2 a1_3 a1_4 a1_5 a1_6 a1_7 a1_8 t262 t263 t264 t265 t266 t267 t268 t269 t270) = some r := by rw [if_pos rfl] at H; exact H
                  clear H
                  have H := H1
                  clear H1
                  have H' := Aside0.mk H
                  clear H
                  obtain ⟨Ao88, co88, eo88⟩ := Kd.R_slice HO_15.out
                  subst eo88
                  go_wp2
                  go_roundg k2
                  case measure => have := HJ5.out; have := HK2.out; omega
                  case rel => exact ⟨(true), (wrap64 (x17_2 + 1)), (by first | rfl | (simp; done) | (simp [*]; done)), (by first | rfl | (simp; done) | (simp [*]; done)), H', ⟨by have := HJ5.out; have := HK2.out; omega⟩, ⟨by (with_reducible repeat (first | apply Kd.R_alloc | apply Kd.R_drewN | apply Kd.R_drew)); exact HO_15.out⟩, ⟨au13_1⟩, ⟨au13_2⟩, ⟨au13_3⟩, ⟨au13_4⟩, ⟨au13_9⟩, ⟨au13_22⟩, ⟨au13_6⟩⟩
                · replace c87 := Bool.eq_false_iff.mpr c87
                  subst c87
                  have H1 : (if 0 ≤ x17_2 then (joustlaw07_MovingNear.l0 k2 t274 t275 ((rd t275 x17_2) == t274) (wrap64 (x17_2 + 1)) t233 t234 t235 t236 t237 a1_0 a1_1 a1_2 a1_3 a1_4 a1_5 a1_6 a1_7 a1_8 t262 t263 t264 t265 t266 t267 t268 t269 t270) else (none)) = some r := by rw [if_neg (show ¬ (false = true) by decide)] at H; exact H
                  clear H
                  have H := H1
                  clear H1
                  by_cases c89 : 0 ≤ x17_2
                  · rw [if_pos c89] at H
                    have c89b0 : decide (0 ≤ x17_2) = true := decide_eq_true c89
                    clear c89
                    have H' := Aside0.mk H
                    clear H
                    obtain ⟨Ao90, co90, eo90⟩ := Kd.R_slice HO_15.out
                    subst eo90
                    have p278 : 0 ≤ (x17_2 : Int) := of_decide_eq_true (by first | (with_reducible assumption) | assumption)
                    have q278 : x17_2 < (t275.length : Int) := of_decide_eq_true (by first | (with_reducible assumption) | assumption)
                    obtain ⟨ad278, e278, hx278_0⟩ := Kd.at_int (Kd.R_reads' HO_15.out).2.2 x17_2 p278 q278
                    cases e278
                    replace p278 := eq_true p278
                    replace q278 := eq_true q278
                    go_wp2
                    go_roundg k2
                    case measure => have := HJ5.out; have := HK2.out; omega
                    case rel => exact ⟨(((rd t275 x17_2) == t274)), (wrap64 (x17_2 + 1)), (by first | rfl | (simp; done) | (simp [*]; done)), (by first | rfl | (simp; done) | (simp [*]; done)), H', ⟨by have := HJ5.out; have := HK2.out; omega⟩, ⟨by (with_reducible repeat (first | apply Kd.R_alloc | apply Kd.R_drewN | apply Kd.R_drew)); exact HO_15.out⟩, ⟨au13_1⟩, ⟨au13_2⟩, ⟨au13_3⟩, ⟨au13_4⟩, ⟨au13_9⟩, ⟨au13_22⟩, ⟨au13_6⟩⟩
                  · rw [if_neg c89] at H
                    exact absurd H (by simp)
              · rw [if_neg c86] at H
                have c86b0 : decide (x17_2 < (t275.length : Int)) = false := decide_eq_false c86
                clear c86
                by_cases c91 : x16_2 = true
                · subst c91
                  have H1 : ((joustref05_Right.f t233 t234 t235 t236 t237 t262 t263 t264 t265 t266 t267 t268 t269 t270).bind fun t279 => (if t279 = true then (if t262 = a1_0 then (if t263 = a1_1 then (some (t268 == a1_6)) else (some false)) else (some false)) else (some false))) = some r := by rw [if_pos rfl] at H; exact H
                  clear H
                  have H := H1
                  clear H1
                  replace H := Option.bind_eq_some_iff.mp H
                  obtain ⟨t279, A920, H⟩ := H
                  (try dsimp -simprocs only at H)
                  have A92 := Aside0.mk A920
                  clear A920
                  by_cases c93 : t279 = true
                  · subst c93
                    have H1 : (if t262 = a1_0 then (if t263 = a1_1 then (some (t268 == a1_6)) else (some false)) else (some false)) = some r := by rw [if_pos rfl] at H; exact H
                    clear H
                    have H := H1
                    clear H1
                    by_cases c94 : t262 = a1_0
                    · rw [if_pos c94] at H
                      have c94b0 : (t262 == a1_0) = true := beq_iff_eq.mpr c94
                      have c94b1 : (t262 != a1_0) = false := bne_eq_false_iff_eq.mpr c94
                      clear c94
                      by_cases c95 : t263 = a1_1
                      · rw [if_pos c95] at H
                        have c95b0 : (t263 == a1_1) = true := beq_iff_eq.mpr c95
                        have c95b1 : (t263 != a1_1) = false := bne_eq_false_iff_eq.mpr c95
                        clear c95
                        obtain rfl := Option.some.inj H
                        obtain ⟨Ao96, co96, eo96⟩ := Kd.R_slice HO_15.out
                        subst eo96
                        have hnb97 := NB230_231.out
                        have hnc97 := NB231_230.out
                        have hnb98 := NB230_232.out
                        have hnc98 := NB232_230.out
                        have hnb99 := NB230_244.out
                        have hnc99 := NB244_230.out
                        have hnb100 := NB230_261.out
                        have hnc100 := NB261_230.out
                        have hnb101 := NB230_272.out
                        have hnc101 := NB272_230.out
                        have hcz102_0 : wr.cell? ⟨gb230, 0, none⟩ = some (.int .i64 t233) := (blk_cell BK230.out 0).trans rfl
                        have hcz102_1 : wr.cell? ⟨gb230, 1, none⟩ = some (.int .i64 t234) := (blk_cell BK230.out 1).trans rfl
                        have hcz102_2 : wr.cell? ⟨gb230, 2, none⟩ = some (.int .i64 t235) := (blk_cell BK230.out 2).trans rfl
                        have hcz102_3 : wr.cell? ⟨gb230, 3, none⟩ = some (.int .i64 t236) := (blk_cell BK230.out 3).trans rfl
                        have hcz102_4 : wr.cell? ⟨gb230, 4, none⟩ = some (.int .u64 t237) := (blk_cell BK230.out 4).trans rfl
                        have hfz102_0 := blk_frozen BK230.out 0
                        have hfz102_1 := blk_frozen BK230.out 1
                        have hfz102_2 := blk_frozen BK230.out 2
                        have hfz102_3 := blk_frozen BK230.out 3
                        have hfz102_4 := blk_frozen BK230.out 4
                        have hnb103 := NB272_231.out
                        have hnc103 := NB231_272.out
                        have hnb104 := NB272_232.out
                        have hnc104 := NB232_272.out
                        have hnb105 := NB272_244.out
                        have hnc105 := NB244_272.out
                        have hnb106 := NB272_261.out
                        have hnc106 := NB261_272.out
                        have hcz107_0 : wr.cell? ⟨gb272, 0, none⟩ = some (.int .i64 t262) := (blk_cell BK272.out 0).trans rfl
                        have hcz107_1 : wr.cell? ⟨gb272, 1, none⟩ = some (.int .i64 t263) := (blk_cell BK272.out 1).trans rfl
                        have hcz107_2 : wr.cell? ⟨gb272, 2, none⟩ = some (.int .i64 t264) := (blk_cell BK272.out 2).trans rfl
                        have hcz107_3 : wr.cell? ⟨gb272, 3, none⟩ = some (.int .i64 t265) := (blk_cell BK272.out 3).trans rfl
                        have hcz107_4 : wr.cell? ⟨gb272, 4, none⟩ = some (.int .i64 t266) := (blk_cell BK272.out 4).trans rfl
                        have hcz107_5 : wr.cell? ⟨gb272, 5, none⟩ = some (.int .i64 t267) := (blk_cell BK272.out 5).trans rfl
                        have hcz107_6 : wr.cell? ⟨gb272, 6, none⟩ = some (.int .i64 t268) := (blk_cell BK272.out 6).trans rfl
                        have hcz107_7 : wr.cell? ⟨gb272, 7, none⟩ = some (.int .i64 t269) := (blk_cell BK272.out 7).trans rfl
                        have hcz107_8 : wr.cell? ⟨gb272, 8, none⟩ = some (.int .i64 t270) := (blk_cell BK272.out 8).trans rfl
                        have hfz107_0 := blk_frozen BK272.out 0
                        have hfz107_1 := blk_frozen BK272.out 1
                        have hfz107_2 := blk_frozen BK272.out 2
                        have hfz107_3 := blk_frozen BK272.out 3
                        have hfz107_4 := blk_frozen BK272.out 4
                        have hfz107_5 := blk_frozen BK272.out 5
                        have hfz107_6 := blk_frozen BK272.out 6
                        have hfz107_7 := blk_frozen BK272.out 7
                        have hfz107_8 := blk_frozen BK272.out 8
                        go_wp2_with (first | (go_at_call 17; (with_reducible refine (joustref05_Right.calls t233 t234 t235 t236 t237 t262 t263 t264 t265 t266 t267 t268 t269 t270 true _ A92.out).mono ?_); rintro e w108 ⟨rfl, hb⟩; have n0_ := Aside0.mk (Kd.R_below (by (with_reducible repeat (first | apply Kd.R_alloc | apply Kd.R_drewN | apply Kd.R_drew)); exact HO_15.out) hb); have n1_ := Aside0.mk (blk_below (g := gb230) (o := .cells #[.int .i64 t233, .int .i64 t234, .int .i64 t235, .int .i64 t236, .int .u64 t237] 24 (0, 0)) au13_1 hb); have n2_ := Aside0.mk (blk_below (g := gb231) (o := .cells #[.int .i64 a1_0, .int .i64 a1_1, .int .i64 a1_2, .int .i64 a1_3, .int .i64 a1_4, .int .i64 a1_5, .int .i64 a1_6, .int .i64 a1_7, .int .i64 a1_8] 26 (0, 0)) au13_2 hb); have n3_ := Aside0.mk (blk_below (g := gb232) (o := .cells #[.int .i64 a2_0, .int .i64 a2_1, .bool a2_2] 28 (0, 0)) au13_3 hb); have n4_ := Aside0.mk (blk_below (g := gb244) (o := .cells #[.int .i64 t238, .int .i64 t239, .int .i64 t240, .int .i64 t241, .int .u64 t242] 30 (0, 0)) au13_4 hb); have n5_ := Aside0.mk (blk_below (g := gb261) (o := .cells #[.int .i64 t251, .int .i64 t252, .int .i64 t253, .int .i64 t254, .int .i64 t255, .int .i64 t256, .int .i64 t257, .int .i64 t258, .int .i64 t259] 26 (0, 0)) au13_9 hb); have n6_ := Aside0.mk (blk_below (g := gb272) (o := .cells #[.int .i64 t262, .int .i64 t263, .int .i64 t264, .int .i64 t265, .int .i64 t266, .int .i64 t267, .int .i64 t268, .int .i64 t269, .int .i64 t270] 26 (0, 0)) au13_22 hb); have n7_ := Aside0.mk (below_step au13_6 hb); clear HO_15; clear BK230; clear BK231; clear BK232; clear BK244; clear BK261; clear BK272; clear HB; have HO_15 := n0_; have BK230 := n1_; have BK231 := n2_; have BK232 := n3_; have BK244 := n4_; have BK261 := n5_; have BK272 := n6_; have HB := n7_; clear n0_ n1_ n2_ n3_ n4_ n5_ n6_ n7_; (try clear hb); (try clear hb2); (try clear hk); (try clear hi); have hcz109_0 : w108.cell? ⟨gb272, 0, none⟩ = some (.int .i64 t262) := (blk_cell BK272.out 0).trans rfl; have hcz109_1 : w108.cell? ⟨gb272, 1, none⟩ = some (.int .i64 t263) := (blk_cell BK272.out 1).trans rfl; have hcz109_2 : w108.cell? ⟨gb272, 2, none⟩ = some (.int .i64 t264) := (blk_cell BK272.out 2).trans rfl; have hcz109_3 : w108.cell? ⟨gb272, 3, none⟩ = some (.int .i64 t265) := (blk_cell BK272.out 3).trans rfl; have hcz109_4 : w108.cell? ⟨gb272, 4, none⟩ = some (.int .i64 t266) := (blk_cell BK272.out 4).trans rfl; have hcz109_5 : w108.cell? ⟨gb272, 5, none⟩ = some (.int .i64 t267) := (blk_cell BK272.out 5).trans rfl; have hcz109_6 : w108.cell? ⟨gb272, 6, none⟩ = some (.int .i64 t268) := (blk_cell BK272.out 6).trans rfl; have hcz109_7 : w108.cell? ⟨gb272, 7, none⟩ = some (.int .i64 t269) := (blk_cell BK272.out 7).trans rfl; have hcz109_8 : w108.cell? ⟨gb272, 8, none⟩ = some (.int .i64 t270) := (blk_cell BK272.out 8).trans rfl; have hfz109_0 := blk_frozen BK272.out 0; have hfz109_1 := blk_frozen BK272.out 1; have hfz109_2 := blk_frozen BK272.out 2; have hfz109_3 := blk_frozen BK272.out 3; have hfz109_4 := blk_frozen BK272.out 4; have hfz109_5 := blk_frozen BK272.out 5; have hfz109_6 := blk_frozen BK272.out 6; have hfz109_7 := blk_frozen BK272.out 7; have hfz109_8 := blk_frozen BK272.out 8; have hnb110 := NB231_232.out; have hnc110 := NB232_231.out; have hnb111 := NB231_244.out; have hnc111 := NB244_231.out; have hnb112 := NB231_261.out; have hnc112 := NB261_231.out; have hcz113_0 : w108.cell? ⟨gb231, 0, none⟩ = some (.int .i64 a1_0) := (blk_cell BK231.out 0).trans rfl; have hcz113_1 : w108.cell? ⟨gb231, 1, none⟩ = some (.int .i64 a1_1) := (blk_cell BK231.out 1).trans rfl; have hcz113_2 : w108.cell? ⟨gb231, 2, none⟩ = some (.int .i64 a1_2) := (blk_cell BK231.out 2).trans rfl; have hcz113_3 : w108.cell? ⟨gb231, 3, none⟩ = some (.int .i64 a1_3) := (blk_cell BK231.out 3).trans rfl; have hcz113_4 : w108.cell? ⟨gb231, 4, none⟩ = some (.int .i64 a1_4) := (blk_cell BK231.out 4).trans rfl; have hcz113_5 : w108.cell? ⟨gb231, 5, none⟩ = some (.int .i64 a1_5) := (blk_cell BK231.out 5).trans rfl; have hcz113_6 : w108.cell? ⟨gb231, 6, none⟩ = some (.int .i64 a1_6) := (blk_cell BK231.out 6).trans rfl; have hcz113_7 : w108.cell? ⟨gb231, 7, none⟩ = some (.int .i64 a1_7) := (blk_cell BK231.out 7).trans rfl; have hcz113_8 : w108.cell? ⟨gb231, 8, none⟩ = some (.int .i64 a1_8) := (blk_cell BK231.out 8).trans rfl; have hfz113_0 := blk_frozen BK231.out 0; have hfz113_1 := blk_frozen BK231.out 1; have hfz113_2 := blk_frozen BK231.out 2; have hfz113_3 := blk_frozen BK231.out 3; have hfz113_4 := blk_frozen BK231.out 4; have hfz113_5 := blk_frozen BK231.out 5; have hfz113_6 := blk_frozen BK231.out 6; have hfz113_7 := blk_frozen BK231.out 7; have hfz113_8 := blk_frozen BK231.out 8))
                        go_ret
                        exact ⟨by first | rfl | (simp [errW_none, errW_some] <;> rfl) | (simp [*, errW_none, errW_some] <;> rfl), au13_6⟩
                      · rw [if_neg c95] at H
                        have c95b0 : (t263 == a1_1) = false := beq_eq_false_iff_ne.mpr c95
                        have c95b1 : (t263 != a1_1) = true := bne_iff_ne.mpr c95
                        exact absurd (H.trans (congrArg some hr_.out)) (by decide)
                    · rw [if_neg c94] at H
                      have c94b0 : (t262 == a1_0) = false := beq_eq_false_iff_ne.mpr c94
                      have c94b1 : (t262 != a1_0) = true := bne_iff_ne.mpr c94
                      exact absurd (H.trans (congrArg some hr_.out)) (by decide)
                  · replace c93 := Bool.eq_false_iff.mpr c93
                    subst c93
                    have H1 : (some false) = some r := by rw [if_neg (show ¬ (false = true) by decide)] at H; exact H
                    clear H
                    have H := H1
                    clear H1
                    exact absurd (H.trans (congrArg some hr_.out)) (by decide)
                · replace c91 := Bool.eq_false_iff.mpr c91
                  subst c91
                  have H1 : (some false) = some r := by rw [if_neg (show ¬ (false = true) by decide)] at H; exact H
                  clear H
                  have H := H1
                  clear H1
                  exact absurd (H.trans (congrArg some hr_.out)) (by decide)
        · replace c43 := Bool.eq_false_iff.mpr c43
          subst c43
          have H1 : (if a1_1 = 2 then (some (t262 == 0 && (t263 == 0 && (t264 == 0 && (t265 == 0 && (t266 == 0 && (t267 == 0 && (t268 == 0 && (t269 == 0 && (t270 == 0)))))))))) else (some false)) = some r := by rw [if_neg (show ¬ (false = true) by decide)] at H; exact H
          clear H
          have H := H1
          clear H1
          by_cases c114 : a1_1 = 2
          · rw [if_pos c114] at H
            have c114b0 : (a1_1 == 2) = true := beq_iff_eq.mpr c114
            have c114b1 : (a1_1 != 2) = false := bne_eq_false_iff_eq.mpr c114
            clear c114
            obtain rfl := Option.some.inj H
            try go_wp2
            have n0_ := Aside0.mk (blk_drew BK230.out)
            have n1_ := Aside0.mk (blk_drew BK231.out)
            have n2_ := Aside0.mk (blk_drew BK232.out)
            have n3_ := Aside0.mk (blk_drew BK244.out)
            have n4_ := Aside0.mk (below_drew1 HB.out)
            clear BK230
            clear BK231
            clear BK232
            clear BK244
            clear HB
            have BK230 := n0_
            have BK231 := n1_
            have BK232 := n2_
            have BK244 := n3_
            have HB := n4_
            clear n0_ n1_ n2_ n3_ n4_
            refine start_ (n := 10) (S := fun w' => w'.cell? ⟨gb231, 0, none⟩ = some (.int .i64 a1_0) ∧ w'.cell? ⟨gb231, 1, none⟩ = some (.int .i64 a1_1) ∧ w'.cell? ⟨gb231, 2, none⟩ = some (.int .i64 a1_2) ∧ w'.cell? ⟨gb231, 3, none⟩ = some (.int .i64 a1_3) ∧ w'.cell? ⟨gb231, 4, none⟩ = some (.int .i64 a1_4) ∧ w'.cell? ⟨gb231, 5, none⟩ = some (.int .i64 a1_5) ∧ w'.cell? ⟨gb231, 6, none⟩ = some (.int .i64 a1_6) ∧ w'.cell? ⟨gb231, 7, none⟩ = some (.int .i64 a1_7) ∧ w'.cell? ⟨gb231, 8, none⟩ = some (.int .i64 a1_8) ∧ w'.cell? ⟨gb232, 0, none⟩ = some (.int .i64 a2_0) ∧ w'.cell? ⟨gb232, 1, none⟩ = some (.int .i64 a2_1) ∧ w'.cell? ⟨gb232, 2, none⟩ = some (.bool a2_2)) (ds := []) #[false, false, false, false, false, false, false, false, false, false] (by kernel_rfl) rfl rfl ⟨(blk_cell BK231.out 0).trans rfl, (blk_cell BK231.out 1).trans rfl, (blk_cell BK231.out 2).trans rfl, (blk_cell BK231.out 3).trans rfl, (blk_cell BK231.out 4).trans rfl, (blk_cell BK231.out 5).trans rfl, (blk_cell BK231.out 6).trans rfl, (blk_cell BK231.out 7).trans rfl, (blk_cell BK231.out 8).trans rfl, (blk_cell BK232.out 0).trans rfl, (blk_cell BK232.out 1).trans rfl, (blk_cell BK232.out 2).trans rfl⟩ (fun hHeld => ?_); refine with_tabW joustlaw07_MovingNear.tab5 joustlaw07_MovingNear.bits5 (fun HT_ HW_ => ?_)
            generalize wc.drew = w115 at BK230 BK231 BK232 BK244 HB hHeld ⊢
            refine take_ (i := 0) (N := some 43) (v := ?_) (a' := ?_) #[true, false, false, false, false, false, false, false, false, false] rfl rfl (take_ofW HT_.out HW_.out (by kernel_rfl)) (fun _ _ _ h => h) (Or.inl ⟨by rfl, ?_⟩) hHeld ?_ ?_
            rotate_left
            · rintro w' ⟨s0, s1, s2, s3, s4, s5, s6, s7, s8, s9, s10, s11⟩
              go_simp
              with_reducible rfl
            rotate_left
            · simp only [Act.put, List.setIfInBounds_toArray, List.set_cons_zero, List.set_cons_succ, i64_w, i32_w]
              rfl
            refine take_ (i := 1) (N := some 44) (v := ?_) (a' := ?_) #[true, true, false, false, false, false, false, false, false, false] rfl rfl (take_ofW HT_.out HW_.out (by kernel_rfl)) (fun _ _ _ h => h) (Or.inl ⟨by rfl, ?_⟩) hHeld ?_ ?_
            rotate_left
            · rintro w' ⟨s0, s1, s2, s3, s4, s5, s6, s7, s8, s9, s10, s11⟩
              go_simp
              with_reducible rfl
            rotate_left
            · simp only [Act.put, List.setIfInBounds_toArray, List.set_cons_zero, List.set_cons_succ, i64_w, i32_w]
              rfl
            refine join_ (σ := Nat) 2 #[true, true, true, true, true, true, true, true, false, false] (fun s_ => [(45, .agg #[.int .i64 t248, .int .i64 t249, .bool t250]), (46, .tuple #[.agg #[.int .i64 t251, .int .i64 t252, .int .i64 t253, .int .i64 t254, .int .i64 t255, .int .i64 t256, .int .i64 t257, .int .i64 t258, .int .i64 t259], .bool t260]), (9, .pointer (some ⟨s_, 0, none⟩)), (42, .tuple #[.agg #[.int .i64 t251, .int .i64 t252, .int .i64 t253, .int .i64 t254, .int .i64 t255, .int .i64 t256, .int .i64 t257, .int .i64 t258, .int .i64 t259], .bool t260]), (47, .agg #[.int .i64 t251, .int .i64 t252, .int .i64 t253, .int .i64 t254, .int .i64 t255, .int .i64 t256, .int .i64 t257, .int .i64 t258, .int .i64 t259]), (48, .bool t260)]) (fun s_ w' => (w'.cell? ⟨gb231, 0, none⟩ = some (.int .i64 a1_0) ∧ w'.cell? ⟨gb231, 1, none⟩ = some (.int .i64 a1_1) ∧ w'.cell? ⟨gb231, 2, none⟩ = some (.int .i64 a1_2) ∧ w'.cell? ⟨gb231, 3, none⟩ = some (.int .i64 a1_3) ∧ w'.cell? ⟨gb231, 4, none⟩ = some (.int .i64 a1_4) ∧ w'.cell? ⟨gb231, 5, none⟩ = some (.int .i64 a1_5) ∧ w'.cell? ⟨gb231, 6, none⟩ = some (.int .i64 a1_6) ∧ w'.cell? ⟨gb231, 7, none⟩ = some (.int .i64 a1_7) ∧ w'.cell? ⟨gb231, 8, none⟩ = some (.int .i64 a1_8) ∧ w'.cell? ⟨gb232, 0, none⟩ = some (.int .i64 a2_0) ∧ w'.cell? ⟨gb232, 1, none⟩ = some (.int .i64 a2_1) ∧ w'.cell? ⟨gb232, 2, none⟩ = some (.bool a2_2)) ∧ (w'.heap[gb230]? = some (.cells #[.int .i64 t233, .int .i64 t234, .int .i64 t235, .int .i64 t236, .int .u64 t237] 24 (0, 0))) ∧ (w'.heap[gb231]? = some (.cells #[.int .i64 a1_0, .int .i64 a1_1, .int .i64 a1_2, .int .i64 a1_3, .int .i64 a1_4, .int .i64 a1_5, .int .i64 a1_6, .int .i64 a1_7, .int .i64 a1_8] 26 (0, 0))) ∧ (w'.heap[gb232]? = some (.cells #[.int .i64 a2_0, .int .i64 a2_1, .bool a2_2] 28 (0, 0))) ∧ (w'.heap[gb244]? = some (.cells #[.int .i64 t238, .int .i64 t239, .int .i64 t240, .int .i64 t241, .int .u64 t242] 30 (0, 0))) ∧ (w'.heap[s_]? = some (.cells #[.int .i64 0, .int .i64 0, .int .i64 0, .int .i64 0, .int .i64 0, .int .i64 0, .int .i64 0, .int .i64 0, .int .i64 0] 26 (0, 0))) ∧ (w.heap.size ≤ s_) ∧ (w.heap.size ≤ s_) ∧ (gb230 ≠ s_) ∧ (s_ ≠ gb230) ∧ (gb231 ≠ s_) ∧ (s_ ≠ gb231) ∧ (gb232 ≠ s_) ∧ (s_ ≠ gb232) ∧ (gb244 ≠ s_) ∧ (s_ ≠ gb244) ∧ (Below w.heap.size w w')) ?_ ?_
            rotate_left
            · intro hCont
              refine two_ (i := 2) (j := 7) (Ni := some 45) (Nj := some 9) #[true, true, true, false, false, false, false, false, false, false] #[true, true, false, false, false, false, false, true, false, false] rfl rfl rfl rfl (two_of HT_.out (by kernel_rfl)) (by decide) (by decide) (fun K hK => ?_) (fun K hK => ?_)
              · skip
                refine goes_ Try.func18 (by kernel_rfl) rfl #[.agg #[.int .i64 a2_0, .int .i64 a2_1, .bool a2_2]] (by rfl) rfl rfl au13_8 ?_
                with_reducible refine (joustplay_Input.calls a2_0 a2_1 a2_2 t248 t249 t250 _ A40.out).mono ?_
                rintro e w116 ⟨rfl, hb⟩
                refine ⟨_, rfl, ?_⟩
                have n0_ := Aside0.mk (blk_below (g := gb230) (o := .cells #[.int .i64 t233, .int .i64 t234, .int .i64 t235, .int .i64 t236, .int .u64 t237] 24 (0, 0)) au13_1 hb)
                have n1_ := Aside0.mk (blk_below (g := gb231) (o := .cells #[.int .i64 a1_0, .int .i64 a1_1, .int .i64 a1_2, .int .i64 a1_3, .int .i64 a1_4, .int .i64 a1_5, .int .i64 a1_6, .int .i64 a1_7, .int .i64 a1_8] 26 (0, 0)) au13_2 hb)
                have n2_ := Aside0.mk (blk_below (g := gb232) (o := .cells #[.int .i64 a2_0, .int .i64 a2_1, .bool a2_2] 28 (0, 0)) au13_3 hb)
                have n3_ := Aside0.mk (blk_below (g := gb244) (o := .cells #[.int .i64 t238, .int .i64 t239, .int .i64 t240, .int .i64 t241, .int .u64 t242] 30 (0, 0)) au13_4 hb)
                have n4_ := Aside0.mk (below_step au13_0 hb)
                clear BK230
                clear BK231
                clear BK232
                clear BK244
                clear HB
                have BK230 := n0_
                have BK231 := n1_
                have BK232 := n2_
                have BK244 := n3_
                have HB := n4_
                clear n0_ n1_ n2_ n3_ n4_
                (try clear hb)
                (try clear hb2)
                (try clear hk)
                (try clear hi)
                refine hK.out _ _ ⟨(blk_cell BK231.out 0).trans rfl, (blk_cell BK231.out 1).trans rfl, (blk_cell BK231.out 2).trans rfl, (blk_cell BK231.out 3).trans rfl, (blk_cell BK231.out 4).trans rfl, (blk_cell BK231.out 5).trans rfl, (blk_cell BK231.out 6).trans rfl, (blk_cell BK231.out 7).trans rfl, (blk_cell BK231.out 8).trans rfl, (blk_cell BK232.out 0).trans rfl, (blk_cell BK232.out 1).trans rfl, (blk_cell BK232.out 2).trans rfl⟩ (fun hHeld => ?_)
                clear hK K
                refine norm_ (a' := ?_) ?_ ?_
                rotate_left
                · show Act.put _ (some 45) _ = _
                  simp only [Act.put, List.setIfInBounds_toArray, List.set_cons_zero, List.set_cons_succ, i64_w, i32_w]
                  rfl
                refine two_ (i := 3) (j := 7) (Ni := some 46) (Nj := some 9) #[true, true, true, true, false, false, false, false, false, false] #[true, true, true, false, false, false, false, true, false, false] rfl rfl rfl rfl (two_of HT_.out (by kernel_rfl)) (by decide) (by decide) (fun K hK => ?_) (fun K hK => ?_)
                · skip
                  refine goes_ Try.func9 (by kernel_rfl) rfl #[.agg #[.int .i64 a1_0, .int .i64 a1_1, .int .i64 a1_2, .int .i64 a1_3, .int .i64 a1_4, .int .i64 a1_5, .int .i64 a1_6, .int .i64 a1_7, .int .i64 a1_8], .agg #[.int .i64 t248, .int .i64 t249, .bool t250]] (by rfl) rfl rfl au13_8 ?_
                  with_reducible refine (moving_Steer.calls kj5 a1_0 a1_1 a1_2 a1_3 a1_4 a1_5 a1_6 a1_7 a1_8 t248 t249 t250 t251 t252 t253 t254 t255 t256 t257 t258 t259 t260 _ A41.out).mono ?_
                  rintro e w117 ⟨rfl, hb⟩
                  refine ⟨_, rfl, ?_⟩
                  have n0_ := Aside0.mk (blk_below (g := gb230) (o := .cells #[.int .i64 t233, .int .i64 t234, .int .i64 t235, .int .i64 t236, .int .u64 t237] 24 (0, 0)) au13_1 hb)
                  have n1_ := Aside0.mk (blk_below (g := gb231) (o := .cells #[.int .i64 a1_0, .int .i64 a1_1, .int .i64 a1_2, .int .i64 a1_3, .int .i64 a1_4, .int .i64 a1_5, .int .i64 a1_6, .int .i64 a1_7, .int .i64 a1_8] 26 (0, 0)) au13_2 hb)
                  have n2_ := Aside0.mk (blk_below (g := gb232) (o := .cells #[.int .i64 a2_0, .int .i64 a2_1, .bool a2_2] 28 (0, 0)) au13_3 hb)
                  have n3_ := Aside0.mk (blk_below (g := gb244) (o := .cells #[.int .i64 t238, .int .i64 t239, .int .i64 t240, .int .i64 t241, .int .u64 t242] 30 (0, 0)) au13_4 hb)
                  have n4_ := Aside0.mk (below_step au13_0 hb)
                  clear BK230
                  clear BK231
                  clear BK232
                  clear BK244
                  clear HB
                  have BK230 := n0_
                  have BK231 := n1_
                  have BK232 := n2_
                  have BK244 := n3_
                  have HB := n4_
                  clear n0_ n1_ n2_ n3_ n4_
                  (try clear hb)
                  (try clear hb2)
                  (try clear hk)
                  (try clear hi)
                  refine hK.out _ _ ⟨(blk_cell BK231.out 0).trans rfl, (blk_cell BK231.out 1).trans rfl, (blk_cell BK231.out 2).trans rfl, (blk_cell BK231.out 3).trans rfl, (blk_cell BK231.out 4).trans rfl, (blk_cell BK231.out 5).trans rfl, (blk_cell BK231.out 6).trans rfl, (blk_cell BK231.out 7).trans rfl, (blk_cell BK231.out 8).trans rfl, (blk_cell BK232.out 0).trans rfl, (blk_cell BK232.out 1).trans rfl, (blk_cell BK232.out 2).trans rfl⟩ (fun hHeld => ?_)
                  clear hK K
                  refine norm_ (a' := ?_) ?_ ?_
                  rotate_left
                  · show Act.put _ (some 46) _ = _
                    simp only [Act.put, List.setIfInBounds_toArray, List.set_cons_zero, List.set_cons_succ, i64_w, i32_w]
                    rfl
                  refine pure_ (i := 4) (N := some 42) (v := ?_) (a' := ?_) #[true, true, true, true, true, false, false, false, false, false] rfl rfl (any_of HT_.out (by kernel_rfl)) (fun _ _ _ h => h) (Or.inl ⟨by rfl, ?_⟩) ?_ ?_
                  rotate_left
                  · intro w'
                    go_simp
                    with_reducible rfl
                  rotate_left
                  · simp only [Act.put, List.setIfInBounds_toArray, List.set_cons_zero, List.set_cons_succ, i64_w, i32_w]
                    rfl
                  refine pure_ (i := 5) (N := some 47) (v := ?_) (a' := ?_) #[true, true, true, true, true, true, false, false, false, false] rfl rfl (any_of HT_.out (by kernel_rfl)) (fun _ _ _ h => h) (Or.inl ⟨by rfl, ?_⟩) ?_ ?_
                  rotate_left
                  · intro w'
                    go_simp
                    with_reducible rfl
                  rotate_left
                  · simp only [Act.put, List.setIfInBounds_toArray, List.set_cons_zero, List.set_cons_succ, i64_w, i32_w]
                    rfl
                  refine pure_ (i := 6) (N := some 48) (v := ?_) (a' := ?_) #[true, true, true, true, true, true, true, false, false, false] rfl rfl (any_of HT_.out (by kernel_rfl)) (fun _ _ _ h => h) (Or.inl ⟨by rfl, ?_⟩) ?_ ?_
                  rotate_left
                  · intro w'
                    go_simp
                    with_reducible rfl
                  rotate_left
                  · simp only [Act.put, List.setIfInBounds_toArray, List.set_cons_zero, List.set_cons_succ, i64_w, i32_w]
                    rfl
                  refine one_ (i := 7) (N := some 9) #[true, true, true, true, true, true, true, true, false, false] rfl rfl (one_of HT_.out (by kernel_rfl)) (by decide) (fun K hK => ?_)
                  refine box_step ?hg (N := 9) ?hd (cs := #[.int .i64 0, .int .i64 0, .int .i64 0, .int .i64 0, .int .i64 0, .int .i64 0, .int .i64 0, .int .i64 0, .int .i64 0]) (t := 26) ?hr ?_; (case hd => rfl); (case hg => rfl); (case hr => first | (go_simp; done) | (go_simp; rfl))
                  intro gb261 hg w118 hbox hb
                  have n0_ := Aside0.mk (blk_below (g := gb230) (o := .cells #[.int .i64 t233, .int .i64 t234, .int .i64 t235, .int .i64 t236, .int .u64 t237] 24 (0, 0)) au13_1 hb)
                  have n1_ := Aside0.mk (blk_below (g := gb231) (o := .cells #[.int .i64 a1_0, .int .i64 a1_1, .int .i64 a1_2, .int .i64 a1_3, .int .i64 a1_4, .int .i64 a1_5, .int .i64 a1_6, .int .i64 a1_7, .int .i64 a1_8] 26 (0, 0)) au13_2 hb)
                  have n2_ := Aside0.mk (blk_below (g := gb232) (o := .cells #[.int .i64 a2_0, .int .i64 a2_1, .bool a2_2] 28 (0, 0)) au13_3 hb)
                  have n3_ := Aside0.mk (blk_below (g := gb244) (o := .cells #[.int .i64 t238, .int .i64 t239, .int .i64 t240, .int .i64 t241, .int .u64 t242] 30 (0, 0)) au13_4 hb)
                  have n4_ := Aside0.mk (below_step au13_0 hb)
                  have n5_ := Aside0.mk (hbox)
                  have n6_ := Aside0.mk ((by rw [hg]; exact (below_size au13_0) : w.heap.size ≤ gb261))
                  have n7_ := Aside0.mk ((by rw [hg]; exact (below_size au13_0) : w.heap.size ≤ gb261))
                  have n8_ := Aside0.mk ((au13_15 : gb230 ≠ gb261))
                  have n9_ := Aside0.mk ((au13_16 : gb261 ≠ gb230))
                  have n10_ := Aside0.mk ((au13_13 : gb231 ≠ gb261))
                  have n11_ := Aside0.mk ((au13_14 : gb261 ≠ gb231))
                  have n12_ := Aside0.mk ((au13_20 : gb232 ≠ gb261))
                  have n13_ := Aside0.mk ((au13_21 : gb261 ≠ gb232))
                  have n14_ := Aside0.mk ((au13_17 : gb244 ≠ gb261))
                  have n15_ := Aside0.mk ((au13_18 : gb261 ≠ gb244))
                  clear BK230
                  clear BK231
                  clear BK232
                  clear BK244
                  clear HB
                  have BK230 := n0_
                  have BK231 := n1_
                  have BK232 := n2_
                  have BK244 := n3_
                  have HB := n4_
                  have BK261 := n5_
                  have GW261 := n6_
                  have GE261 := n7_
                  have NB230_261 := n8_
                  have NB261_230 := n9_
                  have NB231_261 := n10_
                  have NB261_231 := n11_
                  have NB232_261 := n12_
                  have NB261_232 := n13_
                  have NB244_261 := n14_
                  have NB261_244 := n15_
                  clear n0_ n1_ n2_ n3_ n4_ n5_ n6_ n7_ n8_ n9_ n10_ n11_ n12_ n13_ n14_ n15_
                  clear hb hbox hg
                  refine hK.out _ _ ⟨(blk_cell BK231.out 0).trans rfl, (blk_cell BK231.out 1).trans rfl, (blk_cell BK231.out 2).trans rfl, (blk_cell BK231.out 3).trans rfl, (blk_cell BK231.out 4).trans rfl, (blk_cell BK231.out 5).trans rfl, (blk_cell BK231.out 6).trans rfl, (blk_cell BK231.out 7).trans rfl, (blk_cell BK231.out 8).trans rfl, (blk_cell BK232.out 0).trans rfl, (blk_cell BK232.out 1).trans rfl, (blk_cell BK232.out 2).trans rfl⟩ (fun hHeld => ?_)
                  clear hK K
                  refine norm_ (a' := ?_) ?_ ?_
                  rotate_left
                  · show Act.put _ (some 9) _ = _
                    simp only [Act.put, List.setIfInBounds_toArray, List.set_cons_zero, List.set_cons_succ, i64_w, i32_w]
                    rfl
                  exact norm_ au13_24 (hCont (gb261) _ ⟨hHeld, au13_1, au13_2, au13_3, au13_4, au13_9, GW261.out, GE261.out, NB230_261.out, NB261_230.out, NB231_261.out, NB261_231.out, NB232_261.out, NB261_232.out, NB244_261.out, NB261_244.out, au13_5⟩)
                · skip
                  refine box_step ?hg (N := 9) ?hd (cs := #[.int .i64 0, .int .i64 0, .int .i64 0, .int .i64 0, .int .i64 0, .int .i64 0, .int .i64 0, .int .i64 0, .int .i64 0]) (t := 26) ?hr ?_; (case hd => rfl); (case hg => rfl); (case hr => first | (go_simp; done) | (go_simp; rfl))
                  intro gb261 hg w117 hbox hb
                  have n0_ := Aside0.mk (blk_below (g := gb230) (o := .cells #[.int .i64 t233, .int .i64 t234, .int .i64 t235, .int .i64 t236, .int .u64 t237] 24 (0, 0)) au13_1 hb)
                  have n1_ := Aside0.mk (blk_below (g := gb231) (o := .cells #[.int .i64 a1_0, .int .i64 a1_1, .int .i64 a1_2, .int .i64 a1_3, .int .i64 a1_4, .int .i64 a1_5, .int .i64 a1_6, .int .i64 a1_7, .int .i64 a1_8] 26 (0, 0)) au13_2 hb)
                  have n2_ := Aside0.mk (blk_below (g := gb232) (o := .cells #[.int .i64 a2_0, .int .i64 a2_1, .bool a2_2] 28 (0, 0)) au13_3 hb)
                  have n3_ := Aside0.mk (blk_below (g := gb244) (o := .cells #[.int .i64 t238, .int .i64 t239, .int .i64 t240, .int .i64 t241, .int .u64 t242] 30 (0, 0)) au13_4 hb)
                  have n4_ := Aside0.mk (below_step au13_0 hb)
                  have n5_ := Aside0.mk (hbox)
                  have n6_ := Aside0.mk ((by rw [hg]; exact (below_size au13_0) : w.heap.size ≤ gb261))
                  have n7_ := Aside0.mk ((by rw [hg]; exact (below_size au13_0) : w.heap.size ≤ gb261))
                  have n8_ := Aside0.mk ((au13_15 : gb230 ≠ gb261))
                  have n9_ := Aside0.mk ((au13_16 : gb261 ≠ gb230))
                  have n10_ := Aside0.mk ((au13_13 : gb231 ≠ gb261))
                  have n11_ := Aside0.mk ((au13_14 : gb261 ≠ gb231))
                  have n12_ := Aside0.mk ((au13_20 : gb232 ≠ gb261))
                  have n13_ := Aside0.mk ((au13_21 : gb261 ≠ gb232))
                  have n14_ := Aside0.mk ((au13_17 : gb244 ≠ gb261))
                  have n15_ := Aside0.mk ((au13_18 : gb261 ≠ gb244))
                  clear BK230
                  clear BK231
                  clear BK232
                  clear BK244
                  clear HB
                  have BK230 := n0_
                  have BK231 := n1_
                  have BK232 := n2_
                  have BK244 := n3_
                  have HB := n4_
                  have BK261 := n5_
                  have GW261 := n6_
                  have GE261 := n7_
                  have NB230_261 := n8_
                  have NB261_230 := n9_
                  have NB231_261 := n10_
                  have NB261_231 := n11_
                  have NB232_261 := n12_
                  have NB261_232 := n13_
                  have NB244_261 := n14_
                  have NB261_244 := n15_
                  clear n0_ n1_ n2_ n3_ n4_ n5_ n6_ n7_ n8_ n9_ n10_ n11_ n12_ n13_ n14_ n15_
                  clear hb hbox hg
                  refine hK.out _ _ ⟨(blk_cell BK231.out 0).trans rfl, (blk_cell BK231.out 1).trans rfl, (blk_cell BK231.out 2).trans rfl, (blk_cell BK231.out 3).trans rfl, (blk_cell BK231.out 4).trans rfl, (blk_cell BK231.out 5).trans rfl, (blk_cell BK231.out 6).trans rfl, (blk_cell BK231.out 7).trans rfl, (blk_cell BK231.out 8).trans rfl, (blk_cell BK232.out 0).trans rfl, (blk_cell BK232.out 1).trans rfl, (blk_cell BK232.out 2).trans rfl⟩ (fun hHeld => ?_)
                  clear hK K
                  refine norm_ (a' := ?_) ?_ ?_
                  rotate_left
                  · show Act.put _ (some 9) _ = _
                    simp only [Act.put, List.setIfInBounds_toArray, List.set_cons_zero, List.set_cons_succ, i64_w, i32_w]
                    rfl
                  refine one_ (i := 3) (N := some 46) #[true, true, true, true, false, false, false, true, false, false] rfl rfl (one_of HT_.out (by kernel_rfl)) (by decide) (fun K hK => ?_)
                  refine goes_ Try.func9 (by kernel_rfl) rfl #[.agg #[.int .i64 a1_0, .int .i64 a1_1, .int .i64 a1_2, .int .i64 a1_3, .int .i64 a1_4, .int .i64 a1_5, .int .i64 a1_6, .int .i64 a1_7, .int .i64 a1_8], .agg #[.int .i64 t248, .int .i64 t249, .bool t250]] (by rfl) rfl rfl au13_8 ?_
                  with_reducible refine (moving_Steer.calls kj5 a1_0 a1_1 a1_2 a1_3 a1_4 a1_5 a1_6 a1_7 a1_8 t248 t249 t250 t251 t252 t253 t254 t255 t256 t257 t258 t259 t260 _ A41.out).mono ?_
                  rintro e w118 ⟨rfl, hb⟩
                  refine ⟨_, rfl, ?_⟩
                  have n0_ := Aside0.mk (blk_below (g := gb230) (o := .cells #[.int .i64 t233, .int .i64 t234, .int .i64 t235, .int .i64 t236, .int .u64 t237] 24 (0, 0)) au13_1 hb)
                  have n1_ := Aside0.mk (blk_below (g := gb231) (o := .cells #[.int .i64 a1_0, .int .i64 a1_1, .int .i64 a1_2, .int .i64 a1_3, .int .i64 a1_4, .int .i64 a1_5, .int .i64 a1_6, .int .i64 a1_7, .int .i64 a1_8] 26 (0, 0)) au13_2 hb)
                  have n2_ := Aside0.mk (blk_below (g := gb232) (o := .cells #[.int .i64 a2_0, .int .i64 a2_1, .bool a2_2] 28 (0, 0)) au13_3 hb)
                  have n3_ := Aside0.mk (blk_below (g := gb244) (o := .cells #[.int .i64 t238, .int .i64 t239, .int .i64 t240, .int .i64 t241, .int .u64 t242] 30 (0, 0)) au13_4 hb)
                  have n4_ := Aside0.mk (blk_below (g := gb261) (o := .cells #[.int .i64 0, .int .i64 0, .int .i64 0, .int .i64 0, .int .i64 0, .int .i64 0, .int .i64 0, .int .i64 0, .int .i64 0] 26 (0, 0)) au13_9 hb)
                  have n5_ := Aside0.mk (below_step au13_5 hb)
                  clear BK230
                  clear BK231
                  clear BK232
                  clear BK244
                  clear BK261
                  clear HB
                  have BK230 := n0_
                  have BK231 := n1_
                  have BK232 := n2_
                  have BK244 := n3_
                  have BK261 := n4_
                  have HB := n5_
                  clear n0_ n1_ n2_ n3_ n4_ n5_
                  (try clear hb)
                  (try clear hb2)
                  (try clear hk)
                  (try clear hi)
                  refine hK.out _ _ ⟨(blk_cell BK231.out 0).trans rfl, (blk_cell BK231.out 1).trans rfl, (blk_cell BK231.out 2).trans rfl, (blk_cell BK231.out 3).trans rfl, (blk_cell BK231.out 4).trans rfl, (blk_cell BK231.out 5).trans rfl, (blk_cell BK231.out 6).trans rfl, (blk_cell BK231.out 7).trans rfl, (blk_cell BK231.out 8).trans rfl, (blk_cell BK232.out 0).trans rfl, (blk_cell BK232.out 1).trans rfl, (blk_cell BK232.out 2).trans rfl⟩ (fun hHeld => ?_)
                  clear hK K
                  refine norm_ (a' := ?_) ?_ ?_
                  rotate_left
                  · show Act.put _ (some 46) _ = _
                    simp only [Act.put, List.setIfInBounds_toArray, List.set_cons_zero, List.set_cons_succ, i64_w, i32_w]
                    rfl
                  refine pure_ (i := 4) (N := some 42) (v := ?_) (a' := ?_) #[true, true, true, true, true, false, false, true, false, false] rfl rfl (any_of HT_.out (by kernel_rfl)) (fun _ _ _ h => h) (Or.inl ⟨by rfl, ?_⟩) ?_ ?_
                  rotate_left
                  · intro w'
                    go_simp
                    with_reducible rfl
                  rotate_left
                  · simp only [Act.put, List.setIfInBounds_toArray, List.set_cons_zero, List.set_cons_succ, i64_w, i32_w]
                    rfl
                  refine pure_ (i := 5) (N := some 47) (v := ?_) (a' := ?_) #[true, true, true, true, true, true, false, true, false, false] rfl rfl (any_of HT_.out (by kernel_rfl)) (fun _ _ _ h => h) (Or.inl ⟨by rfl, ?_⟩) ?_ ?_
                  rotate_left
                  · intro w'
                    go_simp
                    with_reducible rfl
                  rotate_left
                  · simp only [Act.put, List.setIfInBounds_toArray, List.set_cons_zero, List.set_cons_succ, i64_w, i32_w]
                    rfl
                  refine pure_ (i := 6) (N := some 48) (v := ?_) (a' := ?_) #[true, true, true, true, true, true, true, true, false, false] rfl rfl (any_of HT_.out (by kernel_rfl)) (fun _ _ _ h => h) (Or.inl ⟨by rfl, ?_⟩) ?_ ?_
                  rotate_left
                  · intro w'
                    go_simp
                    with_reducible rfl
                  rotate_left
                  · simp only [Act.put, List.setIfInBounds_toArray, List.set_cons_zero, List.set_cons_succ, i64_w, i32_w]
                    rfl
                  exact norm_ au13_24 (hCont (gb261) _ ⟨hHeld, au13_1, au13_2, au13_3, au13_4, au13_9, GW261.out, GE261.out, NB230_261.out, NB261_230.out, NB231_261.out, NB261_231.out, NB232_261.out, NB261_232.out, NB244_261.out, NB261_244.out, au13_5⟩)
              · skip
                refine box_step ?hg (N := 9) ?hd (cs := #[.int .i64 0, .int .i64 0, .int .i64 0, .int .i64 0, .int .i64 0, .int .i64 0, .int .i64 0, .int .i64 0, .int .i64 0]) (t := 26) ?hr ?_; (case hd => rfl); (case hg => rfl); (case hr => first | (go_simp; done) | (go_simp; rfl))
                intro gb261 hg w116 hbox hb
                have n0_ := Aside0.mk (blk_below (g := gb230) (o := .cells #[.int .i64 t233, .int .i64 t234, .int .i64 t235, .int .i64 t236, .int .u64 t237] 24 (0, 0)) au13_1 hb)
                have n1_ := Aside0.mk (blk_below (g := gb231) (o := .cells #[.int .i64 a1_0, .int .i64 a1_1, .int .i64 a1_2, .int .i64 a1_3, .int .i64 a1_4, .int .i64 a1_5, .int .i64 a1_6, .int .i64 a1_7, .int .i64 a1_8] 26 (0, 0)) au13_2 hb)
                have n2_ := Aside0.mk (blk_below (g := gb232) (o := .cells #[.int .i64 a2_0, .int .i64 a2_1, .bool a2_2] 28 (0, 0)) au13_3 hb)
                have n3_ := Aside0.mk (blk_below (g := gb244) (o := .cells #[.int .i64 t238, .int .i64 t239, .int .i64 t240, .int .i64 t241, .int .u64 t242] 30 (0, 0)) au13_4 hb)
                have n4_ := Aside0.mk (below_step au13_0 hb)
                have n5_ := Aside0.mk (hbox)
                have n6_ := Aside0.mk ((by rw [hg]; exact (below_size au13_0) : w.heap.size ≤ gb261))
                have n7_ := Aside0.mk ((by rw [hg]; exact (below_size au13_0) : w.heap.size ≤ gb261))
                have n8_ := Aside0.mk ((au13_15 : gb230 ≠ gb261))
                have n9_ := Aside0.mk ((au13_16 : gb261 ≠ gb230))
                have n10_ := Aside0.mk ((au13_13 : gb231 ≠ gb261))
                have n11_ := Aside0.mk ((au13_14 : gb261 ≠ gb231))
                have n12_ := Aside0.mk ((au13_20 : gb232 ≠ gb261))
                have n13_ := Aside0.mk ((au13_21 : gb261 ≠ gb232))
                have n14_ := Aside0.mk ((au13_17 : gb244 ≠ gb261))
                have n15_ := Aside0.mk ((au13_18 : gb261 ≠ gb244))
                clear BK230
                clear BK231
                clear BK232
                clear BK244
                clear HB
                have BK230 := n0_
                have BK231 := n1_
                have BK232 := n2_
                have BK244 := n3_
                have HB := n4_
                have BK261 := n5_
                have GW261 := n6_
                have GE261 := n7_
                have NB230_261 := n8_
                have NB261_230 := n9_
                have NB231_261 := n10_
                have NB261_231 := n11_
                have NB232_261 := n12_
                have NB261_232 := n13_
                have NB244_261 := n14_
                have NB261_244 := n15_
                clear n0_ n1_ n2_ n3_ n4_ n5_ n6_ n7_ n8_ n9_ n10_ n11_ n12_ n13_ n14_ n15_
                clear hb hbox hg
                refine hK.out _ _ ⟨(blk_cell BK231.out 0).trans rfl, (blk_cell BK231.out 1).trans rfl, (blk_cell BK231.out 2).trans rfl, (blk_cell BK231.out 3).trans rfl, (blk_cell BK231.out 4).trans rfl, (blk_cell BK231.out 5).trans rfl, (blk_cell BK231.out 6).trans rfl, (blk_cell BK231.out 7).trans rfl, (blk_cell BK231.out 8).trans rfl, (blk_cell BK232.out 0).trans rfl, (blk_cell BK232.out 1).trans rfl, (blk_cell BK232.out 2).trans rfl⟩ (fun hHeld => ?_)
                clear hK K
                refine norm_ (a' := ?_) ?_ ?_
                rotate_left
                · show Act.put _ (some 9) _ = _
                  simp only [Act.put, List.setIfInBounds_toArray, List.set_cons_zero, List.set_cons_succ, i64_w, i32_w]
                  rfl
                refine one_ (i := 2) (N := some 45) #[true, true, true, false, false, false, false, true, false, false] rfl rfl (one_of HT_.out (by kernel_rfl)) (by decide) (fun K hK => ?_)
                refine goes_ Try.func18 (by kernel_rfl) rfl #[.agg #[.int .i64 a2_0, .int .i64 a2_1, .bool a2_2]] (by rfl) rfl rfl au13_8 ?_
                with_reducible refine (joustplay_Input.calls a2_0 a2_1 a2_2 t248 t249 t250 _ A40.out).mono ?_
                rintro e w117 ⟨rfl, hb⟩
                refine ⟨_, rfl, ?_⟩
                have n0_ := Aside0.mk (blk_below (g := gb230) (o := .cells #[.int .i64 t233, .int .i64 t234, .int .i64 t235, .int .i64 t236, .int .u64 t237] 24 (0, 0)) au13_1 hb)
                have n1_ := Aside0.mk (blk_below (g := gb231) (o := .cells #[.int .i64 a1_0, .int .i64 a1_1, .int .i64 a1_2, .int .i64 a1_3, .int .i64 a1_4, .int .i64 a1_5, .int .i64 a1_6, .int .i64 a1_7, .int .i64 a1_8] 26 (0, 0)) au13_2 hb)
                have n2_ := Aside0.mk (blk_below (g := gb232) (o := .cells #[.int .i64 a2_0, .int .i64 a2_1, .bool a2_2] 28 (0, 0)) au13_3 hb)
                have n3_ := Aside0.mk (blk_below (g := gb244) (o := .cells #[.int .i64 t238, .int .i64 t239, .int .i64 t240, .int .i64 t241, .int .u64 t242] 30 (0, 0)) au13_4 hb)
                have n4_ := Aside0.mk (blk_below (g := gb261) (o := .cells #[.int .i64 0, .int .i64 0, .int .i64 0, .int .i64 0, .int .i64 0, .int .i64 0, .int .i64 0, .int .i64 0, .int .i64 0] 26 (0, 0)) au13_9 hb)
                have n5_ := Aside0.mk (below_step au13_5 hb)
                clear BK230
                clear BK231
                clear BK232
                clear BK244
                clear BK261
                clear HB
                have BK230 := n0_
                have BK231 := n1_
                have BK232 := n2_
                have BK244 := n3_
                have BK261 := n4_
                have HB := n5_
                clear n0_ n1_ n2_ n3_ n4_ n5_
                (try clear hb)
                (try clear hb2)
                (try clear hk)
                (try clear hi)
                refine hK.out _ _ ⟨(blk_cell BK231.out 0).trans rfl, (blk_cell BK231.out 1).trans rfl, (blk_cell BK231.out 2).trans rfl, (blk_cell BK231.out 3).trans rfl, (blk_cell BK231.out 4).trans rfl, (blk_cell BK231.out 5).trans rfl, (blk_cell BK231.out 6).trans rfl, (blk_cell BK231.out 7).trans rfl, (blk_cell BK231.out 8).trans rfl, (blk_cell BK232.out 0).trans rfl, (blk_cell BK232.out 1).trans rfl, (blk_cell BK232.out 2).trans rfl⟩ (fun hHeld => ?_)
                clear hK K
                refine norm_ (a' := ?_) ?_ ?_
                rotate_left
                · show Act.put _ (some 45) _ = _
                  simp only [Act.put, List.setIfInBounds_toArray, List.set_cons_zero, List.set_cons_succ, i64_w, i32_w]
                  rfl
                refine one_ (i := 3) (N := some 46) #[true, true, true, true, false, false, false, true, false, false] rfl rfl (one_of HT_.out (by kernel_rfl)) (by decide) (fun K hK => ?_)
                refine goes_ Try.func9 (by kernel_rfl) rfl #[.agg #[.int .i64 a1_0, .int .i64 a1_1, .int .i64 a1_2, .int .i64 a1_3, .int .i64 a1_4, .int .i64 a1_5, .int .i64 a1_6, .int .i64 a1_7, .int .i64 a1_8], .agg #[.int .i64 t248, .int .i64 t249, .bool t250]] (by rfl) rfl rfl au13_8 ?_
                with_reducible refine (moving_Steer.calls kj5 a1_0 a1_1 a1_2 a1_3 a1_4 a1_5 a1_6 a1_7 a1_8 t248 t249 t250 t251 t252 t253 t254 t255 t256 t257 t258 t259 t260 _ A41.out).mono ?_
                rintro e w118 ⟨rfl, hb⟩
                refine ⟨_, rfl, ?_⟩
                have n0_ := Aside0.mk (blk_below (g := gb230) (o := .cells #[.int .i64 t233, .int .i64 t234, .int .i64 t235, .int .i64 t236, .int .u64 t237] 24 (0, 0)) au13_1 hb)
                have n1_ := Aside0.mk (blk_below (g := gb231) (o := .cells #[.int .i64 a1_0, .int .i64 a1_1, .int .i64 a1_2, .int .i64 a1_3, .int .i64 a1_4, .int .i64 a1_5, .int .i64 a1_6, .int .i64 a1_7, .int .i64 a1_8] 26 (0, 0)) au13_2 hb)
                have n2_ := Aside0.mk (blk_below (g := gb232) (o := .cells #[.int .i64 a2_0, .int .i64 a2_1, .bool a2_2] 28 (0, 0)) au13_3 hb)
                have n3_ := Aside0.mk (blk_below (g := gb244) (o := .cells #[.int .i64 t238, .int .i64 t239, .int .i64 t240, .int .i64 t241, .int .u64 t242] 30 (0, 0)) au13_4 hb)
                have n4_ := Aside0.mk (blk_below (g := gb261) (o := .cells #[.int .i64 0, .int .i64 0, .int .i64 0, .int .i64 0, .int .i64 0, .int .i64 0, .int .i64 0, .int .i64 0, .int .i64 0] 26 (0, 0)) au13_9 hb)
                have n5_ := Aside0.mk (below_step au13_5 hb)
                clear BK230
                clear BK231
                clear BK232
                clear BK244
                clear BK261
                clear HB
                have BK230 := n0_
                have BK231 := n1_
                have BK232 := n2_
                have BK244 := n3_
                have BK261 := n4_
                have HB := n5_
                clear n0_ n1_ n2_ n3_ n4_ n5_
                (try clear hb)
                (try clear hb2)
                (try clear hk)
                (try clear hi)
                refine hK.out _ _ ⟨(blk_cell BK231.out 0).trans rfl, (blk_cell BK231.out 1).trans rfl, (blk_cell BK231.out 2).trans rfl, (blk_cell BK231.out 3).trans rfl, (blk_cell BK231.out 4).trans rfl, (blk_cell BK231.out 5).trans rfl, (blk_cell BK231.out 6).trans rfl, (blk_cell BK231.out 7).trans rfl, (blk_cell BK231.out 8).trans rfl, (blk_cell BK232.out 0).trans rfl, (blk_cell BK232.out 1).trans rfl, (blk_cell BK232.out 2).trans rfl⟩ (fun hHeld => ?_)
                clear hK K
                refine norm_ (a' := ?_) ?_ ?_
                rotate_left
                · show Act.put _ (some 46) _ = _
                  simp only [Act.put, List.setIfInBounds_toArray, List.set_cons_zero, List.set_cons_succ, i64_w, i32_w]
                  rfl
                refine pure_ (i := 4) (N := some 42) (v := ?_) (a' := ?_) #[true, true, true, true, true, false, false, true, false, false] rfl rfl (any_of HT_.out (by kernel_rfl)) (fun _ _ _ h => h) (Or.inl ⟨by rfl, ?_⟩) ?_ ?_
                rotate_left
                · intro w'
                  go_simp
                  with_reducible rfl
                rotate_left
                · simp only [Act.put, List.setIfInBounds_toArray, List.set_cons_zero, List.set_cons_succ, i64_w, i32_w]
                  rfl
                refine pure_ (i := 5) (N := some 47) (v := ?_) (a' := ?_) #[true, true, true, true, true, true, false, true, false, false] rfl rfl (any_of HT_.out (by kernel_rfl)) (fun _ _ _ h => h) (Or.inl ⟨by rfl, ?_⟩) ?_ ?_
                rotate_left
                · intro w'
                  go_simp
                  with_reducible rfl
                rotate_left
                · simp only [Act.put, List.setIfInBounds_toArray, List.set_cons_zero, List.set_cons_succ, i64_w, i32_w]
                  rfl
                refine pure_ (i := 6) (N := some 48) (v := ?_) (a' := ?_) #[true, true, true, true, true, true, true, true, false, false] rfl rfl (any_of HT_.out (by kernel_rfl)) (fun _ _ _ h => h) (Or.inl ⟨by rfl, ?_⟩) ?_ ?_
                rotate_left
                · intro w'
                  go_simp
                  with_reducible rfl
                rotate_left
                · simp only [Act.put, List.setIfInBounds_toArray, List.set_cons_zero, List.set_cons_succ, i64_w, i32_w]
                  rfl
                exact norm_ au13_24 (hCont (gb261) _ ⟨hHeld, au13_1, au13_2, au13_3, au13_4, au13_9, GW261.out, GE261.out, NB230_261.out, NB261_230.out, NB231_261.out, NB261_231.out, NB232_261.out, NB261_232.out, NB244_261.out, NB261_244.out, au13_5⟩)
            rintro gb261 w119 ⟨hS_, h0_, h1_, h2_, h3_, h4_, h5_, h6_, h7_, h8_, h9_, h10_, h11_, h12_, h13_, h14_, h15_⟩
            have n0_ : Aside0 (w119.heap[gb230]? = some (.cells #[.int .i64 t233, .int .i64 t234, .int .i64 t235, .int .i64 t236, .int .u64 t237] 24 (0, 0))) := ⟨h0_⟩
            have n1_ : Aside0 (w119.heap[gb231]? = some (.cells #[.int .i64 a1_0, .int .i64 a1_1, .int .i64 a1_2, .int .i64 a1_3, .int .i64 a1_4, .int .i64 a1_5, .int .i64 a1_6, .int .i64 a1_7, .int .i64 a1_8] 26 (0, 0))) := ⟨h1_⟩
            have n2_ : Aside0 (w119.heap[gb232]? = some (.cells #[.int .i64 a2_0, .int .i64 a2_1, .bool a2_2] 28 (0, 0))) := ⟨h2_⟩
            have n3_ : Aside0 (w119.heap[gb244]? = some (.cells #[.int .i64 t238, .int .i64 t239, .int .i64 t240, .int .i64 t241, .int .u64 t242] 30 (0, 0))) := ⟨h3_⟩
            have n4_ : Aside0 (w119.heap[gb261]? = some (.cells #[.int .i64 0, .int .i64 0, .int .i64 0, .int .i64 0, .int .i64 0, .int .i64 0, .int .i64 0, .int .i64 0, .int .i64 0] 26 (0, 0))) := ⟨h4_⟩
            have n5_ : Aside0 (w.heap.size ≤ gb261) := ⟨h5_⟩
            have n6_ : Aside0 (w.heap.size ≤ gb261) := ⟨h6_⟩
            have n7_ : Aside0 (gb230 ≠ gb261) := ⟨h7_⟩
            have n8_ : Aside0 (gb261 ≠ gb230) := ⟨h8_⟩
            have n9_ : Aside0 (gb231 ≠ gb261) := ⟨h9_⟩
            have n10_ : Aside0 (gb261 ≠ gb231) := ⟨h10_⟩
            have n11_ : Aside0 (gb232 ≠ gb261) := ⟨h11_⟩
            have n12_ : Aside0 (gb261 ≠ gb232) := ⟨h12_⟩
            have n13_ : Aside0 (gb244 ≠ gb261) := ⟨h13_⟩
            have n14_ : Aside0 (gb261 ≠ gb244) := ⟨h14_⟩
            have n15_ : Aside0 (Below w.heap.size w w119) := ⟨h15_⟩
            clear BK230
            clear BK231
            clear BK232
            clear BK244
            clear HB
            clear h0_ h1_ h2_ h3_ h4_ h5_ h6_ h7_ h8_ h9_ h10_ h11_ h12_ h13_ h14_ h15_
            have BK230 := n0_
            have BK231 := n1_
            have BK232 := n2_
            have BK244 := n3_
            have BK261 := n4_
            have GW261 := n5_
            have GE261 := n6_
            have NB230_261 := n7_
            have NB261_230 := n8_
            have NB231_261 := n9_
            have NB261_231 := n10_
            have NB232_261 := n11_
            have NB261_232 := n12_
            have NB244_261 := n13_
            have NB261_244 := n14_
            have HB := n15_
            clear n0_ n1_ n2_ n3_ n4_ n5_ n6_ n7_ n8_ n9_ n10_ n11_ n12_ n13_ n14_ n15_
            have hHeld : w119.cell? ⟨gb231, 0, none⟩ = some (.int .i64 a1_0) ∧ w119.cell? ⟨gb231, 1, none⟩ = some (.int .i64 a1_1) ∧ w119.cell? ⟨gb231, 2, none⟩ = some (.int .i64 a1_2) ∧ w119.cell? ⟨gb231, 3, none⟩ = some (.int .i64 a1_3) ∧ w119.cell? ⟨gb231, 4, none⟩ = some (.int .i64 a1_4) ∧ w119.cell? ⟨gb231, 5, none⟩ = some (.int .i64 a1_5) ∧ w119.cell? ⟨gb231, 6, none⟩ = some (.int .i64 a1_6) ∧ w119.cell? ⟨gb231, 7, none⟩ = some (.int .i64 a1_7) ∧ w119.cell? ⟨gb231, 8, none⟩ = some (.int .i64 a1_8) ∧ w119.cell? ⟨gb232, 0, none⟩ = some (.int .i64 a2_0) ∧ w119.cell? ⟨gb232, 1, none⟩ = some (.int .i64 a2_1) ∧ w119.cell? ⟨gb232, 2, none⟩ = some (.bool a2_2) := hS_
            refine norm_ (a' := ?_) ?_ ?_
            rotate_left
            · simp only [putAll, Act.put, List.setIfInBounds_toArray, List.set_cons_zero, List.set_cons_succ]
              rfl
            refine one_ (i := 8) (N := none) #[true, true, true, true, true, true, true, true, true, false] rfl rfl (one_of HT_.out (by kernel_rfl)) (by decide) (fun K hK => ?_)
            have hs120 : w119.cell? ⟨gb261, 0, none⟩ = some (.int .i64 0) := (blk_cell BK261.out 0).trans rfl
            have hfs120 := blk_frozen BK261.out 0
            have hns120_0 := NB230_261.out
            have hns120_1 := NB231_261.out
            have hns120_2 := NB232_261.out
            have hns120_3 := NB244_261.out
            have hms120_0 := NB261_230.out
            have hms120_1 := NB261_231.out
            have hms120_2 := NB261_232.out
            have hms120_3 := NB261_244.out
            have hs121 : w119.cell? ⟨gb261, 1, none⟩ = some (.int .i64 0) := (blk_cell BK261.out 1).trans rfl
            have hfs121 := blk_frozen BK261.out 1
            have hns121_0 := NB230_261.out
            have hns121_1 := NB231_261.out
            have hns121_2 := NB232_261.out
            have hns121_3 := NB244_261.out
            have hms121_0 := NB261_230.out
            have hms121_1 := NB261_231.out
            have hms121_2 := NB261_232.out
            have hms121_3 := NB261_244.out
            have hs122 : w119.cell? ⟨gb261, 2, none⟩ = some (.int .i64 0) := (blk_cell BK261.out 2).trans rfl
            have hfs122 := blk_frozen BK261.out 2
            have hns122_0 := NB230_261.out
            have hns122_1 := NB231_261.out
            have hns122_2 := NB232_261.out
            have hns122_3 := NB244_261.out
            have hms122_0 := NB261_230.out
            have hms122_1 := NB261_231.out
            have hms122_2 := NB261_232.out
            have hms122_3 := NB261_244.out
            have hs123 : w119.cell? ⟨gb261, 3, none⟩ = some (.int .i64 0) := (blk_cell BK261.out 3).trans rfl
            have hfs123 := blk_frozen BK261.out 3
            have hns123_0 := NB230_261.out
            have hns123_1 := NB231_261.out
            have hns123_2 := NB232_261.out
            have hns123_3 := NB244_261.out
            have hms123_0 := NB261_230.out
            have hms123_1 := NB261_231.out
            have hms123_2 := NB261_232.out
            have hms123_3 := NB261_244.out
            have hs124 : w119.cell? ⟨gb261, 4, none⟩ = some (.int .i64 0) := (blk_cell BK261.out 4).trans rfl
            have hfs124 := blk_frozen BK261.out 4
            have hns124_0 := NB230_261.out
            have hns124_1 := NB231_261.out
            have hns124_2 := NB232_261.out
            have hns124_3 := NB244_261.out
            have hms124_0 := NB261_230.out
            have hms124_1 := NB261_231.out
            have hms124_2 := NB261_232.out
            have hms124_3 := NB261_244.out
            have hs125 : w119.cell? ⟨gb261, 5, none⟩ = some (.int .i64 0) := (blk_cell BK261.out 5).trans rfl
            have hfs125 := blk_frozen BK261.out 5
            have hns125_0 := NB230_261.out
            have hns125_1 := NB231_261.out
            have hns125_2 := NB232_261.out
            have hns125_3 := NB244_261.out
            have hms125_0 := NB261_230.out
            have hms125_1 := NB261_231.out
            have hms125_2 := NB261_232.out
            have hms125_3 := NB261_244.out
            have hs126 : w119.cell? ⟨gb261, 6, none⟩ = some (.int .i64 0) := (blk_cell BK261.out 6).trans rfl
            have hfs126 := blk_frozen BK261.out 6
            have hns126_0 := NB230_261.out
            have hns126_1 := NB231_261.out
            have hns126_2 := NB232_261.out
            have hns126_3 := NB244_261.out
            have hms126_0 := NB261_230.out
            have hms126_1 := NB261_231.out
            have hms126_2 := NB261_232.out
            have hms126_3 := NB261_244.out
            have hs127 : w119.cell? ⟨gb261, 7, none⟩ = some (.int .i64 0) := (blk_cell BK261.out 7).trans rfl
            have hfs127 := blk_frozen BK261.out 7
            have hns127_0 := NB230_261.out
            have hns127_1 := NB231_261.out
            have hns127_2 := NB232_261.out
            have hns127_3 := NB244_261.out
            have hms127_0 := NB261_230.out
            have hms127_1 := NB261_231.out
            have hms127_2 := NB261_232.out
            have hms127_3 := NB261_244.out
            have hs128 : w119.cell? ⟨gb261, 8, none⟩ = some (.int .i64 0) := (blk_cell BK261.out 8).trans rfl
            have hfs128 := blk_frozen BK261.out 8
            have hns128_0 := NB230_261.out
            have hns128_1 := NB231_261.out
            have hns128_2 := NB232_261.out
            have hns128_3 := NB244_261.out
            have hms128_0 := NB261_230.out
            have hms128_1 := NB261_231.out
            have hms128_2 := NB261_232.out
            have hms128_3 := NB261_244.out
            refine skip_ (w1 := ?_) (by rfl) rfl ?_ ?_
            rotate_left
            · go_simp
              rfl
            refine hK.out _ _ ⟨((cell_far (p := ⟨gb261, _, none⟩) NB231_261.out _).trans (((cell_far (p := ⟨gb261, _, none⟩) NB231_261.out _).trans (((cell_far (p := ⟨gb261, _, none⟩) NB231_261.out _).trans (((cell_far (p := ⟨gb261, _, none⟩) NB231_261.out _).trans (((cell_far (p := ⟨gb261, _, none⟩) NB231_261.out _).trans (((cell_far (p := ⟨gb261, _, none⟩) NB231_261.out _).trans (((cell_far (p := ⟨gb261, _, none⟩) NB231_261.out _).trans (((cell_far (p := ⟨gb261, _, none⟩) NB231_261.out _).trans (((cell_far (p := ⟨gb261, _, none⟩) NB231_261.out _).trans (hHeld.1)))))))))))))))))), ((cell_far (p := ⟨gb261, _, none⟩) NB231_261.out _).trans (((cell_far (p := ⟨gb261, _, none⟩) NB231_261.out _).trans (((cell_far (p := ⟨gb261, _, none⟩) NB231_261.out _).trans (((cell_far (p := ⟨gb261, _, none⟩) NB231_261.out _).trans (((cell_far (p := ⟨gb261, _, none⟩) NB231_261.out _).trans (((cell_far (p := ⟨gb261, _, none⟩) NB231_261.out _).trans (((cell_far (p := ⟨gb261, _, none⟩) NB231_261.out _).trans (((cell_far (p := ⟨gb261, _, none⟩) NB231_261.out _).trans (((cell_far (p := ⟨gb261, _, none⟩) NB231_261.out _).trans (hHeld.2.1)))))))))))))))))), ((cell_far (p := ⟨gb261, _, none⟩) NB231_261.out _).trans (((cell_far (p := ⟨gb261, _, none⟩) NB231_261.out _).trans (((cell_far (p := ⟨gb261, _, none⟩) NB231_261.out _).trans (((cell_far (p := ⟨gb261, _, none⟩) NB231_261.out _).trans (((cell_far (p := ⟨gb261, _, none⟩) NB231_261.out _).trans (((cell_far (p := ⟨gb261, _, none⟩) NB231_261.out _).trans (((cell_far (p := ⟨gb261, _, none⟩) NB231_261.out _).trans (((cell_far (p := ⟨gb261, _, none⟩) NB231_261.out _).trans (((cell_far (p := ⟨gb261, _, none⟩) NB231_261.out _).trans (hHeld.2.2.1)))))))))))))))))), ((cell_far (p := ⟨gb261, _, none⟩) NB231_261.out _).trans (((cell_far (p := ⟨gb261, _, none⟩) NB231_261.out _).trans (((cell_far (p := ⟨gb261, _, none⟩) NB231_261.out _).trans (((cell_far (p := ⟨gb261, _, none⟩) NB231_261.out _).trans (((cell_far (p := ⟨gb261, _, none⟩) NB231_261.out _).trans (((cell_far (p := ⟨gb261, _, none⟩) NB231_261.out _).trans (((cell_far (p := ⟨gb261, _, none⟩) NB231_261.out _).trans (((cell_far (p := ⟨gb261, _, none⟩) NB231_261.out _).trans (((cell_far (p := ⟨gb261, _, none⟩) NB231_261.out _).trans (hHeld.2.2.2.1)))))))))))))))))), ((cell_far (p := ⟨gb261, _, none⟩) NB231_261.out _).trans (((cell_far (p := ⟨gb261, _, none⟩) NB231_261.out _).trans (((cell_far (p := ⟨gb261, _, none⟩) NB231_261.out _).trans (((cell_far (p := ⟨gb261, _, none⟩) NB231_261.out _).trans (((cell_far (p := ⟨gb261, _, none⟩) NB231_261.out _).trans (((cell_far (p := ⟨gb261, _, none⟩) NB231_261.out _).trans (((cell_far (p := ⟨gb261, _, none⟩) NB231_261.out _).trans (((cell_far (p := ⟨gb261, _, none⟩) NB231_261.out _).trans (((cell_far (p := ⟨gb261, _, none⟩) NB231_261.out _).trans (hHeld.2.2.2.2.1)))))))))))))))))), ((cell_far (p := ⟨gb261, _, none⟩) NB231_261.out _).trans (((cell_far (p := ⟨gb261, _, none⟩) NB231_261.out _).trans (((cell_far (p := ⟨gb261, _, none⟩) NB231_261.out _).trans (((cell_far (p := ⟨gb261, _, none⟩) NB231_261.out _).trans (((cell_far (p := ⟨gb261, _, none⟩) NB231_261.out _).trans (((cell_far (p := ⟨gb261, _, none⟩) NB231_261.out _).trans (((cell_far (p := ⟨gb261, _, none⟩) NB231_261.out _).trans (((cell_far (p := ⟨gb261, _, none⟩) NB231_261.out _).trans (((cell_far (p := ⟨gb261, _, none⟩) NB231_261.out _).trans (hHeld.2.2.2.2.2.1)))))))))))))))))), ((cell_far (p := ⟨gb261, _, none⟩) NB231_261.out _).trans (((cell_far (p := ⟨gb261, _, none⟩) NB231_261.out _).trans (((cell_far (p := ⟨gb261, _, none⟩) NB231_261.out _).trans (((cell_far (p := ⟨gb261, _, none⟩) NB231_261.out _).trans (((cell_far (p := ⟨gb261, _, none⟩) NB231_261.out _).trans (((cell_far (p := ⟨gb261, _, none⟩) NB231_261.out _).trans (((cell_far (p := ⟨gb261, _, none⟩) NB231_261.out _).trans (((cell_far (p := ⟨gb261, _, none⟩) NB231_261.out _).trans (((cell_far (p := ⟨gb261, _, none⟩) NB231_261.out _).trans (hHeld.2.2.2.2.2.2.1)))))))))))))))))), ((cell_far (p := ⟨gb261, _, none⟩) NB231_261.out _).trans (((cell_far (p := ⟨gb261, _, none⟩) NB231_261.out _).trans (((cell_far (p := ⟨gb261, _, none⟩) NB231_261.out _).trans (((cell_far (p := ⟨gb261, _, none⟩) NB231_261.out _).trans (((cell_far (p := ⟨gb261, _, none⟩) NB231_261.out _).trans (((cell_far (p := ⟨gb261, _, none⟩) NB231_261.out _).trans (((cell_far (p := ⟨gb261, _, none⟩) NB231_261.out _).trans (((cell_far (p := ⟨gb261, _, none⟩) NB231_261.out _).trans (((cell_far (p := ⟨gb261, _, none⟩) NB231_261.out _).trans (hHeld.2.2.2.2.2.2.2.1)))))))))))))))))), ((cell_far (p := ⟨gb261, _, none⟩) NB231_261.out _).trans (((cell_far (p := ⟨gb261, _, none⟩) NB231_261.out _).trans (((cell_far (p := ⟨gb261, _, none⟩) NB231_261.out _).trans (((cell_far (p := ⟨gb261, _, none⟩) NB231_261.out _).trans (((cell_far (p := ⟨gb261, _, none⟩) NB231_261.out _).trans (((cell_far (p := ⟨gb261, _, none⟩) NB231_261.out _).trans (((cell_far (p := ⟨gb261, _, none⟩) NB231_261.out _).trans (((cell_far (p := ⟨gb261, _, none⟩) NB231_261.out _).trans (((cell_far (p := ⟨gb261, _, none⟩) NB231_261.out _).trans (hHeld.2.2.2.2.2.2.2.2.1)))))))))))))))))), ((cell_far (p := ⟨gb261, _, none⟩) NB232_261.out _).trans (((cell_far (p := ⟨gb261, _, none⟩) NB232_261.out _).trans (((cell_far (p := ⟨gb261, _, none⟩) NB232_261.out _).trans (((cell_far (p := ⟨gb261, _, none⟩) NB232_261.out _).trans (((cell_far (p := ⟨gb261, _, none⟩) NB232_261.out _).trans (((cell_far (p := ⟨gb261, _, none⟩) NB232_261.out _).trans (((cell_far (p := ⟨gb261, _, none⟩) NB232_261.out _).trans (((cell_far (p := ⟨gb261, _, none⟩) NB232_261.out _).trans (((cell_far (p := ⟨gb261, _, none⟩) NB232_261.out _).trans (hHeld.2.2.2.2.2.2.2.2.2.1)))))))))))))))))), ((cell_far (p := ⟨gb261, _, none⟩) NB232_261.out _).trans (((cell_far (p := ⟨gb261, _, none⟩) NB232_261.out _).trans (((cell_far (p := ⟨gb261, _, none⟩) NB232_261.out _).trans (((cell_far (p := ⟨gb261, _, none⟩) NB232_261.out _).trans (((cell_far (p := ⟨gb261, _, none⟩) NB232_261.out _).trans (((cell_far (p := ⟨gb261, _, none⟩) NB232_261.out _).trans (((cell_far (p := ⟨gb261, _, none⟩) NB232_261.out _).trans (((cell_far (p := ⟨gb261, _, none⟩) NB232_261.out _).trans (((cell_far (p := ⟨gb261, _, none⟩) NB232_261.out _).trans (hHeld.2.2.2.2.2.2.2.2.2.2.1)))))))))))))))))), ((cell_far (p := ⟨gb261, _, none⟩) NB232_261.out _).trans (((cell_far (p := ⟨gb261, _, none⟩) NB232_261.out _).trans (((cell_far (p := ⟨gb261, _, none⟩) NB232_261.out _).trans (((cell_far (p := ⟨gb261, _, none⟩) NB232_261.out _).trans (((cell_far (p := ⟨gb261, _, none⟩) NB232_261.out _).trans (((cell_far (p := ⟨gb261, _, none⟩) NB232_261.out _).trans (((cell_far (p := ⟨gb261, _, none⟩) NB232_261.out _).trans (((cell_far (p := ⟨gb261, _, none⟩) NB232_261.out _).trans (((cell_far (p := ⟨gb261, _, none⟩) NB232_261.out _).trans (hHeld.2.2.2.2.2.2.2.2.2.2.2))))))))))))))))))⟩ (fun hHeld => ?_)
            clear hK K
            refine pure_ (i := 9) (N := some 10) (v := ?_) (a' := ?_) #[true, true, true, true, true, true, true, true, true, true] rfl rfl (any_of HT_.out (by kernel_rfl)) (fun _ _ _ h => h) (Or.inl ⟨by rfl, ?_⟩) ?_ ?_
            rotate_left
            · intro w'
              go_simp
              with_reducible rfl
            rotate_left
            · simp only [Act.put, List.setIfInBounds_toArray, List.set_cons_zero, List.set_cons_succ, i64_w, i32_w]
              rfl
            refine done_ (done_of HT_.out (by kernel_rfl)) ?_
            have hnb129 := NB244_230.out
            have hnc129 := NB230_244.out
            have hnb130 := NB244_231.out
            have hnc130 := NB231_244.out
            have hnb131 := NB244_232.out
            have hnc131 := NB232_244.out
            have hnb132 := NB244_261.out
            have hnc132 := NB261_244.out
            have hcz133_0 : w119.cell? ⟨gb244, 0, none⟩ = some (.int .i64 t238) := (blk_cell BK244.out 0).trans rfl
            have hcz133_1 : w119.cell? ⟨gb244, 1, none⟩ = some (.int .i64 t239) := (blk_cell BK244.out 1).trans rfl
            have hcz133_2 : w119.cell? ⟨gb244, 2, none⟩ = some (.int .i64 t240) := (blk_cell BK244.out 2).trans rfl
            have hcz133_3 : w119.cell? ⟨gb244, 3, none⟩ = some (.int .i64 t241) := (blk_cell BK244.out 3).trans rfl
            have hcz133_4 : w119.cell? ⟨gb244, 4, none⟩ = some (.int .u64 t242) := (blk_cell BK244.out 4).trans rfl
            have hfz133_0 := blk_frozen BK244.out 0
            have hfz133_1 := blk_frozen BK244.out 1
            have hfz133_2 := blk_frozen BK244.out 2
            have hfz133_3 := blk_frozen BK244.out 3
            have hfz133_4 := blk_frozen BK244.out 4
            have hnb134 := NB261_230.out
            have hnc134 := NB230_261.out
            have hnb135 := NB261_231.out
            have hnc135 := NB231_261.out
            have hnb136 := NB261_232.out
            have hnc136 := NB232_261.out
            have hcz137_0 : w119.cell? ⟨gb261, 0, none⟩ = some (.int .i64 0) := (blk_cell BK261.out 0).trans rfl
            have hcz137_1 : w119.cell? ⟨gb261, 1, none⟩ = some (.int .i64 0) := (blk_cell BK261.out 1).trans rfl
            have hcz137_2 : w119.cell? ⟨gb261, 2, none⟩ = some (.int .i64 0) := (blk_cell BK261.out 2).trans rfl
            have hcz137_3 : w119.cell? ⟨gb261, 3, none⟩ = some (.int .i64 0) := (blk_cell BK261.out 3).trans rfl
            have hcz137_4 : w119.cell? ⟨gb261, 4, none⟩ = some (.int .i64 0) := (blk_cell BK261.out 4).trans rfl
            have hcz137_5 : w119.cell? ⟨gb261, 5, none⟩ = some (.int .i64 0) := (blk_cell BK261.out 5).trans rfl
            have hcz137_6 : w119.cell? ⟨gb261, 6, none⟩ = some (.int .i64 0) := (blk_cell BK261.out 6).trans rfl
            have hcz137_7 : w119.cell? ⟨gb261, 7, none⟩ = some (.int .i64 0) := (blk_cell BK261.out 7).trans rfl
            have hcz137_8 : w119.cell? ⟨gb261, 8, none⟩ = some (.int .i64 0) := (blk_cell BK261.out 8).trans rfl
            have hfz137_0 := blk_frozen BK261.out 0
            have hfz137_1 := blk_frozen BK261.out 1
            have hfz137_2 := blk_frozen BK261.out 2
            have hfz137_3 := blk_frozen BK261.out 3
            have hfz137_4 := blk_frozen BK261.out 4
            have hfz137_5 := blk_frozen BK261.out 5
            have hfz137_6 := blk_frozen BK261.out 6
            have hfz137_7 := blk_frozen BK261.out 7
            have hfz137_8 := blk_frozen BK261.out 8
            try go_wp2_with (first | ((with_reducible refine gate_callee (f := 11) rfl ?_); refine goesL_ (some 52) rfl rfl Try.func11 (by kernel_rfl) rfl #[.agg #[.int .i64 t238, .int .i64 t239, .int .i64 t240, .int .i64 t241, .int .u64 t242], .agg #[.int .i64 t251, .int .i64 t252, .int .i64 t253, .int .i64 t254, .int .i64 t255, .int .i64 t256, .int .i64 t257, .int .i64 t258, .int .i64 t259]] rfl au13_8 ?_; (with_reducible refine (moving_Go.calls kj5 t238 t239 t240 t241 t242 t251 t252 t253 t254 t255 t256 t257 t258 t259 t262 t263 t264 t265 t266 t267 t268 t269 t270 false _ A42.out).mono ?_); rintro e w138 ⟨rfl, hb⟩; refine ⟨_, rfl, ?_⟩; have n0_ := Aside0.mk (blk_below (g := gb230) (o := .cells #[.int .i64 t233, .int .i64 t234, .int .i64 t235, .int .i64 t236, .int .u64 t237] 24 (0, 0)) (by (with_reducible repeat (first | refine blk_drewN ?_ _ | refine blk_drew ?_ | refine blk_alloc ?_ _)); refine blk_far ?_ NB230_261.out _; (with_reducible repeat (first | refine blk_drewN ?_ _ | refine blk_drew ?_ | refine blk_alloc ?_ _)); refine blk_far ?_ NB230_261.out _; (with_reducible repeat (first | refine blk_drewN ?_ _ | refine blk_drew ?_ | refine blk_alloc ?_ _)); refine blk_far ?_ NB230_261.out _; (with_reducible repeat (first | refine blk_drewN ?_ _ | refine blk_drew ?_ | refine blk_alloc ?_ _)); refine blk_far ?_ NB230_261.out _; (with_reducible repeat (first | refine blk_drewN ?_ _ | refine blk_drew ?_ | refine blk_alloc ?_ _)); refine blk_far ?_ NB230_261.out _; (with_reducible repeat (first | refine blk_drewN ?_ _ | refine blk_drew ?_ | refine blk_alloc ?_ _)); refine blk_far ?_ NB230_261.out _; (with_reducible repeat (first | refine blk_drewN ?_ _ | refine blk_drew ?_ | refine blk_alloc ?_ _)); refine blk_far ?_ NB230_261.out _; (with_reducible repeat (first | refine blk_drewN ?_ _ | refine blk_drew ?_ | refine blk_alloc ?_ _)); refine blk_far ?_ NB230_261.out _; (with_reducible repeat (first | refine blk_drewN ?_ _ | refine blk_drew ?_ | refine blk_alloc ?_ _)); refine blk_far ?_ NB230_261.out _; (with_reducible repeat (first | refine blk_drewN ?_ _ | refine blk_drew ?_ | refine blk_alloc ?_ _)); exact BK230.out) hb); have n1_ := Aside0.mk (blk_below (g := gb231) (o := .cells #[.int .i64 a1_0, .int .i64 a1_1, .int .i64 a1_2, .int .i64 a1_3, .int .i64 a1_4, .int .i64 a1_5, .int .i64 a1_6, .int .i64 a1_7, .int .i64 a1_8] 26 (0, 0)) (by (with_reducible repeat (first | refine blk_drewN ?_ _ | refine blk_drew ?_ | refine blk_alloc ?_ _)); refine blk_far ?_ NB231_261.out _; (with_reducible repeat (first | refine blk_drewN ?_ _ | refine blk_drew ?_ | refine blk_alloc ?_ _)); refine blk_far ?_ NB231_261.out _; (with_reducible repeat (first | refine blk_drewN ?_ _ | refine blk_drew ?_ | refine blk_alloc ?_ _)); refine blk_far ?_ NB231_261.out _; (with_reducible repeat (first | refine blk_drewN ?_ _ | refine blk_drew ?_ | refine blk_alloc ?_ _)); refine blk_far ?_ NB231_261.out _; (with_reducible repeat (first | refine blk_drewN ?_ _ | refine blk_drew ?_ | refine blk_alloc ?_ _)); refine blk_far ?_ NB231_261.out _; (with_reducible repeat (first | refine blk_drewN ?_ _ | refine blk_drew ?_ | refine blk_alloc ?_ _)); refine blk_far ?_ NB231_261.out _; (with_reducible repeat (first | refine blk_drewN ?_ _ | refine blk_drew ?_ | refine blk_alloc ?_ _)); refine blk_far ?_ NB231_261.out _; (with_reducible repeat (first | refine blk_drewN ?_ _ | refine blk_drew ?_ | refine blk_alloc ?_ _)); refine blk_far ?_ NB231_261.out _; (with_reducible repeat (first | refine blk_drewN ?_ _ | refine blk_drew ?_ | refine blk_alloc ?_ _)); refine blk_far ?_ NB231_261.out _; (with_reducible repeat (first | refine blk_drewN ?_ _ | refine blk_drew ?_ | refine blk_alloc ?_ _)); exact BK231.out) hb); have n2_ := Aside0.mk (blk_below (g := gb232) (o := .cells #[.int .i64 a2_0, .int .i64 a2_1, .bool a2_2] 28 (0, 0)) (by (with_reducible repeat (first | refine blk_drewN ?_ _ | refine blk_drew ?_ | refine blk_alloc ?_ _)); refine blk_far ?_ NB232_261.out _; (with_reducible repeat (first | refine blk_drewN ?_ _ | refine blk_drew ?_ | refine blk_alloc ?_ _)); refine blk_far ?_ NB232_261.out _; (with_reducible repeat (first | refine blk_drewN ?_ _ | refine blk_drew ?_ | refine blk_alloc ?_ _)); refine blk_far ?_ NB232_261.out _; (with_reducible repeat (first | refine blk_drewN ?_ _ | refine blk_drew ?_ | refine blk_alloc ?_ _)); refine blk_far ?_ NB232_261.out _; (with_reducible repeat (first | refine blk_drewN ?_ _ | refine blk_drew ?_ | refine blk_alloc ?_ _)); refine blk_far ?_ NB232_261.out _; (with_reducible repeat (first | refine blk_drewN ?_ _ | refine blk_drew ?_ | refine blk_alloc ?_ _)); refine blk_far ?_ NB232_261.out _; (with_reducible repeat (first | refine blk_drewN ?_ _ | refine blk_drew ?_ | refine blk_alloc ?_ _)); refine blk_far ?_ NB232_261.out _; (with_reducible repeat (first | refine blk_drewN ?_ _ | refine blk_drew ?_ | refine blk_alloc ?_ _)); refine blk_far ?_ NB232_261.out _; (with_reducible repeat (first | refine blk_drewN ?_ _ | refine blk_drew ?_ | refine blk_alloc ?_ _)); refine blk_far ?_ NB232_261.out _; (with_reducible repeat (first | refine blk_drewN ?_ _ | refine blk_drew ?_ | refine blk_alloc ?_ _)); exact BK232.out) hb); have n3_ := Aside0.mk (blk_below (g := gb244) (o := .cells #[.int .i64 t238, .int .i64 t239, .int .i64 t240, .int .i64 t241, .int .u64 t242] 30 (0, 0)) (by (with_reducible repeat (first | refine blk_drewN ?_ _ | refine blk_drew ?_ | refine blk_alloc ?_ _)); refine blk_far ?_ NB244_261.out _; (with_reducible repeat (first | refine blk_drewN ?_ _ | refine blk_drew ?_ | refine blk_alloc ?_ _)); refine blk_far ?_ NB244_261.out _; (with_reducible repeat (first | refine blk_drewN ?_ _ | refine blk_drew ?_ | refine blk_alloc ?_ _)); refine blk_far ?_ NB244_261.out _; (with_reducible repeat (first | refine blk_drewN ?_ _ | refine blk_drew ?_ | refine blk_alloc ?_ _)); refine blk_far ?_ NB244_261.out _; (with_reducible repeat (first | refine blk_drewN ?_ _ | refine blk_drew ?_ | refine blk_alloc ?_ _)); refine blk_far ?_ NB244_261.out _; (with_reducible repeat (first | refine blk_drewN ?_ _ | refine blk_drew ?_ | refine blk_alloc ?_ _)); refine blk_far ?_ NB244_261.out _; (with_reducible repeat (first | refine blk_drewN ?_ _ | refine blk_drew ?_ | refine blk_alloc ?_ _)); refine blk_far ?_ NB244_261.out _; (with_reducible repeat (first | refine blk_drewN ?_ _ | refine blk_drew ?_ | refine blk_alloc ?_ _)); refine blk_far ?_ NB244_261.out _; (with_reducible repeat (first | refine blk_drewN ?_ _ | refine blk_drew ?_ | refine blk_alloc ?_ _)); refine blk_far ?_ NB244_261.out _; (with_reducible repeat (first | refine blk_drewN ?_ _ | refine blk_drew ?_ | refine blk_alloc ?_ _)); exact BK244.out) hb); have n4_ := Aside0.mk (blk_below (g := gb261) (o := .cells #[.int .i64 t251, .int .i64 t252, .int .i64 t253, .int .i64 t254, .int .i64 t255, .int .i64 t256, .int .i64 t257, .int .i64 t258, .int .i64 t259] 26 (0, 0)) (by (with_reducible repeat (first | refine blk_drewN ?_ _ | refine blk_drew ?_ | refine blk_alloc ?_ _)); refine blk_put (cs := #[.int .i64 t251, .int .i64 t252, .int .i64 t253, .int .i64 t254, .int .i64 t255, .int .i64 t256, .int .i64 t257, .int .i64 t258, .int .i64 0]) ?_ 8 _ rfl; (with_reducible repeat (first | refine blk_drewN ?_ _ | refine blk_drew ?_ | refine blk_alloc ?_ _)); refine blk_put (cs := #[.int .i64 t251, .int .i64 t252, .int .i64 t253, .int .i64 t254, .int .i64 t255, .int .i64 t256, .int .i64 t257, .int .i64 0, .int .i64 0]) ?_ 7 _ rfl; (with_reducible repeat (first | refine blk_drewN ?_ _ | refine blk_drew ?_ | refine blk_alloc ?_ _)); refine blk_put (cs := #[.int .i64 t251, .int .i64 t252, .int .i64 t253, .int .i64 t254, .int .i64 t255, .int .i64 t256, .int .i64 0, .int .i64 0, .int .i64 0]) ?_ 6 _ rfl; (with_reducible repeat (first | refine blk_drewN ?_ _ | refine blk_drew ?_ | refine blk_alloc ?_ _)); refine blk_put (cs := #[.int .i64 t251, .int .i64 t252, .int .i64 t253, .int .i64 t254, .int .i64 t255, .int .i64 0, .int .i64 0, .int .i64 0, .int .i64 0]) ?_ 5 _ rfl; (with_reducible repeat (first | refine blk_drewN ?_ _ | refine blk_drew ?_ | refine blk_alloc ?_ _)); refine blk_put (cs := #[.int .i64 t251, .int .i64 t252, .int .i64 t253, .int .i64 t254, .int .i64 0, .int .i64 0, .int .i64 0, .int .i64 0, .int .i64 0]) ?_ 4 _ rfl; (with_reducible repeat (first | refine blk_drewN ?_ _ | refine blk_drew ?_ | refine blk_alloc ?_ _)); refine blk_put (cs := #[.int .i64 t251, .int .i64 t252, .int .i64 t253, .int .i64 0, .int .i64 0, .int .i64 0, .int .i64 0, .int .i64 0, .int .i64 0]) ?_ 3 _ rfl; (with_reducible repeat (first | refine blk_drewN ?_ _ | refine blk_drew ?_ | refine blk_alloc ?_ _)); refine blk_put (cs := #[.int .i64 t251, .int .i64 t252, .int .i64 0, .int .i64 0, .int .i64 0, .int .i64 0, .int .i64 0, .int .i64 0, .int .i64 0]) ?_ 2 _ rfl; (with_reducible repeat (first | refine blk_drewN ?_ _ | refine blk_drew ?_ | refine blk_alloc ?_ _)); refine blk_put (cs := #[.int .i64 t251, .int .i64 0, .int .i64 0, .int .i64 0, .int .i64 0, .int .i64 0, .int .i64 0, .int .i64 0, .int .i64 0]) ?_ 1 _ rfl; (with_reducible repeat (first | refine blk_drewN ?_ _ | refine blk_drew ?_ | refine blk_alloc ?_ _)); refine blk_put (cs := #[.int .i64 0, .int .i64 0, .int .i64 0, .int .i64 0, .int .i64 0, .int .i64 0, .int .i64 0, .int .i64 0, .int .i64 0]) ?_ 0 _ rfl; (with_reducible repeat (first | refine blk_drewN ?_ _ | refine blk_drew ?_ | refine blk_alloc ?_ _)); exact BK261.out) hb); have n5_ := Aside0.mk (below_step au13_5 hb); clear BK230; clear BK231; clear BK232; clear BK244; clear BK261; clear HB; have BK230 := n0_; have BK231 := n1_; have BK232 := n2_; have BK244 := n3_; have BK261 := n4_; have HB := n5_; clear n0_ n1_ n2_ n3_ n4_ n5_; (try clear hb); (try clear hb2); (try clear hk); (try clear hi)) | ((with_reducible refine gate_dst (N := 11) rfl ?_); refine box_event ?hg (N := 11) ?hd (cs := #[.int .i64 0, .int .i64 0, .int .i64 0, .int .i64 0, .int .i64 0, .int .i64 0, .int .i64 0, .int .i64 0, .int .i64 0]) (t := 26) ?hr ?_; (case hd => rfl); (case hg => rfl); (case hr => first | (go_simp; done) | (go_simp; rfl)); intro gb272 hg w139 hbox hb; have n0_ := Aside0.mk (blk_below (g := gb230) (o := .cells #[.int .i64 t233, .int .i64 t234, .int .i64 t235, .int .i64 t236, .int .u64 t237] 24 (0, 0)) au13_1 hb); have n1_ := Aside0.mk (blk_below (g := gb231) (o := .cells #[.int .i64 a1_0, .int .i64 a1_1, .int .i64 a1_2, .int .i64 a1_3, .int .i64 a1_4, .int .i64 a1_5, .int .i64 a1_6, .int .i64 a1_7, .int .i64 a1_8] 26 (0, 0)) au13_2 hb); have n2_ := Aside0.mk (blk_below (g := gb232) (o := .cells #[.int .i64 a2_0, .int .i64 a2_1, .bool a2_2] 28 (0, 0)) au13_3 hb); have n3_ := Aside0.mk (blk_below (g := gb244) (o := .cells #[.int .i64 t238, .int .i64 t239, .int .i64 t240, .int .i64 t241, .int .u64 t242] 30 (0, 0)) au13_4 hb); have n4_ := Aside0.mk (blk_below (g := gb261) (o := .cells #[.int .i64 t251, .int .i64 t252, .int .i64 t253, .int .i64 t254, .int .i64 t255, .int .i64 t256, .int .i64 t257, .int .i64 t258, .int .i64 t259] 26 (0, 0)) au13_9 hb); have n5_ := Aside0.mk (below_step au13_5 hb); have n6_ := Aside0.mk (hbox); have n7_ := Aside0.mk ((by rw [hg]; exact (below_size au13_5) : w.heap.size ≤ gb272)); have n8_ := Aside0.mk ((by rw [hg]; exact (below_size au13_5) : w.heap.size ≤ gb272)); have n9_ := Aside0.mk ((au13_15 : gb230 ≠ gb272)); have n10_ := Aside0.mk ((au13_16 : gb272 ≠ gb230)); have n11_ := Aside0.mk ((au13_13 : gb231 ≠ gb272)); have n12_ := Aside0.mk ((au13_14 : gb272 ≠ gb231)); have n13_ := Aside0.mk ((au13_20 : gb232 ≠ gb272)); have n14_ := Aside0.mk ((au13_21 : gb272 ≠ gb232)); have n15_ := Aside0.mk ((au13_17 : gb244 ≠ gb272)); have n16_ := Aside0.mk ((au13_18 : gb272 ≠ gb244)); have n17_ := Aside0.mk ((by rw [hg]; exact Nat.ne_of_lt (blk_lt (g := gb261) (o := .cells #[.int .i64 t251, .int .i64 t252, .int .i64 t253, .int .i64 t254, .int .i64 t255, .int .i64 t256, .int .i64 t257, .int .i64 t258, .int .i64 t259] 26 (0, 0)) au13_9) : gb261 ≠ gb272)); have n18_ := Aside0.mk ((by rw [hg]; exact Nat.ne_of_gt (blk_lt (g := gb261) (o := .cells #[.int .i64 t251, .int .i64 t252, .int .i64 t253, .int .i64 t254, .int .i64 t255, .int .i64 t256, .int .i64 t257, .int .i64 t258, .int .i64 t259] 26 (0, 0)) au13_9) : gb272 ≠ gb261)); clear BK230; clear BK231; clear BK232; clear BK244; clear BK261; clear HB; have BK230 := n0_; have BK231 := n1_; have BK232 := n2_; have BK244 := n3_; have BK261 := n4_; have HB := n5_; have BK272 := n6_; have GW272 := n7_; have GE272 := n8_; have NB230_272 := n9_; have NB272_230 := n10_; have NB231_272 := n11_; have NB272_231 := n12_; have NB232_272 := n13_; have NB272_232 := n14_; have NB244_272 := n15_; have NB272_244 := n16_; have NB261_272 := n17_; have NB272_261 := n18_; clear n0_ n1_ n2_ n3_ n4_ n5_ n6_ n7_ n8_ n9_ n10_ n11_ n12_ n13_ n14_ n15_ n16_ n17_ n18_; clear hb hbox hg; have hnb140 := NB272_230.out; have hnc140 := NB230_272.out; have hnb141 := NB272_231.out; have hnc141 := NB231_272.out; have hnb142 := NB272_232.out; have hnc142 := NB232_272.out; have hnb143 := NB272_244.out; have hnc143 := NB244_272.out; have hnb144 := NB272_261.out; have hnc144 := NB261_272.out; have hcz145_0 : w139.cell? ⟨gb272, 0, none⟩ = some (.int .i64 0) := (blk_cell BK272.out 0).trans rfl; have hcz145_1 : w139.cell? ⟨gb272, 1, none⟩ = some (.int .i64 0) := (blk_cell BK272.out 1).trans rfl; have hcz145_2 : w139.cell? ⟨gb272, 2, none⟩ = some (.int .i64 0) := (blk_cell BK272.out 2).trans rfl; have hcz145_3 : w139.cell? ⟨gb272, 3, none⟩ = some (.int .i64 0) := (blk_cell BK272.out 3).trans rfl; have hcz145_4 : w139.cell? ⟨gb272, 4, none⟩ = some (.int .i64 0) := (blk_cell BK272.out 4).trans rfl; have hcz145_5 : w139.cell? ⟨gb272, 5, none⟩ = some (.int .i64 0) := (blk_cell BK272.out 5).trans rfl; have hcz145_6 : w139.cell? ⟨gb272, 6, none⟩ = some (.int .i64 0) := (blk_cell BK272.out 6).trans rfl; have hcz145_7 : w139.cell? ⟨gb272, 7, none⟩ = some (.int .i64 0) := (blk_cell BK272.out 7).trans rfl; have hcz145_8 : w139.cell? ⟨gb272, 8, none⟩ = some (.int .i64 0) := (blk_cell BK272.out 8).trans rfl; have hfz145_0 := blk_frozen BK272.out 0; have hfz145_1 := blk_frozen BK272.out 1; have hfz145_2 := blk_frozen BK272.out 2; have hfz145_3 := blk_frozen BK272.out 3; have hfz145_4 := blk_frozen BK272.out 4; have hfz145_5 := blk_frozen BK272.out 5; have hfz145_6 := blk_frozen BK272.out 6; have hfz145_7 := blk_frozen BK272.out 7; have hfz145_8 := blk_frozen BK272.out 8; have hnb146 := NB231_230.out; have hnc146 := NB230_231.out; have hnb147 := NB231_232.out; have hnc147 := NB232_231.out; have hcz148_0 : w139.cell? ⟨gb231, 0, none⟩ = some (.int .i64 a1_0) := (blk_cell BK231.out 0).trans rfl; have hcz148_1 : w139.cell? ⟨gb231, 1, none⟩ = some (.int .i64 a1_1) := (blk_cell BK231.out 1).trans rfl; have hcz148_2 : w139.cell? ⟨gb231, 2, none⟩ = some (.int .i64 a1_2) := (blk_cell BK231.out 2).trans rfl; have hcz148_3 : w139.cell? ⟨gb231, 3, none⟩ = some (.int .i64 a1_3) := (blk_cell BK231.out 3).trans rfl; have hcz148_4 : w139.cell? ⟨gb231, 4, none⟩ = some (.int .i64 a1_4) := (blk_cell BK231.out 4).trans rfl; have hcz148_5 : w139.cell? ⟨gb231, 5, none⟩ = some (.int .i64 a1_5) := (blk_cell BK231.out 5).trans rfl; have hcz148_6 : w139.cell? ⟨gb231, 6, none⟩ = some (.int .i64 a1_6) := (blk_cell BK231.out 6).trans rfl; have hcz148_7 : w139.cell? ⟨gb231, 7, none⟩ = some (.int .i64 a1_7) := (blk_cell BK231.out 7).trans rfl; have hcz148_8 : w139.cell? ⟨gb231, 8, none⟩ = some (.int .i64 a1_8) := (blk_cell BK231.out 8).trans rfl; have hfz148_0 := blk_frozen BK231.out 0; have hfz148_1 := blk_frozen BK231.out 1; have hfz148_2 := blk_frozen BK231.out 2; have hfz148_3 := blk_frozen BK231.out 3; have hfz148_4 := blk_frozen BK231.out 4; have hfz148_5 := blk_frozen BK231.out 5; have hfz148_6 := blk_frozen BK231.out 6; have hfz148_7 := blk_frozen BK231.out 7; have hfz148_8 := blk_frozen BK231.out 8))
            go_ret
            exact ⟨by first | rfl | (simp [errW_none, errW_some] <;> rfl) | (simp [*, errW_none, errW_some] <;> rfl), au13_6⟩
          · rw [if_neg c114] at H
            have c114b0 : (a1_1 == 2) = false := beq_eq_false_iff_ne.mpr c114
            have c114b1 : (a1_1 != 2) = true := bne_iff_ne.mpr c114
            exact absurd (H.trans (congrArg some hr_.out)) (by decide)

end Go.Proofs.Ytjnjcdaecdnkoaa.PMovingNear
