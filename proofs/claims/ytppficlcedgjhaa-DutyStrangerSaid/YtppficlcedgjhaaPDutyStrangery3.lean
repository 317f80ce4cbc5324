/- Functions that the law DutyStranger reaches, and what their Go code computes. No condition. (Lines of a printed text, turned by this session.) -/
import Derived.Test.YtppficlcedgjhaaPDutyStrangerz0
import Derived.Test.YtppficlcedgjhaaPDutyStrangerz1
import Derived.Test.YtppficlcedgjhaaPDutyStrangerz2
namespace Go.Proofs.Ytppficlcedgjhaa.PDutyStranger
open Go.RowKit Go.Proofs.YtppficlcedgjhaaW.PrintWords Go.Proofs.YtppficlcedgjhaaW.PrintLast Go.Proofs.YtppficlcedgjhaaW.PrintMore
attribute [local go_sem] max2_int min2_int max_two min_two max_three min_three max_four min_four   -- for this text's walks alone
set_option linter.unusedVariables false
set_option linter.unusedSimpArgs false

/-! ### joustlaw22_DutyStranger: function 3 -/
def joustlaw22_DutyStranger.j0 : Nat → Int → Int → Int → Int → Bool → Int → Int → Int → Int → Int → Int → Int → Int → Int → Int → Option (Bool)
  | 0, _, _, _, _, _, _, _, _, _, _, _, _, _, _, _ => none
  | k + 1, x1, x2, x3, x4, x25, x151000, x151001, x151002, x151003, x151004, x163000, x163001, x163002, x163003, x163004 => if x25 = true then (some false) else ((grid_Grid_Regions.f x163000 x163001 x163002 x163003 x163004).bind fun t164 => (if (IntKind.u64.wrap (t164)) = 0 then (none) else (if (IntKind.u64.wrap (x151002)) = 0 then (none) else ((duty_Host.f k x163000 x163001 x163002 x163003 x163004 (wrap64 (Int.tmod (IntKind.u64.wrap (x1)) (IntKind.u64.wrap (t164)))) (([wrap64 (Int.tmod (IntKind.u64.wrap (x2)) (IntKind.u64.wrap (x151002))), wrap64 (Int.tmod (IntKind.u64.wrap (x3)) (IntKind.u64.wrap (x151002)))] : List Int))).bind fun t168 => ((duty_Host.f k x163000 x163001 x163002 x163003 x163004 (wrap64 (Int.tmod (IntKind.u64.wrap (x1)) (IntKind.u64.wrap (t164)))) (([wrap64 (Int.tmod (IntKind.u64.wrap (x3)) (IntKind.u64.wrap (x151002))), wrap64 (Int.tmod (IntKind.u64.wrap (x2)) (IntKind.u64.wrap (x151002))), wrap64 (Int.tmod (IntKind.u64.wrap (x3)) (IntKind.u64.wrap (x151002))), wrap64 (Int.tmod (IntKind.u64.wrap (x2)) (IntKind.u64.wrap (x151002))), wrap64 (x151002 + (wrap64 (Int.tmod (IntKind.u64.wrap (x4)) 100))), (-1)] : List Int))).bind fun t172 => (if t168 = t172 then ((duty_Deputy.f k x163000 x163001 x163002 x163003 x163004 (wrap64 (Int.tmod (IntKind.u64.wrap (x1)) (IntKind.u64.wrap (t164)))) (([wrap64 (Int.tmod (IntKind.u64.wrap (x2)) (IntKind.u64.wrap (x151002))), wrap64 (Int.tmod (IntKind.u64.wrap (x3)) (IntKind.u64.wrap (x151002)))] : List Int))).bind fun t176 => ((duty_Deputy.f k x163000 x163001 x163002 x163003 x163004 (wrap64 (Int.tmod (IntKind.u64.wrap (x1)) (IntKind.u64.wrap (t164)))) (([wrap64 (Int.tmod (IntKind.u64.wrap (x3)) (IntKind.u64.wrap (x151002))), wrap64 (Int.tmod (IntKind.u64.wrap (x2)) (IntKind.u64.wrap (x151002))), wrap64 (x151002 + (wrap64 (Int.tmod (IntKind.u64.wrap (x4)) 100)))] : List Int))).bind fun t180 => (if t176 = t180 then ((duty_Host.f k x163000 x163001 x163002 x163003 x163004 (wrap64 (Int.tmod (IntKind.u64.wrap (x1)) (IntKind.u64.wrap (t164)))) ([] : List Int)).bind fun t181 => ((duty_Host.f k x163000 x163001 x163002 x163003 x163004 (wrap64 (Int.tmod (IntKind.u64.wrap (x1)) (IntKind.u64.wrap (t164)))) (([wrap64 (x151002 + (wrap64 (Int.tmod (IntKind.u64.wrap (x4)) 100)))] : List Int))).bind fun t185 => (some (t181 == t185)))) else (some false)))) else (some false)))))))
def joustlaw22_DutyStranger.f (k : Nat) (a0_0 : Int) (a0_1 : Int) (a0_2 : Int) (a0_3 : Int) (a0_4 : Int) (a1 : Int) (a2 : Int) (a3 : Int) (a4 : Int) : Option (Bool) := (joustplay_Config.f a0_0 a0_1 a0_2 a0_3 a0_4).bind fun bt151 => ((grid_New.f bt151.1 bt151.2.1 bt151.2.2.1 bt151.2.2.2.1 bt151.2.2.2.2).bind fun bt156 => ((joustlaw22_awake.f k).bind fun t163 => (if t163 = true then (joustlaw22_DutyStranger.j0 k a1 a2 a3 a4 (bt156.2.2.2.2.2 != 0) bt151.1 bt151.2.1 bt151.2.2.1 bt151.2.2.2.1 bt151.2.2.2.2 bt156.1 bt156.2.1 bt156.2.2.1 bt156.2.2.2.1 bt156.2.2.2.2.1) else (joustlaw22_DutyStranger.j0 k a1 a2 a3 a4 true bt151.1 bt151.2.1 bt151.2.2.1 bt151.2.2.2.1 bt151.2.2.2.2 bt156.1 bt156.2.1 bt156.2.2.1 bt156.2.2.2.1 bt156.2.2.2.2.1))))
theorem joustlaw22_DutyStranger.mono_l : ∀ k, (∀ y0 y1 y2 y3 y4 y5 y6 y7 y8 y9 y10 y11 y12 y13 y14, LeO (joustlaw22_DutyStranger.j0 k y0 y1 y2 y3 y4 y5 y6 y7 y8 y9 y10 y11 y12 y13 y14) (joustlaw22_DutyStranger.j0 (k + 1) y0 y1 y2 y3 y4 y5 y6 y7 y8 y9 y10 y11 y12 y13 y14))
  | 0 => fun _ _ _ _ _ _ _ _ _ _ _ _ _ _ _ r h => by simp [joustlaw22_DutyStranger.j0] at h
  | k + 1 => by
    have ih0 := joustlaw22_DutyStranger.mono_l k
    · intro y0 y1 y2 y3 y4 y5 y6 y7 y8 y9 y10 y11 y12 y13 y14
      unfold joustlaw22_DutyStranger.j0
      repeat' first
      | (with_reducible exact ih0 _ _ _ _ _ _ _ _ _ _ _ _ _ _ _)
      | (with_reducible exact duty_Deputy.mono _ _ _ _ _ _ _ _)
      | (with_reducible exact duty_Host.mono _ _ _ _ _ _ _ _)
      | (with_reducible exact joustlaw22_awake.mono _)
      | (with_reducible exact LeO.refl _)
      | (with_reducible exact LeO.none _)
      | (with_reducible refine LeO.ite ?_ ?_)
      | (with_reducible refine LeO.bind ?_ (fun _ => ?_))
      | exact ih0 _ _ _ _ _ _ _ _ _ _ _ _ _ _ _
      | exact duty_Deputy.mono _ _ _ _ _ _ _ _
      | exact duty_Host.mono _ _ _ _ _ _ _ _
      | exact joustlaw22_awake.mono _
      | exact LeO.none _
      | refine LeO.ite ?_ ?_
      | refine LeO.bind ?_ (fun _ => ?_)
theorem joustlaw22_DutyStranger.mono : ∀ a0 a1 a2 a3 a4 a5 a6 a7 a8 k, LeO (joustlaw22_DutyStranger.f k a0 a1 a2 a3 a4 a5 a6 a7 a8) (joustlaw22_DutyStranger.f (k + 1) a0 a1 a2 a3 a4 a5 a6 a7 a8) := by
  intro a0 a1 a2 a3 a4 a5 a6 a7 a8 k
  have ih0 := joustlaw22_DutyStranger.mono_l k
  unfold joustlaw22_DutyStranger.f
  repeat' first
      | (with_reducible exact ih0 _ _ _ _ _ _ _ _ _ _ _ _ _ _ _)
      | (with_reducible exact duty_Deputy.mono _ _ _ _ _ _ _ _)
      | (with_reducible exact duty_Host.mono _ _ _ _ _ _ _ _)
      | (with_reducible exact joustlaw22_awake.mono _)
      | (with_reducible exact LeO.refl _)
      | (with_reducible exact LeO.none _)
      | (with_reducible refine LeO.ite ?_ ?_)
      | (with_reducible refine LeO.bind ?_ (fun _ => ?_))
      | exact ih0 _ _ _ _ _ _ _ _ _ _ _ _ _ _ _
      | exact duty_Deputy.mono _ _ _ _ _ _ _ _
      | exact duty_Host.mono _ _ _ _ _ _ _ _
      | exact joustlaw22_awake.mono _
      | exact LeO.none _
      | refine LeO.ite ?_ ?_
      | refine LeO.bind ?_ (fun _ => ?_)
def joustlaw22_DutyStranger.T6 : Bool × List (List Nat × List Nat) := (true, [([], []), ([0], [0]), ([], []), ([2], [2]), ([3], [3]), ([1, 4], [1, 4]), ([5], [5]), ([], []), ([7], [7]), ([], []), ([9], [9]), ([10], [10]), ([8, 11], [8, 11]), ([12], [12]), ([], []), ([14], [14]), ([], []), ([16], [16]), ([17], [17]), ([18], [18]), ([15, 19], [15, 19]), ([6, 0, 1, 2, 3, 4, 5, 6], [0, 6]), ([13, 21, 0, 1, 2, 3, 4, 5, 6, 7, 8, 9, 10, 11, 12, 13, 21], [7, 13]), ([20, 22, 0, 1, 2, 3, 4, 5, 6, 7, 8, 9, 10, 11, 12, 13, 14, 15, 16, 17, 18, 19, 20, 21, 22], [16, 20])])
def joustlaw22_DutyStranger.B6 : List Nat := [0, 1, 0, 4, 12, 31, 63, 0, 128, 0, 512, 1536, 3968, 8064, 0, 16384, 0, 65536, 196608, 458752, 1032192, 127, 2113535, 8388607]
theorem joustlaw22_DutyStranger.tab6 : rtab .any (opsOf Try.f3 6) = joustlaw22_DutyStranger.T6 := by kernel_rfl
theorem joustlaw22_DutyStranger.bits6 : waitsOk joustlaw22_DutyStranger.T6.2 joustlaw22_DutyStranger.B6 = true := by kernel_rfl
def joustlaw22_DutyStranger.T7 : Bool × List (List Nat × List Nat) := (true, [([], []), ([], []), ([], []), ([], []), ([2, 3], [2, 3]), ([0, 1, 4], [0, 1, 4]), ([], []), ([], []), ([], []), ([], []), ([], []), ([], []), ([], []), ([8, 9, 10, 11, 12], [8, 9, 10, 11, 12]), ([6, 7, 13, 5], [6, 7, 13]), ([5, 14], [5, 14]), ([15, 14], [15]), ([16], [16]), ([16], [16]), ([16], [16]), ([16], [16]), ([19, 20, 16], [16, 19, 20]), ([17, 18, 21, 16, 16], [16, 17, 18, 21]), ([16], [16]), ([16], [16]), ([16], [16]), ([16], [16]), ([16], [16]), ([25, 26, 27, 16], [16, 25, 26, 27]), ([23, 24, 28, 22, 16], [16, 23, 24, 28]), ([22, 29, 16], [16, 22, 29]), ([16, 30], [16, 30]), ([31, 29], [31]), ([32], [32]), ([32], [32]), ([33, 34, 32, 32], [32, 33, 34]), ([32], [32]), ([32], [32]), ([32], [32]), ([38, 32], [32, 38]), ([36, 37, 39, 35, 32], [32, 36, 37, 39]), ([35, 40, 32], [32, 35, 40]), ([32, 41], [32, 41]), ([42, 40, 0, 1, 2, 3, 4, 5, 6, 7, 8, 9, 10, 11, 12, 13, 14, 15, 16, 17, 18, 19, 20, 21, 22, 23, 24, 25, 26, 27, 28, 29, 30, 31, 32, 33, 34, 35, 36, 37, 38, 39, 40, 41, 42], [42])])
def joustlaw22_DutyStranger.B7 : List Nat := [0, 0, 0, 0, 12, 31, 0, 0, 0, 0, 0, 0, 0, 7936, 16383, 32767, 65535, 131071, 131071, 131071, 131071, 1703935, 4194303, 131071, 131071, 131071, 131071, 131071, 235012095, 536870911, 1073741823, 2147483647, 4294967295, 8589934591, 8589934591, 34359738367, 8589934591, 8589934591, 8589934591, 283467841535, 1099511627775, 2199023255551, 4398046511103, 8796093022207]
theorem joustlaw22_DutyStranger.tab7 : rtab .any (opsOf Try.f3 7) = joustlaw22_DutyStranger.T7 := by kernel_rfl
theorem joustlaw22_DutyStranger.bits7 : waitsOk joustlaw22_DutyStranger.T7.2 joustlaw22_DutyStranger.B7 = true := by kernel_rfl
set_option maxHeartbeats 60000000 in
set_option maxRecDepth 100000 in
theorem joustlaw22_DutyStranger.calls (k : Nat) (a0_0 : Int) (a0_1 : Int) (a0_2 : Int) (a0_3 : Int) (a0_4 : Int) (a1 : Int) (a2 : Int) (a3 : Int) (a4 : Int) (r : Bool) (w : World) (hr_ : Aside0 (r = true)) (h : joustlaw22_DutyStranger.f k a0_0 a0_1 a0_2 a0_3 a0_4 a1 a2 a3 a4 = some r) :
    Calls Try.prog 3 #[.agg #[.int .i64 a0_0, .int .i64 a0_1, .int .i64 a0_2, .int .i64 a0_3, .int .u64 a0_4], .int .i64 a1, .int .i64 a2, .int .i64 a3, .int .i64 a4] w fun e w' => e = .returned (.bool r) ∧ Below w.heap.size w w' := by
  have hu24 := Try.underlying24
  have hu27 := Try.underlying27
  have HB := Aside0.mk (Below.refl w.heap.size w)
  have H : ((joustplay_Config.f a0_0 a0_1 a0_2 a0_3 a0_4).bind fun bt151 => ((grid_New.f bt151.1 bt151.2.1 bt151.2.2.1 bt151.2.2.2.1 bt151.2.2.2.2).bind fun bt156 => ((joustlaw22_awake.f k).bind fun t163 => (if t163 = true then (joustlaw22_DutyStranger.j0 k a1 a2 a3 a4 (bt156.2.2.2.2.2 != 0) bt151.1 bt151.2.1 bt151.2.2.1 bt151.2.2.2.1 bt151.2.2.2.2 bt156.1 bt156.2.1 bt156.2.2.1 bt156.2.2.2.1 bt156.2.2.2.2.1) else (joustlaw22_DutyStranger.j0 k a1 a2 a3 a4 true bt151.1 bt151.2.1 bt151.2.2.1 bt151.2.2.2.1 bt151.2.2.2.2 bt156.1 bt156.2.1 bt156.2.2.1 bt156.2.2.2.1 bt156.2.2.2.2.1))))) = some r := h
  clear h
  replace H := Option.bind_eq_some_iff.mp H
  obtain ⟨⟨t151, t152, t153, t154, t155⟩, A60, H⟩ := H
  replace H : ((grid_New.f t151 t152 t153 t154 t155).bind fun bt156 => ((joustlaw22_awake.f k).bind fun t163 => (if t163 = true then (joustlaw22_DutyStranger.j0 k a1 a2 a3 a4 (bt156.2.2.2.2.2 != 0) t151 t152 t153 t154 t155 bt156.1 bt156.2.1 bt156.2.2.1 bt156.2.2.2.1 bt156.2.2.2.2.1) else (joustlaw22_DutyStranger.j0 k a1 a2 a3 a4 true t151 t152 t153 t154 t155 bt156.1 bt156.2.1 bt156.2.2.1 bt156.2.2.2.1 bt156.2.2.2.2.1)))) = some r := H
  have A6 := Aside0.mk A60
  clear A60
  replace H := Option.bind_eq_some_iff.mp H
  obtain ⟨⟨t156, t157, t158, t159, t160, t161⟩, A70, H⟩ := H
  replace H : ((joustlaw22_awake.f k).bind fun t163 => (if t163 = true then (joustlaw22_DutyStranger.j0 k a1 a2 a3 a4 (t161 != 0) t151 t152 t153 t154 t155 t156 t157 t158 t159 t160) else (joustlaw22_DutyStranger.j0 k a1 a2 a3 a4 true t151 t152 t153 t154 t155 t156 t157 t158 t159 t160))) = some r := H
  have A7 := Aside0.mk A70
  clear A70
  have HC8 := Aside0.mk H
  clear H
  go_enter Try.func3, Try.ntmps3
  go_upto_region 3 with (first | ((with_reducible refine gate_dst (N := 5) rfl ?_); (try (refine gate_guard (by rfl) ?_; dsimp only)); refine box_event ?hg (N := 5) ?hd (cs := #[.int .i64 a0_0, .int .i64 a0_1, .int .i64 a0_2, .int .i64 a0_3, .int .u64 a0_4]) (t := 24) ?hr ?_; (case hd => rfl); (case hg => rfl); (case hr => first | (go_simp; done) | (go_simp; rfl)); intro gb150 hg w9 hbox hb; have n0_ := Aside0.mk (below_step (by repeat (first | (with_reducible first | exact HB.out | apply below_alloc | apply pw_below_drewN | apply below_drew1) | exact HB.out)) hb); have n1_ := Aside0.mk (hbox); have n2_ := Aside0.mk ((by rw [hg]; exact (below_size (by repeat (first | (with_reducible first | exact HB.out | apply below_alloc | apply pw_below_drewN | apply below_drew1) | exact HB.out))) : w.heap.size ≤ gb150)); have n3_ := Aside0.mk ((by rw [hg]; exact (below_size (by repeat (first | (with_reducible first | exact HB.out | apply below_alloc | apply pw_below_drewN | apply below_drew1) | exact HB.out))) : w.heap.size ≤ gb150)); clear HB; have HB := n0_; have BK150 := n1_; have GW150 := n2_; have GE150 := n3_; clear n0_ n1_ n2_ n3_; clear hb hbox hg; have hcz10_0 : w9.cell? ⟨gb150, 0, none⟩ = some (.int .i64 a0_0) := (blk_cell BK150.out 0).trans rfl; have hcz10_1 : w9.cell? ⟨gb150, 1, none⟩ = some (.int .i64 a0_1) := (blk_cell BK150.out 1).trans rfl; have hcz10_2 : w9.cell? ⟨gb150, 2, none⟩ = some (.int .i64 a0_2) := (blk_cell BK150.out 2).trans rfl; have hcz10_3 : w9.cell? ⟨gb150, 3, none⟩ = some (.int .i64 a0_3) := (blk_cell BK150.out 3).trans rfl; have hcz10_4 : w9.cell? ⟨gb150, 4, none⟩ = some (.int .u64 a0_4) := (blk_cell BK150.out 4).trans rfl; have hfz10_0 := blk_frozen BK150.out 0; have hfz10_1 := blk_frozen BK150.out 1; have hfz10_2 := blk_frozen BK150.out 2; have hfz10_3 := blk_frozen BK150.out 3; have hfz10_4 := blk_frozen BK150.out 4) | ((with_reducible refine gate_callee (f := 7) rfl ?_); refine goesL_ (some 14) rfl rfl Try.func7 (by kernel_rfl) rfl #[.agg #[.int .i64 a0_0, .int .i64 a0_1, .int .i64 a0_2, .int .i64 a0_3, .int .u64 a0_4]] rfl (by (try simp only [List.map_toArray, List.map_cons, List.map_nil]); first | done | rfl | (simp only [List.length_drop, List.length_take]; rfl)) ?_; (with_reducible refine (joustplay_Config.calls a0_0 a0_1 a0_2 a0_3 a0_4 t151 t152 t153 t154 t155 _ A6.out).mono ?_); rintro e w11 ⟨rfl, hb⟩; refine ⟨_, rfl, ?_⟩; have n0_ := Aside0.mk (blk_below (g := gb150) (o := .cells #[.int .i64 a0_0, .int .i64 a0_1, .int .i64 a0_2, .int .i64 a0_3, .int .u64 a0_4] 24 (0, 0)) (by (with_reducible repeat (first | refine blk_drewN ?_ _ | refine blk_drew ?_ | refine blk_alloc ?_ _)); exact BK150.out) hb); have n1_ := Aside0.mk (below_step (by repeat (first | (with_reducible first | exact HB.out | apply below_alloc | apply pw_below_drewN | apply below_drew1 | refine below_set ?_ GE150.out) | exact HB.out)) hb); clear BK150; clear HB; have BK150 := n0_; have HB := n1_; clear n0_ n1_; (try clear hb); (try clear hb2); (try clear hk); (try clear hi); have hcz12_0 : w11.cell? ⟨gb150, 0, none⟩ = some (.int .i64 a0_0) := (blk_cell BK150.out 0).trans rfl; have hcz12_1 : w11.cell? ⟨gb150, 1, none⟩ = some (.int .i64 a0_1) := (blk_cell BK150.out 1).trans rfl; have hcz12_2 : w11.cell? ⟨gb150, 2, none⟩ = some (.int .i64 a0_2) := (blk_cell BK150.out 2).trans rfl; have hcz12_3 : w11.cell? ⟨gb150, 3, none⟩ = some (.int .i64 a0_3) := (blk_cell BK150.out 3).trans rfl; have hcz12_4 : w11.cell? ⟨gb150, 4, none⟩ = some (.int .u64 a0_4) := (blk_cell BK150.out 4).trans rfl; have hfz12_0 := blk_frozen BK150.out 0; have hfz12_1 := blk_frozen BK150.out 1; have hfz12_2 := blk_frozen BK150.out 2; have hfz12_3 := blk_frozen BK150.out 3; have hfz12_4 := blk_frozen BK150.out 4) | ((with_reducible refine gate_callee (f := 8) rfl ?_); refine goesL_ (some 17) rfl rfl Try.func8 (by kernel_rfl) rfl #[.agg #[.int .i64 t151, .int .i64 t152, .int .i64 t153, .int .i64 t154, .int .u64 t155]] rfl (by (try simp only [List.map_toArray, List.map_cons, List.map_nil]); first | done | rfl | (simp only [List.length_drop, List.length_take]; rfl)) ?_; (with_reducible refine (grid_New.calls t151 t152 t153 t154 t155 t156 t157 t158 t159 t160 t161 _ A7.out).mono ?_); rintro e w13 ⟨rfl, hb⟩; refine ⟨_, rfl, ?_⟩; have n0_ := Aside0.mk (blk_below (g := gb150) (o := .cells #[.int .i64 t151, .int .i64 t152, .int .i64 t153, .int .i64 t154, .int .u64 t155] 24 (0, 0)) (by (with_reducible repeat (first | refine blk_drewN ?_ _ | refine blk_drew ?_ | refine blk_alloc ?_ _)); refine blk_put (cs := #[.int .i64 t151, .int .i64 t152, .int .i64 t153, .int .i64 t154, .int .u64 a0_4]) ?_ 4 _ rfl; (with_reducible repeat (first | refine blk_drewN ?_ _ | refine blk_drew ?_ | refine blk_alloc ?_ _)); refine blk_put (cs := #[.int .i64 t151, .int .i64 t152, .int .i64 t153, .int .i64 a0_3, .int .u64 a0_4]) ?_ 3 _ rfl; (with_reducible repeat (first | refine blk_drewN ?_ _ | refine blk_drew ?_ | refine blk_alloc ?_ _)); refine blk_put (cs := #[.int .i64 t151, .int .i64 t152, .int .i64 a0_2, .int .i64 a0_3, .int .u64 a0_4]) ?_ 2 _ rfl; (with_reducible repeat (first | refine blk_drewN ?_ _ | refine blk_drew ?_ | refine blk_alloc ?_ _)); refine blk_put (cs := #[.int .i64 t151, .int .i64 a0_1, .int .i64 a0_2, .int .i64 a0_3, .int .u64 a0_4]) ?_ 1 _ rfl; (with_reducible repeat (first | refine blk_drewN ?_ _ | refine blk_drew ?_ | refine blk_alloc ?_ _)); refine blk_put (cs := #[.int .i64 a0_0, .int .i64 a0_1, .int .i64 a0_2, .int .i64 a0_3, .int .u64 a0_4]) ?_ 0 _ rfl; (with_reducible repeat (first | refine blk_drewN ?_ _ | refine blk_drew ?_ | refine blk_alloc ?_ _)); exact BK150.out) hb); have n1_ := Aside0.mk (below_step (by repeat (first | (with_reducible first | exact HB.out | apply below_alloc | apply pw_below_drewN | apply below_drew1 | refine below_set ?_ GE150.out) | exact HB.out)) hb); clear BK150; clear HB; have BK150 := n0_; have HB := n1_; clear n0_ n1_; (try clear hb); (try clear hb2); (try clear hk); (try clear hi)) | ((with_reducible refine gate_dst (N := 11) rfl ?_); (try (refine gate_guard (by rfl) ?_; dsimp only)); refine box_event ?hg (N := 11) ?hd (cs := #[.int .i64 0, .int .i64 0, .int .i64 0, .int .i64 0, .int .u64 0]) (t := 27) ?hr ?_; (case hd => rfl); (case hg => rfl); (case hr => first | (go_simp; done) | (go_simp; rfl)); intro gb162 hg w14 hbox hb; have n0_ := Aside0.mk (blk_below (g := gb150) (o := .cells #[.int .i64 t151, .int .i64 t152, .int .i64 t153, .int .i64 t154, .int .u64 t155] 24 (0, 0)) (by (with_reducible repeat (first | refine blk_drewN ?_ _ | refine blk_drew ?_ | refine blk_alloc ?_ _)); exact BK150.out) hb); have n1_ := Aside0.mk (below_step (by repeat (first | (with_reducible first | exact HB.out | apply below_alloc | apply pw_below_drewN | apply below_drew1 | refine below_set ?_ GE150.out) | exact HB.out)) hb); have n2_ := Aside0.mk (hbox); have n3_ := Aside0.mk ((by rw [hg]; exact (below_size (by repeat (first | (with_reducible first | exact HB.out | apply below_alloc | apply pw_below_drewN | apply below_drew1 | refine below_set ?_ GE150.out) | exact HB.out))) : w.heap.size ≤ gb162)); have n4_ := Aside0.mk ((by rw [hg]; exact (below_size (by repeat (first | (with_reducible first | exact HB.out | apply below_alloc | apply pw_below_drewN | apply below_drew1 | refine below_set ?_ GE150.out) | exact HB.out))) : w.heap.size ≤ gb162)); have n5_ := Aside0.mk ((by rw [hg]; exact Nat.ne_of_lt (blk_lt (g := gb150) (o := .cells #[.int .i64 t151, .int .i64 t152, .int .i64 t153, .int .i64 t154, .int .u64 t155] 24 (0, 0)) (by (with_reducible repeat (first | refine blk_drewN ?_ _ | refine blk_drew ?_ | refine blk_alloc ?_ _)); exact BK150.out)) : gb150 ≠ gb162)); have n6_ := Aside0.mk ((by rw [hg]; exact Nat.ne_of_gt (blk_lt (g := gb150) (o := .cells #[.int .i64 t151, .int .i64 t152, .int .i64 t153, .int .i64 t154, .int .u64 t155] 24 (0, 0)) (by (with_reducible repeat (first | refine blk_drewN ?_ _ | refine blk_drew ?_ | refine blk_alloc ?_ _)); exact BK150.out)) : gb162 ≠ gb150)); clear BK150; clear HB; have BK150 := n0_; have HB := n1_; have BK162 := n2_; have GW162 := n3_; have GE162 := n4_; have NB150_162 := n5_; have NB162_150 := n6_; clear n0_ n1_ n2_ n3_ n4_ n5_ n6_; clear hb hbox hg; have hnb15 := NB162_150.out; have hnc15 := NB150_162.out; have hcz16_0 : w14.cell? ⟨gb162, 0, none⟩ = some (.int .i64 0) := (blk_cell BK162.out 0).trans rfl; have hcz16_1 : w14.cell? ⟨gb162, 1, none⟩ = some (.int .i64 0) := (blk_cell BK162.out 1).trans rfl; have hcz16_2 : w14.cell? ⟨gb162, 2, none⟩ = some (.int .i64 0) := (blk_cell BK162.out 2).trans rfl; have hcz16_3 : w14.cell? ⟨gb162, 3, none⟩ = some (.int .i64 0) := (blk_cell BK162.out 3).trans rfl; have hcz16_4 : w14.cell? ⟨gb162, 4, none⟩ = some (.int .u64 0) := (blk_cell BK162.out 4).trans rfl; have hfz16_0 := blk_frozen BK162.out 0; have hfz16_1 := blk_frozen BK162.out 1; have hfz16_2 := blk_frozen BK162.out 2; have hfz16_3 := blk_frozen BK162.out 3; have hfz16_4 := blk_frozen BK162.out 4))
  (try simp only [Act.put, List.setIfInBounds_toArray, List.set_cons_zero, List.set_cons_succ])
  go_cut [25] (fun v25 wc => ∃ (kq : Nat) (x25_7 : Bool), v25 = .bool x25_7 ∧ Aside0 (joustlaw22_DutyStranger.j0 kq a1 a2 a3 a4 x25_7 t151 t152 t153 t154 t155 t156 t157 t158 t159 t160 = some r) ∧ Aside0 (kq ≤ k) ∧ Aside0 (wc.heap[gb150]? = some (.cells #[.int .i64 t151, .int .i64 t152, .int .i64 t153, .int .i64 t154, .int .u64 t155] 24 (0, 0))) ∧ Aside0 (wc.heap[gb162]? = some (.cells #[.int .i64 t156, .int .i64 t157, .int .i64 t158, .int .i64 t159, .int .u64 t160] 27 (0, 0))) ∧ Aside0 (Below w.heap.size w wc))
  case first =>
    have H := HC8.out
    clear HC8
    replace H := Option.bind_eq_some_iff.mp H
    obtain ⟨t163, A170, H⟩ := H
    replace H : (if t163 = true then (joustlaw22_DutyStranger.j0 k a1 a2 a3 a4 (t161 != 0) t151 t152 t153 t154 t155 t156 t157 t158 t159 t160) else (joustlaw22_DutyStranger.j0 k a1 a2 a3 a4 true t151 t152 t153 t154 t155 t156 t157 t158 t159 t160)) = some r := H
    have A17 := Aside0.mk A170
    clear A170
    by_cases c18 : t163 = true
    · subst c18
      have H1 : (joustlaw22_DutyStranger.j0 k a1 a2 a3 a4 (t161 != 0) t151 t152 t153 t154 t155 t156 t157 t158 t159 t160) = some r := by rw [if_pos rfl] at H; exact H
      clear H
      have H := H1
      clear H1
      have H' := Aside0.mk H
      clear H
      go_wp2_with (first | ((with_reducible refine gate_callee (f := 9) rfl ?_); refine goesL_ (some 20) rfl rfl Try.func9 (by kernel_rfl) rfl #[] rfl (by (try simp only [List.map_toArray, List.map_cons, List.map_nil]); first | done | rfl | (simp only [List.length_drop, List.length_take]; rfl)) ?_; (with_reducible refine (joustlaw22_awake.calls k  true _ A17.out).mono ?_); rintro e w19 ⟨rfl, hb⟩; refine ⟨_, rfl, ?_⟩; have n0_ := Aside0.mk (blk_below (g := gb150) (o := .cells #[.int .i64 t151, .int .i64 t152, .int .i64 t153, .int .i64 t154, .int .u64 t155] 24 (0, 0)) (by (with_reducible repeat (first | refine blk_drewN ?_ _ | refine blk_drew ?_ | refine blk_alloc ?_ _)); refine blk_far ?_ NB150_162.out _; (with_reducible repeat (first | refine blk_drewN ?_ _ | refine blk_drew ?_ | refine blk_alloc ?_ _)); refine blk_far ?_ NB150_162.out _; (with_reducible repeat (first | refine blk_drewN ?_ _ | refine blk_drew ?_ | refine blk_alloc ?_ _)); refine blk_far ?_ NB150_162.out _; (with_reducible repeat (first | refine blk_drewN ?_ _ | refine blk_drew ?_ | refine blk_alloc ?_ _)); refine blk_far ?_ NB150_162.out _; (with_reducible repeat (first | refine blk_drewN ?_ _ | refine blk_drew ?_ | refine blk_alloc ?_ _)); refine blk_far ?_ NB150_162.out _; (with_reducible repeat (first | refine blk_drewN ?_ _ | refine blk_drew ?_ | refine blk_alloc ?_ _)); exact BK150.out) hb); have n1_ := Aside0.mk (blk_below (g := gb162) (o := .cells #[.int .i64 t156, .int .i64 t157, .int .i64 t158, .int .i64 t159, .int .u64 t160] 27 (0, 0)) (by (with_reducible repeat (first | refine blk_drewN ?_ _ | refine blk_drew ?_ | refine blk_alloc ?_ _)); refine blk_put (cs := #[.int .i64 t156, .int .i64 t157, .int .i64 t158, .int .i64 t159, .int .u64 0]) ?_ 4 _ rfl; (with_reducible repeat (first | refine blk_drewN ?_ _ | refine blk_drew ?_ | refine blk_alloc ?_ _)); refine blk_put (cs := #[.int .i64 t156, .int .i64 t157, .int .i64 t158, .int .i64 0, .int .u64 0]) ?_ 3 _ rfl; (with_reducible repeat (first | refine blk_drewN ?_ _ | refine blk_drew ?_ | refine blk_alloc ?_ _)); refine blk_put (cs := #[.int .i64 t156, .int .i64 t157, .int .i64 0, .int .i64 0, .int .u64 0]) ?_ 2 _ rfl; (with_reducible repeat (first | refine blk_drewN ?_ _ | refine blk_drew ?_ | refine blk_alloc ?_ _)); refine blk_put (cs := #[.int .i64 t156, .int .i64 0, .int .i64 0, .int .i64 0, .int .u64 0]) ?_ 1 _ rfl; (with_reducible repeat (first | refine blk_drewN ?_ _ | refine blk_drew ?_ | refine blk_alloc ?_ _)); refine blk_put (cs := #[.int .i64 0, .int .i64 0, .int .i64 0, .int .i64 0, .int .u64 0]) ?_ 0 _ rfl; (with_reducible repeat (first | refine blk_drewN ?_ _ | refine blk_drew ?_ | refine blk_alloc ?_ _)); exact BK162.out) hb); have n2_ := Aside0.mk (below_step (by repeat (first | (with_reducible first | exact HB.out | apply below_alloc | apply pw_below_drewN | apply below_drew1 | refine below_set ?_ GE150.out | refine below_set ?_ GE162.out) | exact HB.out)) hb); clear BK150; clear BK162; clear HB; have BK150 := n0_; have BK162 := n1_; have HB := n2_; clear n0_ n1_ n2_; (try clear hb); (try clear hb2); (try clear hk); (try clear hi)))
      go_meet
      case rel => exact ⟨_, ((t161 != 0)), (by first | rfl | (simp; done) | (simp [*]; done)), H', ⟨by first | omega | exact Nat.le_refl _⟩, ⟨by (with_reducible repeat (first | refine blk_drewN ?_ _ | refine blk_drew ?_ | refine blk_alloc ?_ _)); exact BK150.out⟩, ⟨by (with_reducible repeat (first | refine blk_drewN ?_ _ | refine blk_drew ?_ | refine blk_alloc ?_ _)); exact BK162.out⟩, ⟨by repeat (first | (with_reducible first | exact HB.out | apply below_alloc | apply pw_below_drewN | apply below_drew1 | refine below_set ?_ GE150.out | refine below_set ?_ GE162.out) | exact HB.out)⟩⟩
    · replace c18 := Bool.eq_false_iff.mpr c18
      subst c18
      have H1 : (joustlaw22_DutyStranger.j0 k a1 a2 a3 a4 true t151 t152 t153 t154 t155 t156 t157 t158 t159 t160) = some r := by rw [if_neg (show ¬ (false = true) by decide)] at H; exact H
      clear H
      have H := H1
      clear H1
      have H' := Aside0.mk H
      clear H
      go_wp2_with (first | ((with_reducible refine gate_callee (f := 9) rfl ?_); refine goesL_ (some 20) rfl rfl Try.func9 (by kernel_rfl) rfl #[] rfl (by (try simp only [List.map_toArray, List.map_cons, List.map_nil]); first | done | rfl | (simp only [List.length_drop, List.length_take]; rfl)) ?_; (with_reducible refine (joustlaw22_awake.calls k  false _ A17.out).mono ?_); rintro e w20 ⟨rfl, hb⟩; refine ⟨_, rfl, ?_⟩; have n0_ := Aside0.mk (blk_below (g := gb150) (o := .cells #[.int .i64 t151, .int .i64 t152, .int .i64 t153, .int .i64 t154, .int .u64 t155] 24 (0, 0)) (by (with_reducible repeat (first | refine blk_drewN ?_ _ | refine blk_drew ?_ | refine blk_alloc ?_ _)); refine blk_far ?_ NB150_162.out _; (with_reducible repeat (first | refine blk_drewN ?_ _ | refine blk_drew ?_ | refine blk_alloc ?_ _)); refine blk_far ?_ NB150_162.out _; (with_reducible repeat (first | refine blk_drewN ?_ _ | refine blk_drew ?_ | refine blk_alloc ?_ _)); refine blk_far ?_ NB150_162.out _; (with_reducible repeat (first | refine blk_drewN ?_ _ | refine blk_drew ?_ | refine blk_alloc ?_ _)); refine blk_far ?_ NB150_162.out _; (with_reducible repeat (first | refine blk_drewN ?_ _ | refine blk_drew ?_ | refine blk_alloc ?_ _)); refine blk_far ?_ NB150_162.out _; (with_reducible repeat (first | refine blk_drewN ?_ _ | refine blk_drew ?_ | refine blk_alloc ?_ _)); exact BK150.out) hb); have n1_ := Aside0.mk (blk_below (g := gb162) (o := .cells #[.int .i64 t156, .int .i64 t157, .int .i64 t158, .int .i64 t159, .int .u64 t160] 27 (0, 0)) (by (with_reducible repeat (first | refine blk_drewN ?_ _ | refine blk_drew ?_ | refine blk_alloc ?_ _)); refine blk_put (cs := #[.int .i64 t156, .int .i64 t157, .int .i64 t158, .int .i64 t159, .int .u64 0]) ?_ 4 _ rfl; (with_reducible repeat (first | refine blk_drewN ?_ _ | refine blk_drew ?_ | refine blk_alloc ?_ _)); refine blk_put (cs := #[.int .i64 t156, .int .i64 t157, .int .i64 t158, .int .i64 0, .int .u64 0]) ?_ 3 _ rfl; (with_reducible repeat (first | refine blk_drewN ?_ _ | refine blk_drew ?_ | refine blk_alloc ?_ _)); refine blk_put (cs := #[.int .i64 t156, .int .i64 t157, .int .i64 0, .int .i64 0, .int .u64 0]) ?_ 2 _ rfl; (with_reducible repeat (first | refine blk_drewN ?_ _ | refine blk_drew ?_ | refine blk_alloc ?_ _)); refine blk_put (cs := #[.int .i64 t156, .int .i64 0, .int .i64 0, .int .i64 0, .int .u64 0]) ?_ 1 _ rfl; (with_reducible repeat (first | refine blk_drewN ?_ _ | refine blk_drew ?_ | refine blk_alloc ?_ _)); refine blk_put (cs := #[.int .i64 0, .int .i64 0, .int .i64 0, .int .i64 0, .int .u64 0]) ?_ 0 _ rfl; (with_reducible repeat (first | refine blk_drewN ?_ _ | refine blk_drew ?_ | refine blk_alloc ?_ _)); exact BK162.out) hb); have n2_ := Aside0.mk (below_step (by repeat (first | (with_reducible first | exact HB.out | apply below_alloc | apply pw_below_drewN | apply below_drew1 | refine below_set ?_ GE150.out | refine below_set ?_ GE162.out) | exact HB.out)) hb); clear BK150; clear BK162; clear HB; have BK150 := n0_; have BK162 := n1_; have HB := n2_; clear n0_ n1_ n2_; (try clear hb); (try clear hb2); (try clear hk); (try clear hi)))
      go_meet
      case rel => exact ⟨_, (true), (by first | rfl | (simp; done) | (simp [*]; done)), H', ⟨by first | omega | exact Nat.le_refl _⟩, ⟨by (with_reducible repeat (first | refine blk_drewN ?_ _ | refine blk_drew ?_ | refine blk_alloc ?_ _)); exact BK150.out⟩, ⟨by (with_reducible repeat (first | refine blk_drewN ?_ _ | refine blk_drew ?_ | refine blk_alloc ?_ _)); exact BK162.out⟩, ⟨by repeat (first | (with_reducible first | exact HB.out | apply below_alloc | apply pw_below_drewN | apply below_drew1 | refine below_set ?_ GE150.out | refine below_set ?_ GE162.out) | exact HB.out)⟩⟩
  case rest =>
    clear HC8
    try clear c1
    try clear p2
    try clear c3
    try clear c7
    try clear c8
    try clear c9
    try clear c15
    try clear c18
    try clear hcz10_0
    try clear hcz10_1
    try clear hcz10_2
    try clear hcz10_3
    try clear hcz10_4
    try clear hcz12_0
    try clear hcz12_1
    try clear hcz12_2
    try clear hcz12_3
    try clear hcz12_4
    try clear hcz16_0
    try clear hcz16_1
    try clear hcz16_2
    try clear hcz16_3
    try clear hcz16_4
    try clear hfz10_0
    try clear hfz10_1
    try clear hfz10_2
    try clear hfz10_3
    try clear hfz10_4
    try clear hfz12_0
    try clear hfz12_1
    try clear hfz12_2
    try clear hfz12_3
    try clear hfz12_4
    try clear hfz16_0
    try clear hfz16_1
    try clear hfz16_2
    try clear hfz16_3
    try clear hfz16_4
    obtain ⟨kq, x25_7, rfl, HA, HJ7, BK150, BK162, HB⟩ := hcut
    cases kq with
    | zero => exact absurd HA.out (by simp [joustlaw22_DutyStranger.j0])
    | succ kj7 =>
      have H := HA.out
      clear HA
      simp only [joustlaw22_DutyStranger.j0] at H
      by_cases c21 : x25_7 = true
      · subst c21
        have H1 : (some false) = some r := by rw [if_pos rfl] at H; exact H
        clear H
        have H := H1
        clear H1
        exact absurd (H.trans (congrArg some hr_.out)) (by decide)
      · replace c21 := Bool.eq_false_iff.mpr c21
        subst c21
        have H1 : ((grid_Grid_Regions.f t156 t157 t158 t159 t160).bind fun t164 => (if (IntKind.u64.wrap (t164)) = 0 then (none) else (if (IntKind.u64.wrap (t153)) = 0 then (none) else ((duty_Host.f kj7 t156 t157 t158 t159 t160 (wrap64 (Int.tmod (IntKind.u64.wrap (a1)) (IntKind.u64.wrap (t164)))) (([wrap64 (Int.tmod (IntKind.u64.wrap (a2)) (IntKind.u64.wrap (t153))), wrap64 (Int.tmod (IntKind.u64.wrap (a3)) (IntKind.u64.wrap (t153)))] : List Int))).bind fun t168 => ((duty_Host.f kj7 t156 t157 t158 t159 t160 (wrap64 (Int.tmod (IntKind.u64.wrap (a1)) (IntKind.u64.wrap (t164)))) (([wrap64 (Int.tmod (IntKind.u64.wrap (a3)) (IntKind.u64.wrap (t153))), wrap64 (Int.tmod (IntKind.u64.wrap (a2)) (IntKind.u64.wrap (t153))), wrap64 (Int.tmod (IntKind.u64.wrap (a3)) (IntKind.u64.wrap (t153))), wrap64 (Int.tmod (IntKind.u64.wrap (a2)) (IntKind.u64.wrap (t153))), wrap64 (t153 + (wrap64 (Int.tmod (IntKind.u64.wrap (a4)) 100))), (-1)] : List Int))).bind fun t172 => (if t168 = t172 then ((duty_Deputy.f kj7 t156 t157 t158 t159 t160 (wrap64 (Int.tmod (IntKind.u64.wrap (a1)) (IntKind.u64.wrap (t164)))) (([wrap64 (Int.tmod (IntKind.u64.wrap (a2)) (IntKind.u64.wrap (t153))), wrap64 (Int.tmod (IntKind.u64.wrap (a3)) (IntKind.u64.wrap (t153)))] : List Int))).bind fun t176 => ((duty_Deputy.f kj7 t156 t157 t158 t159 t160 (wrap64 (Int.tmod (IntKind.u64.wrap (a1)) (IntKind.u64.wrap (t164)))) (([wrap64 (Int.tmod (IntKind.u64.wrap (a3)) (IntKind.u64.wrap (t153))), wrap64 (Int.tmod (IntKind.u64.wrap (a2)) (IntKind.u64.wrap (t153))), wrap64 (t153 + (wrap64 (Int.tmod (IntKind.u64.wrap (a4)) 100)))] : List Int))).bind fun t180 => (if t176 = t180 then ((duty_Host.f kj7 t156 t157 t158 t159 t160 (wrap64 (Int.tmod (IntKind.u64.wrap (a1)) (IntKind.u64.wrap (t164)))) ([] : List Int)).bind fun t181 => ((duty_Host.f kj7 t156 t157 t158 t159 t160 (wrap64 (Int.tmod (IntKind.u64.wrap (a1)) (IntKind.u64.wrap (t164)))) (([wrap64 (t153 + (wrap64 (Int.tmod (IntKind.u64.wrap (a4)) 100)))] : List Int))).bind fun t185 => (some (t181 == t185)))) else (some false)))) else (some false))))))) = some r := by rw [if_neg (show ¬ (false = true) by decide)] at H; exact H
        clear H
        have H := H1
        clear H1
        replace H := Option.bind_eq_some_iff.mp H
        obtain ⟨t164, A220, H⟩ := H
        replace H : (if (IntKind.u64.wrap (t164)) = 0 then (none) else (if (IntKind.u64.wrap (t153)) = 0 then (none) else ((duty_Host.f kj7 t156 t157 t158 t159 t160 (wrap64 (Int.tmod (IntKind.u64.wrap (a1)) (IntKind.u64.wrap (t164)))) (([wrap64 (Int.tmod (IntKind.u64.wrap (a2)) (IntKind.u64.wrap (t153))), wrap64 (Int.tmod (IntKind.u64.wrap (a3)) (IntKind.u64.wrap (t153)))] : List Int))).bind fun t168 => ((duty_Host.f kj7 t156 t157 t158 t159 t160 (wrap64 (Int.tmod (IntKind.u64.wrap (a1)) (IntKind.u64.wrap (t164)))) (([wrap64 (Int.tmod (IntKind.u64.wrap (a3)) (IntKind.u64.wrap (t153))), wrap64 (Int.tmod (IntKind.u64.wrap (a2)) (IntKind.u64.wrap (t153))), wrap64 (Int.tmod (IntKind.u64.wrap (a3)) (IntKind.u64.wrap (t153))), wrap64 (Int.tmod (IntKind.u64.wrap (a2)) (IntKind.u64.wrap (t153))), wrap64 (t153 + (wrap64 (Int.tmod (IntKind.u64.wrap (a4)) 100))), (-1)] : List Int))).bind fun t172 => (if t168 = t172 then ((duty_Deputy.f kj7 t156 t157 t158 t159 t160 (wrap64 (Int.tmod (IntKind.u64.wrap (a1)) (IntKind.u64.wrap (t164)))) (([wrap64 (Int.tmod (IntKind.u64.wrap (a2)) (IntKind.u64.wrap (t153))), wrap64 (Int.tmod (IntKind.u64.wrap (a3)) (IntKind.u64.wrap (t153)))] : List Int))).bind fun t176 => ((duty_Deputy.f kj7 t156 t157 t158 t159 t160 (wrap64 (Int.tmod (IntKind.u64.wrap (a1)) (IntKind.u64.wrap (t164)))) (([wrap64 (Int.tmod (IntKind.u64.wrap (a3)) (IntKind.u64.wrap (t153))), wrap64 (Int.tmod (IntKind.u64.wrap (a2)) (IntKind.u64.wrap (t153))), wrap64 (t153 + (wrap64 (Int.tmod (IntKind.u64.wrap (a4)) 100)))] : List Int))).bind fun t180 => (if t176 = t180 then ((duty_Host.f kj7 t156 t157 t158 t159 t160 (wrap64 (Int.tmod (IntKind.u64.wrap (a1)) (IntKind.u64.wrap (t164)))) ([] : List Int)).bind fun t181 => ((duty_Host.f kj7 t156 t157 t158 t159 t160 (wrap64 (Int.tmod (IntKind.u64.wrap (a1)) (IntKind.u64.wrap (t164)))) (([wrap64 (t153 + (wrap64 (Int.tmod (IntKind.u64.wrap (a4)) 100)))] : List Int))).bind fun t185 => (some (t181 == t185)))) else (some false)))) else (some false)))))) = some r := H
        have A22 := Aside0.mk A220
        clear A220
        by_cases c23 : (IntKind.u64.wrap (t164)) = 0
        · rw [if_pos c23] at H
          exact absurd H (by simp)
        · rw [if_neg c23] at H
          have c23b0 : ((IntKind.u64.wrap (t164)) == 0) = false := beq_eq_false_iff_ne.mpr c23
          have c23b1 : ((IntKind.u64.wrap (t164)) != 0) = true := bne_iff_ne.mpr c23
          by_cases c24 : (IntKind.u64.wrap (t153)) = 0
          · rw [if_pos c24] at H
            exact absurd H (by simp)
          · rw [if_neg c24] at H
            have c24b0 : ((IntKind.u64.wrap (t153)) == 0) = false := beq_eq_false_iff_ne.mpr c24
            have c24b1 : ((IntKind.u64.wrap (t153)) != 0) = true := bne_iff_ne.mpr c24
            obtain ⟨y165, hy165⟩ : ∃ y_ : List Int, y_ = (([wrap64 (Int.tmod (IntKind.u64.wrap (a2)) (IntKind.u64.wrap (t153))), wrap64 (Int.tmod (IntKind.u64.wrap (a3)) (IntKind.u64.wrap (t153)))] : List Int)) := ⟨_, rfl⟩
            replace H : ((duty_Host.f kj7 t156 t157 t158 t159 t160 (wrap64 (Int.tmod (IntKind.u64.wrap (a1)) (IntKind.u64.wrap (t164)))) y165).bind fun t168 => ((duty_Host.f kj7 t156 t157 t158 t159 t160 (wrap64 (Int.tmod (IntKind.u64.wrap (a1)) (IntKind.u64.wrap (t164)))) (([wrap64 (Int.tmod (IntKind.u64.wrap (a3)) (IntKind.u64.wrap (t153))), wrap64 (Int.tmod (IntKind.u64.wrap (a2)) (IntKind.u64.wrap (t153))), wrap64 (Int.tmod (IntKind.u64.wrap (a3)) (IntKind.u64.wrap (t153))), wrap64 (Int.tmod (IntKind.u64.wrap (a2)) (IntKind.u64.wrap (t153))), wrap64 (t153 + (wrap64 (Int.tmod (IntKind.u64.wrap (a4)) 100))), (-1)] : List Int))).bind fun t172 => (if t168 = t172 then ((duty_Deputy.f kj7 t156 t157 t158 t159 t160 (wrap64 (Int.tmod (IntKind.u64.wrap (a1)) (IntKind.u64.wrap (t164)))) (([wrap64 (Int.tmod (IntKind.u64.wrap (a2)) (IntKind.u64.wrap (t153))), wrap64 (Int.tmod (IntKind.u64.wrap (a3)) (IntKind.u64.wrap (t153)))] : List Int))).bind fun t176 => ((duty_Deputy.f kj7 t156 t157 t158 t159 t160 (wrap64 (Int.tmod (IntKind.u64.wrap (a1)) (IntKind.u64.wrap (t164)))) (([wrap64 (Int.tmod (IntKind.u64.wrap (a3)) (IntKind.u64.wrap (t153))), wrap64 (Int.tmod (IntKind.u64.wrap (a2)) (IntKind.u64.wrap (t153))), wrap64 (t153 + (wrap64 (Int.tmod (IntKind.u64.wrap (a4)) 100)))] : List Int))).bind fun t180 => (if t176 = t180 then ((duty_Host.f kj7 t156 t157 t158 t159 t160 (wrap64 (Int.tmod (IntKind.u64.wrap (a1)) (IntKind.u64.wrap (t164)))) ([] : List Int)).bind fun t181 => ((duty_Host.f kj7 t156 t157 t158 t159 t160 (wrap64 (Int.tmod (IntKind.u64.wrap (a1)) (IntKind.u64.wrap (t164)))) (([wrap64 (t153 + (wrap64 (Int.tmod (IntKind.u64.wrap (a4)) 100)))] : List Int))).bind fun t185 => (some (t181 == t185)))) else (some false)))) else (some false)))) = some r := by first | (rw [hy165]; with_reducible exact H) | (have H2_ := (Option.bind_some _ _).symm.trans H; rw [hy165]; with_reducible exact H2_) | (have H2_ := (Option.bind_some _ _).symm.trans H; with_reducible exact H2_) | with_reducible exact H | (rw [hy165]; exact H) | exact H
            have Ny165 := Aside0.mk hy165
            clear hy165
            replace H := Option.bind_eq_some_iff.mp H
            obtain ⟨t168, A250, H⟩ := H
            replace H : ((duty_Host.f kj7 t156 t157 t158 t159 t160 (wrap64 (Int.tmod (IntKind.u64.wrap (a1)) (IntKind.u64.wrap (t164)))) (([wrap64 (Int.tmod (IntKind.u64.wrap (a3)) (IntKind.u64.wrap (t153))), wrap64 (Int.tmod (IntKind.u64.wrap (a2)) (IntKind.u64.wrap (t153))), wrap64 (Int.tmod (IntKind.u64.wrap (a3)) (IntKind.u64.wrap (t153))), wrap64 (Int.tmod (IntKind.u64.wrap (a2)) (IntKind.u64.wrap (t153))), wrap64 (t153 + (wrap64 (Int.tmod (IntKind.u64.wrap (a4)) 100))), (-1)] : List Int))).bind fun t172 => (if t168 = t172 then ((duty_Deputy.f kj7 t156 t157 t158 t159 t160 (wrap64 (Int.tmod (IntKind.u64.wrap (a1)) (IntKind.u64.wrap (t164)))) (([wrap64 (Int.tmod (IntKind.u64.wrap (a2)) (IntKind.u64.wrap (t153))), wrap64 (Int.tmod (IntKind.u64.wrap (a3)) (IntKind.u64.wrap (t153)))] : List Int))).bind fun t176 => ((duty_Deputy.f kj7 t156 t157 t158 t159 t160 (wrap64 (Int.tmod (IntKind.u64.wrap (a1)) (IntKind.u64.wrap (t164)))) (([wrap64 (Int.tmod (IntKind.u64.wrap (a3)) (IntKind.u64.wrap (t153))), wrap64 (Int.tmod (IntKind.u64.wrap (a2)) (IntKind.u64.wrap (t153))), wrap64 (t153 + (wrap64 (Int.tmod (IntKind.u64.wrap (a4)) 100)))] : List Int))).bind fun t180 => (if t176 = t180 then ((duty_Host.f kj7 t156 t157 t158 t159 t160 (wrap64 (Int.tmod (IntKind.u64.wrap (a1)) (IntKind.u64.wrap (t164)))) ([] : List Int)).bind fun t181 => ((duty_Host.f kj7 t156 t157 t158 t159 t160 (wrap64 (Int.tmod (IntKind.u64.wrap (a1)) (IntKind.u64.wrap (t164)))) (([wrap64 (t153 + (wrap64 (Int.tmod (IntKind.u64.wrap (a4)) 100)))] : List Int))).bind fun t185 => (some (t181 == t185)))) else (some false)))) else (some false))) = some r := H
            have A25 := Aside0.mk A250
            clear A250
            obtain ⟨y169, hy169⟩ : ∃ y_ : List Int, y_ = (([wrap64 (Int.tmod (IntKind.u64.wrap (a3)) (IntKind.u64.wrap (t153))), wrap64 (Int.tmod (IntKind.u64.wrap (a2)) (IntKind.u64.wrap (t153))), wrap64 (Int.tmod (IntKind.u64.wrap (a3)) (IntKind.u64.wrap (t153))), wrap64 (Int.tmod (IntKind.u64.wrap (a2)) (IntKind.u64.wrap (t153))), wrap64 (t153 + (wrap64 (Int.tmod (IntKind.u64.wrap (a4)) 100))), (-1)] : List Int)) := ⟨_, rfl⟩
            replace H : ((duty_Host.f kj7 t156 t157 t158 t159 t160 (wrap64 (Int.tmod (IntKind.u64.wrap (a1)) (IntKind.u64.wrap (t164)))) y169).bind fun t172 => (if t168 = t172 then ((duty_Deputy.f kj7 t156 t157 t158 t159 t160 (wrap64 (Int.tmod (IntKind.u64.wrap (a1)) (IntKind.u64.wrap (t164)))) (([wrap64 (Int.tmod (IntKind.u64.wrap (a2)) (IntKind.u64.wrap (t153))), wrap64 (Int.tmod (IntKind.u64.wrap (a3)) (IntKind.u64.wrap (t153)))] : List Int))).bind fun t176 => ((duty_Deputy.f kj7 t156 t157 t158 t159 t160 (wrap64 (Int.tmod (IntKind.u64.wrap (a1)) (IntKind.u64.wrap (t164)))) (([wrap64 (Int.tmod (IntKind.u64.wrap (a3)) (IntKind.u64.wrap (t153))), wrap64 (Int.tmod (IntKind.u64.wrap (a2)) (IntKind.u64.wrap (t153))), wrap64 (t153 + (wrap64 (Int.tmod (IntKind.u64.wrap (a4)) 100)))] : List Int))).bind fun t180 => (if t176 = t180 then ((duty_Host.f kj7 t156 t157 t158 t159 t160 (wrap64 (Int.tmod (IntKind.u64.wrap (a1)) (IntKind.u64.wrap (t164)))) ([] : List Int)).bind fun t181 => ((duty_Host.f kj7 t156 t157 t158 t159 t160 (wrap64 (Int.tmod (IntKind.u64.wrap (a1)) (IntKind.u64.wrap (t164)))) (([wrap64 (t153 + (wrap64 (Int.tmod (IntKind.u64.wrap (a4)) 100)))] : List Int))).bind fun t185 => (some (t181 == t185)))) else (some false)))) else (some false))) = some r := by first | (rw [hy169]; with_reducible exact H) | (have H2_ := (Option.bind_some _ _).symm.trans H; rw [hy169]; with_reducible exact H2_) | (have H2_ := (Option.bind_some _ _).symm.trans H; with_reducible exact H2_) | with_reducible exact H | (rw [hy169]; exact H) | exact H
            have Ny169 := Aside0.mk hy169
            clear hy169
            replace H := Option.bind_eq_some_iff.mp H
            obtain ⟨t172, A260, H⟩ := H
            replace H : (if t168 = t172 then ((duty_Deputy.f kj7 t156 t157 t158 t159 t160 (wrap64 (Int.tmod (IntKind.u64.wrap (a1)) (IntKind.u64.wrap (t164)))) (([wrap64 (Int.tmod (IntKind.u64.wrap (a2)) (IntKind.u64.wrap (t153))), wrap64 (Int.tmod (IntKind.u64.wrap (a3)) (IntKind.u64.wrap (t153)))] : List Int))).bind fun t176 => ((duty_Deputy.f kj7 t156 t157 t158 t159 t160 (wrap64 (Int.tmod (IntKind.u64.wrap (a1)) (IntKind.u64.wrap (t164)))) (([wrap64 (Int.tmod (IntKind.u64.wrap (a3)) (IntKind.u64.wrap (t153))), wrap64 (Int.tmod (IntKind.u64.wrap (a2)) (IntKind.u64.wrap (t153))), wrap64 (t153 + (wrap64 (Int.tmod (IntKind.u64.wrap (a4)) 100)))] : List Int))).bind fun t180 => (if t176 = t180 then ((duty_Host.f kj7 t156 t157 t158 t159 t160 (wrap64 (Int.tmod (IntKind.u64.wrap (a1)) (IntKind.u64.wrap (t164)))) ([] : List Int)).bind fun t181 => ((duty_Host.f kj7 t156 t157 t158 t159 t160 (wrap64 (Int.tmod (IntKind.u64.wrap (a1)) (IntKind.u64.wrap (t164)))) (([wrap64 (t153 + (wrap64 (Int.tmod (IntKind.u64.wrap (a4)) 100)))] : List Int))).bind fun t185 => (some (t181 == t185)))) else (some false)))) else (some false)) = some r := H
            have A26 := Aside0.mk A260
            clear A260
            by_cases c27 : t168 = t172
            · rw [if_pos c27] at H
              have c27b0 : (t168 == t172) = true := beq_iff_eq.mpr c27
              have c27b1 : (t168 != t172) = false := bne_eq_false_iff_eq.mpr c27
              clear c27
              obtain ⟨y173, hy173⟩ : ∃ y_ : List Int, y_ = (([wrap64 (Int.tmod (IntKind.u64.wrap (a2)) (IntKind.u64.wrap (t153))), wrap64 (Int.tmod (IntKind.u64.wrap (a3)) (IntKind.u64.wrap (t153)))] : List Int)) := ⟨_, rfl⟩
              replace H : ((duty_Deputy.f kj7 t156 t157 t158 t159 t160 (wrap64 (Int.tmod (IntKind.u64.wrap (a1)) (IntKind.u64.wrap (t164)))) y173).bind fun t176 => ((duty_Deputy.f kj7 t156 t157 t158 t159 t160 (wrap64 (Int.tmod (IntKind.u64.wrap (a1)) (IntKind.u64.wrap (t164)))) (([wrap64 (Int.tmod (IntKind.u64.wrap (a3)) (IntKind.u64.wrap (t153))), wrap64 (Int.tmod (IntKind.u64.wrap (a2)) (IntKind.u64.wrap (t153))), wrap64 (t153 + (wrap64 (Int.tmod (IntKind.u64.wrap (a4)) 100)))] : List Int))).bind fun t180 => (if t176 = t180 then ((duty_Host.f kj7 t156 t157 t158 t159 t160 (wrap64 (Int.tmod (IntKind.u64.wrap (a1)) (IntKind.u64.wrap (t164)))) ([] : List Int)).bind fun t181 => ((duty_Host.f kj7 t156 t157 t158 t159 t160 (wrap64 (Int.tmod (IntKind.u64.wrap (a1)) (IntKind.u64.wrap (t164)))) (([wrap64 (t153 + (wrap64 (Int.tmod (IntKind.u64.wrap (a4)) 100)))] : List Int))).bind fun t185 => (some (t181 == t185)))) else (some false)))) = some r := by first | (rw [hy173]; with_reducible exact H) | (have H2_ := (Option.bind_some _ _).symm.trans H; rw [hy173]; with_reducible exact H2_) | (have H2_ := (Option.bind_some _ _).symm.trans H; with_reducible exact H2_) | with_reducible exact H | (rw [hy173]; exact H) | exact H
              have Ny173 := Aside0.mk hy173
              clear hy173
              replace H := Option.bind_eq_some_iff.mp H
              obtain ⟨t176, A280, H⟩ := H
              replace H : ((duty_Deputy.f kj7 t156 t157 t158 t159 t160 (wrap64 (Int.tmod (IntKind.u64.wrap (a1)) (IntKind.u64.wrap (t164)))) (([wrap64 (Int.tmod (IntKind.u64.wrap (a3)) (IntKind.u64.wrap (t153))), wrap64 (Int.tmod (IntKind.u64.wrap (a2)) (IntKind.u64.wrap (t153))), wrap64 (t153 + (wrap64 (Int.tmod (IntKind.u64.wrap (a4)) 100)))] : List Int))).bind fun t180 => (if t176 = t180 then ((duty_Host.f kj7 t156 t157 t158 t159 t160 (wrap64 (Int.tmod (IntKind.u64.wrap (a1)) (IntKind.u64.wrap (t164)))) ([] : List Int)).bind fun t181 => ((duty_Host.f kj7 t156 t157 t158 t159 t160 (wrap64 (Int.tmod (IntKind.u64.wrap (a1)) (IntKind.u64.wrap (t164)))) (([wrap64 (t153 + (wrap64 (Int.tmod (IntKind.u64.wrap (a4)) 100)))] : List Int))).bind fun t185 => (some (t181 == t185)))) else (some false))) = some r := H
              have A28 := Aside0.mk A280
              clear A280
              obtain ⟨y177, hy177⟩ : ∃ y_ : List Int, y_ = (([wrap64 (Int.tmod (IntKind.u64.wrap (a3)) (IntKind.u64.wrap (t153))), wrap64 (Int.tmod (IntKind.u64.wrap (a2)) (IntKind.u64.wrap (t153))), wrap64 (t153 + (wrap64 (Int.tmod (IntKind.u64.wrap (a4)) 100)))] : List Int)) := ⟨_, rfl⟩
              replace H : ((duty_Deputy.f kj7 t156 t157 t158 t159 t160 (wrap64 (Int.tmod (IntKind.u64.wrap (a1)) (IntKind.u64.wrap (t164)))) y177).bind fun t180 => (if t176 = t180 then ((duty_Host.f kj7 t156 t157 t158 t159 t160 (wrap64 (Int.tmod (IntKind.u64.wrap (a1)) (IntKind.u64.wrap (t164)))) ([] : List Int)).bind fun t181 => ((duty_Host.f kj7 t156 t157 t158 t159 t160 (wrap64 (Int.tmod (IntKind.u64.wrap (a1)) (IntKind.u64.wrap (t164)))) (([wrap64 (t153 + (wrap64 (Int.tmod (IntKind.u64.wrap (a4)) 100)))] : List Int))).bind fun t185 => (some (t181 == t185)))) else (some false))) = some r := by first | (rw [hy177]; with_reducible exact H) | (have H2_ := (Option.bind_some _ _).symm.trans H; rw [hy177]; with_reducible exact H2_) | (have H2_ := (Option.bind_some _ _).symm.trans H; with_reducible exact H2_) | with_reducible exact H | (rw [hy177]; exact H) | exact H
              have Ny177 := Aside0.mk hy177
              clear hy177
              replace H := Option.bind_eq_some_iff.mp H
              obtain ⟨t180, A290, H⟩ := H
              replace H : (if t176 = t180 then ((duty_Host.f kj7 t156 t157 t158 t159 t160 (wrap64 (Int.tmod (IntKind.u64.wrap (a1)) (IntKind.u64.wrap (t164)))) ([] : List Int)).bind fun t181 => ((duty_Host.f kj7 t156 t157 t158 t159 t160 (wrap64 (Int.tmod (IntKind.u64.wrap (a1)) (IntKind.u64.wrap (t164)))) (([wrap64 (t153 + (wrap64 (Int.tmod (IntKind.u64.wrap (a4)) 100)))] : List Int))).bind fun t185 => (some (t181 == t185)))) else (some false)) = some r := H
              have A29 := Aside0.mk A290
              clear A290
              by_cases c30 : t176 = t180
              · rw [if_pos c30] at H
                have c30b0 : (t176 == t180) = true := beq_iff_eq.mpr c30
                have c30b1 : (t176 != t180) = false := bne_eq_false_iff_eq.mpr c30
                clear c30
                replace H := Option.bind_eq_some_iff.mp H
                obtain ⟨t181, A310, H⟩ := H
                replace H : ((duty_Host.f kj7 t156 t157 t158 t159 t160 (wrap64 (Int.tmod (IntKind.u64.wrap (a1)) (IntKind.u64.wrap (t164)))) (([wrap64 (t153 + (wrap64 (Int.tmod (IntKind.u64.wrap (a4)) 100)))] : List Int))).bind fun t185 => (some (t181 == t185))) = some r := H
                have A31 := Aside0.mk A310
                clear A310
                obtain ⟨y182, hy182⟩ : ∃ y_ : List Int, y_ = (([wrap64 (t153 + (wrap64 (Int.tmod (IntKind.u64.wrap (a4)) 100)))] : List Int)) := ⟨_, rfl⟩
                replace H : ((duty_Host.f kj7 t156 t157 t158 t159 t160 (wrap64 (Int.tmod (IntKind.u64.wrap (a1)) (IntKind.u64.wrap (t164)))) y182).bind fun t185 => (some (t181 == t185))) = some r := by first | (rw [hy182]; with_reducible exact H) | (have H2_ := (Option.bind_some _ _).symm.trans H; rw [hy182]; with_reducible exact H2_) | (have H2_ := (Option.bind_some _ _).symm.trans H; with_reducible exact H2_) | with_reducible exact H | (rw [hy182]; exact H) | exact H
                have Ny182 := Aside0.mk hy182
                clear hy182
                replace H := Option.bind_eq_some_iff.mp H
                obtain ⟨t185, A320, H⟩ := H
                replace H : (some (t181 == t185)) = some r := H
                have A32 := Aside0.mk A320
                clear A320
                obtain rfl := Option.some.inj H
                have hnb33 := NB162_150.out
                have hnc33 := NB150_162.out
                have hcz34_0 : wc.cell? ⟨gb162, 0, none⟩ = some (.int .i64 t156) := (blk_cell BK162.out 0).trans rfl
                have hcz34_1 : wc.cell? ⟨gb162, 1, none⟩ = some (.int .i64 t157) := (blk_cell BK162.out 1).trans rfl
                have hcz34_2 : wc.cell? ⟨gb162, 2, none⟩ = some (.int .i64 t158) := (blk_cell BK162.out 2).trans rfl
                have hcz34_3 : wc.cell? ⟨gb162, 3, none⟩ = some (.int .i64 t159) := (blk_cell BK162.out 3).trans rfl
                have hcz34_4 : wc.cell? ⟨gb162, 4, none⟩ = some (.int .u64 t160) := (blk_cell BK162.out 4).trans rfl
                have hfz34_0 := blk_frozen BK162.out 0
                have hfz34_1 := blk_frozen BK162.out 1
                have hfz34_2 := blk_frozen BK162.out 2
                have hfz34_3 := blk_frozen BK162.out 3
                have hfz34_4 := blk_frozen BK162.out 4
                try go_wp2_with (first | ((with_reducible refine gate_callee (f := 10) rfl ?_); refine goesL_ (some 29) rfl rfl Try.func10 (by kernel_rfl) rfl #[.agg #[.int .i64 t156, .int .i64 t157, .int .i64 t158, .int .i64 t159, .int .u64 t160]] rfl (by (try simp only [List.map_toArray, List.map_cons, List.map_nil]); first | done | rfl | (simp only [List.length_drop, List.length_take]; rfl)) ?_; (with_reducible refine (grid_Grid_Regions.calls t156 t157 t158 t159 t160 t164 _ A22.out).mono ?_); rintro e w35 ⟨rfl, hb⟩; refine ⟨_, rfl, ?_⟩; have n0_ := Aside0.mk (blk_below (g := gb150) (o := .cells #[.int .i64 t151, .int .i64 t152, .int .i64 t153, .int .i64 t154, .int .u64 t155] 24 (0, 0)) (by (with_reducible repeat (first | refine blk_drewN ?_ _ | refine blk_drew ?_ | refine blk_alloc ?_ _)); exact BK150.out) hb); have n1_ := Aside0.mk (blk_below (g := gb162) (o := .cells #[.int .i64 t156, .int .i64 t157, .int .i64 t158, .int .i64 t159, .int .u64 t160] 27 (0, 0)) (by (with_reducible repeat (first | refine blk_drewN ?_ _ | refine blk_drew ?_ | refine blk_alloc ?_ _)); exact BK162.out) hb); have n2_ := Aside0.mk (below_step (by repeat (first | (with_reducible first | exact HB.out | apply below_alloc | apply pw_below_drewN | apply below_drew1 | refine below_set ?_ GE150.out | refine below_set ?_ GE162.out) | exact HB.out)) hb); clear BK150; clear BK162; clear HB; have BK150 := n0_; have BK162 := n1_; have HB := n2_; clear n0_ n1_ n2_; (try clear hb); (try clear hb2); (try clear hk); (try clear hi)))
                have n0_ := Aside0.mk (blk_drew BK150.out)
                have n1_ := Aside0.mk (blk_drew BK162.out)
                have n2_ := Aside0.mk (below_drew1 HB.out)
                clear BK150
                clear BK162
                clear HB
                have BK150 := n0_
                have BK162 := n1_
                have HB := n2_
                clear n0_ n1_ n2_
                refine start_ (n := 24) (S := fun w' => w'.cell? ⟨gb150, 0, none⟩ = some (.int .i64 t151) ∧ w'.cell? ⟨gb150, 1, none⟩ = some (.int .i64 t152) ∧ w'.cell? ⟨gb150, 2, none⟩ = some (.int .i64 t153) ∧ w'.cell? ⟨gb150, 3, none⟩ = some (.int .i64 t154) ∧ w'.cell? ⟨gb150, 4, none⟩ = some (.int .u64 t155)) (ds := []) #[false, false, false, false, false, false, false, false, false, false, false, false, false, false, false, false, false, false, false, false, false, false, false, false] (by kernel_rfl) rfl rfl ⟨(blk_cell BK150.out 0).trans rfl, (blk_cell BK150.out 1).trans rfl, (blk_cell BK150.out 2).trans rfl, (blk_cell BK150.out 3).trans rfl, (blk_cell BK150.out 4).trans rfl⟩ (fun hHeld => ?_); refine with_tabW joustlaw22_DutyStranger.tab6 joustlaw22_DutyStranger.bits6 (fun HT_ HW_ => ?_)
                generalize w35.drew = w36 at BK150 BK162 HB hHeld ⊢
                refine pure_ (i := 0) (N := some 33) (v := ?_) (a' := ?_) #[true, false, false, false, false, false, false, false, false, false, false, false, false, false, false, false, false, false, false, false, false, false, false, false] rfl rfl (any_of HT_.out (by kernel_rfl)) (fun _ _ _ h => h) (Or.inl ⟨by rfl, ?_⟩) ?_ ?_
                rotate_left
                · intro w'
                  go_simp
                  with_reducible rfl
                rotate_left
                · simp only [Act.put, List.setIfInBounds_toArray, List.set_cons_zero, List.set_cons_succ, i64_w, i32_w]
                  rfl
                refine pure_ (i := 1) (N := some 34) (v := ?_) (a' := ?_) #[true, true, false, false, false, false, false, false, false, false, false, false, false, false, false, false, false, false, false, false, false, false, false, false] rfl rfl (any_of HT_.out (by kernel_rfl)) (fun _ _ _ h => h) (Or.inl ⟨by rfl, ?_⟩) ?_ ?_
                rotate_left
                · intro w'
                  go_simp
                  with_reducible rfl
                rotate_left
                · simp only [Act.put, List.setIfInBounds_toArray, List.set_cons_zero, List.set_cons_succ, i64_w, i32_w]
                  rfl
                refine pure_ (i := 2) (N := some 35) (v := ?_) (a' := ?_) #[true, true, true, false, false, false, false, false, false, false, false, false, false, false, false, false, false, false, false, false, false, false, false, false] rfl rfl (any_of HT_.out (by kernel_rfl)) (fun _ _ _ h => h) (Or.inl ⟨by rfl, ?_⟩) ?_ ?_
                rotate_left
                · intro w'
                  go_simp
                  with_reducible rfl
                rotate_left
                · simp only [Act.put, List.setIfInBounds_toArray, List.set_cons_zero, List.set_cons_succ, i64_w, i32_w]
                  rfl
                refine pure_ (i := 7) (N := some 40) (v := ?_) (a' := ?_) #[true, true, true, false, false, false, false, true, false, false, false, false, false, false, false, false, false, false, false, false, false, false, false, false] rfl rfl (any_of HT_.out (by kernel_rfl)) (fun _ _ _ h => h) (Or.inl ⟨by rfl, ?_⟩) ?_ ?_
                rotate_left
                · intro w'
                  go_simp
                  with_reducible rfl
                rotate_left
                · simp only [Act.put, List.setIfInBounds_toArray, List.set_cons_zero, List.set_cons_succ, i64_w, i32_w]
                  rfl
                refine pure_ (i := 8) (N := some 41) (v := ?_) (a' := ?_) #[true, true, true, false, false, false, false, true, true, false, false, false, false, false, false, false, false, false, false, false, false, false, false, false] rfl rfl (any_of HT_.out (by kernel_rfl)) (fun _ _ _ h => h) (Or.inl ⟨by rfl, ?_⟩) ?_ ?_
                rotate_left
                · intro w'
                  go_simp
                  with_reducible rfl
                rotate_left
                · simp only [Act.put, List.setIfInBounds_toArray, List.set_cons_zero, List.set_cons_succ, i64_w, i32_w]
                  rfl
                refine pure_ (i := 9) (N := some 42) (v := ?_) (a' := ?_) #[true, true, true, false, false, false, false, true, true, true, false, false, false, false, false, false, false, false, false, false, false, false, false, false] rfl rfl (any_of HT_.out (by kernel_rfl)) (fun _ _ _ h => h) (Or.inl ⟨by rfl, ?_⟩) ?_ ?_
                rotate_left
                · intro w'
                  go_simp
                  with_reducible rfl
                rotate_left
                · simp only [Act.put, List.setIfInBounds_toArray, List.set_cons_zero, List.set_cons_succ, i64_w, i32_w]
                  rfl
                refine pure_ (i := 14) (N := some 47) (v := ?_) (a' := ?_) #[true, true, true, false, false, false, false, true, true, true, false, false, false, false, true, false, false, false, false, false, false, false, false, false] rfl rfl (any_of HT_.out (by kernel_rfl)) (fun _ _ _ h => h) (Or.inl ⟨by rfl, ?_⟩) ?_ ?_
                rotate_left
                · intro w'
                  go_simp
                  with_reducible rfl
                rotate_left
                · simp only [Act.put, List.setIfInBounds_toArray, List.set_cons_zero, List.set_cons_succ, i64_w, i32_w]
                  rfl
                refine pure_ (i := 16) (N := some 49) (v := ?_) (a' := ?_) #[true, true, true, false, false, false, false, true, true, true, false, false, false, false, true, false, true, false, false, false, false, false, false, false] rfl rfl (any_of HT_.out (by kernel_rfl)) (fun _ _ _ h => h) (Or.inl ⟨by rfl, ?_⟩) ?_ ?_
                rotate_left
                · intro w'
                  go_simp
                  with_reducible rfl
                rotate_left
                · simp only [Act.put, List.setIfInBounds_toArray, List.set_cons_zero, List.set_cons_succ, i64_w, i32_w]
                  rfl
                refine pure_ (i := 17) (N := some 50) (v := ?_) (a' := ?_) #[true, true, true, false, false, false, false, true, true, true, false, false, false, false, true, false, true, true, false, false, false, false, false, false] rfl rfl (any_of HT_.out (by kernel_rfl)) (fun _ _ _ h => h) (Or.inl ⟨by rfl, ?_⟩) ?_ ?_
                rotate_left
                · intro w'
                  go_simp
                  with_reducible rfl
                rotate_left
                · simp only [Act.put, List.setIfInBounds_toArray, List.set_cons_zero, List.set_cons_succ, i64_w, i32_w]
                  rfl
                refine pure_ (i := 18) (N := some 51) (v := ?_) (a' := ?_) #[true, true, true, false, false, false, false, true, true, true, false, false, false, false, true, false, true, true, true, false, false, false, false, false] rfl rfl (any_of HT_.out (by kernel_rfl)) (fun _ _ _ h => h) (Or.inl ⟨by rfl, ?_⟩) ?_ ?_
                rotate_left
                · intro w'
                  go_simp
                  with_reducible rfl
                rotate_left
                · simp only [Act.put, List.setIfInBounds_toArray, List.set_cons_zero, List.set_cons_succ, i64_w, i32_w]
                  rfl
                refine pure_ (i := 19) (N := some 52) (v := ?_) (a' := ?_) #[true, true, true, false, false, false, false, true, true, true, false, false, false, false, true, false, true, true, true, true, false, false, false, false] rfl rfl (any_of HT_.out (by kernel_rfl)) (fun _ _ _ h => h) (Or.inl ⟨by rfl, ?_⟩) ?_ ?_
                rotate_left
                · intro w'
                  go_simp
                  with_reducible rfl
                rotate_left
                · simp only [Act.put, List.setIfInBounds_toArray, List.set_cons_zero, List.set_cons_succ, i64_w, i32_w]
                  rfl
                refine take_ (i := 3) (N := some 36) (v := ?_) (a' := ?_) #[true, true, true, true, false, false, false, true, true, true, false, false, false, false, true, false, true, true, true, true, false, false, false, false] rfl rfl (take_ofW HT_.out HW_.out (by kernel_rfl)) (fun _ _ _ h => h) (Or.inl ⟨by rfl, ?_⟩) hHeld ?_ ?_
                rotate_left
                · rintro w' ⟨s0, s1, s2, s3, s4⟩
                  go_simp
                  with_reducible rfl
                rotate_left
                · simp only [Act.put, List.setIfInBounds_toArray, List.set_cons_zero, List.set_cons_succ, i64_w, i32_w]
                  rfl
                refine pure_ (i := 4) (N := some 37) (v := ?_) (a' := ?_) #[true, true, true, true, true, false, false, true, true, true, false, false, false, false, true, false, true, true, true, true, false, false, false, false] rfl rfl (any_of HT_.out (by kernel_rfl)) (fun _ _ _ h => h) (Or.inl ⟨by rfl, ?_⟩) ?_ ?_
                rotate_left
                · intro w'
                  go_simp
                  with_reducible rfl
                rotate_left
                · simp only [Act.put, List.setIfInBounds_toArray, List.set_cons_zero, List.set_cons_succ, i64_w, i32_w]
                  rfl
                refine pure_ (i := 5) (N := some 38) (v := ?_) (a' := ?_) #[true, true, true, true, true, true, false, true, true, true, false, false, false, false, true, false, true, true, true, true, false, false, false, false] rfl rfl (any_of HT_.out (by kernel_rfl)) (fun _ _ _ h => h) (Or.inl ⟨by rfl, ?_⟩) ?_ ?_
                rotate_left
                · intro w'
                  go_simp
                  with_reducible rfl
                rotate_left
                · simp only [Act.put, List.setIfInBounds_toArray, List.set_cons_zero, List.set_cons_succ, i64_w, i32_w]
                  rfl
                refine pure_ (i := 6) (N := some 39) (v := ?_) (a' := ?_) #[true, true, true, true, true, true, true, true, true, true, false, false, false, false, true, false, true, true, true, true, false, false, false, false] rfl rfl (any_of HT_.out (by kernel_rfl)) (fun _ _ _ h => h) (Or.inl ⟨by rfl, ?_⟩) ?_ ?_
                rotate_left
                · intro w'
                  go_simp
                  with_reducible rfl
                rotate_left
                · simp only [Act.put, List.setIfInBounds_toArray, List.set_cons_zero, List.set_cons_succ, i64_w, i32_w]
                  rfl
                refine pure_ (i := 21) (N := some 2) (v := ?_) (a' := ?_) #[true, true, true, true, true, true, true, true, true, true, false, false, false, false, true, false, true, true, true, true, false, true, false, false] rfl rfl (any_of HT_.out (by kernel_rfl)) (fun _ _ _ h => h) (Or.inl ⟨by rfl, ?_⟩) ?_ ?_
                rotate_left
                · intro w'
                  go_simp
                  with_reducible rfl
                rotate_left
                · simp only [Act.put, List.setIfInBounds_toArray, List.set_cons_zero, List.set_cons_succ, i64_w, i32_w]
                  rfl
                refine take_ (i := 10) (N := some 43) (v := ?_) (a' := ?_) #[true, true, true, true, true, true, true, true, true, true, true, false, false, false, true, false, true, true, true, true, false, true, false, false] rfl rfl (take_ofW HT_.out HW_.out (by kernel_rfl)) (fun _ _ _ h => h) (Or.inl ⟨by rfl, ?_⟩) hHeld ?_ ?_
                rotate_left
                · rintro w' ⟨s0, s1, s2, s3, s4⟩
                  go_simp
                  with_reducible rfl
                rotate_left
                · simp only [Act.put, List.setIfInBounds_toArray, List.set_cons_zero, List.set_cons_succ, i64_w, i32_w]
                  rfl
                refine pure_ (i := 11) (N := some 44) (v := ?_) (a' := ?_) #[true, true, true, true, true, true, true, true, true, true, true, true, false, false, true, false, true, true, true, true, false, true, false, false] rfl rfl (any_of HT_.out (by kernel_rfl)) (fun _ _ _ h => h) (Or.inl ⟨by rfl, ?_⟩) ?_ ?_
                rotate_left
                · intro w'
                  go_simp
                  with_reducible rfl
                rotate_left
                · simp only [Act.put, List.setIfInBounds_toArray, List.set_cons_zero, List.set_cons_succ, i64_w, i32_w]
                  rfl
                refine pure_ (i := 12) (N := some 45) (v := ?_) (a' := ?_) #[true, true, true, true, true, true, true, true, true, true, true, true, true, false, true, false, true, true, true, true, false, true, false, false] rfl rfl (any_of HT_.out (by kernel_rfl)) (fun _ _ _ h => h) (Or.inl ⟨by rfl, ?_⟩) ?_ ?_
                rotate_left
                · intro w'
                  go_simp
                  with_reducible rfl
                rotate_left
                · simp only [Act.put, List.setIfInBounds_toArray, List.set_cons_zero, List.set_cons_succ, i64_w, i32_w]
                  rfl
                refine pure_ (i := 13) (N := some 46) (v := ?_) (a' := ?_) #[true, true, true, true, true, true, true, true, true, true, true, true, true, true, true, false, true, true, true, true, false, true, false, false] rfl rfl (any_of HT_.out (by kernel_rfl)) (fun _ _ _ h => h) (Or.inl ⟨by rfl, ?_⟩) ?_ ?_
                rotate_left
                · intro w'
                  go_simp
                  with_reducible rfl
                rotate_left
                · simp only [Act.put, List.setIfInBounds_toArray, List.set_cons_zero, List.set_cons_succ, i64_w, i32_w]
                  rfl
                refine pure_ (i := 22) (N := some 3) (v := ?_) (a' := ?_) #[true, true, true, true, true, true, true, true, true, true, true, true, true, true, true, false, true, true, true, true, false, true, true, false] rfl rfl (any_of HT_.out (by kernel_rfl)) (fun _ _ _ h => h) (Or.inl ⟨by rfl, ?_⟩) ?_ ?_
                rotate_left
                · intro w'
                  go_simp
                  with_reducible rfl
                rotate_left
                · simp only [Act.put, List.setIfInBounds_toArray, List.set_cons_zero, List.set_cons_succ, i64_w, i32_w]
                  rfl
                refine take_ (i := 15) (N := some 48) (v := ?_) (a' := ?_) #[true, true, true, true, true, true, true, true, true, true, true, true, true, true, true, true, true, true, true, true, false, true, true, false] rfl rfl (take_ofW HT_.out HW_.out (by kernel_rfl)) (fun _ _ _ h => h) (Or.inl ⟨by rfl, ?_⟩) hHeld ?_ ?_
                rotate_left
                · rintro w' ⟨s0, s1, s2, s3, s4⟩
                  go_simp
                  with_reducible rfl
                rotate_left
                · simp only [Act.put, List.setIfInBounds_toArray, List.set_cons_zero, List.set_cons_succ, i64_w, i32_w]
                  rfl
                refine pure_ (i := 20) (N := some 53) (v := ?_) (a' := ?_) #[true, true, true, true, true, true, true, true, true, true, true, true, true, true, true, true, true, true, true, true, true, true, true, false] rfl rfl (any_of HT_.out (by kernel_rfl)) (fun _ _ _ h => h) (Or.inl ⟨by rfl, ?_⟩) ?_ ?_
                rotate_left
                · intro w'
                  go_simp
                  with_reducible rfl
                rotate_left
                · simp only [Act.put, List.setIfInBounds_toArray, List.set_cons_zero, List.set_cons_succ, i64_w, i32_w]
                  rfl
                refine pure_ (i := 23) (N := some 4) (v := ?_) (a' := ?_) #[true, true, true, true, true, true, true, true, true, true, true, true, true, true, true, true, true, true, true, true, true, true, true, true] rfl rfl (any_of HT_.out (by kernel_rfl)) (fun _ _ _ h => h) (Or.inl ⟨by rfl, ?_⟩) ?_ ?_
                rotate_left
                · intro w'
                  go_simp
                  with_reducible rfl
                rotate_left
                · simp only [Act.put, List.setIfInBounds_toArray, List.set_cons_zero, List.set_cons_succ, i64_w, i32_w]
                  rfl
                refine done_ (done_of HT_.out (by kernel_rfl)) ?_
                try go_wp2
                have n0_ := Aside0.mk (blk_drew BK150.out)
                have n1_ := Aside0.mk (blk_drew BK162.out)
                have n2_ := Aside0.mk (below_drew1 HB.out)
                clear BK150
                clear BK162
                clear HB
                have BK150 := n0_
                have BK162 := n1_
                have HB := n2_
                clear n0_ n1_ n2_
                refine start_ (n := 44) (S := fun w' => True) (ds := []) #[false, false, false, false, false, false, false, false, false, false, false, false, false, false, false, false, false, false, false, false, false, false, false, false, false, false, false, false, false, false, false, false, false, false, false, false, false, false, false, false, false, false, false, false] (by kernel_rfl) rfl rfl trivial (fun hHeld => ?_); refine with_tabW joustlaw22_DutyStranger.tab7 joustlaw22_DutyStranger.bits7 (fun HT_ HW_ => ?_)
                generalize w36.drew = w37 at BK150 BK162 HB hHeld ⊢
                refine pure_ (i := 1) (N := some 55) (v := ?_) (a' := ?_) #[false, true, false, false, false, false, false, false, false, false, false, false, false, false, false, false, false, false, false, false, false, false, false, false, false, false, false, false, false, false, false, false, false, false, false, false, false, false, false, false, false, false, false, false] rfl rfl (any_of HT_.out (by kernel_rfl)) (fun _ _ _ h => h) (Or.inl ⟨by rfl, ?_⟩) ?_ ?_
                rotate_left
                · intro w'
                  go_simp
                  with_reducible rfl
                rotate_left
                · simp only [Act.put, List.setIfInBounds_toArray, List.set_cons_zero, List.set_cons_succ, i64_w, i32_w]
                  rfl
                refine pure_ (i := 2) (N := some 56) (v := ?_) (a' := ?_) #[false, true, true, false, false, false, false, false, false, false, false, false, false, false, false, false, false, false, false, false, false, false, false, false, false, false, false, false, false, false, false, false, false, false, false, false, false, false, false, false, false, false, false, false] rfl rfl (any_of HT_.out (by kernel_rfl)) (fun _ _ _ h => h) (Or.inl ⟨by rfl, ?_⟩) ?_ ?_
                rotate_left
                · intro w'
                  go_simp
                  with_reducible rfl
                rotate_left
                · simp only [Act.put, List.setIfInBounds_toArray, List.set_cons_zero, List.set_cons_succ, i64_w, i32_w]
                  rfl
                refine pure_ (i := 3) (N := some 57) (v := ?_) (a' := ?_) #[false, true, true, true, false, false, false, false, false, false, false, false, false, false, false, false, false, false, false, false, false, false, false, false, false, false, false, false, false, false, false, false, false, false, false, false, false, false, false, false, false, false, false, false] rfl rfl (any_of HT_.out (by kernel_rfl)) (fun _ _ _ h => h) (Or.inl ⟨by rfl, ?_⟩) ?_ ?_
                rotate_left
                · intro w'
                  go_simp
                  with_reducible rfl
                rotate_left
                · simp only [Act.put, List.setIfInBounds_toArray, List.set_cons_zero, List.set_cons_succ, i64_w, i32_w]
                  rfl
                refine pure_ (i := 7) (N := some 61) (v := ?_) (a' := ?_) #[false, true, true, true, false, false, false, true, false, false, false, false, false, false, false, false, false, false, false, false, false, false, false, false, false, false, false, false, false, false, false, false, false, false, false, false, false, false, false, false, false, false, false, false] rfl rfl (any_of HT_.out (by kernel_rfl)) (fun _ _ _ h => h) (Or.inl ⟨by rfl, ?_⟩) ?_ ?_
                rotate_left
                · intro w'
                  go_simp
                  with_reducible rfl
                rotate_left
                · simp only [Act.put, List.setIfInBounds_toArray, List.set_cons_zero, List.set_cons_succ, i64_w, i32_w]
                  rfl
                refine pure_ (i := 8) (N := some 62) (v := ?_) (a' := ?_) #[false, true, true, true, false, false, false, true, true, false, false, false, false, false, false, false, false, false, false, false, false, false, false, false, false, false, false, false, false, false, false, false, false, false, false, false, false, false, false, false, false, false, false, false] rfl rfl (any_of HT_.out (by kernel_rfl)) (fun _ _ _ h => h) (Or.inl ⟨by rfl, ?_⟩) ?_ ?_
                rotate_left
                · intro w'
                  go_simp
                  with_reducible rfl
                rotate_left
                · simp only [Act.put, List.setIfInBounds_toArray, List.set_cons_zero, List.set_cons_succ, i64_w, i32_w]
                  rfl
                refine pure_ (i := 9) (N := some 63) (v := ?_) (a' := ?_) #[false, true, true, true, false, false, false, true, true, true, false, false, false, false, false, false, false, false, false, false, false, false, false, false, false, false, false, false, false, false, false, false, false, false, false, false, false, false, false, false, false, false, false, false] rfl rfl (any_of HT_.out (by kernel_rfl)) (fun _ _ _ h => h) (Or.inl ⟨by rfl, ?_⟩) ?_ ?_
                rotate_left
                · intro w'
                  go_simp
                  with_reducible rfl
                rotate_left
                · simp only [Act.put, List.setIfInBounds_toArray, List.set_cons_zero, List.set_cons_succ, i64_w, i32_w]
                  rfl
                refine pure_ (i := 10) (N := some 64) (v := ?_) (a' := ?_) #[false, true, true, true, false, false, false, true, true, true, true, false, false, false, false, false, false, false, false, false, false, false, false, false, false, false, false, false, false, false, false, false, false, false, false, false, false, false, false, false, false, false, false, false] rfl rfl (any_of HT_.out (by kernel_rfl)) (fun _ _ _ h => h) (Or.inl ⟨by rfl, ?_⟩) ?_ ?_
                rotate_left
                · intro w'
                  go_simp
                  with_reducible rfl
                rotate_left
                · simp only [Act.put, List.setIfInBounds_toArray, List.set_cons_zero, List.set_cons_succ, i64_w, i32_w]
                  rfl
                refine pure_ (i := 11) (N := some 65) (v := ?_) (a' := ?_) #[false, true, true, true, false, false, false, true, true, true, true, true, false, false, false, false, false, false, false, false, false, false, false, false, false, false, false, false, false, false, false, false, false, false, false, false, false, false, false, false, false, false, false, false] rfl rfl (any_of HT_.out (by kernel_rfl)) (fun _ _ _ h => h) (Or.inl ⟨by rfl, ?_⟩) ?_ ?_
                rotate_left
                · intro w'
                  go_simp
                  with_reducible rfl
                rotate_left
                · simp only [Act.put, List.setIfInBounds_toArray, List.set_cons_zero, List.set_cons_succ, i64_w, i32_w]
                  rfl
                refine pure_ (i := 12) (N := some 66) (v := ?_) (a' := ?_) #[false, true, true, true, false, false, false, true, true, true, true, true, true, false, false, false, false, false, false, false, false, false, false, false, false, false, false, false, false, false, false, false, false, false, false, false, false, false, false, false, false, false, false, false] rfl rfl (any_of HT_.out (by kernel_rfl)) (fun _ _ _ h => h) (Or.inl ⟨by rfl, ?_⟩) ?_ ?_
                rotate_left
                · intro w'
                  go_simp
                  with_reducible rfl
                rotate_left
                · simp only [Act.put, List.setIfInBounds_toArray, List.set_cons_zero, List.set_cons_succ, i64_w, i32_w]
                  rfl
                refine inv_at [0, 4, 5, 6, 13, 14, 15, 16, 17, 18, 19, 20, 21, 22, 23, 24, 25, 26, 27, 28, 29, 30, 31, 32, 33, 34, 35, 36, 37, 38, 39, 40, 41, 42, 43] (fun a0_ b a w' => ∃ (v166 : Value) (v170 : Value) (v174 : Value) (v178 : Value) (v183 : Value), a = putSel a0_ b [(0, 54, .agg #[.int .i64 t156, .int .i64 t157, .int .i64 t158, .int .i64 t159, .int .u64 t160]), (4, 58, v166), (5, 59, .int .i64 t168), (6, 60, .agg #[.int .i64 t156, .int .i64 t157, .int .i64 t158, .int .i64 t159, .int .u64 t160]), (13, 67, v170), (14, 68, .int .i64 t172), (15, 69, .bool (t168 == t172)), (16, 70, .bool (t168 == t172)), (17, 71, .agg #[.int .i64 t156, .int .i64 t157, .int .i64 t158, .int .i64 t159, .int .u64 t160]), (18, 72, .int .i64 (wrap64 (Int.tmod (IntKind.u64.wrap (a1)) (IntKind.u64.wrap (t164))))), (19, 73, .int .i64 (wrap64 (Int.tmod (IntKind.u64.wrap (a2)) (IntKind.u64.wrap (t153))))), (20, 74, .int .i64 (wrap64 (Int.tmod (IntKind.u64.wrap (a3)) (IntKind.u64.wrap (t153))))), (21, 75, v174), (22, 76, .int .i64 t176), (23, 77, .agg #[.int .i64 t156, .int .i64 t157, .int .i64 t158, .int .i64 t159, .int .u64 t160]), (24, 78, .int .i64 (wrap64 (Int.tmod (IntKind.u64.wrap (a1)) (IntKind.u64.wrap (t164))))), (25, 79, .int .i64 (wrap64 (Int.tmod (IntKind.u64.wrap (a3)) (IntKind.u64.wrap (t153))))), (26, 80, .int .i64 (wrap64 (Int.tmod (IntKind.u64.wrap (a2)) (IntKind.u64.wrap (t153))))), (27, 81, .int .i64 (wrap64 (t153 + (wrap64 (Int.tmod (IntKind.u64.wrap (a4)) 100))))), (28, 82, v178), (29, 83, .int .i64 t180), (30, 84, .bool (t176 == t180)), (31, 85, .bool (t176 == t180)), (32, 86, .bool (t176 == t180)), (33, 87, .agg #[.int .i64 t156, .int .i64 t157, .int .i64 t158, .int .i64 t159, .int .u64 t160]), (34, 88, .int .i64 (wrap64 (Int.tmod (IntKind.u64.wrap (a1)) (IntKind.u64.wrap (t164))))), (35, 89, .int .i64 t181), (36, 90, .agg #[.int .i64 t156, .int .i64 t157, .int .i64 t158, .int .i64 t159, .int .u64 t160]), (37, 91, .int .i64 (wrap64 (Int.tmod (IntKind.u64.wrap (a1)) (IntKind.u64.wrap (t164))))), (38, 92, .int .i64 (wrap64 (t153 + (wrap64 (Int.tmod (IntKind.u64.wrap (a4)) 100))))), (39, 93, v183), (40, 94, .int .i64 t185), (41, 95, .bool (t181 == t185)), (42, 96, .bool (t181 == t185)), (43, 10, .bool (t181 == t185))] ∧ (w'.heap[gb150]? = some (.cells #[.int .i64 t151, .int .i64 t152, .int .i64 t153, .int .i64 t154, .int .u64 t155] 24 (0, 0))) ∧ (w'.heap[gb162]? = some (.cells #[.int .i64 t156, .int .i64 t157, .int .i64 t158, .int .i64 t159, .int .u64 t160] 27 (0, 0))) ∧ (Below w.heap.size w w') ∧ (b 4 = true → Kd.R (Kd.int .i64) 3 w' w.heap.size (fun _ => True) v166 y165) ∧ (b 13 = true → Kd.R (Kd.int .i64) 3 w' w.heap.size (fun _ => True) v170 y169) ∧ (b 21 = true → Kd.R (Kd.int .i64) 3 w' w.heap.size (fun _ => True) v174 y173) ∧ (b 28 = true → Kd.R (Kd.int .i64) 3 w' w.heap.size (fun _ => True) v178 y177) ∧ (b 39 = true → Kd.R (Kd.int .i64) 3 w' w.heap.size (fun _ => True) v183 y182)) HT_.out HW_.out (by kernel_rfl) (by kernel_rfl) ?_ ?_ ?_
                · exact ⟨.bool false, .bool false, .bool false, .bool false, .bool false, by simp only [putSel, Bool.false_eq_true, if_false], BK150.out, BK162.out, HB.out, fun h_ => absurd h_ (by decide), fun h_ => absurd h_ (by decide), fun h_ => absurd h_ (by decide), fun h_ => absurd h_ (by decide), fun h_ => absurd h_ (by decide)⟩
                · skip
                  clear BK150 BK162 HB
                  refine steps_cons ?_ ?_
                  · rintro b a w' ⟨v166, v170, v174, v178, v183, ha, Q_BK150, Q_BK162, Q_HB, Q_HO167, Q_HO171, Q_HO175, Q_HO179, Q_HO184⟩ hb_ hon hoff
                    refine ⟨_, rfl, fun K hK => ?_⟩
                    have e11 : a.tmps[11]? = some (.pointer (some ⟨gb162, 0, none⟩)) := by rw [ha]; exact (putSel_off rfl).trans rfl
                    replace ha := Aside0.mk ha
                    have BK150 := Aside0.mk Q_BK150
                    have BK162 := Aside0.mk Q_BK162
                    have HB := Aside0.mk Q_HB
                    have hc0_ : w'.cell? ⟨gb162, 0, none⟩ = some (.int .i64 t156) := (blk_cell BK162.out 0).trans rfl
                    have hc1_ : w'.cell? ⟨gb162, 1, none⟩ = some (.int .i64 t157) := (blk_cell BK162.out 1).trans rfl
                    have hc2_ : w'.cell? ⟨gb162, 2, none⟩ = some (.int .i64 t158) := (blk_cell BK162.out 2).trans rfl
                    have hc3_ : w'.cell? ⟨gb162, 3, none⟩ = some (.int .i64 t159) := (blk_cell BK162.out 3).trans rfl
                    have hc4_ : w'.cell? ⟨gb162, 4, none⟩ = some (.int .u64 t160) := (blk_cell BK162.out 4).trans rfl
                    refine value_ (w1 := w') (v := .agg #[.int .i64 t156, .int .i64 t157, .int .i64 t158, .int .i64 t159, .int .u64 t160]) (by rfl) rfl ?_ ?_
                    · go_simp
                      (try simp only [i64_w])
                      try rfl
                    refine hK.out _ _ ⟨v166, v170, v174, v178, v183, (by rw [ha.out]; exact putSel_upk 0 hb_ rfl rfl rfl), Q_BK150, Q_BK162, Q_HB, Q_HO167, Q_HO171, fun h0_ => absurd ((hoff 21 (by kernel_rfl)).symm.trans h0_) (by decide), fun h0_ => absurd ((hoff 28 (by kernel_rfl)).symm.trans h0_) (by decide), fun h0_ => absurd ((hoff 39 (by kernel_rfl)).symm.trans h0_) (by decide)⟩
                  refine steps_cons ?_ ?_
                  · rintro b a w' ⟨v166, v170, v174, v178, v183, ha, Q_BK150, Q_BK162, Q_HB, Q_HO167, Q_HO171, Q_HO175, Q_HO179, Q_HO184⟩ hb_ hon hoff
                    refine ⟨_, rfl, fun K hK => ?_⟩
                    have e56 : a.tmps[56]? = some (.int .i64 (wrap64 (Int.tmod (IntKind.u64.wrap (a2)) (IntKind.u64.wrap (t153))))) := by rw [ha]; exact (putSel_off rfl).trans rfl
                    have e57 : a.tmps[57]? = some (.int .i64 (wrap64 (Int.tmod (IntKind.u64.wrap (a3)) (IntKind.u64.wrap (t153))))) := by rw [ha]; exact (putSel_off rfl).trans rfl
                    replace ha := Aside0.mk ha
                    have BK150 := Aside0.mk Q_BK150
                    have BK162 := Aside0.mk Q_BK162
                    have HB := Aside0.mk Q_HB
                    refine Kd.R_lit_step (Kd.int .i64) _ 3 ?hg (N := 58) ?hd (xs := ([wrap64 (Int.tmod (IntKind.u64.wrap (a2)) (IntKind.u64.wrap (t153))), wrap64 (Int.tmod (IntKind.u64.wrap (a3)) (IntKind.u64.wrap (t153)))] : List Int)) (inner := [.int .i64 (wrap64 (Int.tmod (IntKind.u64.wrap (a2)) (IntKind.u64.wrap (t153)))), .int .i64 (wrap64 (Int.tmod (IntKind.u64.wrap (a3)) (IntKind.u64.wrap (t153))))]) (ok := fun _ => True) (okp := fun _ => True) ?hr ?hp (fun _ hk => hk) trivial (Below.refl _ _) (Nat.le_refl _) (by simp) ?_; (case hd => rfl); (case hg => rfl); (case hr => first | (go_simp; done) | (go_simp; rfl)); (case hp => exact (Reps.one (show Kd.M (Kd.int .i64) _ _ _ (wrap64 (Int.tmod (IntKind.u64.wrap (a2)) (IntKind.u64.wrap (t153)))) [.int .i64 (wrap64 (Int.tmod (IntKind.u64.wrap (a2)) (IntKind.u64.wrap (t153))))] from rfl) (Reps.one (show Kd.M (Kd.int .i64) _ _ _ (wrap64 (Int.tmod (IntKind.u64.wrap (a3)) (IntKind.u64.wrap (t153)))) [.int .i64 (wrap64 (Int.tmod (IntKind.u64.wrap (a3)) (IntKind.u64.wrap (t153))))] from rfl) (Reps.none _ _))))
                    intro v166 w38 ho39 hb hg_ hnew_
                    clear hg_ hnew_
                    (first | rw [← Ny165.out] at ho39 | (simp only [Int.reduceToNat] at ho39; rw [← Ny165.out] at ho39))
                    have n0_ := Aside0.mk (Kd.R_lower ho39 (below_size (by repeat (first | (with_reducible first | exact HB.out | apply below_alloc | apply pw_below_drewN | apply below_drew1 | refine below_set ?_ GE150.out | refine below_set ?_ GE162.out) | exact HB.out))))
                    have n1_ := Aside0.mk (blk_below (g := gb150) (o := .cells #[.int .i64 t151, .int .i64 t152, .int .i64 t153, .int .i64 t154, .int .u64 t155] 24 (0, 0)) (by (with_reducible repeat (first | refine blk_drewN ?_ _ | refine blk_drew ?_ | refine blk_alloc ?_ _)); exact BK150.out) hb)
                    have n2_ := Aside0.mk (blk_below (g := gb162) (o := .cells #[.int .i64 t156, .int .i64 t157, .int .i64 t158, .int .i64 t159, .int .u64 t160] 27 (0, 0)) (by (with_reducible repeat (first | refine blk_drewN ?_ _ | refine blk_drew ?_ | refine blk_alloc ?_ _)); exact BK162.out) hb)
                    have n3_ := Aside0.mk (below_step (by repeat (first | (with_reducible first | exact HB.out | apply below_alloc | apply pw_below_drewN | apply below_drew1 | refine below_set ?_ GE150.out | refine below_set ?_ GE162.out) | exact HB.out)) hb)
                    have z_HO171 := fun (h0_ : b 13 = true) => (show Kd.R (Kd.int .i64) 3 w38 w.heap.size (fun _ => True) v170 y169 from by first | exact (Kd.R_elder' (by (with_reducible repeat (first | apply Kd.R_alloc | apply Kd.R_drewN | apply Kd.R_drew)); exact (Q_HO171 h0_)) (Kd.R_base ho39) hb) | exact Kd.R_mono (Kd.R_elder' (by (with_reducible repeat (first | apply Kd.R_alloc | apply Kd.R_drewN | apply Kd.R_drew)); exact (Q_HO171 h0_)) (Kd.R_base ho39) hb) (fun _ h_ => by first | trivial | exact h_ | exact h_.1))
                    clear BK150
                    clear BK162
                    clear HB
                    have HO167 := n0_
                    have BK150 := n1_
                    have BK162 := n2_
                    have HB := n3_
                    clear n0_ n1_ n2_ n3_
                    clear hb ho39
                    refine hK.out _ _ ⟨v166, v170, v174, v178, v183, (by rw [ha.out]; exact putSel_upk 1 hb_ rfl rfl rfl), (by (with_reducible repeat (first | refine blk_drewN ?_ _ | refine blk_drew ?_ | refine blk_alloc ?_ _)); exact BK150.out), (by (with_reducible repeat (first | refine blk_drewN ?_ _ | refine blk_drew ?_ | refine blk_alloc ?_ _)); exact BK162.out), (by repeat (first | (with_reducible first | exact HB.out | apply below_alloc | apply pw_below_drewN | apply below_drew1 | refine below_set ?_ GE150.out | refine below_set ?_ GE162.out) | exact HB.out)), fun _ => (by (with_reducible repeat (first | apply Kd.R_alloc | apply Kd.R_drewN | apply Kd.R_drew)); first | exact HO167.out | exact Kd.R_mono HO167.out (fun _ hk => hk.1) | exact Kd.R_mono HO167.out (fun _ _ => trivial)), z_HO171, fun h0_ => absurd ((hoff 21 (by kernel_rfl)).symm.trans h0_) (by decide), fun h0_ => absurd ((hoff 28 (by kernel_rfl)).symm.trans h0_) (by decide), fun h0_ => absurd ((hoff 39 (by kernel_rfl)).symm.trans h0_) (by decide)⟩
                  refine steps_cons ?_ ?_
                  · rintro b a w' ⟨v166, v170, v174, v178, v183, ha, Q_BK150, Q_BK162, Q_HB, Q_HO167, Q_HO171, Q_HO175, Q_HO179, Q_HO184⟩ hb_ hon hoff
                    refine ⟨_, rfl, fun K hK => ?_⟩
                    have e54 : a.tmps[54]? = some (.agg #[.int .i64 t156, .int .i64 t157, .int .i64 t158, .int .i64 t159, .int .u64 t160]) := by rw [ha]; exact putSel_on (e := (0, 54, .agg #[.int .i64 t156, .int .i64 t157, .int .i64 t158, .int .i64 t159, .int .u64 t160])) 0 rfl rfl (hon 0 (by kernel_rfl)) rfl
                    have e55 : a.tmps[55]? = some (.int .i64 (wrap64 (Int.tmod (IntKind.u64.wrap (a1)) (IntKind.u64.wrap (t164))))) := by rw [ha]; exact (putSel_off rfl).trans rfl
                    have e58 : a.tmps[58]? = some (v166) := by rw [ha]; exact putSel_on (e := (4, 58, v166)) 1 rfl rfl (hon 4 (by kernel_rfl)) rfl
                    replace ha := Aside0.mk ha
                    have BK150 := Aside0.mk Q_BK150
                    have BK162 := Aside0.mk Q_BK162
                    have HB := Aside0.mk Q_HB
                    have HO167 := Aside0.mk (Q_HO167 (hon 4 (by kernel_rfl)))
                    obtain ⟨Ao41, co41, eo41⟩ := Kd.R_slice HO167.out
                    (first | subst eo41 | (injection eo41 with f1_ f2_ f3_; have f4_ := f1_.symm; have f5_ := f3_.symm; clear f1_ f2_ f3_; subst f4_; subst f5_))
                    refine goes_ Try.func11 (by kernel_rfl) rfl #[.agg #[.int .i64 t156, .int .i64 t157, .int .i64 t158, .int .i64 t159, .int .u64 t160], .int .i64 (wrap64 (Int.tmod (IntKind.u64.wrap (a1)) (IntKind.u64.wrap (t164)))), .slice Ao41 y165.length co41] (by rfl) rfl rfl (by first | (simp only [List.map_toArray, List.map_cons, List.map_nil, Act.eval, Array.getD_eq_getD_getElem?, Option.getD_some, e54, e55, e58]; done) | (simp only [List.map_toArray, List.map_cons, List.map_nil, Act.eval, Array.getD_eq_getD_getElem?, Option.getD_some, e54, e55, e58]; rfl)) ?_
                    with_reducible refine (duty_Host.calls kj7 t156 t157 t158 t159 t160 (wrap64 (Int.tmod (IntKind.u64.wrap (a1)) (IntKind.u64.wrap (t164)))) _ _ y165 t168 _ ?side1 ?side2 A25.out).mono ?_
                    (case side1 => repeat (first | exact (Kd.R_reads' HO167.out).2.2 | (with_reducible refine Kd.C_alloc ?_ _) | (with_reducible refine Kd.C_drewN ?_ _) | (with_reducible refine Kd.C_drew ?_)))
                    (case side2 => exact (Kd.R_reads' HO167.out).2.1)
                    rintro e w42 ⟨rfl, hb⟩
                    refine ⟨_, rfl, ?_⟩
                    have n0_ := Aside0.mk (Kd.R_below (by (with_reducible repeat (first | apply Kd.R_alloc | apply Kd.R_drewN | apply Kd.R_drew)); first | exact HO167.out | exact Kd.R_mono HO167.out (fun _ hk => hk.1) | exact Kd.R_mono HO167.out (fun _ _ => trivial)) hb)
                    have n1_ := Aside0.mk (blk_below (g := gb150) (o := .cells #[.int .i64 t151, .int .i64 t152, .int .i64 t153, .int .i64 t154, .int .u64 t155] 24 (0, 0)) (by (with_reducible repeat (first | refine blk_drewN ?_ _ | refine blk_drew ?_ | refine blk_alloc ?_ _)); exact BK150.out) hb)
                    have n2_ := Aside0.mk (blk_below (g := gb162) (o := .cells #[.int .i64 t156, .int .i64 t157, .int .i64 t158, .int .i64 t159, .int .u64 t160] 27 (0, 0)) (by (with_reducible repeat (first | refine blk_drewN ?_ _ | refine blk_drew ?_ | refine blk_alloc ?_ _)); exact BK162.out) hb)
                    have n3_ := Aside0.mk (below_step (by repeat (first | (with_reducible first | exact HB.out | apply below_alloc | apply pw_below_drewN | apply below_drew1 | refine below_set ?_ GE150.out | refine below_set ?_ GE162.out) | exact HB.out)) hb)
                    have z_HO171 := fun (h0_ : b 13 = true) => (show Kd.R (Kd.int .i64) 3 w42 w.heap.size (fun _ => True) v170 y169 from by first | exact (Kd.R_below (by (with_reducible repeat (first | apply Kd.R_alloc | apply Kd.R_drewN | apply Kd.R_drew)); exact (Q_HO171 h0_)) hb) | exact Kd.R_mono (Kd.R_below (by (with_reducible repeat (first | apply Kd.R_alloc | apply Kd.R_drewN | apply Kd.R_drew)); exact (Q_HO171 h0_)) hb) (fun _ h_ => by first | trivial | exact h_ | exact h_.1))
                    clear HO167
                    clear BK150
                    clear BK162
                    clear HB
                    have HO167 := n0_
                    have BK150 := n1_
                    have BK162 := n2_
                    have HB := n3_
                    clear n0_ n1_ n2_ n3_
                    (try clear hb)
                    (try clear hb2)
                    (try clear hk)
                    (try clear hi)
                    refine hK.out _ _ ⟨.slice Ao41 y165.length co41, v170, v174, v178, v183, (by rw [ha.out]; exact putSel_upk 2 hb_ rfl rfl rfl), (by (with_reducible repeat (first | refine blk_drewN ?_ _ | refine blk_drew ?_ | refine blk_alloc ?_ _)); exact BK150.out), (by (with_reducible repeat (first | refine blk_drewN ?_ _ | refine blk_drew ?_ | refine blk_alloc ?_ _)); exact BK162.out), (by repeat (first | (with_reducible first | exact HB.out | apply below_alloc | apply pw_below_drewN | apply below_drew1 | refine below_set ?_ GE150.out | refine below_set ?_ GE162.out) | exact HB.out)), fun _ => (by (with_reducible repeat (first | apply Kd.R_alloc | apply Kd.R_drewN | apply Kd.R_drew)); first | exact HO167.out | exact Kd.R_mono HO167.out (fun _ hk => hk.1) | exact Kd.R_mono HO167.out (fun _ _ => trivial)), z_HO171, fun h0_ => absurd ((hoff 21 (by kernel_rfl)).symm.trans h0_) (by decide), fun h0_ => absurd ((hoff 28 (by kernel_rfl)).symm.trans h0_) (by decide), fun h0_ => absurd ((hoff 39 (by kernel_rfl)).symm.trans h0_) (by decide)⟩
                  refine steps_cons ?_ ?_
                  · rintro b a w' ⟨v166, v170, v174, v178, v183, ha, Q_BK150, Q_BK162, Q_HB, Q_HO167, Q_HO171, Q_HO175, Q_HO179, Q_HO184⟩ hb_ hon hoff
                    refine ⟨_, rfl, fun K hK => ?_⟩
                    have e11 : a.tmps[11]? = some (.pointer (some ⟨gb162, 0, none⟩)) := by rw [ha]; exact (putSel_off rfl).trans rfl
                    replace ha := Aside0.mk ha
                    have BK150 := Aside0.mk Q_BK150
                    have BK162 := Aside0.mk Q_BK162
                    have HB := Aside0.mk Q_HB
                    have hc0_ : w'.cell? ⟨gb162, 0, none⟩ = some (.int .i64 t156) := (blk_cell BK162.out 0).trans rfl
                    have hc1_ : w'.cell? ⟨gb162, 1, none⟩ = some (.int .i64 t157) := (blk_cell BK162.out 1).trans rfl
                    have hc2_ : w'.cell? ⟨gb162, 2, none⟩ = some (.int .i64 t158) := (blk_cell BK162.out 2).trans rfl
                    have hc3_ : w'.cell? ⟨gb162, 3, none⟩ = some (.int .i64 t159) := (blk_cell BK162.out 3).trans rfl
                    have hc4_ : w'.cell? ⟨gb162, 4, none⟩ = some (.int .u64 t160) := (blk_cell BK162.out 4).trans rfl
                    refine value_ (w1 := w') (v := .agg #[.int .i64 t156, .int .i64 t157, .int .i64 t158, .int .i64 t159, .int .u64 t160]) (by rfl) rfl ?_ ?_
                    · go_simp
                      (try simp only [i64_w])
                      try rfl
                    refine hK.out _ _ ⟨v166, v170, v174, v178, v183, (by rw [ha.out]; exact putSel_upk 3 hb_ rfl rfl rfl), Q_BK150, Q_BK162, Q_HB, Q_HO167, Q_HO171, fun h0_ => absurd ((hoff 21 (by kernel_rfl)).symm.trans h0_) (by decide), fun h0_ => absurd ((hoff 28 (by kernel_rfl)).symm.trans h0_) (by decide), fun h0_ => absurd ((hoff 39 (by kernel_rfl)).symm.trans h0_) (by decide)⟩
                  refine steps_cons ?_ ?_
                  · rintro b a w' ⟨v166, v170, v174, v178, v183, ha, Q_BK150, Q_BK162, Q_HB, Q_HO167, Q_HO171, Q_HO175, Q_HO179, Q_HO184⟩ hb_ hon hoff
                    refine ⟨_, rfl, fun K hK => ?_⟩
                    have e62 : a.tmps[62]? = some (.int .i64 (wrap64 (Int.tmod (IntKind.u64.wrap (a3)) (IntKind.u64.wrap (t153))))) := by rw [ha]; exact (putSel_off rfl).trans rfl
                    have e63 : a.tmps[63]? = some (.int .i64 (wrap64 (Int.tmod (IntKind.u64.wrap (a2)) (IntKind.u64.wrap (t153))))) := by rw [ha]; exact (putSel_off rfl).trans rfl
                    have e64 : a.tmps[64]? = some (.int .i64 (wrap64 (Int.tmod (IntKind.u64.wrap (a3)) (IntKind.u64.wrap (t153))))) := by rw [ha]; exact (putSel_off rfl).trans rfl
                    have e65 : a.tmps[65]? = some (.int .i64 (wrap64 (Int.tmod (IntKind.u64.wrap (a2)) (IntKind.u64.wrap (t153))))) := by rw [ha]; exact (putSel_off rfl).trans rfl
                    have e66 : a.tmps[66]? = some (.int .i64 (wrap64 (t153 + (wrap64 (Int.tmod (IntKind.u64.wrap (a4)) 100))))) := by rw [ha]; exact (putSel_off rfl).trans rfl
                    replace ha := Aside0.mk ha
                    have BK150 := Aside0.mk Q_BK150
                    have BK162 := Aside0.mk Q_BK162
                    have HB := Aside0.mk Q_HB
                    refine Kd.R_lit_step (Kd.int .i64) _ 3 ?hg (N := 67) ?hd (xs := ([wrap64 (Int.tmod (IntKind.u64.wrap (a3)) (IntKind.u64.wrap (t153))), wrap64 (Int.tmod (IntKind.u64.wrap (a2)) (IntKind.u64.wrap (t153))), wrap64 (Int.tmod (IntKind.u64.wrap (a3)) (IntKind.u64.wrap (t153))), wrap64 (Int.tmod (IntKind.u64.wrap (a2)) (IntKind.u64.wrap (t153))), wrap64 (t153 + (wrap64 (Int.tmod (IntKind.u64.wrap (a4)) 100))), (-1)] : List Int)) (inner := [.int .i64 (wrap64 (Int.tmod (IntKind.u64.wrap (a3)) (IntKind.u64.wrap (t153)))), .int .i64 (wrap64 (Int.tmod (IntKind.u64.wrap (a2)) (IntKind.u64.wrap (t153)))), .int .i64 (wrap64 (Int.tmod (IntKind.u64.wrap (a3)) (IntKind.u64.wrap (t153)))), .int .i64 (wrap64 (Int.tmod (IntKind.u64.wrap (a2)) (IntKind.u64.wrap (t153)))), .int .i64 (wrap64 (t153 + (wrap64 (Int.tmod (IntKind.u64.wrap (a4)) 100)))), .int .i64 (-1)]) (ok := fun _ => True) (okp := fun _ => True) ?hr ?hp (fun _ hk => hk) trivial (Below.refl _ _) (Nat.le_refl _) (by simp) ?_; (case hd => rfl); (case hg => rfl); (case hr => first | (go_simp; done) | (go_simp; rfl)); (case hp => exact (Reps.one (show Kd.M (Kd.int .i64) _ _ _ (wrap64 (Int.tmod (IntKind.u64.wrap (a3)) (IntKind.u64.wrap (t153)))) [.int .i64 (wrap64 (Int.tmod (IntKind.u64.wrap (a3)) (IntKind.u64.wrap (t153))))] from rfl) (Reps.one (show Kd.M (Kd.int .i64) _ _ _ (wrap64 (Int.tmod (IntKind.u64.wrap (a2)) (IntKind.u64.wrap (t153)))) [.int .i64 (wrap64 (Int.tmod (IntKind.u64.wrap (a2)) (IntKind.u64.wrap (t153))))] from rfl) (Reps.one (show Kd.M (Kd.int .i64) _ _ _ (wrap64 (Int.tmod (IntKind.u64.wrap (a3)) (IntKind.u64.wrap (t153)))) [.int .i64 (wrap64 (Int.tmod (IntKind.u64.wrap (a3)) (IntKind.u64.wrap (t153))))] from rfl) (Reps.one (show Kd.M (Kd.int .i64) _ _ _ (wrap64 (Int.tmod (IntKind.u64.wrap (a2)) (IntKind.u64.wrap (t153)))) [.int .i64 (wrap64 (Int.tmod (IntKind.u64.wrap (a2)) (IntKind.u64.wrap (t153))))] from rfl) (Reps.one (show Kd.M (Kd.int .i64) _ _ _ (wrap64 (t153 + (wrap64 (Int.tmod (IntKind.u64.wrap (a4)) 100)))) [.int .i64 (wrap64 (t153 + (wrap64 (Int.tmod (IntKind.u64.wrap (a4)) 100))))] from rfl) (Reps.one (show Kd.M (Kd.int .i64) _ _ _ (-1) [.int .i64 (-1)] from rfl) (Reps.none _ _))))))))
                    intro v170 w38 ho39 hb hg_ hnew_
                    clear hg_ hnew_
                    (first | rw [← Ny169.out] at ho39 | (simp only [Int.reduceToNat] at ho39; rw [← Ny169.out] at ho39))
                    have n0_ := Aside0.mk (Kd.R_lower ho39 (below_size (by repeat (first | (with_reducible first | exact HB.out | apply below_alloc | apply pw_below_drewN | apply below_drew1 | refine below_set ?_ GE150.out | refine below_set ?_ GE162.out) | exact HB.out))))
                    have n1_ := Aside0.mk (blk_below (g := gb150) (o := .cells #[.int .i64 t151, .int .i64 t152, .int .i64 t153, .int .i64 t154, .int .u64 t155] 24 (0, 0)) (by (with_reducible repeat (first | refine blk_drewN ?_ _ | refine blk_drew ?_ | refine blk_alloc ?_ _)); exact BK150.out) hb)
                    have n2_ := Aside0.mk (blk_below (g := gb162) (o := .cells #[.int .i64 t156, .int .i64 t157, .int .i64 t158, .int .i64 t159, .int .u64 t160] 27 (0, 0)) (by (with_reducible repeat (first | refine blk_drewN ?_ _ | refine blk_drew ?_ | refine blk_alloc ?_ _)); exact BK162.out) hb)
                    have n3_ := Aside0.mk (below_step (by repeat (first | (with_reducible first | exact HB.out | apply below_alloc | apply pw_below_drewN | apply below_drew1 | refine below_set ?_ GE150.out | refine below_set ?_ GE162.out) | exact HB.out)) hb)
                    have z_HO167 := fun (h0_ : b 4 = true) => (show Kd.R (Kd.int .i64) 3 w38 w.heap.size (fun _ => True) v166 y165 from by first | exact (Kd.R_elder' (by (with_reducible repeat (first | apply Kd.R_alloc | apply Kd.R_drewN | apply Kd.R_drew)); exact (Q_HO167 h0_)) (Kd.R_base ho39) hb) | exact Kd.R_mono (Kd.R_elder' (by (with_reducible repeat (first | apply Kd.R_alloc | apply Kd.R_drewN | apply Kd.R_drew)); exact (Q_HO167 h0_)) (Kd.R_base ho39) hb) (fun _ h_ => by first | trivial | exact h_ | exact h_.1))
                    clear BK150
                    clear BK162
                    clear HB
                    have HO171 := n0_
                    have BK150 := n1_
                    have BK162 := n2_
                    have HB := n3_
                    clear n0_ n1_ n2_ n3_
                    clear hb ho39
                    refine hK.out _ _ ⟨v166, v170, v174, v178, v183, (by rw [ha.out]; exact putSel_upk 4 hb_ rfl rfl rfl), (by (with_reducible repeat (first | refine blk_drewN ?_ _ | refine blk_drew ?_ | refine blk_alloc ?_ _)); exact BK150.out), (by (with_reducible repeat (first | refine blk_drewN ?_ _ | refine blk_drew ?_ | refine blk_alloc ?_ _)); exact BK162.out), (by repeat (first | (with_reducible first | exact HB.out | apply below_alloc | apply pw_below_drewN | apply below_drew1 | refine below_set ?_ GE150.out | refine below_set ?_ GE162.out) | exact HB.out)), z_HO167, fun _ => (by (with_reducible repeat (first | apply Kd.R_alloc | apply Kd.R_drewN | apply Kd.R_drew)); first | exact HO171.out | exact Kd.R_mono HO171.out (fun _ hk => hk.1) | exact Kd.R_mono HO171.out (fun _ _ => trivial)), fun h0_ => absurd ((hoff 21 (by kernel_rfl)).symm.trans h0_) (by decide), fun h0_ => absurd ((hoff 28 (by kernel_rfl)).symm.trans h0_) (by decide), fun h0_ => absurd ((hoff 39 (by kernel_rfl)).symm.trans h0_) (by decide)⟩
                  refine steps_cons ?_ ?_
                  · rintro b a w' ⟨v166, v170, v174, v178, v183, ha, Q_BK150, Q_BK162, Q_HB, Q_HO167, Q_HO171, Q_HO175, Q_HO179, Q_HO184⟩ hb_ hon hoff
                    refine ⟨_, rfl, fun K hK => ?_⟩
                    have e60 : a.tmps[60]? = some (.agg #[.int .i64 t156, .int .i64 t157, .int .i64 t158, .int .i64 t159, .int .u64 t160]) := by rw [ha]; exact putSel_on (e := (6, 60, .agg #[.int .i64 t156, .int .i64 t157, .int .i64 t158, .int .i64 t159, .int .u64 t160])) 3 rfl rfl (hon 6 (by kernel_rfl)) rfl
                    have e61 : a.tmps[61]? = some (.int .i64 (wrap64 (Int.tmod (IntKind.u64.wrap (a1)) (IntKind.u64.wrap (t164))))) := by rw [ha]; exact (putSel_off rfl).trans rfl
                    have e67 : a.tmps[67]? = some (v170) := by rw [ha]; exact putSel_on (e := (13, 67, v170)) 4 rfl rfl (hon 13 (by kernel_rfl)) rfl
                    replace ha := Aside0.mk ha
                    have BK150 := Aside0.mk Q_BK150
                    have BK162 := Aside0.mk Q_BK162
                    have HB := Aside0.mk Q_HB
                    have HO167 := Aside0.mk (Q_HO167 (hon 4 (by kernel_rfl)))
                    have HO171 := Aside0.mk (Q_HO171 (hon 13 (by kernel_rfl)))
                    obtain ⟨Ao45, co45, eo45⟩ := Kd.R_slice HO171.out
                    (first | subst eo45 | (injection eo45 with f1_ f2_ f3_; have f4_ := f1_.symm; have f5_ := f3_.symm; clear f1_ f2_ f3_; subst f4_; subst f5_))
                    refine goes_ Try.func11 (by kernel_rfl) rfl #[.agg #[.int .i64 t156, .int .i64 t157, .int .i64 t158, .int .i64 t159, .int .u64 t160], .int .i64 (wrap64 (Int.tmod (IntKind.u64.wrap (a1)) (IntKind.u64.wrap (t164)))), .slice Ao45 y169.length co45] (by rfl) rfl rfl (by first | (simp only [List.map_toArray, List.map_cons, List.map_nil, Act.eval, Array.getD_eq_getD_getElem?, Option.getD_some, e60, e61, e67]; done) | (simp only [List.map_toArray, List.map_cons, List.map_nil, Act.eval, Array.getD_eq_getD_getElem?, Option.getD_some, e60, e61, e67]; rfl)) ?_
                    with_reducible refine (duty_Host.calls kj7 t156 t157 t158 t159 t160 (wrap64 (Int.tmod (IntKind.u64.wrap (a1)) (IntKind.u64.wrap (t164)))) _ _ y169 t172 _ ?side1 ?side2 A26.out).mono ?_
                    (case side1 => repeat (first | exact (Kd.R_reads' HO171.out).2.2 | (with_reducible refine Kd.C_alloc ?_ _) | (with_reducible refine Kd.C_drewN ?_ _) | (with_reducible refine Kd.C_drew ?_)))
                    (case side2 => exact (Kd.R_reads' HO171.out).2.1)
                    rintro e w46 ⟨rfl, hb⟩
                    refine ⟨_, rfl, ?_⟩
                    have n0_ := Aside0.mk (Kd.R_below (by (with_reducible repeat (first | apply Kd.R_alloc | apply Kd.R_drewN | apply Kd.R_drew)); first | exact HO167.out | exact Kd.R_mono HO167.out (fun _ hk => hk.1) | exact Kd.R_mono HO167.out (fun _ _ => trivial)) hb)
                    have n1_ := Aside0.mk (Kd.R_below (by (with_reducible repeat (first | apply Kd.R_alloc | apply Kd.R_drewN | apply Kd.R_drew)); first | exact HO171.out | exact Kd.R_mono HO171.out (fun _ hk => hk.1) | exact Kd.R_mono HO171.out (fun _ _ => trivial)) hb)
                    have n2_ := Aside0.mk (blk_below (g := gb150) (o := .cells #[.int .i64 t151, .int .i64 t152, .int .i64 t153, .int .i64 t154, .int .u64 t155] 24 (0, 0)) (by (with_reducible repeat (first | refine blk_drewN ?_ _ | refine blk_drew ?_ | refine blk_alloc ?_ _)); exact BK150.out) hb)
                    have n3_ := Aside0.mk (blk_below (g := gb162) (o := .cells #[.int .i64 t156, .int .i64 t157, .int .i64 t158, .int .i64 t159, .int .u64 t160] 27 (0, 0)) (by (with_reducible repeat (first | refine blk_drewN ?_ _ | refine blk_drew ?_ | refine blk_alloc ?_ _)); exact BK162.out) hb)
                    have n4_ := Aside0.mk (below_step (by repeat (first | (with_reducible first | exact HB.out | apply below_alloc | apply pw_below_drewN | apply below_drew1 | refine below_set ?_ GE150.out | refine below_set ?_ GE162.out) | exact HB.out)) hb)
                    clear HO167
                    clear HO171
                    clear BK150
                    clear BK162
                    clear HB
                    have HO167 := n0_
                    have HO171 := n1_
                    have BK150 := n2_
                    have BK162 := n3_
                    have HB := n4_
                    clear n0_ n1_ n2_ n3_ n4_
                    (try clear hb)
                    (try clear hb2)
                    (try clear hk)
                    (try clear hi)
                    refine hK.out _ _ ⟨v166, .slice Ao45 y169.length co45, v174, v178, v183, (by rw [ha.out]; exact putSel_upk 5 hb_ rfl rfl rfl), (by (with_reducible repeat (first | refine blk_drewN ?_ _ | refine blk_drew ?_ | refine blk_alloc ?_ _)); exact BK150.out), (by (with_reducible repeat (first | refine blk_drewN ?_ _ | refine blk_drew ?_ | refine blk_alloc ?_ _)); exact BK162.out), (by repeat (first | (with_reducible first | exact HB.out | apply below_alloc | apply pw_below_drewN | apply below_drew1 | refine below_set ?_ GE150.out | refine below_set ?_ GE162.out) | exact HB.out)), fun _ => (by (with_reducible repeat (first | apply Kd.R_alloc | apply Kd.R_drewN | apply Kd.R_drew)); first | exact HO167.out | exact Kd.R_mono HO167.out (fun _ hk => hk.1) | exact Kd.R_mono HO167.out (fun _ _ => trivial)), fun _ => (by (with_reducible repeat (first | apply Kd.R_alloc | apply Kd.R_drewN | apply Kd.R_drew)); first | exact HO171.out | exact Kd.R_mono HO171.out (fun _ hk => hk.1) | exact Kd.R_mono HO171.out (fun _ _ => trivial)), fun h0_ => absurd ((hoff 21 (by kernel_rfl)).symm.trans h0_) (by decide), fun h0_ => absurd ((hoff 28 (by kernel_rfl)).symm.trans h0_) (by decide), fun h0_ => absurd ((hoff 39 (by kernel_rfl)).symm.trans h0_) (by decide)⟩
                  refine steps_cons ?_ ?_
                  · rintro b a w' ⟨v166, v170, v174, v178, v183, ha, Q_BK150, Q_BK162, Q_HB, Q_HO167, Q_HO171, Q_HO175, Q_HO179, Q_HO184⟩ hb_ hon hoff
                    refine ⟨_, rfl, fun K hK => ?_⟩
                    have e59 : a.tmps[59]? = some (.int .i64 t168) := by rw [ha]; exact putSel_on (e := (5, 59, .int .i64 t168)) 2 rfl rfl (hon 5 (by kernel_rfl)) rfl
                    have e68 : a.tmps[68]? = some (.int .i64 t172) := by rw [ha]; exact putSel_on (e := (14, 68, .int .i64 t172)) 5 rfl rfl (hon 14 (by kernel_rfl)) rfl
                    replace ha := Aside0.mk ha
                    have BK150 := Aside0.mk Q_BK150
                    have BK162 := Aside0.mk Q_BK162
                    have HB := Aside0.mk Q_HB
                    have HO167 := Aside0.mk (Q_HO167 (hon 4 (by kernel_rfl)))
                    have HO171 := Aside0.mk (Q_HO171 (hon 13 (by kernel_rfl)))
                    refine value_ (w1 := w') (v := .bool (t168 == t172)) (by rfl) rfl ?_ ?_
                    · go_simp
                      (try simp only [i64_w])
                      try rfl
                    refine hK.out _ _ ⟨v166, v170, v174, v178, v183, (by rw [ha.out]; exact putSel_upk 6 hb_ rfl rfl rfl), Q_BK150, Q_BK162, Q_HB, Q_HO167, Q_HO171, fun h0_ => absurd ((hoff 21 (by kernel_rfl)).symm.trans h0_) (by decide), fun h0_ => absurd ((hoff 28 (by kernel_rfl)).symm.trans h0_) (by decide), fun h0_ => absurd ((hoff 39 (by kernel_rfl)).symm.trans h0_) (by decide)⟩
                  refine steps_cons ?_ ?_
                  · rintro b a w' ⟨v166, v170, v174, v178, v183, ha, Q_BK150, Q_BK162, Q_HB, Q_HO167, Q_HO171, Q_HO175, Q_HO179, Q_HO184⟩ hb_ hon hoff
                    refine ⟨_, rfl, fun K hK => ?_⟩
                    have e69 : a.tmps[69]? = some (.bool (t168 == t172)) := by rw [ha]; exact putSel_on (e := (15, 69, .bool (t168 == t172))) 6 rfl rfl (hon 15 (by kernel_rfl)) rfl
                    replace ha := Aside0.mk ha
                    have BK150 := Aside0.mk Q_BK150
                    have BK162 := Aside0.mk Q_BK162
                    have HB := Aside0.mk Q_HB
                    have HO167 := Aside0.mk (Q_HO167 (hon 4 (by kernel_rfl)))
                    have HO171 := Aside0.mk (Q_HO171 (hon 13 (by kernel_rfl)))
                    refine value_ (w1 := w') (v := .bool (t168 == t172)) (by rfl) rfl ?_ ?_
                    · go_simp
                      (try simp only [i64_w])
                      try rfl
                    refine hK.out _ _ ⟨v166, v170, v174, v178, v183, (by rw [ha.out]; exact putSel_upk 7 hb_ rfl rfl rfl), Q_BK150, Q_BK162, Q_HB, Q_HO167, Q_HO171, fun h0_ => absurd ((hoff 21 (by kernel_rfl)).symm.trans h0_) (by decide), fun h0_ => absurd ((hoff 28 (by kernel_rfl)).symm.trans h0_) (by decide), fun h0_ => absurd ((hoff 39 (by kernel_rfl)).symm.trans h0_) (by decide)⟩
                  refine steps_cons ?_ ?_
                  · rintro b a w' ⟨v166, v170, v174, v178, v183, ha, Q_BK150, Q_BK162, Q_HB, Q_HO167, Q_HO171, Q_HO175, Q_HO179, Q_HO184⟩ hb_ hon hoff
                    refine ⟨_, rfl, fun K hK => ?_⟩
                    have e11 : a.tmps[11]? = some (.pointer (some ⟨gb162, 0, none⟩)) := by rw [ha]; exact (putSel_off rfl).trans rfl
                    have e70 : a.tmps[70]? = some (.bool (t168 == t172)) := by rw [ha]; exact putSel_on (e := (16, 70, .bool (t168 == t172))) 7 rfl rfl (hon 16 (by kernel_rfl)) rfl
                    replace ha := Aside0.mk ha
                    have BK150 := Aside0.mk Q_BK150
                    have BK162 := Aside0.mk Q_BK162
                    have HB := Aside0.mk Q_HB
                    have HO167 := Aside0.mk (Q_HO167 (hon 4 (by kernel_rfl)))
                    have HO171 := Aside0.mk (Q_HO171 (hon 13 (by kernel_rfl)))
                    have hc0_ : w'.cell? ⟨gb162, 0, none⟩ = some (.int .i64 t156) := (blk_cell BK162.out 0).trans rfl
                    have hc1_ : w'.cell? ⟨gb162, 1, none⟩ = some (.int .i64 t157) := (blk_cell BK162.out 1).trans rfl
                    have hc2_ : w'.cell? ⟨gb162, 2, none⟩ = some (.int .i64 t158) := (blk_cell BK162.out 2).trans rfl
                    have hc3_ : w'.cell? ⟨gb162, 3, none⟩ = some (.int .i64 t159) := (blk_cell BK162.out 3).trans rfl
                    have hc4_ : w'.cell? ⟨gb162, 4, none⟩ = some (.int .u64 t160) := (blk_cell BK162.out 4).trans rfl
                    refine value_ (w1 := w') (v := .agg #[.int .i64 t156, .int .i64 t157, .int .i64 t158, .int .i64 t159, .int .u64 t160]) (wanted_on rfl rfl rfl (e70.trans (by first | rfl | (simp [*]; done)))) rfl ?_ ?_
                    · go_simp
                      (try simp only [i64_w])
                      try rfl
                    refine hK.out _ _ ⟨v166, v170, v174, v178, v183, (by rw [ha.out]; exact putSel_upk 8 hb_ rfl rfl rfl), Q_BK150, Q_BK162, Q_HB, Q_HO167, Q_HO171, Q_HO175, Q_HO179, fun h0_ => absurd ((hoff 39 (by kernel_rfl)).symm.trans h0_) (by decide)⟩
                  refine steps_cons ?_ ?_
                  · rintro b a w' ⟨v166, v170, v174, v178, v183, ha, Q_BK150, Q_BK162, Q_HB, Q_HO167, Q_HO171, Q_HO175, Q_HO179, Q_HO184⟩ hb_ hon hoff
                    refine ⟨_, rfl, fun K hK => ?_⟩
                    have e1 : a.tmps[1]? = some (.int .i64 (wrap64 (Int.tmod (IntKind.u64.wrap (a1)) (IntKind.u64.wrap (t164))))) := by rw [ha]; exact (putSel_off rfl).trans rfl
                    have e70 : a.tmps[70]? = some (.bool (t168 == t172)) := by rw [ha]; exact putSel_on (e := (16, 70, .bool (t168 == t172))) 7 rfl rfl (hon 16 (by kernel_rfl)) rfl
                    replace ha := Aside0.mk ha
                    have BK150 := Aside0.mk Q_BK150
                    have BK162 := Aside0.mk Q_BK162
                    have HB := Aside0.mk Q_HB
                    have HO167 := Aside0.mk (Q_HO167 (hon 4 (by kernel_rfl)))
                    have HO171 := Aside0.mk (Q_HO171 (hon 13 (by kernel_rfl)))
                    refine value_ (w1 := w') (v := .int .i64 (wrap64 (Int.tmod (IntKind.u64.wrap (a1)) (IntKind.u64.wrap (t164))))) (wanted_on rfl rfl rfl (e70.trans (by first | rfl | (simp [*]; done)))) rfl ?_ ?_
                    · go_simp
                      (try simp only [i64_w])
                      try rfl
                    refine hK.out _ _ ⟨v166, v170, v174, v178, v183, (by rw [ha.out]; exact putSel_upk 9 hb_ rfl rfl rfl), Q_BK150, Q_BK162, Q_HB, Q_HO167, Q_HO171, Q_HO175, Q_HO179, fun h0_ => absurd ((hoff 39 (by kernel_rfl)).symm.trans h0_) (by decide)⟩
                  refine steps_cons ?_ ?_
                  · rintro b a w' ⟨v166, v170, v174, v178, v183, ha, Q_BK150, Q_BK162, Q_HB, Q_HO167, Q_HO171, Q_HO175, Q_HO179, Q_HO184⟩ hb_ hon hoff
                    refine ⟨_, rfl, fun K hK => ?_⟩
                    have e2 : a.tmps[2]? = some (.int .i64 (wrap64 (Int.tmod (IntKind.u64.wrap (a2)) (IntKind.u64.wrap (t153))))) := by rw [ha]; exact (putSel_off rfl).trans rfl
                    have e70 : a.tmps[70]? = some (.bool (t168 == t172)) := by rw [ha]; exact putSel_on (e := (16, 70, .bool (t168 == t172))) 7 rfl rfl (hon 16 (by kernel_rfl)) rfl
                    replace ha := Aside0.mk ha
                    have BK150 := Aside0.mk Q_BK150
                    have BK162 := Aside0.mk Q_BK162
                    have HB := Aside0.mk Q_HB
                    have HO167 := Aside0.mk (Q_HO167 (hon 4 (by kernel_rfl)))
                    have HO171 := Aside0.mk (Q_HO171 (hon 13 (by kernel_rfl)))
                    refine value_ (w1 := w') (v := .int .i64 (wrap64 (Int.tmod (IntKind.u64.wrap (a2)) (IntKind.u64.wrap (t153))))) (wanted_on rfl rfl rfl (e70.trans (by first | rfl | (simp [*]; done)))) rfl ?_ ?_
                    · go_simp
                      (try simp only [i64_w])
                      try rfl
                    refine hK.out _ _ ⟨v166, v170, v174, v178, v183, (by rw [ha.out]; exact putSel_upk 10 hb_ rfl rfl rfl), Q_BK150, Q_BK162, Q_HB, Q_HO167, Q_HO171, fun h0_ => absurd ((hoff 21 (by kernel_rfl)).symm.trans h0_) (by decide), Q_HO179, fun h0_ => absurd ((hoff 39 (by kernel_rfl)).symm.trans h0_) (by decide)⟩
                  refine steps_cons ?_ ?_
                  · rintro b a w' ⟨v166, v170, v174, v178, v183, ha, Q_BK150, Q_BK162, Q_HB, Q_HO167, Q_HO171, Q_HO175, Q_HO179, Q_HO184⟩ hb_ hon hoff
                    refine ⟨_, rfl, fun K hK => ?_⟩
                    have e3 : a.tmps[3]? = some (.int .i64 (wrap64 (Int.tmod (IntKind.u64.wrap (a3)) (IntKind.u64.wrap (t153))))) := by rw [ha]; exact (putSel_off rfl).trans rfl
                    have e70 : a.tmps[70]? = some (.bool (t168 == t172)) := by rw [ha]; exact putSel_on (e := (16, 70, .bool (t168 == t172))) 7 rfl rfl (hon 16 (by kernel_rfl)) rfl
                    replace ha := Aside0.mk ha
                    have BK150 := Aside0.mk Q_BK150
                    have BK162 := Aside0.mk Q_BK162
                    have HB := Aside0.mk Q_HB
                    have HO167 := Aside0.mk (Q_HO167 (hon 4 (by kernel_rfl)))
                    have HO171 := Aside0.mk (Q_HO171 (hon 13 (by kernel_rfl)))
                    refine value_ (w1 := w') (v := .int .i64 (wrap64 (Int.tmod (IntKind.u64.wrap (a3)) (IntKind.u64.wrap (t153))))) (wanted_on rfl rfl rfl (e70.trans (by first | rfl | (simp [*]; done)))) rfl ?_ ?_
                    · go_simp
                      (try simp only [i64_w])
                      try rfl
                    refine hK.out _ _ ⟨v166, v170, v174, v178, v183, (by rw [ha.out]; exact putSel_upk 11 hb_ rfl rfl rfl), Q_BK150, Q_BK162, Q_HB, Q_HO167, Q_HO171, fun h0_ => absurd ((hoff 21 (by kernel_rfl)).symm.trans h0_) (by decide), Q_HO179, fun h0_ => absurd ((hoff 39 (by kernel_rfl)).symm.trans h0_) (by decide)⟩
                  refine steps_cons ?_ ?_
                  · rintro b a w' ⟨v166, v170, v174, v178, v183, ha, Q_BK150, Q_BK162, Q_HB, Q_HO167, Q_HO171, Q_HO175, Q_HO179, Q_HO184⟩ hb_ hon hoff
                    refine ⟨_, rfl, fun K hK => ?_⟩
                    have e73 : a.tmps[73]? = some (.int .i64 (wrap64 (Int.tmod (IntKind.u64.wrap (a2)) (IntKind.u64.wrap (t153))))) := by rw [ha]; exact putSel_on (e := (19, 73, .int .i64 (wrap64 (Int.tmod (IntKind.u64.wrap (a2)) (IntKind.u64.wrap (t153)))))) 10 rfl rfl (hon 19 (by kernel_rfl)) rfl
                    have e74 : a.tmps[74]? = some (.int .i64 (wrap64 (Int.tmod (IntKind.u64.wrap (a3)) (IntKind.u64.wrap (t153))))) := by rw [ha]; exact putSel_on (e := (20, 74, .int .i64 (wrap64 (Int.tmod (IntKind.u64.wrap (a3)) (IntKind.u64.wrap (t153)))))) 11 rfl rfl (hon 20 (by kernel_rfl)) rfl
                    have e70 : a.tmps[70]? = some (.bool (t168 == t172)) := by rw [ha]; exact putSel_on (e := (16, 70, .bool (t168 == t172))) 7 rfl rfl (hon 16 (by kernel_rfl)) rfl
                    replace ha := Aside0.mk ha
                    have BK150 := Aside0.mk Q_BK150
                    have BK162 := Aside0.mk Q_BK162
                    have HB := Aside0.mk Q_HB
                    have HO167 := Aside0.mk (Q_HO167 (hon 4 (by kernel_rfl)))
                    have HO171 := Aside0.mk (Q_HO171 (hon 13 (by kernel_rfl)))
                    refine Kd.R_lit_step (Kd.int .i64) _ 3 ?hg (N := 75) ?hd (xs := ([wrap64 (Int.tmod (IntKind.u64.wrap (a2)) (IntKind.u64.wrap (t153))), wrap64 (Int.tmod (IntKind.u64.wrap (a3)) (IntKind.u64.wrap (t153)))] : List Int)) (inner := [.int .i64 (wrap64 (Int.tmod (IntKind.u64.wrap (a2)) (IntKind.u64.wrap (t153)))), .int .i64 (wrap64 (Int.tmod (IntKind.u64.wrap (a3)) (IntKind.u64.wrap (t153))))]) (ok := fun _ => True) (okp := fun _ => True) ?hr ?hp (fun _ hk => hk) trivial (Below.refl _ _) (Nat.le_refl _) (by simp) ?_; (case hd => rfl); (case hg => first | rfl | exact (wanted_on rfl rfl rfl (e70.trans (by first | rfl | (simp [*]; done))))); (case hr => first | (go_simp; done) | (go_simp; rfl)); (case hp => exact (Reps.one (show Kd.M (Kd.int .i64) _ _ _ (wrap64 (Int.tmod (IntKind.u64.wrap (a2)) (IntKind.u64.wrap (t153)))) [.int .i64 (wrap64 (Int.tmod (IntKind.u64.wrap (a2)) (IntKind.u64.wrap (t153))))] from rfl) (Reps.one (show Kd.M (Kd.int .i64) _ _ _ (wrap64 (Int.tmod (IntKind.u64.wrap (a3)) (IntKind.u64.wrap (t153)))) [.int .i64 (wrap64 (Int.tmod (IntKind.u64.wrap (a3)) (IntKind.u64.wrap (t153))))] from rfl) (Reps.none _ _))))
                    intro v174 w47 ho48 hb hg_ hnew_
                    clear hg_ hnew_
                    (first | rw [← Ny173.out] at ho48 | (simp only [Int.reduceToNat] at ho48; rw [← Ny173.out] at ho48))
                    have n0_ := Aside0.mk (Kd.R_elder' (by (with_reducible repeat (first | apply Kd.R_alloc | apply Kd.R_drewN | apply Kd.R_drew)); first | exact HO167.out | exact Kd.R_mono HO167.out (fun _ hk => hk.1) | exact Kd.R_mono HO167.out (fun _ _ => trivial)) (Kd.R_base ho48) hb)
                    have n1_ := Aside0.mk (Kd.R_elder' (by (with_reducible repeat (first | apply Kd.R_alloc | apply Kd.R_drewN | apply Kd.R_drew)); first | exact HO171.out | exact Kd.R_mono HO171.out (fun _ hk => hk.1) | exact Kd.R_mono HO171.out (fun _ _ => trivial)) (Kd.R_base ho48) hb)
                    have n2_ := Aside0.mk (Kd.R_lower (Kd.R_new' (Kd.R_new' ho48 (Kd.R_lt (by (with_reducible repeat (first | apply Kd.R_alloc | apply Kd.R_drewN | apply Kd.R_drew)); first | exact HO167.out | exact Kd.R_mono HO167.out (fun _ hk => hk.1) | exact Kd.R_mono HO167.out (fun _ _ => trivial)))) (Kd.R_lt (by (with_reducible repeat (first | apply Kd.R_alloc | apply Kd.R_drewN | apply Kd.R_drew)); first | exact HO171.out | exact Kd.R_mono HO171.out (fun _ hk => hk.1) | exact Kd.R_mono HO171.out (fun _ _ => trivial)))) (below_size (by repeat (first | (with_reducible first | exact HB.out | apply below_alloc | apply pw_below_drewN | apply below_drew1 | refine below_set ?_ GE150.out | refine below_set ?_ GE162.out) | exact HB.out))))
                    have n3_ := Aside0.mk (blk_below (g := gb150) (o := .cells #[.int .i64 t151, .int .i64 t152, .int .i64 t153, .int .i64 t154, .int .u64 t155] 24 (0, 0)) (by (with_reducible repeat (first | refine blk_drewN ?_ _ | refine blk_drew ?_ | refine blk_alloc ?_ _)); exact BK150.out) hb)
                    have n4_ := Aside0.mk (blk_below (g := gb162) (o := .cells #[.int .i64 t156, .int .i64 t157, .int .i64 t158, .int .i64 t159, .int .u64 t160] 27 (0, 0)) (by (with_reducible repeat (first | refine blk_drewN ?_ _ | refine blk_drew ?_ | refine blk_alloc ?_ _)); exact BK162.out) hb)
                    have n5_ := Aside0.mk (below_step (by repeat (first | (with_reducible first | exact HB.out | apply below_alloc | apply pw_below_drewN | apply below_drew1 | refine below_set ?_ GE150.out | refine below_set ?_ GE162.out) | exact HB.out)) hb)
                    have z_HO179 := fun (h0_ : b 28 = true) => (show Kd.R (Kd.int .i64) 3 w47 w.heap.size (fun _ => True) v178 y177 from by first | exact (Kd.R_elder' (by (with_reducible repeat (first | apply Kd.R_alloc | apply Kd.R_drewN | apply Kd.R_drew)); exact (Q_HO179 h0_)) (Kd.R_base ho48) hb) | exact Kd.R_mono (Kd.R_elder' (by (with_reducible repeat (first | apply Kd.R_alloc | apply Kd.R_drewN | apply Kd.R_drew)); exact (Q_HO179 h0_)) (Kd.R_base ho48) hb) (fun _ h_ => by first | trivial | exact h_ | exact h_.1))
                    clear HO167
                    clear HO171
                    clear BK150
                    clear BK162
                    clear HB
                    have HO167 := n0_
                    have HO171 := n1_
                    have HO175 := n2_
                    have BK150 := n3_
                    have BK162 := n4_
                    have HB := n5_
                    clear n0_ n1_ n2_ n3_ n4_ n5_
                    clear hb ho48
                    refine hK.out _ _ ⟨v166, v170, v174, v178, v183, (by rw [ha.out]; exact putSel_upk 12 hb_ rfl rfl rfl), (by (with_reducible repeat (first | refine blk_drewN ?_ _ | refine blk_drew ?_ | refine blk_alloc ?_ _)); exact BK150.out), (by (with_reducible repeat (first | refine blk_drewN ?_ _ | refine blk_drew ?_ | refine blk_alloc ?_ _)); exact BK162.out), (by repeat (first | (with_reducible first | exact HB.out | apply below_alloc | apply pw_below_drewN | apply below_drew1 | refine below_set ?_ GE150.out | refine below_set ?_ GE162.out) | exact HB.out)), fun _ => (by (with_reducible repeat (first | apply Kd.R_alloc | apply Kd.R_drewN | apply Kd.R_drew)); first | exact HO167.out | exact Kd.R_mono HO167.out (fun _ hk => hk.1) | exact Kd.R_mono HO167.out (fun _ _ => trivial)), fun _ => (by (with_reducible repeat (first | apply Kd.R_alloc | apply Kd.R_drewN | apply Kd.R_drew)); first | exact HO171.out | exact Kd.R_mono HO171.out (fun _ hk => hk.1) | exact Kd.R_mono HO171.out (fun _ _ => trivial)), fun _ => (by (with_reducible repeat (first | apply Kd.R_alloc | apply Kd.R_drewN | apply Kd.R_drew)); first | exact Kd.R_mono HO175.out (fun _ hk => ⟨hk.1.2, hk.2⟩) | exact HO175.out | exact Kd.R_mono HO175.out (fun _ _ => trivial) | exact Kd.R_mono HO175.out (fun _ hk => hk.1)), z_HO179, fun h0_ => absurd ((hoff 39 (by kernel_rfl)).symm.trans h0_) (by decide)⟩
                  refine steps_cons ?_ ?_
                  · rintro b a w' ⟨v166, v170, v174, v178, v183, ha, Q_BK150, Q_BK162, Q_HB, Q_HO167, Q_HO171, Q_HO175, Q_HO179, Q_HO184⟩ hb_ hon hoff
                    refine ⟨_, rfl, fun K hK => ?_⟩
                    have e71 : a.tmps[71]? = some (.agg #[.int .i64 t156, .int .i64 t157, .int .i64 t158, .int .i64 t159, .int .u64 t160]) := by rw [ha]; exact putSel_on (e := (17, 71, .agg #[.int .i64 t156, .int .i64 t157, .int .i64 t158, .int .i64 t159, .int .u64 t160])) 8 rfl rfl (hon 17 (by kernel_rfl)) rfl
                    have e72 : a.tmps[72]? = some (.int .i64 (wrap64 (Int.tmod (IntKind.u64.wrap (a1)) (IntKind.u64.wrap (t164))))) := by rw [ha]; exact putSel_on (e := (18, 72, .int .i64 (wrap64 (Int.tmod (IntKind.u64.wrap (a1)) (IntKind.u64.wrap (t164)))))) 9 rfl rfl (hon 18 (by kernel_rfl)) rfl
                    have e75 : a.tmps[75]? = some (v174) := by rw [ha]; exact putSel_on (e := (21, 75, v174)) 12 rfl rfl (hon 21 (by kernel_rfl)) rfl
                    have e70 : a.tmps[70]? = some (.bool (t168 == t172)) := by rw [ha]; exact putSel_on (e := (16, 70, .bool (t168 == t172))) 7 rfl rfl (hon 16 (by kernel_rfl)) rfl
                    replace ha := Aside0.mk ha
                    have BK150 := Aside0.mk Q_BK150
                    have BK162 := Aside0.mk Q_BK162
                    have HB := Aside0.mk Q_HB
                    have HO167 := Aside0.mk (Q_HO167 (hon 4 (by kernel_rfl)))
                    have HO171 := Aside0.mk (Q_HO171 (hon 13 (by kernel_rfl)))
                    have HO175 := Aside0.mk (Q_HO175 (hon 21 (by kernel_rfl)))
                    obtain ⟨Ao49, co49, eo49⟩ := Kd.R_slice HO175.out
                    (first | subst eo49 | (injection eo49 with f1_ f2_ f3_; have f4_ := f1_.symm; have f5_ := f3_.symm; clear f1_ f2_ f3_; subst f4_; subst f5_))
                    refine goes_ Try.func12 (by kernel_rfl) rfl #[.agg #[.int .i64 t156, .int .i64 t157, .int .i64 t158, .int .i64 t159, .int .u64 t160], .int .i64 (wrap64 (Int.tmod (IntKind.u64.wrap (a1)) (IntKind.u64.wrap (t164)))), .slice Ao49 y173.length co49] (by first | rfl | exact (wanted_on rfl rfl rfl (e70.trans (by first | rfl | (simp [*]; done))))) rfl rfl (by first | (simp only [List.map_toArray, List.map_cons, List.map_nil, Act.eval, Array.getD_eq_getD_getElem?, Option.getD_some, e71, e72, e75, e70]; done) | (simp only [List.map_toArray, List.map_cons, List.map_nil, Act.eval, Array.getD_eq_getD_getElem?, Option.getD_some, e71, e72, e75, e70]; rfl)) ?_
                    with_reducible refine (duty_Deputy.calls kj7 t156 t157 t158 t159 t160 (wrap64 (Int.tmod (IntKind.u64.wrap (a1)) (IntKind.u64.wrap (t164)))) _ _ y173 t176 _ ?side1 ?side2 A28.out).mono ?_
                    (case side1 => repeat (first | exact (Kd.R_reads' HO175.out).2.2 | (with_reducible refine Kd.C_alloc ?_ _) | (with_reducible refine Kd.C_drewN ?_ _) | (with_reducible refine Kd.C_drew ?_)))
                    (case side2 => exact (Kd.R_reads' HO175.out).2.1)
                    rintro e w50 ⟨rfl, hb⟩
                    refine ⟨_, rfl, ?_⟩
                    have n0_ := Aside0.mk (Kd.R_below (by (with_reducible repeat (first | apply Kd.R_alloc | apply Kd.R_drewN | apply Kd.R_drew)); first | exact HO167.out | exact Kd.R_mono HO167.out (fun _ hk => hk.1) | exact Kd.R_mono HO167.out (fun _ _ => trivial)) hb)
                    have n1_ := Aside0.mk (Kd.R_below (by (with_reducible repeat (first | apply Kd.R_alloc | apply Kd.R_drewN | apply Kd.R_drew)); first | exact HO171.out | exact Kd.R_mono HO171.out (fun _ hk => hk.1) | exact Kd.R_mono HO171.out (fun _ _ => trivial)) hb)
                    have n2_ := Aside0.mk (Kd.R_below (by (with_reducible repeat (first | apply Kd.R_alloc | apply Kd.R_drewN | apply Kd.R_drew)); first | exact HO175.out | exact Kd.R_mono HO175.out (fun _ hk => hk.1) | exact Kd.R_mono HO175.out (fun _ _ => trivial)) hb)
                    have n3_ := Aside0.mk (blk_below (g := gb150) (o := .cells #[.int .i64 t151, .int .i64 t152, .int .i64 t153, .int .i64 t154, .int .u64 t155] 24 (0, 0)) (by (with_reducible repeat (first | refine blk_drewN ?_ _ | refine blk_drew ?_ | refine blk_alloc ?_ _)); exact BK150.out) hb)
                    have n4_ := Aside0.mk (blk_below (g := gb162) (o := .cells #[.int .i64 t156, .int .i64 t157, .int .i64 t158, .int .i64 t159, .int .u64 t160] 27 (0, 0)) (by (with_reducible repeat (first | refine blk_drewN ?_ _ | refine blk_drew ?_ | refine blk_alloc ?_ _)); exact BK162.out) hb)
                    have n5_ := Aside0.mk (below_step (by repeat (first | (with_reducible first | exact HB.out | apply below_alloc | apply pw_below_drewN | apply below_drew1 | refine below_set ?_ GE150.out | refine below_set ?_ GE162.out) | exact HB.out)) hb)
                    have z_HO179 := fun (h0_ : b 28 = true) => (show Kd.R (Kd.int .i64) 3 w50 w.heap.size (fun _ => True) v178 y177 from by first | exact (Kd.R_below (by (with_reducible repeat (first | apply Kd.R_alloc | apply Kd.R_drewN | apply Kd.R_drew)); exact (Q_HO179 h0_)) hb) | exact Kd.R_mono (Kd.R_below (by (with_reducible repeat (first | apply Kd.R_alloc | apply Kd.R_drewN | apply Kd.R_drew)); exact (Q_HO179 h0_)) hb) (fun _ h_ => by first | trivial | exact h_ | exact h_.1))
                    clear HO167
                    clear HO171
                    clear HO175
                    clear BK150
                    clear BK162
                    clear HB
                    have HO167 := n0_
                    have HO171 := n1_
                    have HO175 := n2_
                    have BK150 := n3_
                    have BK162 := n4_
                    have HB := n5_
                    clear n0_ n1_ n2_ n3_ n4_ n5_
                    (try clear hb)
                    (try clear hb2)
                    (try clear hk)
                    (try clear hi)
                    refine hK.out _ _ ⟨v166, v170, .slice Ao49 y173.length co49, v178, v183, (by rw [ha.out]; exact putSel_upk 13 hb_ rfl rfl rfl), (by (with_reducible repeat (first | refine blk_drewN ?_ _ | refine blk_drew ?_ | refine blk_alloc ?_ _)); exact BK150.out), (by (with_reducible repeat (first | refine blk_drewN ?_ _ | refine blk_drew ?_ | refine blk_alloc ?_ _)); exact BK162.out), (by repeat (first | (with_reducible first | exact HB.out | apply below_alloc | apply pw_below_drewN | apply below_drew1 | refine below_set ?_ GE150.out | refine below_set ?_ GE162.out) | exact HB.out)), fun _ => (by (with_reducible repeat (first | apply Kd.R_alloc | apply Kd.R_drewN | apply Kd.R_drew)); first | exact HO167.out | exact Kd.R_mono HO167.out (fun _ hk => hk.1) | exact Kd.R_mono HO167.out (fun _ _ => trivial)), fun _ => (by (with_reducible repeat (first | apply Kd.R_alloc | apply Kd.R_drewN | apply Kd.R_drew)); first | exact HO171.out | exact Kd.R_mono HO171.out (fun _ hk => hk.1) | exact Kd.R_mono HO171.out (fun _ _ => trivial)), fun _ => (by (with_reducible repeat (first | apply Kd.R_alloc | apply Kd.R_drewN | apply Kd.R_drew)); first | exact HO175.out | exact Kd.R_mono HO175.out (fun _ hk => hk.1) | exact Kd.R_mono HO175.out (fun _ _ => trivial)), z_HO179, fun h0_ => absurd ((hoff 39 (by kernel_rfl)).symm.trans h0_) (by decide)⟩
                  refine steps_cons ?_ ?_
                  · rintro b a w' ⟨v166, v170, v174, v178, v183, ha, Q_BK150, Q_BK162, Q_HB, Q_HO167, Q_HO171, Q_HO175, Q_HO179, Q_HO184⟩ hb_ hon hoff
                    refine ⟨_, rfl, fun K hK => ?_⟩
                    have e11 : a.tmps[11]? = some (.pointer (some ⟨gb162, 0, none⟩)) := by rw [ha]; exact (putSel_off rfl).trans rfl
                    have e70 : a.tmps[70]? = some (.bool (t168 == t172)) := by rw [ha]; exact putSel_on (e := (16, 70, .bool (t168 == t172))) 7 rfl rfl (hon 16 (by kernel_rfl)) rfl
                    replace ha := Aside0.mk ha
                    have BK150 := Aside0.mk Q_BK150
                    have BK162 := Aside0.mk Q_BK162
                    have HB := Aside0.mk Q_HB
                    have HO167 := Aside0.mk (Q_HO167 (hon 4 (by kernel_rfl)))
                    have HO171 := Aside0.mk (Q_HO171 (hon 13 (by kernel_rfl)))
                    have hc0_ : w'.cell? ⟨gb162, 0, none⟩ = some (.int .i64 t156) := (blk_cell BK162.out 0).trans rfl
                    have hc1_ : w'.cell? ⟨gb162, 1, none⟩ = some (.int .i64 t157) := (blk_cell BK162.out 1).trans rfl
                    have hc2_ : w'.cell? ⟨gb162, 2, none⟩ = some (.int .i64 t158) := (blk_cell BK162.out 2).trans rfl
                    have hc3_ : w'.cell? ⟨gb162, 3, none⟩ = some (.int .i64 t159) := (blk_cell BK162.out 3).trans rfl
                    have hc4_ : w'.cell? ⟨gb162, 4, none⟩ = some (.int .u64 t160) := (blk_cell BK162.out 4).trans rfl
                    refine value_ (w1 := w') (v := .agg #[.int .i64 t156, .int .i64 t157, .int .i64 t158, .int .i64 t159, .int .u64 t160]) (wanted_on rfl rfl rfl (e70.trans (by first | rfl | (simp [*]; done)))) rfl ?_ ?_
                    · go_simp
                      (try simp only [i64_w])
                      try rfl
                    refine hK.out _ _ ⟨v166, v170, v174, v178, v183, (by rw [ha.out]; exact putSel_upk 14 hb_ rfl rfl rfl), Q_BK150, Q_BK162, Q_HB, Q_HO167, Q_HO171, Q_HO175, Q_HO179, fun h0_ => absurd ((hoff 39 (by kernel_rfl)).symm.trans h0_) (by decide)⟩
                  refine steps_cons ?_ ?_
                  · rintro b a w' ⟨v166, v170, v174, v178, v183, ha, Q_BK150, Q_BK162, Q_HB, Q_HO167, Q_HO171, Q_HO175, Q_HO179, Q_HO184⟩ hb_ hon hoff
                    refine ⟨_, rfl, fun K hK => ?_⟩
                    have e1 : a.tmps[1]? = some (.int .i64 (wrap64 (Int.tmod (IntKind.u64.wrap (a1)) (IntKind.u64.wrap (t164))))) := by rw [ha]; exact (putSel_off rfl).trans rfl
                    have e70 : a.tmps[70]? = some (.bool (t168 == t172)) := by rw [ha]; exact putSel_on (e := (16, 70, .bool (t168 == t172))) 7 rfl rfl (hon 16 (by kernel_rfl)) rfl
                    replace ha := Aside0.mk ha
                    have BK150 := Aside0.mk Q_BK150
                    have BK162 := Aside0.mk Q_BK162
                    have HB := Aside0.mk Q_HB
                    have HO167 := Aside0.mk (Q_HO167 (hon 4 (by kernel_rfl)))
                    have HO171 := Aside0.mk (Q_HO171 (hon 13 (by kernel_rfl)))
                    refine value_ (w1 := w') (v := .int .i64 (wrap64 (Int.tmod (IntKind.u64.wrap (a1)) (IntKind.u64.wrap (t164))))) (wanted_on rfl rfl rfl (e70.trans (by first | rfl | (simp [*]; done)))) rfl ?_ ?_
                    · go_simp
                      (try simp only [i64_w])
                      try rfl
                    refine hK.out _ _ ⟨v166, v170, v174, v178, v183, (by rw [ha.out]; exact putSel_upk 15 hb_ rfl rfl rfl), Q_BK150, Q_BK162, Q_HB, Q_HO167, Q_HO171, Q_HO175, Q_HO179, fun h0_ => absurd ((hoff 39 (by kernel_rfl)).symm.trans h0_) (by decide)⟩
                  refine steps_cons ?_ ?_
                  · rintro b a w' ⟨v166, v170, v174, v178, v183, ha, Q_BK150, Q_BK162, Q_HB, Q_HO167, Q_HO171, Q_HO175, Q_HO179, Q_HO184⟩ hb_ hon hoff
                    refine ⟨_, rfl, fun K hK => ?_⟩
                    have e3 : a.tmps[3]? = some (.int .i64 (wrap64 (Int.tmod (IntKind.u64.wrap (a3)) (IntKind.u64.wrap (t153))))) := by rw [ha]; exact (putSel_off rfl).trans rfl
                    have e70 : a.tmps[70]? = some (.bool (t168 == t172)) := by rw [ha]; exact putSel_on (e := (16, 70, .bool (t168 == t172))) 7 rfl rfl (hon 16 (by kernel_rfl)) rfl
                    replace ha := Aside0.mk ha
                    have BK150 := Aside0.mk Q_BK150
                    have BK162 := Aside0.mk Q_BK162
                    have HB := Aside0.mk Q_HB
                    have HO167 := Aside0.mk (Q_HO167 (hon 4 (by kernel_rfl)))
                    have HO171 := Aside0.mk (Q_HO171 (hon 13 (by kernel_rfl)))
                    refine value_ (w1 := w') (v := .int .i64 (wrap64 (Int.tmod (IntKind.u64.wrap (a3)) (IntKind.u64.wrap (t153))))) (wanted_on rfl rfl rfl (e70.trans (by first | rfl | (simp [*]; done)))) rfl ?_ ?_
                    · go_simp
                      (try simp only [i64_w])
                      try rfl
                    refine hK.out _ _ ⟨v166, v170, v174, v178, v183, (by rw [ha.out]; exact putSel_upk 16 hb_ rfl rfl rfl), Q_BK150, Q_BK162, Q_HB, Q_HO167, Q_HO171, Q_HO175, fun h0_ => absurd ((hoff 28 (by kernel_rfl)).symm.trans h0_) (by decide), fun h0_ => absurd ((hoff 39 (by kernel_rfl)).symm.trans h0_) (by decide)⟩
                  refine steps_cons ?_ ?_
                  · rintro b a w' ⟨v166, v170, v174, v178, v183, ha, Q_BK150, Q_BK162, Q_HB, Q_HO167, Q_HO171, Q_HO175, Q_HO179, Q_HO184⟩ hb_ hon hoff
                    refine ⟨_, rfl, fun K hK => ?_⟩
                    have e2 : a.tmps[2]? = some (.int .i64 (wrap64 (Int.tmod (IntKind.u64.wrap (a2)) (IntKind.u64.wrap (t153))))) := by rw [ha]; exact (putSel_off rfl).trans rfl
                    have e70 : a.tmps[70]? = some (.bool (t168 == t172)) := by rw [ha]; exact putSel_on (e := (16, 70, .bool (t168 == t172))) 7 rfl rfl (hon 16 (by kernel_rfl)) rfl
                    replace ha := Aside0.mk ha
                    have BK150 := Aside0.mk Q_BK150
                    have BK162 := Aside0.mk Q_BK162
                    have HB := Aside0.mk Q_HB
                    have HO167 := Aside0.mk (Q_HO167 (hon 4 (by kernel_rfl)))
                    have HO171 := Aside0.mk (Q_HO171 (hon 13 (by kernel_rfl)))
                    refine value_ (w1 := w') (v := .int .i64 (wrap64 (Int.tmod (IntKind.u64.wrap (a2)) (IntKind.u64.wrap (t153))))) (wanted_on rfl rfl rfl (e70.trans (by first | rfl | (simp [*]; done)))) rfl ?_ ?_
                    · go_simp
                      (try simp only [i64_w])
                      try rfl
                    refine hK.out _ _ ⟨v166, v170, v174, v178, v183, (by rw [ha.out]; exact putSel_upk 17 hb_ rfl rfl rfl), Q_BK150, Q_BK162, Q_HB, Q_HO167, Q_HO171, Q_HO175, fun h0_ => absurd ((hoff 28 (by kernel_rfl)).symm.trans h0_) (by decide), fun h0_ => absurd ((hoff 39 (by kernel_rfl)).symm.trans h0_) (by decide)⟩
                  refine steps_cons ?_ ?_
                  · rintro b a w' ⟨v166, v170, v174, v178, v183, ha, Q_BK150, Q_BK162, Q_HB, Q_HO167, Q_HO171, Q_HO175, Q_HO179, Q_HO184⟩ hb_ hon hoff
                    refine ⟨_, rfl, fun K hK => ?_⟩
                    have e4 : a.tmps[4]? = some (.int .i64 (wrap64 (t153 + (wrap64 (Int.tmod (IntKind.u64.wrap (a4)) 100))))) := by rw [ha]; exact (putSel_off rfl).trans rfl
                    have e70 : a.tmps[70]? = some (.bool (t168 == t172)) := by rw [ha]; exact putSel_on (e := (16, 70, .bool (t168 == t172))) 7 rfl rfl (hon 16 (by kernel_rfl)) rfl
                    replace ha := Aside0.mk ha
                    have BK150 := Aside0.mk Q_BK150
                    have BK162 := Aside0.mk Q_BK162
                    have HB := Aside0.mk Q_HB
                    have HO167 := Aside0.mk (Q_HO167 (hon 4 (by kernel_rfl)))
                    have HO171 := Aside0.mk (Q_HO171 (hon 13 (by kernel_rfl)))
                    refine value_ (w1 := w') (v := .int .i64 (wrap64 (t153 + (wrap64 (Int.tmod (IntKind.u64.wrap (a4)) 100))))) (wanted_on rfl rfl rfl (e70.trans (by first | rfl | (simp [*]; done)))) rfl ?_ ?_
                    · go_simp
                      (try simp only [i64_w])
                      try rfl
                    refine hK.out _ _ ⟨v166, v170, v174, v178, v183, (by rw [ha.out]; exact putSel_upk 18 hb_ rfl rfl rfl), Q_BK150, Q_BK162, Q_HB, Q_HO167, Q_HO171, Q_HO175, fun h0_ => absurd ((hoff 28 (by kernel_rfl)).symm.trans h0_) (by decide), fun h0_ => absurd ((hoff 39 (by kernel_rfl)).symm.trans h0_) (by decide)⟩
                  refine steps_cons ?_ ?_
                  · rintro b a w' ⟨v166, v170, v174, v178, v183, ha, Q_BK150, Q_BK162, Q_HB, Q_HO167, Q_HO171, Q_HO175, Q_HO179, Q_HO184⟩ hb_ hon hoff
                    refine ⟨_, rfl, fun K hK => ?_⟩
                    have e79 : a.tmps[79]? = some (.int .i64 (wrap64 (Int.tmod (IntKind.u64.wrap (a3)) (IntKind.u64.wrap (t153))))) := by rw [ha]; exact putSel_on (e := (25, 79, .int .i64 (wrap64 (Int.tmod (IntKind.u64.wrap (a3)) (IntKind.u64.wrap (t153)))))) 16 rfl rfl (hon 25 (by kernel_rfl)) rfl
                    have e80 : a.tmps[80]? = some (.int .i64 (wrap64 (Int.tmod (IntKind.u64.wrap (a2)) (IntKind.u64.wrap (t153))))) := by rw [ha]; exact putSel_on (e := (26, 80, .int .i64 (wrap64 (Int.tmod (IntKind.u64.wrap (a2)) (IntKind.u64.wrap (t153)))))) 17 rfl rfl (hon 26 (by kernel_rfl)) rfl
                    have e81 : a.tmps[81]? = some (.int .i64 (wrap64 (t153 + (wrap64 (Int.tmod (IntKind.u64.wrap (a4)) 100))))) := by rw [ha]; exact putSel_on (e := (27, 81, .int .i64 (wrap64 (t153 + (wrap64 (Int.tmod (IntKind.u64.wrap (a4)) 100)))))) 18 rfl rfl (hon 27 (by kernel_rfl)) rfl
                    have e70 : a.tmps[70]? = some (.bool (t168 == t172)) := by rw [ha]; exact putSel_on (e := (16, 70, .bool (t168 == t172))) 7 rfl rfl (hon 16 (by kernel_rfl)) rfl
                    replace ha := Aside0.mk ha
                    have BK150 := Aside0.mk Q_BK150
                    have BK162 := Aside0.mk Q_BK162
                    have HB := Aside0.mk Q_HB
                    have HO167 := Aside0.mk (Q_HO167 (hon 4 (by kernel_rfl)))
                    have HO171 := Aside0.mk (Q_HO171 (hon 13 (by kernel_rfl)))
                    refine Kd.R_lit_step (Kd.int .i64) _ 3 ?hg (N := 82) ?hd (xs := ([wrap64 (Int.tmod (IntKind.u64.wrap (a3)) (IntKind.u64.wrap (t153))), wrap64 (Int.tmod (IntKind.u64.wrap (a2)) (IntKind.u64.wrap (t153))), wrap64 (t153 + (wrap64 (Int.tmod (IntKind.u64.wrap (a4)) 100)))] : List Int)) (inner := [.int .i64 (wrap64 (Int.tmod (IntKind.u64.wrap (a3)) (IntKind.u64.wrap (t153)))), .int .i64 (wrap64 (Int.tmod (IntKind.u64.wrap (a2)) (IntKind.u64.wrap (t153)))), .int .i64 (wrap64 (t153 + (wrap64 (Int.tmod (IntKind.u64.wrap (a4)) 100))))]) (ok := fun _ => True) (okp := fun _ => True) ?hr ?hp (fun _ hk => hk) trivial (Below.refl _ _) (Nat.le_refl _) (by simp) ?_; (case hd => rfl); (case hg => first | rfl | exact (wanted_on rfl rfl rfl (e70.trans (by first | rfl | (simp [*]; done))))); (case hr => first | (go_simp; done) | (go_simp; rfl)); (case hp => exact (Reps.one (show Kd.M (Kd.int .i64) _ _ _ (wrap64 (Int.tmod (IntKind.u64.wrap (a3)) (IntKind.u64.wrap (t153)))) [.int .i64 (wrap64 (Int.tmod (IntKind.u64.wrap (a3)) (IntKind.u64.wrap (t153))))] from rfl) (Reps.one (show Kd.M (Kd.int .i64) _ _ _ (wrap64 (Int.tmod (IntKind.u64.wrap (a2)) (IntKind.u64.wrap (t153)))) [.int .i64 (wrap64 (Int.tmod (IntKind.u64.wrap (a2)) (IntKind.u64.wrap (t153))))] from rfl) (Reps.one (show Kd.M (Kd.int .i64) _ _ _ (wrap64 (t153 + (wrap64 (Int.tmod (IntKind.u64.wrap (a4)) 100)))) [.int .i64 (wrap64 (t153 + (wrap64 (Int.tmod (IntKind.u64.wrap (a4)) 100))))] from rfl) (Reps.none _ _)))))
                    intro v178 w47 ho48 hb hg_ hnew_
                    clear hg_ hnew_
                    (first | rw [← Ny177.out] at ho48 | (simp only [Int.reduceToNat] at ho48; rw [← Ny177.out] at ho48))
                    have n0_ := Aside0.mk (Kd.R_elder' (by (with_reducible repeat (first | apply Kd.R_alloc | apply Kd.R_drewN | apply Kd.R_drew)); first | exact HO167.out | exact Kd.R_mono HO167.out (fun _ hk => hk.1) | exact Kd.R_mono HO167.out (fun _ _ => trivial)) (Kd.R_base ho48) hb)
                    have n1_ := Aside0.mk (Kd.R_elder' (by (with_reducible repeat (first | apply Kd.R_alloc | apply Kd.R_drewN | apply Kd.R_drew)); first | exact HO171.out | exact Kd.R_mono HO171.out (fun _ hk => hk.1) | exact Kd.R_mono HO171.out (fun _ _ => trivial)) (Kd.R_base ho48) hb)
                    have n2_ := Aside0.mk (Kd.R_lower (Kd.R_new' (Kd.R_new' ho48 (Kd.R_lt (by (with_reducible repeat (first | apply Kd.R_alloc | apply Kd.R_drewN | apply Kd.R_drew)); first | exact HO167.out | exact Kd.R_mono HO167.out (fun _ hk => hk.1) | exact Kd.R_mono HO167.out (fun _ _ => trivial)))) (Kd.R_lt (by (with_reducible repeat (first | apply Kd.R_alloc | apply Kd.R_drewN | apply Kd.R_drew)); first | exact HO171.out | exact Kd.R_mono HO171.out (fun _ hk => hk.1) | exact Kd.R_mono HO171.out (fun _ _ => trivial)))) (below_size (by repeat (first | (with_reducible first | exact HB.out | apply below_alloc | apply pw_below_drewN | apply below_drew1 | refine below_set ?_ GE150.out | refine below_set ?_ GE162.out) | exact HB.out))))
                    have n3_ := Aside0.mk (blk_below (g := gb150) (o := .cells #[.int .i64 t151, .int .i64 t152, .int .i64 t153, .int .i64 t154, .int .u64 t155] 24 (0, 0)) (by (with_reducible repeat (first | refine blk_drewN ?_ _ | refine blk_drew ?_ | refine blk_alloc ?_ _)); exact BK150.out) hb)
                    have n4_ := Aside0.mk (blk_below (g := gb162) (o := .cells #[.int .i64 t156, .int .i64 t157, .int .i64 t158, .int .i64 t159, .int .u64 t160] 27 (0, 0)) (by (with_reducible repeat (first | refine blk_drewN ?_ _ | refine blk_drew ?_ | refine blk_alloc ?_ _)); exact BK162.out) hb)
                    have n5_ := Aside0.mk (below_step (by repeat (first | (with_reducible first | exact HB.out | apply below_alloc | apply pw_below_drewN | apply below_drew1 | refine below_set ?_ GE150.out | refine below_set ?_ GE162.out) | exact HB.out)) hb)
                    have z_HO175 := fun (h0_ : b 21 = true) => (show Kd.R (Kd.int .i64) 3 w47 w.heap.size (fun _ => True) v174 y173 from by first | exact (Kd.R_elder' (by (with_reducible repeat (first | apply Kd.R_alloc | apply Kd.R_drewN | apply Kd.R_drew)); exact (Q_HO175 h0_)) (Kd.R_base ho48) hb) | exact Kd.R_mono (Kd.R_elder' (by (with_reducible repeat (first | apply Kd.R_alloc | apply Kd.R_drewN | apply Kd.R_drew)); exact (Q_HO175 h0_)) (Kd.R_base ho48) hb) (fun _ h_ => by first | trivial | exact h_ | exact h_.1))
                    clear HO167
                    clear HO171
                    clear BK150
                    clear BK162
                    clear HB
                    have HO167 := n0_
                    have HO171 := n1_
                    have HO179 := n2_
                    have BK150 := n3_
                    have BK162 := n4_
                    have HB := n5_
                    clear n0_ n1_ n2_ n3_ n4_ n5_
                    clear hb ho48
                    refine hK.out _ _ ⟨v166, v170, v174, v178, v183, (by rw [ha.out]; exact putSel_upk 19 hb_ rfl rfl rfl), (by (with_reducible repeat (first | refine blk_drewN ?_ _ | refine blk_drew ?_ | refine blk_alloc ?_ _)); exact BK150.out), (by (with_reducible repeat (first | refine blk_drewN ?_ _ | refine blk_drew ?_ | refine blk_alloc ?_ _)); exact BK162.out), (by repeat (first | (with_reducible first | exact HB.out | apply below_alloc | apply pw_below_drewN | apply below_drew1 | refine below_set ?_ GE150.out | refine below_set ?_ GE162.out) | exact HB.out)), fun _ => (by (with_reducible repeat (first | apply Kd.R_alloc | apply Kd.R_drewN | apply Kd.R_drew)); first | exact HO167.out | exact Kd.R_mono HO167.out (fun _ hk => hk.1) | exact Kd.R_mono HO167.out (fun _ _ => trivial)), fun _ => (by (with_reducible repeat (first | apply Kd.R_alloc | apply Kd.R_drewN | apply Kd.R_drew)); first | exact HO171.out | exact Kd.R_mono HO171.out (fun _ hk => hk.1) | exact Kd.R_mono HO171.out (fun _ _ => trivial)), z_HO175, fun _ => (by (with_reducible repeat (first | apply Kd.R_alloc | apply Kd.R_drewN | apply Kd.R_drew)); first | exact Kd.R_mono HO179.out (fun _ hk => ⟨hk.1.2, hk.2⟩) | exact HO179.out | exact Kd.R_mono HO179.out (fun _ _ => trivial) | exact Kd.R_mono HO179.out (fun _ hk => hk.1)), fun h0_ => absurd ((hoff 39 (by kernel_rfl)).symm.trans h0_) (by decide)⟩
                  refine steps_cons ?_ ?_
                  · rintro b a w' ⟨v166, v170, v174, v178, v183, ha, Q_BK150, Q_BK162, Q_HB, Q_HO167, Q_HO171, Q_HO175, Q_HO179, Q_HO184⟩ hb_ hon hoff
                    refine ⟨_, rfl, fun K hK => ?_⟩
                    have e77 : a.tmps[77]? = some (.agg #[.int .i64 t156, .int .i64 t157, .int .i64 t158, .int .i64 t159, .int .u64 t160]) := by rw [ha]; exact putSel_on (e := (23, 77, .agg #[.int .i64 t156, .int .i64 t157, .int .i64 t158, .int .i64 t159, .int .u64 t160])) 14 rfl rfl (hon 23 (by kernel_rfl)) rfl
                    have e78 : a.tmps[78]? = some (.int .i64 (wrap64 (Int.tmod (IntKind.u64.wrap (a1)) (IntKind.u64.wrap (t164))))) := by rw [ha]; exact putSel_on (e := (24, 78, .int .i64 (wrap64 (Int.tmod (IntKind.u64.wrap (a1)) (IntKind.u64.wrap (t164)))))) 15 rfl rfl (hon 24 (by kernel_rfl)) rfl
                    have e82 : a.tmps[82]? = some (v178) := by rw [ha]; exact putSel_on (e := (28, 82, v178)) 19 rfl rfl (hon 28 (by kernel_rfl)) rfl
                    have e70 : a.tmps[70]? = some (.bool (t168 == t172)) := by rw [ha]; exact putSel_on (e := (16, 70, .bool (t168 == t172))) 7 rfl rfl (hon 16 (by kernel_rfl)) rfl
                    replace ha := Aside0.mk ha
                    have BK150 := Aside0.mk Q_BK150
                    have BK162 := Aside0.mk Q_BK162
                    have HB := Aside0.mk Q_HB
                    have HO167 := Aside0.mk (Q_HO167 (hon 4 (by kernel_rfl)))
                    have HO171 := Aside0.mk (Q_HO171 (hon 13 (by kernel_rfl)))
                    have HO175 := Aside0.mk (Q_HO175 (hon 21 (by kernel_rfl)))
                    have HO179 := Aside0.mk (Q_HO179 (hon 28 (by kernel_rfl)))
                    obtain ⟨Ao53, co53, eo53⟩ := Kd.R_slice HO179.out
                    (first | subst eo53 | (injection eo53 with f1_ f2_ f3_; have f4_ := f1_.symm; have f5_ := f3_.symm; clear f1_ f2_ f3_; subst f4_; subst f5_))
                    refine goes_ Try.func12 (by kernel_rfl) rfl #[.agg #[.int .i64 t156, .int .i64 t157, .int .i64 t158, .int .i64 t159, .int .u64 t160], .int .i64 (wrap64 (Int.tmod (IntKind.u64.wrap (a1)) (IntKind.u64.wrap (t164)))), .slice Ao53 y177.length co53] (by first | rfl | exact (wanted_on rfl rfl rfl (e70.trans (by first | rfl | (simp [*]; done))))) rfl rfl (by first | (simp only [List.map_toArray, List.map_cons, List.map_nil, Act.eval, Array.getD_eq_getD_getElem?, Option.getD_some, e77, e78, e82, e70]; done) | (simp only [List.map_toArray, List.map_cons, List.map_nil, Act.eval, Array.getD_eq_getD_getElem?, Option.getD_some, e77, e78, e82, e70]; rfl)) ?_
                    with_reducible refine (duty_Deputy.calls kj7 t156 t157 t158 t159 t160 (wrap64 (Int.tmod (IntKind.u64.wrap (a1)) (IntKind.u64.wrap (t164)))) _ _ y177 t180 _ ?side1 ?side2 A29.out).mono ?_
                    (case side1 => repeat (first | exact (Kd.R_reads' HO179.out).2.2 | (with_reducible refine Kd.C_alloc ?_ _) | (with_reducible refine Kd.C_drewN ?_ _) | (with_reducible refine Kd.C_drew ?_)))
                    (case side2 => exact (Kd.R_reads' HO179.out).2.1)
                    rintro e w54 ⟨rfl, hb⟩
                    refine ⟨_, rfl, ?_⟩
                    have n0_ := Aside0.mk (Kd.R_below (by (with_reducible repeat (first | apply Kd.R_alloc | apply Kd.R_drewN | apply Kd.R_drew)); first | exact HO167.out | exact Kd.R_mono HO167.out (fun _ hk => hk.1) | exact Kd.R_mono HO167.out (fun _ _ => trivial)) hb)
                    have n1_ := Aside0.mk (Kd.R_below (by (with_reducible repeat (first | apply Kd.R_alloc | apply Kd.R_drewN | apply Kd.R_drew)); first | exact HO171.out | exact Kd.R_mono HO171.out (fun _ hk => hk.1) | exact Kd.R_mono HO171.out (fun _ _ => trivial)) hb)
                    have n2_ := Aside0.mk (Kd.R_below (by (with_reducible repeat (first | apply Kd.R_alloc | apply Kd.R_drewN | apply Kd.R_drew)); first | exact HO175.out | exact Kd.R_mono HO175.out (fun _ hk => hk.1) | exact Kd.R_mono HO175.out (fun _ _ => trivial)) hb)
                    have n3_ := Aside0.mk (Kd.R_below (by (with_reducible repeat (first | apply Kd.R_alloc | apply Kd.R_drewN | apply Kd.R_drew)); first | exact HO179.out | exact Kd.R_mono HO179.out (fun _ hk => hk.1) | exact Kd.R_mono HO179.out (fun _ _ => trivial)) hb)
                    have n4_ := Aside0.mk (blk_below (g := gb150) (o := .cells #[.int .i64 t151, .int .i64 t152, .int .i64 t153, .int .i64 t154, .int .u64 t155] 24 (0, 0)) (by (with_reducible repeat (first | refine blk_drewN ?_ _ | refine blk_drew ?_ | refine blk_alloc ?_ _)); exact BK150.out) hb)
                    have n5_ := Aside0.mk (blk_below (g := gb162) (o := .cells #[.int .i64 t156, .int .i64 t157, .int .i64 t158, .int .i64 t159, .int .u64 t160] 27 (0, 0)) (by (with_reducible repeat (first | refine blk_drewN ?_ _ | refine blk_drew ?_ | refine blk_alloc ?_ _)); exact BK162.out) hb)
                    have n6_ := Aside0.mk (below_step (by repeat (first | (with_reducible first | exact HB.out | apply below_alloc | apply pw_below_drewN | apply below_drew1 | refine below_set ?_ GE150.out | refine below_set ?_ GE162.out) | exact HB.out)) hb)
                    clear HO167
                    clear HO171
                    clear HO175
                    clear HO179
                    clear BK150
                    clear BK162
                    clear HB
                    have HO167 := n0_
                    have HO171 := n1_
                    have HO175 := n2_
                    have HO179 := n3_
                    have BK150 := n4_
                    have BK162 := n5_
                    have HB := n6_
                    clear n0_ n1_ n2_ n3_ n4_ n5_ n6_
                    (try clear hb)
                    (try clear hb2)
                    (try clear hk)
                    (try clear hi)
                    refine hK.out _ _ ⟨v166, v170, v174, .slice Ao53 y177.length co53, v183, (by rw [ha.out]; exact putSel_upk 20 hb_ rfl rfl rfl), (by (with_reducible repeat (first | refine blk_drewN ?_ _ | refine blk_drew ?_ | refine blk_alloc ?_ _)); exact BK150.out), (by (with_reducible repeat (first | refine blk_drewN ?_ _ | refine blk_drew ?_ | refine blk_alloc ?_ _)); exact BK162.out), (by repeat (first | (with_reducible first | exact HB.out | apply below_alloc | apply pw_below_drewN | apply below_drew1 | refine below_set ?_ GE150.out | refine below_set ?_ GE162.out) | exact HB.out)), fun _ => (by (with_reducible repeat (first | apply Kd.R_alloc | apply Kd.R_drewN | apply Kd.R_drew)); first | exact HO167.out | exact Kd.R_mono HO167.out (fun _ hk => hk.1) | exact Kd.R_mono HO167.out (fun _ _ => trivial)), fun _ => (by (with_reducible repeat (first | apply Kd.R_alloc | apply Kd.R_drewN | apply Kd.R_drew)); first | exact HO171.out | exact Kd.R_mono HO171.out (fun _ hk => hk.1) | exact Kd.R_mono HO171.out (fun _ _ => trivial)), fun _ => (by (with_reducible repeat (first | apply Kd.R_alloc | apply Kd.R_drewN | apply Kd.R_drew)); first | exact HO175.out | exact Kd.R_mono HO175.out (fun _ hk => hk.1) | exact Kd.R_mono HO175.out (fun _ _ => trivial)), fun _ => (by (with_reducible repeat (first | apply Kd.R_alloc | apply Kd.R_drewN | apply Kd.R_drew)); first | exact HO179.out | exact Kd.R_mono HO179.out (fun _ hk => hk.1) | exact Kd.R_mono HO179.out (fun _ _ => trivial)), fun h0_ => absurd ((hoff 39 (by kernel_rfl)).symm.trans h0_) (by decide)⟩
                  refine steps_cons ?_ ?_
                  · rintro b a w' ⟨v166, v170, v174, v178, v183, ha, Q_BK150, Q_BK162, Q_HB, Q_HO167, Q_HO171, Q_HO175, Q_HO179, Q_HO184⟩ hb_ hon hoff
                    refine ⟨_, rfl, fun K hK => ?_⟩
                    have e76 : a.tmps[76]? = some (.int .i64 t176) := by rw [ha]; exact putSel_on (e := (22, 76, .int .i64 t176)) 13 rfl rfl (hon 22 (by kernel_rfl)) rfl
                    have e83 : a.tmps[83]? = some (.int .i64 t180) := by rw [ha]; exact putSel_on (e := (29, 83, .int .i64 t180)) 20 rfl rfl (hon 29 (by kernel_rfl)) rfl
                    have e70 : a.tmps[70]? = some (.bool (t168 == t172)) := by rw [ha]; exact putSel_on (e := (16, 70, .bool (t168 == t172))) 7 rfl rfl (hon 16 (by kernel_rfl)) rfl
                    replace ha := Aside0.mk ha
                    have BK150 := Aside0.mk Q_BK150
                    have BK162 := Aside0.mk Q_BK162
                    have HB := Aside0.mk Q_HB
                    have HO167 := Aside0.mk (Q_HO167 (hon 4 (by kernel_rfl)))
                    have HO171 := Aside0.mk (Q_HO171 (hon 13 (by kernel_rfl)))
                    have HO175 := Aside0.mk (Q_HO175 (hon 21 (by kernel_rfl)))
                    have HO179 := Aside0.mk (Q_HO179 (hon 28 (by kernel_rfl)))
                    refine value_ (w1 := w') (v := .bool (t176 == t180)) (wanted_on rfl rfl rfl (e70.trans (by first | rfl | (simp [*]; done)))) rfl ?_ ?_
                    · go_simp
                      (try simp only [i64_w])
                      try rfl
                    refine hK.out _ _ ⟨v166, v170, v174, v178, v183, (by rw [ha.out]; exact putSel_upk 21 hb_ rfl rfl rfl), Q_BK150, Q_BK162, Q_HB, Q_HO167, Q_HO171, Q_HO175, Q_HO179, fun h0_ => absurd ((hoff 39 (by kernel_rfl)).symm.trans h0_) (by decide)⟩
                  refine steps_cons ?_ ?_
                  · rintro b a w' ⟨v166, v170, v174, v178, v183, ha, Q_BK150, Q_BK162, Q_HB, Q_HO167, Q_HO171, Q_HO175, Q_HO179, Q_HO184⟩ hb_ hon hoff
                    refine ⟨_, rfl, fun K hK => ?_⟩
                    have e70 : a.tmps[70]? = some (.bool (t168 == t172)) := by rw [ha]; exact putSel_on (e := (16, 70, .bool (t168 == t172))) 7 rfl rfl (hon 16 (by kernel_rfl)) rfl
                    have e84 : a.tmps[84]? = some (.bool (t176 == t180)) := by rw [ha]; exact putSel_on (e := (30, 84, .bool (t176 == t180))) 21 rfl rfl (hon 30 (by kernel_rfl)) rfl
                    replace ha := Aside0.mk ha
                    have BK150 := Aside0.mk Q_BK150
                    have BK162 := Aside0.mk Q_BK162
                    have HB := Aside0.mk Q_HB
                    have HO167 := Aside0.mk (Q_HO167 (hon 4 (by kernel_rfl)))
                    have HO171 := Aside0.mk (Q_HO171 (hon 13 (by kernel_rfl)))
                    have HO175 := Aside0.mk (Q_HO175 (hon 21 (by kernel_rfl)))
                    have HO179 := Aside0.mk (Q_HO179 (hon 28 (by kernel_rfl)))
                    refine value_ (w1 := w') (v := .bool (t176 == t180)) (by rfl) rfl ?_ ?_
                    · go_simp
                      (try simp only [i64_w])
                      try rfl
                    refine hK.out _ _ ⟨v166, v170, v174, v178, v183, (by rw [ha.out]; exact putSel_upk 22 hb_ rfl rfl rfl), Q_BK150, Q_BK162, Q_HB, Q_HO167, Q_HO171, Q_HO175, Q_HO179, fun h0_ => absurd ((hoff 39 (by kernel_rfl)).symm.trans h0_) (by decide)⟩
                  refine steps_cons ?_ ?_
                  · rintro b a w' ⟨v166, v170, v174, v178, v183, ha, Q_BK150, Q_BK162, Q_HB, Q_HO167, Q_HO171, Q_HO175, Q_HO179, Q_HO184⟩ hb_ hon hoff
                    refine ⟨_, rfl, fun K hK => ?_⟩
                    have e85 : a.tmps[85]? = some (.bool (t176 == t180)) := by rw [ha]; exact putSel_on (e := (31, 85, .bool (t176 == t180))) 22 rfl rfl (hon 31 (by kernel_rfl)) rfl
                    replace ha := Aside0.mk ha
                    have BK150 := Aside0.mk Q_BK150
                    have BK162 := Aside0.mk Q_BK162
                    have HB := Aside0.mk Q_HB
                    have HO167 := Aside0.mk (Q_HO167 (hon 4 (by kernel_rfl)))
                    have HO171 := Aside0.mk (Q_HO171 (hon 13 (by kernel_rfl)))
                    have HO175 := Aside0.mk (Q_HO175 (hon 21 (by kernel_rfl)))
                    have HO179 := Aside0.mk (Q_HO179 (hon 28 (by kernel_rfl)))
                    refine value_ (w1 := w') (v := .bool (t176 == t180)) (by rfl) rfl ?_ ?_
                    · go_simp
                      (try simp only [i64_w])
                      try rfl
                    refine hK.out _ _ ⟨v166, v170, v174, v178, v183, (by rw [ha.out]; exact putSel_upk 23 hb_ rfl rfl rfl), Q_BK150, Q_BK162, Q_HB, Q_HO167, Q_HO171, Q_HO175, Q_HO179, fun h0_ => absurd ((hoff 39 (by kernel_rfl)).symm.trans h0_) (by decide)⟩
                  refine steps_cons ?_ ?_
                  · rintro b a w' ⟨v166, v170, v174, v178, v183, ha, Q_BK150, Q_BK162, Q_HB, Q_HO167, Q_HO171, Q_HO175, Q_HO179, Q_HO184⟩ hb_ hon hoff
                    refine ⟨_, rfl, fun K hK => ?_⟩
                    have e11 : a.tmps[11]? = some (.pointer (some ⟨gb162, 0, none⟩)) := by rw [ha]; exact (putSel_off rfl).trans rfl
                    have e86 : a.tmps[86]? = some (.bool (t176 == t180)) := by rw [ha]; exact putSel_on (e := (32, 86, .bool (t176 == t180))) 23 rfl rfl (hon 32 (by kernel_rfl)) rfl
                    replace ha := Aside0.mk ha
                    have BK150 := Aside0.mk Q_BK150
                    have BK162 := Aside0.mk Q_BK162
                    have HB := Aside0.mk Q_HB
                    have HO167 := Aside0.mk (Q_HO167 (hon 4 (by kernel_rfl)))
                    have HO171 := Aside0.mk (Q_HO171 (hon 13 (by kernel_rfl)))
                    have HO175 := Aside0.mk (Q_HO175 (hon 21 (by kernel_rfl)))
                    have HO179 := Aside0.mk (Q_HO179 (hon 28 (by kernel_rfl)))
                    have hc0_ : w'.cell? ⟨gb162, 0, none⟩ = some (.int .i64 t156) := (blk_cell BK162.out 0).trans rfl
                    have hc1_ : w'.cell? ⟨gb162, 1, none⟩ = some (.int .i64 t157) := (blk_cell BK162.out 1).trans rfl
                    have hc2_ : w'.cell? ⟨gb162, 2, none⟩ = some (.int .i64 t158) := (blk_cell BK162.out 2).trans rfl
                    have hc3_ : w'.cell? ⟨gb162, 3, none⟩ = some (.int .i64 t159) := (blk_cell BK162.out 3).trans rfl
                    have hc4_ : w'.cell? ⟨gb162, 4, none⟩ = some (.int .u64 t160) := (blk_cell BK162.out 4).trans rfl
                    refine value_ (w1 := w') (v := .agg #[.int .i64 t156, .int .i64 t157, .int .i64 t158, .int .i64 t159, .int .u64 t160]) (wanted_on rfl rfl rfl (e86.trans (by first | rfl | (simp [*]; done)))) rfl ?_ ?_
                    · go_simp
                      (try simp only [i64_w])
                      try rfl
                    refine hK.out _ _ ⟨v166, v170, v174, v178, v183, (by rw [ha.out]; exact putSel_upk 24 hb_ rfl rfl rfl), Q_BK150, Q_BK162, Q_HB, Q_HO167, Q_HO171, Q_HO175, Q_HO179, Q_HO184⟩
                  refine steps_cons ?_ ?_
                  · rintro b a w' ⟨v166, v170, v174, v178, v183, ha, Q_BK150, Q_BK162, Q_HB, Q_HO167, Q_HO171, Q_HO175, Q_HO179, Q_HO184⟩ hb_ hon hoff
                    refine ⟨_, rfl, fun K hK => ?_⟩
                    have e1 : a.tmps[1]? = some (.int .i64 (wrap64 (Int.tmod (IntKind.u64.wrap (a1)) (IntKind.u64.wrap (t164))))) := by rw [ha]; exact (putSel_off rfl).trans rfl
                    have e86 : a.tmps[86]? = some (.bool (t176 == t180)) := by rw [ha]; exact putSel_on (e := (32, 86, .bool (t176 == t180))) 23 rfl rfl (hon 32 (by kernel_rfl)) rfl
                    replace ha := Aside0.mk ha
                    have BK150 := Aside0.mk Q_BK150
                    have BK162 := Aside0.mk Q_BK162
                    have HB := Aside0.mk Q_HB
                    have HO167 := Aside0.mk (Q_HO167 (hon 4 (by kernel_rfl)))
                    have HO171 := Aside0.mk (Q_HO171 (hon 13 (by kernel_rfl)))
                    have HO175 := Aside0.mk (Q_HO175 (hon 21 (by kernel_rfl)))
                    have HO179 := Aside0.mk (Q_HO179 (hon 28 (by kernel_rfl)))
                    refine value_ (w1 := w') (v := .int .i64 (wrap64 (Int.tmod (IntKind.u64.wrap (a1)) (IntKind.u64.wrap (t164))))) (wanted_on rfl rfl rfl (e86.trans (by first | rfl | (simp [*]; done)))) rfl ?_ ?_
                    · go_simp
                      (try simp only [i64_w])
                      try rfl
                    refine hK.out _ _ ⟨v166, v170, v174, v178, v183, (by rw [ha.out]; exact putSel_upk 25 hb_ rfl rfl rfl), Q_BK150, Q_BK162, Q_HB, Q_HO167, Q_HO171, Q_HO175, Q_HO179, Q_HO184⟩
                  refine steps_cons ?_ ?_
                  · rintro b a w' ⟨v166, v170, v174, v178, v183, ha, Q_BK150, Q_BK162, Q_HB, Q_HO167, Q_HO171, Q_HO175, Q_HO179, Q_HO184⟩ hb_ hon hoff
                    refine ⟨_, rfl, fun K hK => ?_⟩
                    have e87 : a.tmps[87]? = some (.agg #[.int .i64 t156, .int .i64 t157, .int .i64 t158, .int .i64 t159, .int .u64 t160]) := by rw [ha]; exact putSel_on (e := (33, 87, .agg #[.int .i64 t156, .int .i64 t157, .int .i64 t158, .int .i64 t159, .int .u64 t160])) 24 rfl rfl (hon 33 (by kernel_rfl)) rfl
                    have e88 : a.tmps[88]? = some (.int .i64 (wrap64 (Int.tmod (IntKind.u64.wrap (a1)) (IntKind.u64.wrap (t164))))) := by rw [ha]; exact putSel_on (e := (34, 88, .int .i64 (wrap64 (Int.tmod (IntKind.u64.wrap (a1)) (IntKind.u64.wrap (t164)))))) 25 rfl rfl (hon 34 (by kernel_rfl)) rfl
                    have e86 : a.tmps[86]? = some (.bool (t176 == t180)) := by rw [ha]; exact putSel_on (e := (32, 86, .bool (t176 == t180))) 23 rfl rfl (hon 32 (by kernel_rfl)) rfl
                    replace ha := Aside0.mk ha
                    have BK150 := Aside0.mk Q_BK150
                    have BK162 := Aside0.mk Q_BK162
                    have HB := Aside0.mk Q_HB
                    have HO167 := Aside0.mk (Q_HO167 (hon 4 (by kernel_rfl)))
                    have HO171 := Aside0.mk (Q_HO171 (hon 13 (by kernel_rfl)))
                    have HO175 := Aside0.mk (Q_HO175 (hon 21 (by kernel_rfl)))
                    have HO179 := Aside0.mk (Q_HO179 (hon 28 (by kernel_rfl)))
                    refine goes_ Try.func11 (by kernel_rfl) rfl #[.agg #[.int .i64 t156, .int .i64 t157, .int .i64 t158, .int .i64 t159, .int .u64 t160], .int .i64 (wrap64 (Int.tmod (IntKind.u64.wrap (a1)) (IntKind.u64.wrap (t164)))), .slice none 0 0] (by first | rfl | exact (wanted_on rfl rfl rfl (e86.trans (by first | rfl | (simp [*]; done))))) rfl rfl (by first | (simp only [List.map_toArray, List.map_cons, List.map_nil, Act.eval, Array.getD_eq_getD_getElem?, Option.getD_some, e87, e88, e86]; done) | (simp only [List.map_toArray, List.map_cons, List.map_nil, Act.eval, Array.getD_eq_getD_getElem?, Option.getD_some, e87, e88, e86]; rfl)) ?_
                    refine (duty_Host.calls kj7 t156 t157 t158 t159 t160 (wrap64 (Int.tmod (IntKind.u64.wrap (a1)) (IntKind.u64.wrap (t164)))) _ _ ([] : List Int) t181 _ ?side1 ?side2 A31.out).mono ?_
                    (case side1 => exact Kd.C_nil _ _)
                    (case side2 => exact Nat.le_refl _)
                    rintro e w55 ⟨rfl, hb⟩
                    refine ⟨_, rfl, ?_⟩
                    have n0_ := Aside0.mk (Kd.R_below (by (with_reducible repeat (first | apply Kd.R_alloc | apply Kd.R_drewN | apply Kd.R_drew)); first | exact HO167.out | exact Kd.R_mono HO167.out (fun _ hk => hk.1) | exact Kd.R_mono HO167.out (fun _ _ => trivial)) hb)
                    have n1_ := Aside0.mk (Kd.R_below (by (with_reducible repeat (first | apply Kd.R_alloc | apply Kd.R_drewN | apply Kd.R_drew)); first | exact HO171.out | exact Kd.R_mono HO171.out (fun _ hk => hk.1) | exact Kd.R_mono HO171.out (fun _ _ => trivial)) hb)
                    have n2_ := Aside0.mk (Kd.R_below (by (with_reducible repeat (first | apply Kd.R_alloc | apply Kd.R_drewN | apply Kd.R_drew)); first | exact HO175.out | exact Kd.R_mono HO175.out (fun _ hk => hk.1) | exact Kd.R_mono HO175.out (fun _ _ => trivial)) hb)
                    have n3_ := Aside0.mk (Kd.R_below (by (with_reducible repeat (first | apply Kd.R_alloc | apply Kd.R_drewN | apply Kd.R_drew)); first | exact HO179.out | exact Kd.R_mono HO179.out (fun _ hk => hk.1) | exact Kd.R_mono HO179.out (fun _ _ => trivial)) hb)
                    have n4_ := Aside0.mk (blk_below (g := gb150) (o := .cells #[.int .i64 t151, .int .i64 t152, .int .i64 t153, .int .i64 t154, .int .u64 t155] 24 (0, 0)) (by (with_reducible repeat (first | refine blk_drewN ?_ _ | refine blk_drew ?_ | refine blk_alloc ?_ _)); exact BK150.out) hb)
                    have n5_ := Aside0.mk (blk_below (g := gb162) (o := .cells #[.int .i64 t156, .int .i64 t157, .int .i64 t158, .int .i64 t159, .int .u64 t160] 27 (0, 0)) (by (with_reducible repeat (first | refine blk_drewN ?_ _ | refine blk_drew ?_ | refine blk_alloc ?_ _)); exact BK162.out) hb)
                    have n6_ := Aside0.mk (below_step (by repeat (first | (with_reducible first | exact HB.out | apply below_alloc | apply pw_below_drewN | apply below_drew1 | refine below_set ?_ GE150.out | refine below_set ?_ GE162.out) | exact HB.out)) hb)
                    have z_HO184 := fun (h0_ : b 39 = true) => (show Kd.R (Kd.int .i64) 3 w55 w.heap.size (fun _ => True) v183 y182 from by first | exact (Kd.R_below (by (with_reducible repeat (first | apply Kd.R_alloc | apply Kd.R_drewN | apply Kd.R_drew)); exact (Q_HO184 h0_)) hb) | exact Kd.R_mono (Kd.R_below (by (with_reducible repeat (first | apply Kd.R_alloc | apply Kd.R_drewN | apply Kd.R_drew)); exact (Q_HO184 h0_)) hb) (fun _ h_ => by first | trivial | exact h_ | exact h_.1))
                    clear HO167
                    clear HO171
                    clear HO175
                    clear HO179
                    clear BK150
                    clear BK162
                    clear HB
                    have HO167 := n0_
                    have HO171 := n1_
                    have HO175 := n2_
                    have HO179 := n3_
                    have BK150 := n4_
                    have BK162 := n5_
                    have HB := n6_
                    clear n0_ n1_ n2_ n3_ n4_ n5_ n6_
                    (try clear hb)
                    (try clear hb2)
                    (try clear hk)
                    (try clear hi)
                    refine hK.out _ _ ⟨v166, v170, v174, v178, v183, (by rw [ha.out]; exact putSel_upk 26 hb_ rfl rfl rfl), (by (with_reducible repeat (first | refine blk_drewN ?_ _ | refine blk_drew ?_ | refine blk_alloc ?_ _)); exact BK150.out), (by (with_reducible repeat (first | refine blk_drewN ?_ _ | refine blk_drew ?_ | refine blk_alloc ?_ _)); exact BK162.out), (by repeat (first | (with_reducible first | exact HB.out | apply below_alloc | apply pw_below_drewN | apply below_drew1 | refine below_set ?_ GE150.out | refine below_set ?_ GE162.out) | exact HB.out)), fun _ => (by (with_reducible repeat (first | apply Kd.R_alloc | apply Kd.R_drewN | apply Kd.R_drew)); first | exact HO167.out | exact Kd.R_mono HO167.out (fun _ hk => hk.1) | exact Kd.R_mono HO167.out (fun _ _ => trivial)), fun _ => (by (with_reducible repeat (first | apply Kd.R_alloc | apply Kd.R_drewN | apply Kd.R_drew)); first | exact HO171.out | exact Kd.R_mono HO171.out (fun _ hk => hk.1) | exact Kd.R_mono HO171.out (fun _ _ => trivial)), fun _ => (by (with_reducible repeat (first | apply Kd.R_alloc | apply Kd.R_drewN | apply Kd.R_drew)); first | exact HO175.out | exact Kd.R_mono HO175.out (fun _ hk => hk.1) | exact Kd.R_mono HO175.out (fun _ _ => trivial)), fun _ => (by (with_reducible repeat (first | apply Kd.R_alloc | apply Kd.R_drewN | apply Kd.R_drew)); first | exact HO179.out | exact Kd.R_mono HO179.out (fun _ hk => hk.1) | exact Kd.R_mono HO179.out (fun _ _ => trivial)), z_HO184⟩
                  refine steps_cons ?_ ?_
                  · rintro b a w' ⟨v166, v170, v174, v178, v183, ha, Q_BK150, Q_BK162, Q_HB, Q_HO167, Q_HO171, Q_HO175, Q_HO179, Q_HO184⟩ hb_ hon hoff
                    refine ⟨_, rfl, fun K hK => ?_⟩
                    have e11 : a.tmps[11]? = some (.pointer (some ⟨gb162, 0, none⟩)) := by rw [ha]; exact (putSel_off rfl).trans rfl
                    have e86 : a.tmps[86]? = some (.bool (t176 == t180)) := by rw [ha]; exact putSel_on (e := (32, 86, .bool (t176 == t180))) 23 rfl rfl (hon 32 (by kernel_rfl)) rfl
                    replace ha := Aside0.mk ha
                    have BK150 := Aside0.mk Q_BK150
                    have BK162 := Aside0.mk Q_BK162
                    have HB := Aside0.mk Q_HB
                    have HO167 := Aside0.mk (Q_HO167 (hon 4 (by kernel_rfl)))
                    have HO171 := Aside0.mk (Q_HO171 (hon 13 (by kernel_rfl)))
                    have HO175 := Aside0.mk (Q_HO175 (hon 21 (by kernel_rfl)))
                    have HO179 := Aside0.mk (Q_HO179 (hon 28 (by kernel_rfl)))
                    have hc0_ : w'.cell? ⟨gb162, 0, none⟩ = some (.int .i64 t156) := (blk_cell BK162.out 0).trans rfl
                    have hc1_ : w'.cell? ⟨gb162, 1, none⟩ = some (.int .i64 t157) := (blk_cell BK162.out 1).trans rfl
                    have hc2_ : w'.cell? ⟨gb162, 2, none⟩ = some (.int .i64 t158) := (blk_cell BK162.out 2).trans rfl
                    have hc3_ : w'.cell? ⟨gb162, 3, none⟩ = some (.int .i64 t159) := (blk_cell BK162.out 3).trans rfl
                    have hc4_ : w'.cell? ⟨gb162, 4, none⟩ = some (.int .u64 t160) := (blk_cell BK162.out 4).trans rfl
                    refine value_ (w1 := w') (v := .agg #[.int .i64 t156, .int .i64 t157, .int .i64 t158, .int .i64 t159, .int .u64 t160]) (wanted_on rfl rfl rfl (e86.trans (by first | rfl | (simp [*]; done)))) rfl ?_ ?_
                    · go_simp
                      (try simp only [i64_w])
                      try rfl
                    refine hK.out _ _ ⟨v166, v170, v174, v178, v183, (by rw [ha.out]; exact putSel_upk 27 hb_ rfl rfl rfl), Q_BK150, Q_BK162, Q_HB, Q_HO167, Q_HO171, Q_HO175, Q_HO179, Q_HO184⟩
                  refine steps_cons ?_ ?_
                  · rintro b a w' ⟨v166, v170, v174, v178, v183, ha, Q_BK150, Q_BK162, Q_HB, Q_HO167, Q_HO171, Q_HO175, Q_HO179, Q_HO184⟩ hb_ hon hoff
                    refine ⟨_, rfl, fun K hK => ?_⟩
                    have e1 : a.tmps[1]? = some (.int .i64 (wrap64 (Int.tmod (IntKind.u64.wrap (a1)) (IntKind.u64.wrap (t164))))) := by rw [ha]; exact (putSel_off rfl).trans rfl
                    have e86 : a.tmps[86]? = some (.bool (t176 == t180)) := by rw [ha]; exact putSel_on (e := (32, 86, .bool (t176 == t180))) 23 rfl rfl (hon 32 (by kernel_rfl)) rfl
                    replace ha := Aside0.mk ha
                    have BK150 := Aside0.mk Q_BK150
                    have BK162 := Aside0.mk Q_BK162
                    have HB := Aside0.mk Q_HB
                    have HO167 := Aside0.mk (Q_HO167 (hon 4 (by kernel_rfl)))
                    have HO171 := Aside0.mk (Q_HO171 (hon 13 (by kernel_rfl)))
                    have HO175 := Aside0.mk (Q_HO175 (hon 21 (by kernel_rfl)))
                    have HO179 := Aside0.mk (Q_HO179 (hon 28 (by kernel_rfl)))
                    refine value_ (w1 := w') (v := .int .i64 (wrap64 (Int.tmod (IntKind.u64.wrap (a1)) (IntKind.u64.wrap (t164))))) (wanted_on rfl rfl rfl (e86.trans (by first | rfl | (simp [*]; done)))) rfl ?_ ?_
                    · go_simp
                      (try simp only [i64_w])
                      try rfl
                    refine hK.out _ _ ⟨v166, v170, v174, v178, v183, (by rw [ha.out]; exact putSel_upk 28 hb_ rfl rfl rfl), Q_BK150, Q_BK162, Q_HB, Q_HO167, Q_HO171, Q_HO175, Q_HO179, Q_HO184⟩
                  refine steps_cons ?_ ?_
                  · rintro b a w' ⟨v166, v170, v174, v178, v183, ha, Q_BK150, Q_BK162, Q_HB, Q_HO167, Q_HO171, Q_HO175, Q_HO179, Q_HO184⟩ hb_ hon hoff
                    refine ⟨_, rfl, fun K hK => ?_⟩
                    have e4 : a.tmps[4]? = some (.int .i64 (wrap64 (t153 + (wrap64 (Int.tmod (IntKind.u64.wrap (a4)) 100))))) := by rw [ha]; exact (putSel_off rfl).trans rfl
                    have e86 : a.tmps[86]? = some (.bool (t176 == t180)) := by rw [ha]; exact putSel_on (e := (32, 86, .bool (t176 == t180))) 23 rfl rfl (hon 32 (by kernel_rfl)) rfl
                    replace ha := Aside0.mk ha
                    have BK150 := Aside0.mk Q_BK150
                    have BK162 := Aside0.mk Q_BK162
                    have HB := Aside0.mk Q_HB
                    have HO167 := Aside0.mk (Q_HO167 (hon 4 (by kernel_rfl)))
                    have HO171 := Aside0.mk (Q_HO171 (hon 13 (by kernel_rfl)))
                    have HO175 := Aside0.mk (Q_HO175 (hon 21 (by kernel_rfl)))
                    have HO179 := Aside0.mk (Q_HO179 (hon 28 (by kernel_rfl)))
                    refine value_ (w1 := w') (v := .int .i64 (wrap64 (t153 + (wrap64 (Int.tmod (IntKind.u64.wrap (a4)) 100))))) (wanted_on rfl rfl rfl (e86.trans (by first | rfl | (simp [*]; done)))) rfl ?_ ?_
                    · go_simp
                      (try simp only [i64_w])
                      try rfl
                    refine hK.out _ _ ⟨v166, v170, v174, v178, v183, (by rw [ha.out]; exact putSel_upk 29 hb_ rfl rfl rfl), Q_BK150, Q_BK162, Q_HB, Q_HO167, Q_HO171, Q_HO175, Q_HO179, fun h0_ => absurd ((hoff 39 (by kernel_rfl)).symm.trans h0_) (by decide)⟩
                  refine steps_cons ?_ ?_
                  · rintro b a w' ⟨v166, v170, v174, v178, v183, ha, Q_BK150, Q_BK162, Q_HB, Q_HO167, Q_HO171, Q_HO175, Q_HO179, Q_HO184⟩ hb_ hon hoff
                    refine ⟨_, rfl, fun K hK => ?_⟩
                    have e92 : a.tmps[92]? = some (.int .i64 (wrap64 (t153 + (wrap64 (Int.tmod (IntKind.u64.wrap (a4)) 100))))) := by rw [ha]; exact putSel_on (e := (38, 92, .int .i64 (wrap64 (t153 + (wrap64 (Int.tmod (IntKind.u64.wrap (a4)) 100)))))) 29 rfl rfl (hon 38 (by kernel_rfl)) rfl
                    have e86 : a.tmps[86]? = some (.bool (t176 == t180)) := by rw [ha]; exact putSel_on (e := (32, 86, .bool (t176 == t180))) 23 rfl rfl (hon 32 (by kernel_rfl)) rfl
                    replace ha := Aside0.mk ha
                    have BK150 := Aside0.mk Q_BK150
                    have BK162 := Aside0.mk Q_BK162
                    have HB := Aside0.mk Q_HB
                    have HO167 := Aside0.mk (Q_HO167 (hon 4 (by kernel_rfl)))
                    have HO171 := Aside0.mk (Q_HO171 (hon 13 (by kernel_rfl)))
                    have HO175 := Aside0.mk (Q_HO175 (hon 21 (by kernel_rfl)))
                    have HO179 := Aside0.mk (Q_HO179 (hon 28 (by kernel_rfl)))
                    refine Kd.R_lit_step (Kd.int .i64) _ 3 ?hg (N := 93) ?hd (xs := ([wrap64 (t153 + (wrap64 (Int.tmod (IntKind.u64.wrap (a4)) 100)))] : List Int)) (inner := [.int .i64 (wrap64 (t153 + (wrap64 (Int.tmod (IntKind.u64.wrap (a4)) 100))))]) (ok := fun _ => True) (okp := fun _ => True) ?hr ?hp (fun _ hk => hk) trivial (Below.refl _ _) (Nat.le_refl _) (by simp) ?_; (case hd => rfl); (case hg => first | rfl | exact (wanted_on rfl rfl rfl (e86.trans (by first | rfl | (simp [*]; done))))); (case hr => first | (go_simp; done) | (go_simp; rfl)); (case hp => exact (Reps.one (show Kd.M (Kd.int .i64) _ _ _ (wrap64 (t153 + (wrap64 (Int.tmod (IntKind.u64.wrap (a4)) 100)))) [.int .i64 (wrap64 (t153 + (wrap64 (Int.tmod (IntKind.u64.wrap (a4)) 100))))] from rfl) (Reps.none _ _)))
                    intro v183 w55 ho56 hb hg_ hnew_
                    clear hg_ hnew_
                    (first | rw [← Ny182.out] at ho56 | (simp only [Int.reduceToNat] at ho56; rw [← Ny182.out] at ho56))
                    have n0_ := Aside0.mk (Kd.R_elder' (by (with_reducible repeat (first | apply Kd.R_alloc | apply Kd.R_drewN | apply Kd.R_drew)); first | exact HO167.out | exact Kd.R_mono HO167.out (fun _ hk => hk.1) | exact Kd.R_mono HO167.out (fun _ _ => trivial)) (Kd.R_base ho56) hb)
                    have n1_ := Aside0.mk (Kd.R_elder' (by (with_reducible repeat (first | apply Kd.R_alloc | apply Kd.R_drewN | apply Kd.R_drew)); first | exact HO171.out | exact Kd.R_mono HO171.out (fun _ hk => hk.1) | exact Kd.R_mono HO171.out (fun _ _ => trivial)) (Kd.R_base ho56) hb)
                    have n2_ := Aside0.mk (Kd.R_elder' (by (with_reducible repeat (first | apply Kd.R_alloc | apply Kd.R_drewN | apply Kd.R_drew)); first | exact HO175.out | exact Kd.R_mono HO175.out (fun _ hk => hk.1) | exact Kd.R_mono HO175.out (fun _ _ => trivial)) (Kd.R_base ho56) hb)
                    have n3_ := Aside0.mk (Kd.R_elder' (by (with_reducible repeat (first | apply Kd.R_alloc | apply Kd.R_drewN | apply Kd.R_drew)); first | exact HO179.out | exact Kd.R_mono HO179.out (fun _ hk => hk.1) | exact Kd.R_mono HO179.out (fun _ _ => trivial)) (Kd.R_base ho56) hb)
                    have n4_ := Aside0.mk (Kd.R_lower (Kd.R_new' (Kd.R_new' (Kd.R_new' (Kd.R_new' ho56 (Kd.R_lt (by (with_reducible repeat (first | apply Kd.R_alloc | apply Kd.R_drewN | apply Kd.R_drew)); first | exact HO167.out | exact Kd.R_mono HO167.out (fun _ hk => hk.1) | exact Kd.R_mono HO167.out (fun _ _ => trivial)))) (Kd.R_lt (by (with_reducible repeat (first | apply Kd.R_alloc | apply Kd.R_drewN | apply Kd.R_drew)); first | exact HO171.out | exact Kd.R_mono HO171.out (fun _ hk => hk.1) | exact Kd.R_mono HO171.out (fun _ _ => trivial)))) (Kd.R_lt (by (with_reducible repeat (first | apply Kd.R_alloc | apply Kd.R_drewN | apply Kd.R_drew)); first | exact HO175.out | exact Kd.R_mono HO175.out (fun _ hk => hk.1) | exact Kd.R_mono HO175.out (fun _ _ => trivial)))) (Kd.R_lt (by (with_reducible repeat (first | apply Kd.R_alloc | apply Kd.R_drewN | apply Kd.R_drew)); first | exact HO179.out | exact Kd.R_mono HO179.out (fun _ hk => hk.1) | exact Kd.R_mono HO179.out (fun _ _ => trivial)))) (below_size (by repeat (first | (with_reducible first | exact HB.out | apply below_alloc | apply pw_below_drewN | apply below_drew1 | refine below_set ?_ GE150.out | refine below_set ?_ GE162.out) | exact HB.out))))
                    have n5_ := Aside0.mk (blk_below (g := gb150) (o := .cells #[.int .i64 t151, .int .i64 t152, .int .i64 t153, .int .i64 t154, .int .u64 t155] 24 (0, 0)) (by (with_reducible repeat (first | refine blk_drewN ?_ _ | refine blk_drew ?_ | refine blk_alloc ?_ _)); exact BK150.out) hb)
                    have n6_ := Aside0.mk (blk_below (g := gb162) (o := .cells #[.int .i64 t156, .int .i64 t157, .int .i64 t158, .int .i64 t159, .int .u64 t160] 27 (0, 0)) (by (with_reducible repeat (first | refine blk_drewN ?_ _ | refine blk_drew ?_ | refine blk_alloc ?_ _)); exact BK162.out) hb)
                    have n7_ := Aside0.mk (below_step (by repeat (first | (with_reducible first | exact HB.out | apply below_alloc | apply pw_below_drewN | apply below_drew1 | refine below_set ?_ GE150.out | refine below_set ?_ GE162.out) | exact HB.out)) hb)
                    clear HO167
                    clear HO171
                    clear HO175
                    clear HO179
                    clear BK150
                    clear BK162
                    clear HB
                    have HO167 := n0_
                    have HO171 := n1_
                    have HO175 := n2_
                    have HO179 := n3_
                    have HO184 := n4_
                    have BK150 := n5_
                    have BK162 := n6_
                    have HB := n7_
                    clear n0_ n1_ n2_ n3_ n4_ n5_ n6_ n7_
                    clear hb ho56
                    refine hK.out _ _ ⟨v166, v170, v174, v178, v183, (by rw [ha.out]; exact putSel_upk 30 hb_ rfl rfl rfl), (by (with_reducible repeat (first | refine blk_drewN ?_ _ | refine blk_drew ?_ | refine blk_alloc ?_ _)); exact BK150.out), (by (with_reducible repeat (first | refine blk_drewN ?_ _ | refine blk_drew ?_ | refine blk_alloc ?_ _)); exact BK162.out), (by repeat (first | (with_reducible first | exact HB.out | apply below_alloc | apply pw_below_drewN | apply below_drew1 | refine below_set ?_ GE150.out | refine below_set ?_ GE162.out) | exact HB.out)), fun _ => (by (with_reducible repeat (first | apply Kd.R_alloc | apply Kd.R_drewN | apply Kd.R_drew)); first | exact Kd.R_mono HO167.out (fun _ hk => ⟨hk.1.1, ⟨hk.1.2.1, ⟨hk.1.2.2, hk.2⟩⟩⟩) | exact HO167.out | exact Kd.R_mono HO167.out (fun _ _ => trivial) | exact Kd.R_mono HO167.out (fun _ hk => hk.1)), fun _ => (by (with_reducible repeat (first | apply Kd.R_alloc | apply Kd.R_drewN | apply Kd.R_drew)); first | exact Kd.R_mono HO171.out (fun _ hk => ⟨hk.1.1, ⟨hk.1.2.1, ⟨hk.1.2.2, hk.2⟩⟩⟩) | exact HO171.out | exact Kd.R_mono HO171.out (fun _ _ => trivial) | exact Kd.R_mono HO171.out (fun _ hk => hk.1)), fun _ => (by (with_reducible repeat (first | apply Kd.R_alloc | apply Kd.R_drewN | apply Kd.R_drew)); first | exact Kd.R_mono HO175.out (fun _ hk => ⟨hk.1.1, ⟨hk.1.2.1, ⟨hk.1.2.2, hk.2⟩⟩⟩) | exact HO175.out | exact Kd.R_mono HO175.out (fun _ _ => trivial) | exact Kd.R_mono HO175.out (fun _ hk => hk.1)), fun _ => (by (with_reducible repeat (first | apply Kd.R_alloc | apply Kd.R_drewN | apply Kd.R_drew)); first | exact Kd.R_mono HO179.out (fun _ hk => ⟨hk.1.1, ⟨hk.1.2.1, ⟨hk.1.2.2, hk.2⟩⟩⟩) | exact HO179.out | exact Kd.R_mono HO179.out (fun _ _ => trivial) | exact Kd.R_mono HO179.out (fun _ hk => hk.1)), fun _ => (by (with_reducible repeat (first | apply Kd.R_alloc | apply Kd.R_drewN | apply Kd.R_drew)); first | exact Kd.R_mono HO184.out (fun _ hk => ⟨hk.1.1.1.2, ⟨hk.1.1.2, ⟨hk.1.2, hk.2⟩⟩⟩) | exact HO184.out | exact Kd.R_mono HO184.out (fun _ _ => trivial) | exact Kd.R_mono HO184.out (fun _ hk => hk.1))⟩
                  refine steps_cons ?_ ?_
                  · rintro b a w' ⟨v166, v170, v174, v178, v183, ha, Q_BK150, Q_BK162, Q_HB, Q_HO167, Q_HO171, Q_HO175, Q_HO179, Q_HO184⟩ hb_ hon hoff
                    refine ⟨_, rfl, fun K hK => ?_⟩
                    have e90 : a.tmps[90]? = some (.agg #[.int .i64 t156, .int .i64 t157, .int .i64 t158, .int .i64 t159, .int .u64 t160]) := by rw [ha]; exact putSel_on (e := (36, 90, .agg #[.int .i64 t156, .int .i64 t157, .int .i64 t158, .int .i64 t159, .int .u64 t160])) 27 rfl rfl (hon 36 (by kernel_rfl)) rfl
                    have e91 : a.tmps[91]? = some (.int .i64 (wrap64 (Int.tmod (IntKind.u64.wrap (a1)) (IntKind.u64.wrap (t164))))) := by rw [ha]; exact putSel_on (e := (37, 91, .int .i64 (wrap64 (Int.tmod (IntKind.u64.wrap (a1)) (IntKind.u64.wrap (t164)))))) 28 rfl rfl (hon 37 (by kernel_rfl)) rfl
                    have e93 : a.tmps[93]? = some (v183) := by rw [ha]; exact putSel_on (e := (39, 93, v183)) 30 rfl rfl (hon 39 (by kernel_rfl)) rfl
                    have e86 : a.tmps[86]? = some (.bool (t176 == t180)) := by rw [ha]; exact putSel_on (e := (32, 86, .bool (t176 == t180))) 23 rfl rfl (hon 32 (by kernel_rfl)) rfl
                    replace ha := Aside0.mk ha
                    have BK150 := Aside0.mk Q_BK150
                    have BK162 := Aside0.mk Q_BK162
                    have HB := Aside0.mk Q_HB
                    have HO167 := Aside0.mk (Q_HO167 (hon 4 (by kernel_rfl)))
                    have HO171 := Aside0.mk (Q_HO171 (hon 13 (by kernel_rfl)))
                    have HO175 := Aside0.mk (Q_HO175 (hon 21 (by kernel_rfl)))
                    have HO179 := Aside0.mk (Q_HO179 (hon 28 (by kernel_rfl)))
                    have HO184 := Aside0.mk (Q_HO184 (hon 39 (by kernel_rfl)))
                    obtain ⟨Ao58, co58, eo58⟩ := Kd.R_slice HO184.out
                    (first | subst eo58 | (injection eo58 with f1_ f2_ f3_; have f4_ := f1_.symm; have f5_ := f3_.symm; clear f1_ f2_ f3_; subst f4_; subst f5_))
                    refine goes_ Try.func11 (by kernel_rfl) rfl #[.agg #[.int .i64 t156, .int .i64 t157, .int .i64 t158, .int .i64 t159, .int .u64 t160], .int .i64 (wrap64 (Int.tmod (IntKind.u64.wrap (a1)) (IntKind.u64.wrap (t164)))), .slice Ao58 y182.length co58] (by first | rfl | exact (wanted_on rfl rfl rfl (e86.trans (by first | rfl | (simp [*]; done))))) rfl rfl (by first | (simp only [List.map_toArray, List.map_cons, List.map_nil, Act.eval, Array.getD_eq_getD_getElem?, Option.getD_some, e90, e91, e93, e86]; done) | (simp only [List.map_toArray, List.map_cons, List.map_nil, Act.eval, Array.getD_eq_getD_getElem?, Option.getD_some, e90, e91, e93, e86]; rfl)) ?_
                    with_reducible refine (duty_Host.calls kj7 t156 t157 t158 t159 t160 (wrap64 (Int.tmod (IntKind.u64.wrap (a1)) (IntKind.u64.wrap (t164)))) _ _ y182 t185 _ ?side1 ?side2 A32.out).mono ?_
                    (case side1 => repeat (first | exact (Kd.R_reads' HO184.out).2.2 | (with_reducible refine Kd.C_alloc ?_ _) | (with_reducible refine Kd.C_drewN ?_ _) | (with_reducible refine Kd.C_drew ?_)))
                    (case side2 => exact (Kd.R_reads' HO184.out).2.1)
                    rintro e w59 ⟨rfl, hb⟩
                    refine ⟨_, rfl, ?_⟩
                    have n0_ := Aside0.mk (Kd.R_below (by (with_reducible repeat (first | apply Kd.R_alloc | apply Kd.R_drewN | apply Kd.R_drew)); first | exact HO167.out | exact Kd.R_mono HO167.out (fun _ hk => hk.1) | exact Kd.R_mono HO167.out (fun _ _ => trivial)) hb)
                    have n1_ := Aside0.mk (Kd.R_below (by (with_reducible repeat (first | apply Kd.R_alloc | apply Kd.R_drewN | apply Kd.R_drew)); first | exact HO171.out | exact Kd.R_mono HO171.out (fun _ hk => hk.1) | exact Kd.R_mono HO171.out (fun _ _ => trivial)) hb)
                    have n2_ := Aside0.mk (Kd.R_below (by (with_reducible repeat (first | apply Kd.R_alloc | apply Kd.R_drewN | apply Kd.R_drew)); first | exact HO175.out | exact Kd.R_mono HO175.out (fun _ hk => hk.1) | exact Kd.R_mono HO175.out (fun _ _ => trivial)) hb)
                    have n3_ := Aside0.mk (Kd.R_below (by (with_reducible repeat (first | apply Kd.R_alloc | apply Kd.R_drewN | apply Kd.R_drew)); first | exact HO179.out | exact Kd.R_mono HO179.out (fun _ hk => hk.1) | exact Kd.R_mono HO179.out (fun _ _ => trivial)) hb)
                    have n4_ := Aside0.mk (Kd.R_below (by (with_reducible repeat (first | apply Kd.R_alloc | apply Kd.R_drewN | apply Kd.R_drew)); first | exact HO184.out | exact Kd.R_mono HO184.out (fun _ hk => hk.1) | exact Kd.R_mono HO184.out (fun _ _ => trivial)) hb)
                    have n5_ := Aside0.mk (blk_below (g := gb150) (o := .cells #[.int .i64 t151, .int .i64 t152, .int .i64 t153, .int .i64 t154, .int .u64 t155] 24 (0, 0)) (by (with_reducible repeat (first | refine blk_drewN ?_ _ | refine blk_drew ?_ | refine blk_alloc ?_ _)); exact BK150.out) hb)
                    have n6_ := Aside0.mk (blk_below (g := gb162) (o := .cells #[.int .i64 t156, .int .i64 t157, .int .i64 t158, .int .i64 t159, .int .u64 t160] 27 (0, 0)) (by (with_reducible repeat (first | refine blk_drewN ?_ _ | refine blk_drew ?_ | refine blk_alloc ?_ _)); exact BK162.out) hb)
                    have n7_ := Aside0.mk (below_step (by repeat (first | (with_reducible first | exact HB.out | apply below_alloc | apply pw_below_drewN | apply below_drew1 | refine below_set ?_ GE150.out | refine below_set ?_ GE162.out) | exact HB.out)) hb)
                    clear HO167
                    clear HO171
                    clear HO175
                    clear HO179
                    clear HO184
                    clear BK150
                    clear BK162
                    clear HB
                    have HO167 := n0_
                    have HO171 := n1_
                    have HO175 := n2_
                    have HO179 := n3_
                    have HO184 := n4_
                    have BK150 := n5_
                    have BK162 := n6_
                    have HB := n7_
                    clear n0_ n1_ n2_ n3_ n4_ n5_ n6_ n7_
                    (try clear hb)
                    (try clear hb2)
                    (try clear hk)
                    (try clear hi)
                    refine hK.out _ _ ⟨v166, v170, v174, v178, .slice Ao58 y182.length co58, (by rw [ha.out]; exact putSel_upk 31 hb_ rfl rfl rfl), (by (with_reducible repeat (first | refine blk_drewN ?_ _ | refine blk_drew ?_ | refine blk_alloc ?_ _)); exact BK150.out), (by (with_reducible repeat (first | refine blk_drewN ?_ _ | refine blk_drew ?_ | refine blk_alloc ?_ _)); exact BK162.out), (by repeat (first | (with_reducible first | exact HB.out | apply below_alloc | apply pw_below_drewN | apply below_drew1 | refine below_set ?_ GE150.out | refine below_set ?_ GE162.out) | exact HB.out)), fun _ => (by (with_reducible repeat (first | apply Kd.R_alloc | apply Kd.R_drewN | apply Kd.R_drew)); first | exact HO167.out | exact Kd.R_mono HO167.out (fun _ hk => hk.1) | exact Kd.R_mono HO167.out (fun _ _ => trivial)), fun _ => (by (with_reducible repeat (first | apply Kd.R_alloc | apply Kd.R_drewN | apply Kd.R_drew)); first | exact HO171.out | exact Kd.R_mono HO171.out (fun _ hk => hk.1) | exact Kd.R_mono HO171.out (fun _ _ => trivial)), fun _ => (by (with_reducible repeat (first | apply Kd.R_alloc | apply Kd.R_drewN | apply Kd.R_drew)); first | exact HO175.out | exact Kd.R_mono HO175.out (fun _ hk => hk.1) | exact Kd.R_mono HO175.out (fun _ _ => trivial)), fun _ => (by (with_reducible repeat (first | apply Kd.R_alloc | apply Kd.R_drewN | apply Kd.R_drew)); first | exact HO179.out | exact Kd.R_mono HO179.out (fun _ hk => hk.1) | exact Kd.R_mono HO179.out (fun _ _ => trivial)), fun _ => (by (with_reducible repeat (first | apply Kd.R_alloc | apply Kd.R_drewN | apply Kd.R_drew)); first | exact HO184.out | exact Kd.R_mono HO184.out (fun _ hk => hk.1) | exact Kd.R_mono HO184.out (fun _ _ => trivial))⟩
                  refine steps_cons ?_ ?_
                  · rintro b a w' ⟨v166, v170, v174, v178, v183, ha, Q_BK150, Q_BK162, Q_HB, Q_HO167, Q_HO171, Q_HO175, Q_HO179, Q_HO184⟩ hb_ hon hoff
                    refine ⟨_, rfl, fun K hK => ?_⟩
                    have e89 : a.tmps[89]? = some (.int .i64 t181) := by rw [ha]; exact putSel_on (e := (35, 89, .int .i64 t181)) 26 rfl rfl (hon 35 (by kernel_rfl)) rfl
                    have e94 : a.tmps[94]? = some (.int .i64 t185) := by rw [ha]; exact putSel_on (e := (40, 94, .int .i64 t185)) 31 rfl rfl (hon 40 (by kernel_rfl)) rfl
                    have e86 : a.tmps[86]? = some (.bool (t176 == t180)) := by rw [ha]; exact putSel_on (e := (32, 86, .bool (t176 == t180))) 23 rfl rfl (hon 32 (by kernel_rfl)) rfl
                    replace ha := Aside0.mk ha
                    have BK150 := Aside0.mk Q_BK150
                    have BK162 := Aside0.mk Q_BK162
                    have HB := Aside0.mk Q_HB
                    have HO167 := Aside0.mk (Q_HO167 (hon 4 (by kernel_rfl)))
                    have HO171 := Aside0.mk (Q_HO171 (hon 13 (by kernel_rfl)))
                    have HO175 := Aside0.mk (Q_HO175 (hon 21 (by kernel_rfl)))
                    have HO179 := Aside0.mk (Q_HO179 (hon 28 (by kernel_rfl)))
                    have HO184 := Aside0.mk (Q_HO184 (hon 39 (by kernel_rfl)))
                    refine value_ (w1 := w') (v := .bool (t181 == t185)) (wanted_on rfl rfl rfl (e86.trans (by first | rfl | (simp [*]; done)))) rfl ?_ ?_
                    · go_simp
                      (try simp only [i64_w])
                      try rfl
                    refine hK.out _ _ ⟨v166, v170, v174, v178, v183, (by rw [ha.out]; exact putSel_upk 32 hb_ rfl rfl rfl), Q_BK150, Q_BK162, Q_HB, Q_HO167, Q_HO171, Q_HO175, Q_HO179, Q_HO184⟩
                  refine steps_cons ?_ ?_
                  · rintro b a w' ⟨v166, v170, v174, v178, v183, ha, Q_BK150, Q_BK162, Q_HB, Q_HO167, Q_HO171, Q_HO175, Q_HO179, Q_HO184⟩ hb_ hon hoff
                    refine ⟨_, rfl, fun K hK => ?_⟩
                    have e86 : a.tmps[86]? = some (.bool (t176 == t180)) := by rw [ha]; exact putSel_on (e := (32, 86, .bool (t176 == t180))) 23 rfl rfl (hon 32 (by kernel_rfl)) rfl
                    have e95 : a.tmps[95]? = some (.bool (t181 == t185)) := by rw [ha]; exact putSel_on (e := (41, 95, .bool (t181 == t185))) 32 rfl rfl (hon 41 (by kernel_rfl)) rfl
                    replace ha := Aside0.mk ha
                    have BK150 := Aside0.mk Q_BK150
                    have BK162 := Aside0.mk Q_BK162
                    have HB := Aside0.mk Q_HB
                    have HO167 := Aside0.mk (Q_HO167 (hon 4 (by kernel_rfl)))
                    have HO171 := Aside0.mk (Q_HO171 (hon 13 (by kernel_rfl)))
                    have HO175 := Aside0.mk (Q_HO175 (hon 21 (by kernel_rfl)))
                    have HO179 := Aside0.mk (Q_HO179 (hon 28 (by kernel_rfl)))
                    have HO184 := Aside0.mk (Q_HO184 (hon 39 (by kernel_rfl)))
                    refine value_ (w1 := w') (v := .bool (t181 == t185)) (by rfl) rfl ?_ ?_
                    · go_simp
                      (try simp only [i64_w])
                      try rfl
                    refine hK.out _ _ ⟨v166, v170, v174, v178, v183, (by rw [ha.out]; exact putSel_upk 33 hb_ rfl rfl rfl), Q_BK150, Q_BK162, Q_HB, Q_HO167, Q_HO171, Q_HO175, Q_HO179, Q_HO184⟩
                  refine steps_cons ?_ ?_
                  · rintro b a w' ⟨v166, v170, v174, v178, v183, ha, Q_BK150, Q_BK162, Q_HB, Q_HO167, Q_HO171, Q_HO175, Q_HO179, Q_HO184⟩ hb_ hon hoff
                    refine ⟨_, rfl, fun K hK => ?_⟩
                    have e96 : a.tmps[96]? = some (.bool (t181 == t185)) := by rw [ha]; exact putSel_on (e := (42, 96, .bool (t181 == t185))) 33 rfl rfl (hon 42 (by kernel_rfl)) rfl
                    replace ha := Aside0.mk ha
                    have BK150 := Aside0.mk Q_BK150
                    have BK162 := Aside0.mk Q_BK162
                    have HB := Aside0.mk Q_HB
                    have HO167 := Aside0.mk (Q_HO167 (hon 4 (by kernel_rfl)))
                    have HO171 := Aside0.mk (Q_HO171 (hon 13 (by kernel_rfl)))
                    have HO175 := Aside0.mk (Q_HO175 (hon 21 (by kernel_rfl)))
                    have HO179 := Aside0.mk (Q_HO179 (hon 28 (by kernel_rfl)))
                    have HO184 := Aside0.mk (Q_HO184 (hon 39 (by kernel_rfl)))
                    refine value_ (w1 := w') (v := .bool (t181 == t185)) (by rfl) rfl ?_ ?_
                    · go_simp
                      (try simp only [i64_w])
                      try rfl
                    refine hK.out _ _ ⟨v166, v170, v174, v178, v183, (by rw [ha.out]; exact putSel_upk 34 hb_ rfl rfl rfl), Q_BK150, Q_BK162, Q_HB, Q_HO167, Q_HO171, Q_HO175, Q_HO179, Q_HO184⟩
                  exact steps_nil
                rintro b a w59 hall ⟨v166, v170, v174, v178, v183, ha, Q_BK150, Q_BK162, Q_HB, Q_HO167, Q_HO171, Q_HO175, Q_HO179, Q_HO184⟩
                clear BK150 BK162 HB
                have hb0_ := hall 0 (by kernel_rfl)
                have hb4_ := hall 4 (by kernel_rfl)
                have hb5_ := hall 5 (by kernel_rfl)
                have hb6_ := hall 6 (by kernel_rfl)
                have hb13_ := hall 13 (by kernel_rfl)
                have hb14_ := hall 14 (by kernel_rfl)
                have hb15_ := hall 15 (by kernel_rfl)
                have hb16_ := hall 16 (by kernel_rfl)
                have hb17_ := hall 17 (by kernel_rfl)
                have hb18_ := hall 18 (by kernel_rfl)
                have hb19_ := hall 19 (by kernel_rfl)
                have hb20_ := hall 20 (by kernel_rfl)
                have hb21_ := hall 21 (by kernel_rfl)
                have hb22_ := hall 22 (by kernel_rfl)
                have hb23_ := hall 23 (by kernel_rfl)
                have hb24_ := hall 24 (by kernel_rfl)
                have hb25_ := hall 25 (by kernel_rfl)
                have hb26_ := hall 26 (by kernel_rfl)
                have hb27_ := hall 27 (by kernel_rfl)
                have hb28_ := hall 28 (by kernel_rfl)
                have hb29_ := hall 29 (by kernel_rfl)
                have hb30_ := hall 30 (by kernel_rfl)
                have hb31_ := hall 31 (by kernel_rfl)
                have hb32_ := hall 32 (by kernel_rfl)
                have hb33_ := hall 33 (by kernel_rfl)
                have hb34_ := hall 34 (by kernel_rfl)
                have hb35_ := hall 35 (by kernel_rfl)
                have hb36_ := hall 36 (by kernel_rfl)
                have hb37_ := hall 37 (by kernel_rfl)
                have hb38_ := hall 38 (by kernel_rfl)
                have hb39_ := hall 39 (by kernel_rfl)
                have hb40_ := hall 40 (by kernel_rfl)
                have hb41_ := hall 41 (by kernel_rfl)
                have hb42_ := hall 42 (by kernel_rfl)
                have hb43_ := hall 43 (by kernel_rfl)
                subst ha
                simp only [putSel, hb0_, hb4_, hb5_, hb6_, hb13_, hb14_, hb15_, hb16_, hb17_, hb18_, hb19_, hb20_, hb21_, hb22_, hb23_, hb24_, hb25_, hb26_, hb27_, hb28_, hb29_, hb30_, hb31_, hb32_, hb33_, hb34_, hb35_, hb36_, hb37_, hb38_, hb39_, hb40_, hb41_, hb42_, hb43_, if_true, Act.put, List.setIfInBounds_toArray, List.set_cons_zero, List.set_cons_succ]
                have BK150 := Aside0.mk Q_BK150
                clear Q_BK150
                have BK162 := Aside0.mk Q_BK162
                clear Q_BK162
                have HB := Aside0.mk Q_HB
                clear Q_HB
                have HO167 := Aside0.mk (Q_HO167 hb4_)
                clear Q_HO167
                have HO171 := Aside0.mk (Q_HO171 hb13_)
                clear Q_HO171
                have HO175 := Aside0.mk (Q_HO175 hb21_)
                clear Q_HO175
                have HO179 := Aside0.mk (Q_HO179 hb28_)
                clear Q_HO179
                have HO184 := Aside0.mk (Q_HO184 hb39_)
                clear Q_HO184
                clear hall hb0_ hb4_ hb5_ hb6_ hb13_ hb14_ hb15_ hb16_ hb17_ hb18_ hb19_ hb20_ hb21_ hb22_ hb23_ hb24_ hb25_ hb26_ hb27_ hb28_ hb29_ hb30_ hb31_ hb32_ hb33_ hb34_ hb35_ hb36_ hb37_ hb38_ hb39_ hb40_ hb41_ hb42_ hb43_
                try go_wp2
                go_ret
                exact ⟨by first | rfl | (simp [errW_none, errW_some] <;> rfl) | (simp [*, errW_none, errW_some] <;> rfl), by repeat (first | (with_reducible first | exact HB.out | apply below_alloc | apply pw_below_drewN | apply below_drew1 | refine below_set ?_ GE150.out | refine below_set ?_ GE162.out) | exact HB.out)⟩
              · rw [if_neg c30] at H
                have c30b0 : (t176 == t180) = false := beq_eq_false_iff_ne.mpr c30
                have c30b1 : (t176 != t180) = true := bne_iff_ne.mpr c30
                exact absurd (H.trans (congrArg some hr_.out)) (by decide)
            · rw [if_neg c27] at H
              have c27b0 : (t168 == t172) = false := beq_eq_false_iff_ne.mpr c27
              have c27b1 : (t168 != t172) = true := bne_iff_ne.mpr c27
              exact absurd (H.trans (congrArg some hr_.out)) (by decide)

end Go.Proofs.Ytppficlcedgjhaa.PDutyStranger
