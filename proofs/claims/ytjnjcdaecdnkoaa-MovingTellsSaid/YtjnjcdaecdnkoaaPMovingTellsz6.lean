/- Functions that a law reaches, and what their Go code computes. No condition. (Written by a program of this session, a turned copy of the print.) -/
import Derived.Test.YtjnjcdaecdnkoaaX
import Derived.Test.YtjnjcdaecdnkoaaPMovingTellsz0
import Derived.Test.YtjnjcdaecdnkoaaPMovingTellsz4
import Derived.Test.YtjnjcdaecdnkoaaPMovingTellsz5
namespace Go.Proofs.Ytjnjcdaecdnkoaa.PMovingTells
open Go.RowKit Go.Proofs.YtjnjcdaecdnkoaaW.PrintWords Go.Proofs.YtjnjcdaecdnkoaaW.PrintLast Go.Proofs.YtjnjcdaecdnkoaaW.PrintMore
attribute [local go_sem] max2_int min2_int max_two min_two max_three min_three max_four min_four   -- for this text's walks alone
set_option linter.unusedVariables false
set_option linter.unusedSimpArgs false
theorem au6_0 {p : Prop} (h : p := by repeat (first | (with_reducible first | exact HB.out | apply below_alloc | apply pw_below_drewN | apply below_drew1 | refine below_set ?_ GE132.out | refine below_set ?_ GE133.out) | exact HB.out)) : p := h
theorem au6_1 {p : Prop} (h : p := by first | rfl | (simp [errW_none, errW_some] <;> rfl) | (simp [*, errW_none, errW_some] <;> rfl)) : p := h
theorem au6_2 {p : Prop} (h : p := by (try simp only [List.map_toArray, List.map_cons, List.map_nil]); first | done | rfl | (simp only [List.length_drop, List.length_take]; rfl)) : p := h
theorem au6_3 {p : Prop} (h : p := by (with_reducible repeat (first | refine blk_drewN ?_ _ | refine blk_drew ?_ | refine blk_alloc ?_ _)); exact BK132.out) : p := h
theorem au6_4 {p : Prop} (h : p := by repeat (first | (with_reducible first | exact HB.out | apply below_alloc | apply pw_below_drewN | apply below_drew1 | refine below_set ?_ GE132.out) | exact HB.out)) : p := h
theorem au6_5 {p : Prop} (h : p := by repeat (first | (with_reducible first | exact HB.out | apply below_alloc | apply pw_below_drewN | apply below_drew1) | exact HB.out)) : p := h
theorem au6_6 {p : Prop} (h : p := by (with_reducible repeat (first | refine blk_drewN ?_ _ | refine blk_drew ?_ | refine blk_alloc ?_ _)); exact BK133.out) : p := h

/-! ### entity_Right: function 27 -/
def entity_Right.j0 : Nat → Bool → Int → Int → Int → Int → Int → Int → Int → Int → Int → Int → Int → Int → Int → Int → Option (Bool)
  | 0, _, _, _, _, _, _, _, _, _, _, _, _, _, _, _ => none
  | k + 1, x5, x133000, x133001, x133002, x133003, x133004, x134000, x134001, x134002, x134003, x134004, x134005, x134006, x134007, x134008 => if x134001 = 1 then ((entity_within.f x134000 1 x133002).bind fun t136 => (if t136 = true then ((entity_within.f x134004 (-64) 64).bind fun t137 => (if t137 = true then ((entity_within.f x134005 (-64) 64).bind fun t138 => (if t138 = true then ((entity_within.f x134006 1 100).bind fun t139 => (if t139 = true then ((entity_within.f x134007 0 6).bind fun t140 => (if t140 = true then (some (x134008 == 0)) else (some false))) else (some false))) else (some false))) else (some false))) else (some false))) else (if x134001 = 2 then (if x5 = true then ((entity_pace.f x134004).bind fun t141 => (if t141 = true then ((entity_pace.f x134005).bind fun t142 => (if t142 = true then (if x134004 = 0 then (if x134005 = 0 then (some false) else ((entity_within.f x134007 0 12).bind fun t143 => (if t143 = true then ((entity_within.f x134008 1 x133002).bind fun t144 => (some t144)) else (some false)))) else ((entity_within.f x134007 0 12).bind fun t145 => (if t145 = true then ((entity_within.f x134008 1 x133002).bind fun t146 => (some t146)) else (some false)))) else (some false))) else (some false))) else (some false)) else (if x134001 = 3 then (if x5 = true then (if x134004 = 0 then (if x134005 = 0 then (if x134007 = 0 then (some (x134008 == 0)) else (some false)) else (some false)) else (some false)) else (some false)) else (some false)))
def entity_Right.f (k : Nat) (a0_0 : Int) (a0_1 : Int) (a0_2 : Int) (a0_3 : Int) (a0_4 : Int) (a1_0 : Int) (a1_1 : Int) (a1_2 : Int) (a1_3 : Int) (a1_4 : Int) (a1_5 : Int) (a1_6 : Int) (a1_7 : Int) (a1_8 : Int) : Option (Bool) := (grid_Grid_Inside.f a0_0 a0_1 a0_2 a0_3 a0_4 a1_2 a1_3).bind fun t134 => (if t134 = true then ((entity_within.f a1_0 1000 2147483647).bind fun t135 => (if t135 = true then (entity_Right.j0 k (a1_6 == 1) a0_0 a0_1 a0_2 a0_3 a0_4 a1_0 a1_1 a1_2 a1_3 a1_4 a1_5 a1_6 a1_7 a1_8) else (entity_Right.j0 k false a0_0 a0_1 a0_2 a0_3 a0_4 a1_0 a1_1 a1_2 a1_3 a1_4 a1_5 a1_6 a1_7 a1_8))) else (some false))
theorem entity_Right.mono_l : ∀ k, (∀ y0 y1 y2 y3 y4 y5 y6 y7 y8 y9 y10 y11 y12 y13 y14, LeO (entity_Right.j0 k y0 y1 y2 y3 y4 y5 y6 y7 y8 y9 y10 y11 y12 y13 y14) (entity_Right.j0 (k + 1) y0 y1 y2 y3 y4 y5 y6 y7 y8 y9 y10 y11 y12 y13 y14))
  | 0 => fun _ _ _ _ _ _ _ _ _ _ _ _ _ _ _ r h => by simp [entity_Right.j0] at h
  | k + 1 => by
    have ih0 := entity_Right.mono_l k
    · intro y0 y1 y2 y3 y4 y5 y6 y7 y8 y9 y10 y11 y12 y13 y14
      unfold entity_Right.j0
      repeat' first
      | (with_reducible exact ih0 _ _ _ _ _ _ _ _ _ _ _ _ _ _ _)
      | (with_reducible exact LeO.refl _)
      | (with_reducible exact LeO.none _)
      | (with_reducible refine LeO.ite ?_ ?_)
      | (with_reducible refine LeO.bind ?_ (fun _ => ?_))
      | exact ih0 _ _ _ _ _ _ _ _ _ _ _ _ _ _ _
      | exact LeO.none _
      | refine LeO.ite ?_ ?_
      | refine LeO.bind ?_ (fun _ => ?_)
theorem entity_Right.mono : ∀ a0 a1 a2 a3 a4 a5 a6 a7 a8 a9 a10 a11 a12 a13 k, LeO (entity_Right.f k a0 a1 a2 a3 a4 a5 a6 a7 a8 a9 a10 a11 a12 a13) (entity_Right.f (k + 1) a0 a1 a2 a3 a4 a5 a6 a7 a8 a9 a10 a11 a12 a13) := by
  intro a0 a1 a2 a3 a4 a5 a6 a7 a8 a9 a10 a11 a12 a13 k
  have ih0 := entity_Right.mono_l k
  unfold entity_Right.f
  repeat' first
      | (with_reducible exact ih0 _ _ _ _ _ _ _ _ _ _ _ _ _ _ _)
      | (with_reducible exact LeO.refl _)
      | (with_reducible exact LeO.none _)
      | (with_reducible refine LeO.ite ?_ ?_)
      | (with_reducible refine LeO.bind ?_ (fun _ => ?_))
      | exact ih0 _ _ _ _ _ _ _ _ _ _ _ _ _ _ _
      | exact LeO.none _
      | refine LeO.ite ?_ ?_
      | refine LeO.bind ?_ (fun _ => ?_)
set_option maxHeartbeats 8000000 in
set_option maxRecDepth 100000 in
theorem entity_Right.calls (k : Nat) (a0_0 : Int) (a0_1 : Int) (a0_2 : Int) (a0_3 : Int) (a0_4 : Int) (a1_0 : Int) (a1_1 : Int) (a1_2 : Int) (a1_3 : Int) (a1_4 : Int) (a1_5 : Int) (a1_6 : Int) (a1_7 : Int) (a1_8 : Int) (r : Bool) (w : World) (h : entity_Right.f k a0_0 a0_1 a0_2 a0_3 a0_4 a1_0 a1_1 a1_2 a1_3 a1_4 a1_5 a1_6 a1_7 a1_8 = some r) :
    Calls Try.prog 27 #[.agg #[.int .i64 a0_0, .int .i64 a0_1, .int .i64 a0_2, .int .i64 a0_3, .int .u64 a0_4], .agg #[.int .i64 a1_0, .int .i64 a1_1, .int .i64 a1_2, .int .i64 a1_3, .int .i64 a1_4, .int .i64 a1_5, .int .i64 a1_6, .int .i64 a1_7, .int .i64 a1_8]] w fun e w' => e = .returned (.bool r) ∧ Below w.heap.size w w' := by
  have hu30 := Try.underlying30
  have hu26 := Try.underlying26
  have HB := Aside0.mk (Below.refl w.heap.size w)
  have H : ((grid_Grid_Inside.f a0_0 a0_1 a0_2 a0_3 a0_4 a1_2 a1_3).bind fun t134 => (if t134 = true then ((entity_within.f a1_0 1000 2147483647).bind fun t135 => (if t135 = true then (entity_Right.j0 k (a1_6 == 1) a0_0 a0_1 a0_2 a0_3 a0_4 a1_0 a1_1 a1_2 a1_3 a1_4 a1_5 a1_6 a1_7 a1_8) else (entity_Right.j0 k false a0_0 a0_1 a0_2 a0_3 a0_4 a1_0 a1_1 a1_2 a1_3 a1_4 a1_5 a1_6 a1_7 a1_8))) else (some false))) = some r := h
  clear h
  replace H := Option.bind_eq_some_iff.mp H
  obtain ⟨t134, A30, H⟩ := H
  (try dsimp -simprocs only at H)
  have A3 := Aside0.mk A30
  clear A30
  by_cases c4 : t134 = true
  · subst c4
    have H1 : ((entity_within.f a1_0 1000 2147483647).bind fun t135 => (if t135 = true then (entity_Right.j0 k (a1_6 == 1) a0_0 a0_1 a0_2 a0_3 a0_4 a1_0 a1_1 a1_2 a1_3 a1_4 a1_5 a1_6 a1_7 a1_8) else (entity_Right.j0 k false a0_0 a0_1 a0_2 a0_3 a0_4 a1_0 a1_1 a1_2 a1_3 a1_4 a1_5 a1_6 a1_7 a1_8))) = some r := by rw [if_pos rfl] at H; exact H
    clear H
    have H := H1
    clear H1
    have HC5 := Aside0.mk H
    clear H
    go_enter Try.func27, Try.ntmps27
    go_upto_region 3 with (first | ((with_reducible refine gate_dst (N := 2) rfl ?_); refine box_event ?hg (N := 2) ?hd (cs := #[.int .i64 a0_0, .int .i64 a0_1, .int .i64 a0_2, .int .i64 a0_3, .int .u64 a0_4]) (t := 30) ?hr ?_; (case hd => rfl); (case hg => rfl); (case hr => first | (go_simp; done) | (go_simp; rfl)); intro gb132 hg w6 hbox hb; have n0_ := Aside0.mk (below_step au6_5 hb); have n1_ := Aside0.mk (hbox); have n2_ := Aside0.mk ((by rw [hg]; exact (below_size au6_5) : w.heap.size ≤ gb132)); have n3_ := Aside0.mk ((by rw [hg]; exact (below_size au6_5) : w.heap.size ≤ gb132)); clear HB; have HB := n0_; have BK132 := n1_; have GW132 := n2_; have GE132 := n3_; clear n0_ n1_ n2_ n3_; clear hb hbox hg) | ((with_reducible refine gate_dst (N := 3) rfl ?_); refine box_event ?hg (N := 3) ?hd (cs := #[.int .i64 a1_0, .int .i64 a1_1, .int .i64 a1_2, .int .i64 a1_3, .int .i64 a1_4, .int .i64 a1_5, .int .i64 a1_6, .int .i64 a1_7, .int .i64 a1_8]) (t := 26) ?hr ?_; (case hd => rfl); (case hg => rfl); (case hr => first | (go_simp; done) | (go_simp; rfl)); intro gb133 hg w7 hbox hb; have n0_ := Aside0.mk (blk_below (g := gb132) (o := .cells #[.int .i64 a0_0, .int .i64 a0_1, .int .i64 a0_2, .int .i64 a0_3, .int .u64 a0_4] 30 (0, 0)) au6_3 hb); have n1_ := Aside0.mk (below_step au6_4 hb); have n2_ := Aside0.mk (hbox); have n3_ := Aside0.mk ((by rw [hg]; exact (below_size au6_4) : w.heap.size ≤ gb133)); have n4_ := Aside0.mk ((by rw [hg]; exact (below_size au6_4) : w.heap.size ≤ gb133)); have n5_ := Aside0.mk ((by rw [hg]; exact Nat.ne_of_lt (blk_lt (g := gb132) (o := .cells #[.int .i64 a0_0, .int .i64 a0_1, .int .i64 a0_2, .int .i64 a0_3, .int .u64 a0_4] 30 (0, 0)) au6_3) : gb132 ≠ gb133)); have n6_ := Aside0.mk ((by rw [hg]; exact Nat.ne_of_gt (blk_lt (g := gb132) (o := .cells #[.int .i64 a0_0, .int .i64 a0_1, .int .i64 a0_2, .int .i64 a0_3, .int .u64 a0_4] 30 (0, 0)) au6_3) : gb133 ≠ gb132)); clear BK132; clear HB; have BK132 := n0_; have HB := n1_; have BK133 := n2_; have GW133 := n3_; have GE133 := n4_; have NB132_133 := n5_; have NB133_132 := n6_; clear n0_ n1_ n2_ n3_ n4_ n5_ n6_; clear hb hbox hg; have hnb8 := NB132_133.out; have hnc8 := NB133_132.out; have hcz9_0 : w7.cell? ⟨gb132, 0, none⟩ = some (.int .i64 a0_0) := (blk_cell BK132.out 0).trans rfl; have hcz9_1 : w7.cell? ⟨gb132, 1, none⟩ = some (.int .i64 a0_1) := (blk_cell BK132.out 1).trans rfl; have hcz9_2 : w7.cell? ⟨gb132, 2, none⟩ = some (.int .i64 a0_2) := (blk_cell BK132.out 2).trans rfl; have hcz9_3 : w7.cell? ⟨gb132, 3, none⟩ = some (.int .i64 a0_3) := (blk_cell BK132.out 3).trans rfl; have hcz9_4 : w7.cell? ⟨gb132, 4, none⟩ = some (.int .u64 a0_4) := (blk_cell BK132.out 4).trans rfl; have hfz9_0 := blk_frozen BK132.out 0; have hfz9_1 := blk_frozen BK132.out 1; have hfz9_2 := blk_frozen BK132.out 2; have hfz9_3 := blk_frozen BK132.out 3; have hfz9_4 := blk_frozen BK132.out 4; have hcz10_0 : w7.cell? ⟨gb133, 0, none⟩ = some (.int .i64 a1_0) := (blk_cell BK133.out 0).trans rfl; have hcz10_1 : w7.cell? ⟨gb133, 1, none⟩ = some (.int .i64 a1_1) := (blk_cell BK133.out 1).trans rfl; have hcz10_2 : w7.cell? ⟨gb133, 2, none⟩ = some (.int .i64 a1_2) := (blk_cell BK133.out 2).trans rfl; have hcz10_3 : w7.cell? ⟨gb133, 3, none⟩ = some (.int .i64 a1_3) := (blk_cell BK133.out 3).trans rfl; have hcz10_4 : w7.cell? ⟨gb133, 4, none⟩ = some (.int .i64 a1_4) := (blk_cell BK133.out 4).trans rfl; have hcz10_5 : w7.cell? ⟨gb133, 5, none⟩ = some (.int .i64 a1_5) := (blk_cell BK133.out 5).trans rfl; have hcz10_6 : w7.cell? ⟨gb133, 6, none⟩ = some (.int .i64 a1_6) := (blk_cell BK133.out 6).trans rfl; have hcz10_7 : w7.cell? ⟨gb133, 7, none⟩ = some (.int .i64 a1_7) := (blk_cell BK133.out 7).trans rfl; have hcz10_8 : w7.cell? ⟨gb133, 8, none⟩ = some (.int .i64 a1_8) := (blk_cell BK133.out 8).trans rfl; have hfz10_0 := blk_frozen BK133.out 0; have hfz10_1 := blk_frozen BK133.out 1; have hfz10_2 := blk_frozen BK133.out 2; have hfz10_3 := blk_frozen BK133.out 3; have hfz10_4 := blk_frozen BK133.out 4; have hfz10_5 := blk_frozen BK133.out 5; have hfz10_6 := blk_frozen BK133.out 6; have hfz10_7 := blk_frozen BK133.out 7; have hfz10_8 := blk_frozen BK133.out 8) | ((with_reducible refine gate_callee (f := 23) rfl ?_); refine goesL_ (some 11) rfl rfl Try.func23 (by kernel_rfl) rfl #[.agg #[.int .i64 a0_0, .int .i64 a0_1, .int .i64 a0_2, .int .i64 a0_3, .int .u64 a0_4], .int .i64 a1_2, .int .i64 a1_3] rfl au6_2 ?_; (with_reducible refine (grid_Grid_Inside.calls a0_0 a0_1 a0_2 a0_3 a0_4 a1_2 a1_3 true _ A3.out).mono ?_); rintro e w11 ⟨rfl, hb⟩; refine ⟨_, rfl, ?_⟩; have n0_ := Aside0.mk (blk_below (g := gb132) (o := .cells #[.int .i64 a0_0, .int .i64 a0_1, .int .i64 a0_2, .int .i64 a0_3, .int .u64 a0_4] 30 (0, 0)) au6_3 hb); have n1_ := Aside0.mk (blk_below (g := gb133) (o := .cells #[.int .i64 a1_0, .int .i64 a1_1, .int .i64 a1_2, .int .i64 a1_3, .int .i64 a1_4, .int .i64 a1_5, .int .i64 a1_6, .int .i64 a1_7, .int .i64 a1_8] 26 (0, 0)) au6_6 hb); have n2_ := Aside0.mk (below_step au6_0 hb); clear BK132; clear BK133; clear HB; have BK132 := n0_; have BK133 := n1_; have HB := n2_; clear n0_ n1_ n2_; (try clear hb); (try clear hb2); (try clear hk); (try clear hi)))
    (try simp only [Act.put, List.setIfInBounds_toArray, List.set_cons_zero, List.set_cons_succ])
    go_cut [5] (fun v5 wc => ∃ (kq : Nat) (x5_4 : Bool), v5 = .bool x5_4 ∧ Aside0 (entity_Right.j0 kq x5_4 a0_0 a0_1 a0_2 a0_3 a0_4 a1_0 a1_1 a1_2 a1_3 a1_4 a1_5 a1_6 a1_7 a1_8 = some r) ∧ Aside0 (kq ≤ k) ∧ Aside0 (wc.heap[gb132]? = some (.cells #[.int .i64 a0_0, .int .i64 a0_1, .int .i64 a0_2, .int .i64 a0_3, .int .u64 a0_4] 30 (0, 0))) ∧ Aside0 (wc.heap[gb133]? = some (.cells #[.int .i64 a1_0, .int .i64 a1_1, .int .i64 a1_2, .int .i64 a1_3, .int .i64 a1_4, .int .i64 a1_5, .int .i64 a1_6, .int .i64 a1_7, .int .i64 a1_8] 26 (0, 0))) ∧ Aside0 (Below w.heap.size w wc))
    case first =>
      have H := HC5.out
      clear HC5
      replace H := Option.bind_eq_some_iff.mp H
      obtain ⟨t135, A120, H⟩ := H
      (try dsimp -simprocs only at H)
      have A12 := Aside0.mk A120
      clear A120
      by_cases c13 : t135 = true
      · subst c13
        have H1 : (entity_Right.j0 k (a1_6 == 1) a0_0 a0_1 a0_2 a0_3 a0_4 a1_0 a1_1 a1_2 a1_3 a1_4 a1_5 a1_6 a1_7 a1_8) = some r := by rw [if_pos rfl] at H; exact H
        clear H
        have H := H1
        clear H1
        have H' := Aside0.mk H
        clear H
        have hnb14 := NB133_132.out
        have hnc14 := NB132_133.out
        have hcz15_0 : w11.cell? ⟨gb133, 0, none⟩ = some (.int .i64 a1_0) := (blk_cell BK133.out 0).trans rfl
        have hcz15_1 : w11.cell? ⟨gb133, 1, none⟩ = some (.int .i64 a1_1) := (blk_cell BK133.out 1).trans rfl
        have hcz15_2 : w11.cell? ⟨gb133, 2, none⟩ = some (.int .i64 a1_2) := (blk_cell BK133.out 2).trans rfl
        have hcz15_3 : w11.cell? ⟨gb133, 3, none⟩ = some (.int .i64 a1_3) := (blk_cell BK133.out 3).trans rfl
        have hcz15_4 : w11.cell? ⟨gb133, 4, none⟩ = some (.int .i64 a1_4) := (blk_cell BK133.out 4).trans rfl
        have hcz15_5 : w11.cell? ⟨gb133, 5, none⟩ = some (.int .i64 a1_5) := (blk_cell BK133.out 5).trans rfl
        have hcz15_6 : w11.cell? ⟨gb133, 6, none⟩ = some (.int .i64 a1_6) := (blk_cell BK133.out 6).trans rfl
        have hcz15_7 : w11.cell? ⟨gb133, 7, none⟩ = some (.int .i64 a1_7) := (blk_cell BK133.out 7).trans rfl
        have hcz15_8 : w11.cell? ⟨gb133, 8, none⟩ = some (.int .i64 a1_8) := (blk_cell BK133.out 8).trans rfl
        have hfz15_0 := blk_frozen BK133.out 0
        have hfz15_1 := blk_frozen BK133.out 1
        have hfz15_2 := blk_frozen BK133.out 2
        have hfz15_3 := blk_frozen BK133.out 3
        have hfz15_4 := blk_frozen BK133.out 4
        have hfz15_5 := blk_frozen BK133.out 5
        have hfz15_6 := blk_frozen BK133.out 6
        have hfz15_7 := blk_frozen BK133.out 7
        have hfz15_8 := blk_frozen BK133.out 8
        go_wp2_with (first | ((with_reducible refine gate_callee (f := 41) rfl ?_); refine goesL_ (some 15) rfl rfl Try.func41 (by kernel_rfl) rfl #[.int .i64 a1_0, .int .i64 1000, .int .i64 2147483647] rfl au6_2 ?_; (with_reducible refine (entity_within.calls a1_0 1000 2147483647 true _ A12.out).mono ?_); rintro e w' ⟨rfl, ⟨nd, rfl⟩⟩; refine ⟨_, rfl, ?_⟩))
        go_meet
        case rel => exact ⟨_, ((a1_6 == 1)), (by first | rfl | (simp; done) | (simp [*]; done)), H', ⟨by first | omega | exact Nat.le_refl _⟩, ⟨au6_3⟩, ⟨au6_6⟩, ⟨au6_0⟩⟩
      · replace c13 := Bool.eq_false_iff.mpr c13
        subst c13
        have H1 : (entity_Right.j0 k false a0_0 a0_1 a0_2 a0_3 a0_4 a1_0 a1_1 a1_2 a1_3 a1_4 a1_5 a1_6 a1_7 a1_8) = some r := by rw [if_neg (show ¬ (false = true) by decide)] at H; exact H
        clear H
        have H := H1
        clear H1
        have H' := Aside0.mk H
        clear H
        have hnb16 := NB133_132.out
        have hnc16 := NB132_133.out
        have hcz17_0 : w11.cell? ⟨gb133, 0, none⟩ = some (.int .i64 a1_0) := (blk_cell BK133.out 0).trans rfl
        have hcz17_1 : w11.cell? ⟨gb133, 1, none⟩ = some (.int .i64 a1_1) := (blk_cell BK133.out 1).trans rfl
        have hcz17_2 : w11.cell? ⟨gb133, 2, none⟩ = some (.int .i64 a1_2) := (blk_cell BK133.out 2).trans rfl
        have hcz17_3 : w11.cell? ⟨gb133, 3, none⟩ = some (.int .i64 a1_3) := (blk_cell BK133.out 3).trans rfl
        have hcz17_4 : w11.cell? ⟨gb133, 4, none⟩ = some (.int .i64 a1_4) := (blk_cell BK133.out 4).trans rfl
        have hcz17_5 : w11.cell? ⟨gb133, 5, none⟩ = some (.int .i64 a1_5) := (blk_cell BK133.out 5).trans rfl
        have hcz17_6 : w11.cell? ⟨gb133, 6, none⟩ = some (.int .i64 a1_6) := (blk_cell BK133.out 6).trans rfl
        have hcz17_7 : w11.cell? ⟨gb133, 7, none⟩ = some (.int .i64 a1_7) := (blk_cell BK133.out 7).trans rfl
        have hcz17_8 : w11.cell? ⟨gb133, 8, none⟩ = some (.int .i64 a1_8) := (blk_cell BK133.out 8).trans rfl
        have hfz17_0 := blk_frozen BK133.out 0
        have hfz17_1 := blk_frozen BK133.out 1
        have hfz17_2 := blk_frozen BK133.out 2
        have hfz17_3 := blk_frozen BK133.out 3
        have hfz17_4 := blk_frozen BK133.out 4
        have hfz17_5 := blk_frozen BK133.out 5
        have hfz17_6 := blk_frozen BK133.out 6
        have hfz17_7 := blk_frozen BK133.out 7
        have hfz17_8 := blk_frozen BK133.out 8
        go_wp2_with (first | ((with_reducible refine gate_callee (f := 41) rfl ?_); refine goesL_ (some 15) rfl rfl Try.func41 (by kernel_rfl) rfl #[.int .i64 a1_0, .int .i64 1000, .int .i64 2147483647] rfl au6_2 ?_; (with_reducible refine (entity_within.calls a1_0 1000 2147483647 false _ A12.out).mono ?_); rintro e w' ⟨rfl, ⟨nd, rfl⟩⟩; refine ⟨_, rfl, ?_⟩))
        go_meet
        case rel => exact ⟨_, (false), (by first | rfl | (simp; done) | (simp [*]; done)), H', ⟨by first | omega | exact Nat.le_refl _⟩, ⟨au6_3⟩, ⟨au6_6⟩, ⟨au6_0⟩⟩
    case rest =>
      clear HC5
      try clear c1
      try clear c2
      try clear p2
      try clear c4
      try clear c8
      try clear c13
      try clear c14
      try clear c16
      try clear hcz10_0
      try clear hcz10_1
      try clear hcz10_2
      try clear hcz10_3
      try clear hcz10_4
      try clear hcz10_5
      try clear hcz10_6
      try clear hcz10_7
      try clear hcz10_8
      try clear hcz15_0
      try clear hcz15_1
      try clear hcz15_2
      try clear hcz15_3
      try clear hcz15_4
      try clear hcz15_5
      try clear hcz15_6
      try clear hcz15_7
      try clear hcz15_8
      try clear hcz17_0
      try clear hcz17_1
      try clear hcz17_2
      try clear hcz17_3
      try clear hcz17_4
      try clear hcz17_5
      try clear hcz17_6
      try clear hcz17_7
      try clear hcz17_8
      try clear hcz9_0
      try clear hcz9_1
      try clear hcz9_2
      try clear hcz9_3
      try clear hcz9_4
      try clear hfz10_0
      try clear hfz10_1
      try clear hfz10_2
      try clear hfz10_3
      try clear hfz10_4
      try clear hfz10_5
      try clear hfz10_6
      try clear hfz10_7
      try clear hfz10_8
      try clear hfz15_0
      try clear hfz15_1
      try clear hfz15_2
      try clear hfz15_3
      try clear hfz15_4
      try clear hfz15_5
      try clear hfz15_6
      try clear hfz15_7
      try clear hfz15_8
      try clear hfz17_0
      try clear hfz17_1
      try clear hfz17_2
      try clear hfz17_3
      try clear hfz17_4
      try clear hfz17_5
      try clear hfz17_6
      try clear hfz17_7
      try clear hfz17_8
      try clear hfz9_0
      try clear hfz9_1
      try clear hfz9_2
      try clear hfz9_3
      try clear hfz9_4
      obtain ⟨kq, x5_4, rfl, HA, HJ4, BK132, BK133, HB⟩ := hcut
      cases kq with
      | zero => exact absurd HA.out (by simp [entity_Right.j0])
      | succ kj4 =>
        have H := HA.out
        clear HA
        simp only [entity_Right.j0] at H
        by_cases c18 : a1_1 = 1
        · rw [if_pos c18] at H
          have c18b0 : (a1_1 == 1) = true := beq_iff_eq.mpr c18
          have c18b1 : (a1_1 != 1) = false := bne_eq_false_iff_eq.mpr c18
          clear c18
          replace H := Option.bind_eq_some_iff.mp H
          obtain ⟨t136, A190, H⟩ := H
          (try dsimp -simprocs only at H)
          have A19 := Aside0.mk A190
          clear A190
          by_cases c20 : t136 = true
          · subst c20
            have H1 : ((entity_within.f a1_4 (-64) 64).bind fun t137 => (if t137 = true then ((entity_within.f a1_5 (-64) 64).bind fun t138 => (if t138 = true then ((entity_within.f a1_6 1 100).bind fun t139 => (if t139 = true then ((entity_within.f a1_7 0 6).bind fun t140 => (if t140 = true then (some (a1_8 == 0)) else (some false))) else (some false))) else (some false))) else (some false))) = some r := by rw [if_pos rfl] at H; exact H
            clear H
            have H := H1
            clear H1
            replace H := Option.bind_eq_some_iff.mp H
            obtain ⟨t137, A210, H⟩ := H
            (try dsimp -simprocs only at H)
            have A21 := Aside0.mk A210
            clear A210
            by_cases c22 : t137 = true
            · subst c22
              have H1 : ((entity_within.f a1_5 (-64) 64).bind fun t138 => (if t138 = true then ((entity_within.f a1_6 1 100).bind fun t139 => (if t139 = true then ((entity_within.f a1_7 0 6).bind fun t140 => (if t140 = true then (some (a1_8 == 0)) else (some false))) else (some false))) else (some false))) = some r := by rw [if_pos rfl] at H; exact H
              clear H
              have H := H1
              clear H1
              replace H := Option.bind_eq_some_iff.mp H
              obtain ⟨t138, A230, H⟩ := H
              (try dsimp -simprocs only at H)
              have A23 := Aside0.mk A230
              clear A230
              by_cases c24 : t138 = true
              · subst c24
                have H1 : ((entity_within.f a1_6 1 100).bind fun t139 => (if t139 = true then ((entity_within.f a1_7 0 6).bind fun t140 => (if t140 = true then (some (a1_8 == 0)) else (some false))) else (some false))) = some r := by rw [if_pos rfl] at H; exact H
                clear H
                have H := H1
                clear H1
                replace H := Option.bind_eq_some_iff.mp H
                obtain ⟨t139, A250, H⟩ := H
                (try dsimp -simprocs only at H)
                have A25 := Aside0.mk A250
                clear A250
                by_cases c26 : t139 = true
                · subst c26
                  have H1 : ((entity_within.f a1_7 0 6).bind fun t140 => (if t140 = true then (some (a1_8 == 0)) else (some false))) = some r := by rw [if_pos rfl] at H; exact H
                  clear H
                  have H := H1
                  clear H1
                  replace H := Option.bind_eq_some_iff.mp H
                  obtain ⟨t140, A270, H⟩ := H
                  (try dsimp -simprocs only at H)
                  have A27 := Aside0.mk A270
                  clear A270
                  by_cases c28 : t140 = true
                  · subst c28
                    have H1 : (some (a1_8 == 0)) = some r := by rw [if_pos rfl] at H; exact H
                    clear H
                    have H := H1
                    clear H1
                    obtain rfl := Option.some.inj H
                    have hnb29 := NB133_132.out
                    have hnc29 := NB132_133.out
                    have hcz30_0 : wc.cell? ⟨gb133, 0, none⟩ = some (.int .i64 a1_0) := (blk_cell BK133.out 0).trans rfl
                    have hcz30_1 : wc.cell? ⟨gb133, 1, none⟩ = some (.int .i64 a1_1) := (blk_cell BK133.out 1).trans rfl
                    have hcz30_2 : wc.cell? ⟨gb133, 2, none⟩ = some (.int .i64 a1_2) := (blk_cell BK133.out 2).trans rfl
                    have hcz30_3 : wc.cell? ⟨gb133, 3, none⟩ = some (.int .i64 a1_3) := (blk_cell BK133.out 3).trans rfl
                    have hcz30_4 : wc.cell? ⟨gb133, 4, none⟩ = some (.int .i64 a1_4) := (blk_cell BK133.out 4).trans rfl
                    have hcz30_5 : wc.cell? ⟨gb133, 5, none⟩ = some (.int .i64 a1_5) := (blk_cell BK133.out 5).trans rfl
                    have hcz30_6 : wc.cell? ⟨gb133, 6, none⟩ = some (.int .i64 a1_6) := (blk_cell BK133.out 6).trans rfl
                    have hcz30_7 : wc.cell? ⟨gb133, 7, none⟩ = some (.int .i64 a1_7) := (blk_cell BK133.out 7).trans rfl
                    have hcz30_8 : wc.cell? ⟨gb133, 8, none⟩ = some (.int .i64 a1_8) := (blk_cell BK133.out 8).trans rfl
                    have hfz30_0 := blk_frozen BK133.out 0
                    have hfz30_1 := blk_frozen BK133.out 1
                    have hfz30_2 := blk_frozen BK133.out 2
                    have hfz30_3 := blk_frozen BK133.out 3
                    have hfz30_4 := blk_frozen BK133.out 4
                    have hfz30_5 := blk_frozen BK133.out 5
                    have hfz30_6 := blk_frozen BK133.out 6
                    have hfz30_7 := blk_frozen BK133.out 7
                    have hfz30_8 := blk_frozen BK133.out 8
                    have hcz31_0 : wc.cell? ⟨gb132, 0, none⟩ = some (.int .i64 a0_0) := (blk_cell BK132.out 0).trans rfl
                    have hcz31_1 : wc.cell? ⟨gb132, 1, none⟩ = some (.int .i64 a0_1) := (blk_cell BK132.out 1).trans rfl
                    have hcz31_2 : wc.cell? ⟨gb132, 2, none⟩ = some (.int .i64 a0_2) := (blk_cell BK132.out 2).trans rfl
                    have hcz31_3 : wc.cell? ⟨gb132, 3, none⟩ = some (.int .i64 a0_3) := (blk_cell BK132.out 3).trans rfl
                    have hcz31_4 : wc.cell? ⟨gb132, 4, none⟩ = some (.int .u64 a0_4) := (blk_cell BK132.out 4).trans rfl
                    have hfz31_0 := blk_frozen BK132.out 0
                    have hfz31_1 := blk_frozen BK132.out 1
                    have hfz31_2 := blk_frozen BK132.out 2
                    have hfz31_3 := blk_frozen BK132.out 3
                    have hfz31_4 := blk_frozen BK132.out 4
                    go_wp2_with (first | ((with_reducible refine gate_callee (f := 41) rfl ?_); refine goesL_ (some 30) rfl rfl Try.func41 (by kernel_rfl) rfl #[.int .i64 a1_0, .int .i64 1, .int .i64 a0_2] rfl au6_2 ?_; (with_reducible refine (entity_within.calls a1_0 1 a0_2 true _ A19.out).mono ?_); rintro e w' ⟨rfl, ⟨nd, rfl⟩⟩; refine ⟨_, rfl, ?_⟩) | (go_at_call 41; (with_reducible refine (entity_within.calls a1_4 (-64) 64 true _ A21.out).mono ?_); rintro e w' ⟨rfl, ⟨nd, rfl⟩⟩) | (go_at_call 41; (with_reducible refine (entity_within.calls a1_5 (-64) 64 true _ A23.out).mono ?_); rintro e w' ⟨rfl, ⟨nd, rfl⟩⟩) | (go_at_call 41; (with_reducible refine (entity_within.calls a1_6 1 100 true _ A25.out).mono ?_); rintro e w' ⟨rfl, ⟨nd, rfl⟩⟩) | (go_at_call 41; (with_reducible refine (entity_within.calls a1_7 0 6 true _ A27.out).mono ?_); rintro e w' ⟨rfl, ⟨nd, rfl⟩⟩))
                    go_ret
                    exact ⟨au6_1, au6_0⟩
                  · replace c28 := Bool.eq_false_iff.mpr c28
                    subst c28
                    have H1 : (some false) = some r := by rw [if_neg (show ¬ (false = true) by decide)] at H; exact H
                    clear H
                    have H := H1
                    clear H1
                    obtain rfl := Option.some.inj H
                    have hnb32 := NB133_132.out
                    have hnc32 := NB132_133.out
                    have hcz33_0 : wc.cell? ⟨gb133, 0, none⟩ = some (.int .i64 a1_0) := (blk_cell BK133.out 0).trans rfl
                    have hcz33_1 : wc.cell? ⟨gb133, 1, none⟩ = some (.int .i64 a1_1) := (blk_cell BK133.out 1).trans rfl
                    have hcz33_2 : wc.cell? ⟨gb133, 2, none⟩ = some (.int .i64 a1_2) := (blk_cell BK133.out 2).trans rfl
                    have hcz33_3 : wc.cell? ⟨gb133, 3, none⟩ = some (.int .i64 a1_3) := (blk_cell BK133.out 3).trans rfl
                    have hcz33_4 : wc.cell? ⟨gb133, 4, none⟩ = some (.int .i64 a1_4) := (blk_cell BK133.out 4).trans rfl
                    have hcz33_5 : wc.cell? ⟨gb133, 5, none⟩ = some (.int .i64 a1_5) := (blk_cell BK133.out 5).trans rfl
                    have hcz33_6 : wc.cell? ⟨gb133, 6, none⟩ = some (.int .i64 a1_6) := (blk_cell BK133.out 6).trans rfl
                    have hcz33_7 : wc.cell? ⟨gb133, 7, none⟩ = some (.int .i64 a1_7) := (blk_cell BK133.out 7).trans rfl
                    have hcz33_8 : wc.cell? ⟨gb133, 8, none⟩ = some (.int .i64 a1_8) := (blk_cell BK133.out 8).trans rfl
                    have hfz33_0 := blk_frozen BK133.out 0
                    have hfz33_1 := blk_frozen BK133.out 1
                    have hfz33_2 := blk_frozen BK133.out 2
                    have hfz33_3 := blk_frozen BK133.out 3
                    have hfz33_4 := blk_frozen BK133.out 4
                    have hfz33_5 := blk_frozen BK133.out 5
                    have hfz33_6 := blk_frozen BK133.out 6
                    have hfz33_7 := blk_frozen BK133.out 7
                    have hfz33_8 := blk_frozen BK133.out 8
                    have hcz34_0 : wc.cell? ⟨gb132, 0, none⟩ = some (.int .i64 a0_0) := (blk_cell BK132.out 0).trans rfl
                    have hcz34_1 : wc.cell? ⟨gb132, 1, none⟩ = some (.int .i64 a0_1) := (blk_cell BK132.out 1).trans rfl
                    have hcz34_2 : wc.cell? ⟨gb132, 2, none⟩ = some (.int .i64 a0_2) := (blk_cell BK132.out 2).trans rfl
                    have hcz34_3 : wc.cell? ⟨gb132, 3, none⟩ = some (.int .i64 a0_3) := (blk_cell BK132.out 3).trans rfl
                    have hcz34_4 : wc.cell? ⟨gb132, 4, none⟩ = some (.int .u64 a0_4) := (blk_cell BK132.out 4).trans rfl
                    have hfz34_0 := blk_frozen BK132.out 0
                    have hfz34_1 := blk_frozen BK132.out 1
                    have hfz34_2 := blk_frozen BK132.out 2
                    have hfz34_3 := blk_frozen BK132.out 3
                    have hfz34_4 := blk_frozen BK132.out 4
                    go_wp2_with (first | ((with_reducible refine gate_callee (f := 41) rfl ?_); refine goesL_ (some 30) rfl rfl Try.func41 (by kernel_rfl) rfl #[.int .i64 a1_0, .int .i64 1, .int .i64 a0_2] rfl au6_2 ?_; (with_reducible refine (entity_within.calls a1_0 1 a0_2 true _ A19.out).mono ?_); rintro e w' ⟨rfl, ⟨nd, rfl⟩⟩; refine ⟨_, rfl, ?_⟩) | (go_at_call 41; (with_reducible refine (entity_within.calls a1_4 (-64) 64 true _ A21.out).mono ?_); rintro e w' ⟨rfl, ⟨nd, rfl⟩⟩) | (go_at_call 41; (with_reducible refine (entity_within.calls a1_5 (-64) 64 true _ A23.out).mono ?_); rintro e w' ⟨rfl, ⟨nd, rfl⟩⟩) | (go_at_call 41; (with_reducible refine (entity_within.calls a1_6 1 100 true _ A25.out).mono ?_); rintro e w' ⟨rfl, ⟨nd, rfl⟩⟩) | (go_at_call 41; (with_reducible refine (entity_within.calls a1_7 0 6 false _ A27.out).mono ?_); rintro e w' ⟨rfl, ⟨nd, rfl⟩⟩))
                    go_ret
                    exact ⟨au6_1, au6_0⟩
                · replace c26 := Bool.eq_false_iff.mpr c26
                  subst c26
                  have H1 : (some false) = some r := by rw [if_neg (show ¬ (false = true) by decide)] at H; exact H
                  clear H
                  have H := H1
                  clear H1
                  obtain rfl := Option.some.inj H
                  have hnb35 := NB133_132.out
                  have hnc35 := NB132_133.out
                  have hcz36_0 : wc.cell? ⟨gb133, 0, none⟩ = some (.int .i64 a1_0) := (blk_cell BK133.out 0).trans rfl
                  have hcz36_1 : wc.cell? ⟨gb133, 1, none⟩ = some (.int .i64 a1_1) := (blk_cell BK133.out 1).trans rfl
                  have hcz36_2 : wc.cell? ⟨gb133, 2, none⟩ = some (.int .i64 a1_2) := (blk_cell BK133.out 2).trans rfl
                  have hcz36_3 : wc.cell? ⟨gb133, 3, none⟩ = some (.int .i64 a1_3) := (blk_cell BK133.out 3).trans rfl
                  have hcz36_4 : wc.cell? ⟨gb133, 4, none⟩ = some (.int .i64 a1_4) := (blk_cell BK133.out 4).trans rfl
                  have hcz36_5 : wc.cell? ⟨gb133, 5, none⟩ = some (.int .i64 a1_5) := (blk_cell BK133.out 5).trans rfl
                  have hcz36_6 : wc.cell? ⟨gb133, 6, none⟩ = some (.int .i64 a1_6) := (blk_cell BK133.out 6).trans rfl
                  have hcz36_7 : wc.cell? ⟨gb133, 7, none⟩ = some (.int .i64 a1_7) := (blk_cell BK133.out 7).trans rfl
                  have hcz36_8 : wc.cell? ⟨gb133, 8, none⟩ = some (.int .i64 a1_8) := (blk_cell BK133.out 8).trans rfl
                  have hfz36_0 := blk_frozen BK133.out 0
                  have hfz36_1 := blk_frozen BK133.out 1
                  have hfz36_2 := blk_frozen BK133.out 2
                  have hfz36_3 := blk_frozen BK133.out 3
                  have hfz36_4 := blk_frozen BK133.out 4
                  have hfz36_5 := blk_frozen BK133.out 5
                  have hfz36_6 := blk_frozen BK133.out 6
                  have hfz36_7 := blk_frozen BK133.out 7
                  have hfz36_8 := blk_frozen BK133.out 8
                  have hcz37_0 : wc.cell? ⟨gb132, 0, none⟩ = some (.int .i64 a0_0) := (blk_cell BK132.out 0).trans rfl
                  have hcz37_1 : wc.cell? ⟨gb132, 1, none⟩ = some (.int .i64 a0_1) := (blk_cell BK132.out 1).trans rfl
                  have hcz37_2 : wc.cell? ⟨gb132, 2, none⟩ = some (.int .i64 a0_2) := (blk_cell BK132.out 2).trans rfl
                  have hcz37_3 : wc.cell? ⟨gb132, 3, none⟩ = some (.int .i64 a0_3) := (blk_cell BK132.out 3).trans rfl
                  have hcz37_4 : wc.cell? ⟨gb132, 4, none⟩ = some (.int .u64 a0_4) := (blk_cell BK132.out 4).trans rfl
                  have hfz37_0 := blk_frozen BK132.out 0
                  have hfz37_1 := blk_frozen BK132.out 1
                  have hfz37_2 := blk_frozen BK132.out 2
                  have hfz37_3 := blk_frozen BK132.out 3
                  have hfz37_4 := blk_frozen BK132.out 4
                  go_wp2_with (first | ((with_reducible refine gate_callee (f := 41) rfl ?_); refine goesL_ (some 30) rfl rfl Try.func41 (by kernel_rfl) rfl #[.int .i64 a1_0, .int .i64 1, .int .i64 a0_2] rfl au6_2 ?_; (with_reducible refine (entity_within.calls a1_0 1 a0_2 true _ A19.out).mono ?_); rintro e w' ⟨rfl, ⟨nd, rfl⟩⟩; refine ⟨_, rfl, ?_⟩) | (go_at_call 41; (with_reducible refine (entity_within.calls a1_4 (-64) 64 true _ A21.out).mono ?_); rintro e w' ⟨rfl, ⟨nd, rfl⟩⟩) | (go_at_call 41; (with_reducible refine (entity_within.calls a1_5 (-64) 64 true _ A23.out).mono ?_); rintro e w' ⟨rfl, ⟨nd, rfl⟩⟩) | (go_at_call 41; (with_reducible refine (entity_within.calls a1_6 1 100 false _ A25.out).mono ?_); rintro e w' ⟨rfl, ⟨nd, rfl⟩⟩))
                  go_ret
                  exact ⟨au6_1, au6_0⟩
              · replace c24 := Bool.eq_false_iff.mpr c24
                subst c24
                have H1 : (some false) = some r := by rw [if_neg (show ¬ (false = true) by decide)] at H; exact H
                clear H
                have H := H1
                clear H1
                obtain rfl := Option.some.inj H
                have hnb38 := NB133_132.out
                have hnc38 := NB132_133.out
                have hcz39_0 : wc.cell? ⟨gb133, 0, none⟩ = some (.int .i64 a1_0) := (blk_cell BK133.out 0).trans rfl
                have hcz39_1 : wc.cell? ⟨gb133, 1, none⟩ = some (.int .i64 a1_1) := (blk_cell BK133.out 1).trans rfl
                have hcz39_2 : wc.cell? ⟨gb133, 2, none⟩ = some (.int .i64 a1_2) := (blk_cell BK133.out 2).trans rfl
                have hcz39_3 : wc.cell? ⟨gb133, 3, none⟩ = some (.int .i64 a1_3) := (blk_cell BK133.out 3).trans rfl
                have hcz39_4 : wc.cell? ⟨gb133, 4, none⟩ = some (.int .i64 a1_4) := (blk_cell BK133.out 4).trans rfl
                have hcz39_5 : wc.cell? ⟨gb133, 5, none⟩ = some (.int .i64 a1_5) := (blk_cell BK133.out 5).trans rfl
                have hcz39_6 : wc.cell? ⟨gb133, 6, none⟩ = some (.int .i64 a1_6) := (blk_cell BK133.out 6).trans rfl
                have hcz39_7 : wc.cell? ⟨gb133, 7, none⟩ = some (.int .i64 a1_7) := (blk_cell BK133.out 7).trans rfl
                have hcz39_8 : wc.cell? ⟨gb133, 8, none⟩ = some (.int .i64 a1_8) := (blk_cell BK133.out 8).trans rfl
                have hfz39_0 := blk_frozen BK133.out 0
                have hfz39_1 := blk_frozen BK133.out 1
                have hfz39_2 := blk_frozen BK133.out 2
                have hfz39_3 := blk_frozen BK133.out 3
                have hfz39_4 := blk_frozen BK133.out 4
                have hfz39_5 := blk_frozen BK133.out 5
                have hfz39_6 := blk_frozen BK133.out 6
                have hfz39_7 := blk_frozen BK133.out 7
                have hfz39_8 := blk_frozen BK133.out 8
                have hcz40_0 : wc.cell? ⟨gb132, 0, none⟩ = some (.int .i64 a0_0) := (blk_cell BK132.out 0).trans rfl
                have hcz40_1 : wc.cell? ⟨gb132, 1, none⟩ = some (.int .i64 a0_1) := (blk_cell BK132.out 1).trans rfl
                have hcz40_2 : wc.cell? ⟨gb132, 2, none⟩ = some (.int .i64 a0_2) := (blk_cell BK132.out 2).trans rfl
                have hcz40_3 : wc.cell? ⟨gb132, 3, none⟩ = some (.int .i64 a0_3) := (blk_cell BK132.out 3).trans rfl
                have hcz40_4 : wc.cell? ⟨gb132, 4, none⟩ = some (.int .u64 a0_4) := (blk_cell BK132.out 4).trans rfl
                have hfz40_0 := blk_frozen BK132.out 0
                have hfz40_1 := blk_frozen BK132.out 1
                have hfz40_2 := blk_frozen BK132.out 2
                have hfz40_3 := blk_frozen BK132.out 3
                have hfz40_4 := blk_frozen BK132.out 4
                go_wp2_with (first | ((with_reducible refine gate_callee (f := 41) rfl ?_); refine goesL_ (some 30) rfl rfl Try.func41 (by kernel_rfl) rfl #[.int .i64 a1_0, .int .i64 1, .int .i64 a0_2] rfl au6_2 ?_; (with_reducible refine (entity_within.calls a1_0 1 a0_2 true _ A19.out).mono ?_); rintro e w' ⟨rfl, ⟨nd, rfl⟩⟩; refine ⟨_, rfl, ?_⟩) | (go_at_call 41; (with_reducible refine (entity_within.calls a1_4 (-64) 64 true _ A21.out).mono ?_); rintro e w' ⟨rfl, ⟨nd, rfl⟩⟩) | (go_at_call 41; (with_reducible refine (entity_within.calls a1_5 (-64) 64 false _ A23.out).mono ?_); rintro e w' ⟨rfl, ⟨nd, rfl⟩⟩))
                go_ret
                exact ⟨au6_1, au6_0⟩
            · replace c22 := Bool.eq_false_iff.mpr c22
              subst c22
              have H1 : (some false) = some r := by rw [if_neg (show ¬ (false = true) by decide)] at H; exact H
              clear H
              have H := H1
              clear H1
              obtain rfl := Option.some.inj H
              have hnb41 := NB133_132.out
              have hnc41 := NB132_133.out
              have hcz42_0 : wc.cell? ⟨gb133, 0, none⟩ = some (.int .i64 a1_0) := (blk_cell BK133.out 0).trans rfl
              have hcz42_1 : wc.cell? ⟨gb133, 1, none⟩ = some (.int .i64 a1_1) := (blk_cell BK133.out 1).trans rfl
              have hcz42_2 : wc.cell? ⟨gb133, 2, none⟩ = some (.int .i64 a1_2) := (blk_cell BK133.out 2).trans rfl
              have hcz42_3 : wc.cell? ⟨gb133, 3, none⟩ = some (.int .i64 a1_3) := (blk_cell BK133.out 3).trans rfl
              have hcz42_4 : wc.cell? ⟨gb133, 4, none⟩ = some (.int .i64 a1_4) := (blk_cell BK133.out 4).trans rfl
              have hcz42_5 : wc.cell? ⟨gb133, 5, none⟩ = some (.int .i64 a1_5) := (blk_cell BK133.out 5).trans rfl
              have hcz42_6 : wc.cell? ⟨gb133, 6, none⟩ = some (.int .i64 a1_6) := (blk_cell BK133.out 6).trans rfl
              have hcz42_7 : wc.cell? ⟨gb133, 7, none⟩ = some (.int .i64 a1_7) := (blk_cell BK133.out 7).trans rfl
              have hcz42_8 : wc.cell? ⟨gb133, 8, none⟩ = some (.int .i64 a1_8) := (blk_cell BK133.out 8).trans rfl
              have hfz42_0 := blk_frozen BK133.out 0
              have hfz42_1 := blk_frozen BK133.out 1
              have hfz42_2 := blk_frozen BK133.out 2
              have hfz42_3 := blk_frozen BK133.out 3
              have hfz42_4 := blk_frozen BK133.out 4
              have hfz42_5 := blk_frozen BK133.out 5
              have hfz42_6 := blk_frozen BK133.out 6
              have hfz42_7 := blk_frozen BK133.out 7
              have hfz42_8 := blk_frozen BK133.out 8
              have hcz43_0 : wc.cell? ⟨gb132, 0, none⟩ = some (.int .i64 a0_0) := (blk_cell BK132.out 0).trans rfl
              have hcz43_1 : wc.cell? ⟨gb132, 1, none⟩ = some (.int .i64 a0_1) := (blk_cell BK132.out 1).trans rfl
              have hcz43_2 : wc.cell? ⟨gb132, 2, none⟩ = some (.int .i64 a0_2) := (blk_cell BK132.out 2).trans rfl
              have hcz43_3 : wc.cell? ⟨gb132, 3, none⟩ = some (.int .i64 a0_3) := (blk_cell BK132.out 3).trans rfl
              have hcz43_4 : wc.cell? ⟨gb132, 4, none⟩ = some (.int .u64 a0_4) := (blk_cell BK132.out 4).trans rfl
              have hfz43_0 := blk_frozen BK132.out 0
              have hfz43_1 := blk_frozen BK132.out 1
              have hfz43_2 := blk_frozen BK132.out 2
              have hfz43_3 := blk_frozen BK132.out 3
              have hfz43_4 := blk_frozen BK132.out 4
              go_wp2_with (first | ((with_reducible refine gate_callee (f := 41) rfl ?_); refine goesL_ (some 30) rfl rfl Try.func41 (by kernel_rfl) rfl #[.int .i64 a1_0, .int .i64 1, .int .i64 a0_2] rfl au6_2 ?_; (with_reducible refine (entity_within.calls a1_0 1 a0_2 true _ A19.out).mono ?_); rintro e w' ⟨rfl, ⟨nd, rfl⟩⟩; refine ⟨_, rfl, ?_⟩) | (go_at_call 41; (with_reducible refine (entity_within.calls a1_4 (-64) 64 false _ A21.out).mono ?_); rintro e w' ⟨rfl, ⟨nd, rfl⟩⟩))
              go_ret
              exact ⟨au6_1, au6_0⟩
          · replace c20 := Bool.eq_false_iff.mpr c20
            subst c20
            have H1 : (some false) = some r := by rw [if_neg (show ¬ (false = true) by decide)] at H; exact H
            clear H
            have H := H1
            clear H1
            obtain rfl := Option.some.inj H
            have hnb44 := NB133_132.out
            have hnc44 := NB132_133.out
            have hcz45_0 : wc.cell? ⟨gb133, 0, none⟩ = some (.int .i64 a1_0) := (blk_cell BK133.out 0).trans rfl
            have hcz45_1 : wc.cell? ⟨gb133, 1, none⟩ = some (.int .i64 a1_1) := (blk_cell BK133.out 1).trans rfl
            have hcz45_2 : wc.cell? ⟨gb133, 2, none⟩ = some (.int .i64 a1_2) := (blk_cell BK133.out 2).trans rfl
            have hcz45_3 : wc.cell? ⟨gb133, 3, none⟩ = some (.int .i64 a1_3) := (blk_cell BK133.out 3).trans rfl
            have hcz45_4 : wc.cell? ⟨gb133, 4, none⟩ = some (.int .i64 a1_4) := (blk_cell BK133.out 4).trans rfl
            have hcz45_5 : wc.cell? ⟨gb133, 5, none⟩ = some (.int .i64 a1_5) := (blk_cell BK133.out 5).trans rfl
            have hcz45_6 : wc.cell? ⟨gb133, 6, none⟩ = some (.int .i64 a1_6) := (blk_cell BK133.out 6).trans rfl
            have hcz45_7 : wc.cell? ⟨gb133, 7, none⟩ = some (.int .i64 a1_7) := (blk_cell BK133.out 7).trans rfl
            have hcz45_8 : wc.cell? ⟨gb133, 8, none⟩ = some (.int .i64 a1_8) := (blk_cell BK133.out 8).trans rfl
            have hfz45_0 := blk_frozen BK133.out 0
            have hfz45_1 := blk_frozen BK133.out 1
            have hfz45_2 := blk_frozen BK133.out 2
            have hfz45_3 := blk_frozen BK133.out 3
            have hfz45_4 := blk_frozen BK133.out 4
            have hfz45_5 := blk_frozen BK133.out 5
            have hfz45_6 := blk_frozen BK133.out 6
            have hfz45_7 := blk_frozen BK133.out 7
            have hfz45_8 := blk_frozen BK133.out 8
            have hcz46_0 : wc.cell? ⟨gb132, 0, none⟩ = some (.int .i64 a0_0) := (blk_cell BK132.out 0).trans rfl
            have hcz46_1 : wc.cell? ⟨gb132, 1, none⟩ = some (.int .i64 a0_1) := (blk_cell BK132.out 1).trans rfl
            have hcz46_2 : wc.cell? ⟨gb132, 2, none⟩ = some (.int .i64 a0_2) := (blk_cell BK132.out 2).trans rfl
            have hcz46_3 : wc.cell? ⟨gb132, 3, none⟩ = some (.int .i64 a0_3) := (blk_cell BK132.out 3).trans rfl
            have hcz46_4 : wc.cell? ⟨gb132, 4, none⟩ = some (.int .u64 a0_4) := (blk_cell BK132.out 4).trans rfl
            have hfz46_0 := blk_frozen BK132.out 0
            have hfz46_1 := blk_frozen BK132.out 1
            have hfz46_2 := blk_frozen BK132.out 2
            have hfz46_3 := blk_frozen BK132.out 3
            have hfz46_4 := blk_frozen BK132.out 4
            go_wp2_with (first | ((with_reducible refine gate_callee (f := 41) rfl ?_); refine goesL_ (some 30) rfl rfl Try.func41 (by kernel_rfl) rfl #[.int .i64 a1_0, .int .i64 1, .int .i64 a0_2] rfl au6_2 ?_; (with_reducible refine (entity_within.calls a1_0 1 a0_2 false _ A19.out).mono ?_); rintro e w' ⟨rfl, ⟨nd, rfl⟩⟩; refine ⟨_, rfl, ?_⟩))
            go_ret
            exact ⟨au6_1, au6_0⟩
        · rw [if_neg c18] at H
          have c18b0 : (a1_1 == 1) = false := beq_eq_false_iff_ne.mpr c18
          have c18b1 : (a1_1 != 1) = true := bne_iff_ne.mpr c18
          by_cases c47 : a1_1 = 2
          · rw [if_pos c47] at H
            have c47b0 : (a1_1 == 2) = true := beq_iff_eq.mpr c47
            have c47b1 : (a1_1 != 2) = false := bne_eq_false_iff_eq.mpr c47
            clear c47
            by_cases c48 : x5_4 = true
            · subst c48
              have H1 : ((entity_pace.f a1_4).bind fun t141 => (if t141 = true then ((entity_pace.f a1_5).bind fun t142 => (if t142 = true then (if a1_4 = 0 then (if a1_5 = 0 then (some false) else ((entity_within.f a1_7 0 12).bind fun t143 => (if t143 = true then ((entity_within.f a1_8 1 a0_2).bind fun t144 => (some t144)) else (some false)))) else ((entity_within.f a1_7 0 12).bind fun t145 => (if t145 = true then ((entity_within.f a1_8 1 a0_2).bind fun t146 => (some t146)) else (some false)))) else (some false))) else (some false))) = some r := by rw [if_pos rfl] at H; exact H
              clear H
              have H := H1
              clear H1
              replace H := Option.bind_eq_some_iff.mp H
              obtain ⟨t141, A490, H⟩ := H
              (try dsimp -simprocs only at H)
              have A49 := Aside0.mk A490
              clear A490
              by_cases c50 : t141 = true
              · subst c50
                have H1 : ((entity_pace.f a1_5).bind fun t142 => (if t142 = true then (if a1_4 = 0 then (if a1_5 = 0 then (some false) else ((entity_within.f a1_7 0 12).bind fun t143 => (if t143 = true then ((entity_within.f a1_8 1 a0_2).bind fun t144 => (some t144)) else (some false)))) else ((entity_within.f a1_7 0 12).bind fun t145 => (if t145 = true then ((entity_within.f a1_8 1 a0_2).bind fun t146 => (some t146)) else (some false)))) else (some false))) = some r := by rw [if_pos rfl] at H; exact H
                clear H
                have H := H1
                clear H1
                replace H := Option.bind_eq_some_iff.mp H
                obtain ⟨t142, A510, H⟩ := H
                (try dsimp -simprocs only at H)
                have A51 := Aside0.mk A510
                clear A510
                by_cases c52 : t142 = true
                · subst c52
                  have H1 : (if a1_4 = 0 then (if a1_5 = 0 then (some false) else ((entity_within.f a1_7 0 12).bind fun t143 => (if t143 = true then ((entity_within.f a1_8 1 a0_2).bind fun t144 => (some t144)) else (some false)))) else ((entity_within.f a1_7 0 12).bind fun t145 => (if t145 = true then ((entity_within.f a1_8 1 a0_2).bind fun t146 => (some t146)) else (some false)))) = some r := by rw [if_pos rfl] at H; exact H
                  clear H
                  have H := H1
                  clear H1
                  by_cases c53 : a1_4 = 0
                  · rw [if_pos c53] at H
                    have c53b0 : (a1_4 == 0) = true := beq_iff_eq.mpr c53
                    have c53b1 : (a1_4 != 0) = false := bne_eq_false_iff_eq.mpr c53
                    clear c53
                    by_cases c54 : a1_5 = 0
                    · rw [if_pos c54] at H
                      have c54b0 : (a1_5 == 0) = true := beq_iff_eq.mpr c54
                      have c54b1 : (a1_5 != 0) = false := bne_eq_false_iff_eq.mpr c54
                      clear c54
                      obtain rfl := Option.some.inj H
                      have hnb55 := NB133_132.out
                      have hnc55 := NB132_133.out
                      have hcz56_0 : wc.cell? ⟨gb133, 0, none⟩ = some (.int .i64 a1_0) := (blk_cell BK133.out 0).trans rfl
                      have hcz56_1 : wc.cell? ⟨gb133, 1, none⟩ = some (.int .i64 a1_1) := (blk_cell BK133.out 1).trans rfl
                      have hcz56_2 : wc.cell? ⟨gb133, 2, none⟩ = some (.int .i64 a1_2) := (blk_cell BK133.out 2).trans rfl
                      have hcz56_3 : wc.cell? ⟨gb133, 3, none⟩ = some (.int .i64 a1_3) := (blk_cell BK133.out 3).trans rfl
                      have hcz56_4 : wc.cell? ⟨gb133, 4, none⟩ = some (.int .i64 a1_4) := (blk_cell BK133.out 4).trans rfl
                      have hcz56_5 : wc.cell? ⟨gb133, 5, none⟩ = some (.int .i64 a1_5) := (blk_cell BK133.out 5).trans rfl
                      have hcz56_6 : wc.cell? ⟨gb133, 6, none⟩ = some (.int .i64 a1_6) := (blk_cell BK133.out 6).trans rfl
                      have hcz56_7 : wc.cell? ⟨gb133, 7, none⟩ = some (.int .i64 a1_7) := (blk_cell BK133.out 7).trans rfl
                      have hcz56_8 : wc.cell? ⟨gb133, 8, none⟩ = some (.int .i64 a1_8) := (blk_cell BK133.out 8).trans rfl
                      have hfz56_0 := blk_frozen BK133.out 0
                      have hfz56_1 := blk_frozen BK133.out 1
                      have hfz56_2 := blk_frozen BK133.out 2
                      have hfz56_3 := blk_frozen BK133.out 3
                      have hfz56_4 := blk_frozen BK133.out 4
                      have hfz56_5 := blk_frozen BK133.out 5
                      have hfz56_6 := blk_frozen BK133.out 6
                      have hfz56_7 := blk_frozen BK133.out 7
                      have hfz56_8 := blk_frozen BK133.out 8
                      go_wp2_with (first | (go_at_call 42; (with_reducible refine (entity_pace.calls a1_4 true _ A49.out).mono ?_); rintro e w' ⟨rfl, ⟨nd, rfl⟩⟩) | (go_at_call 42; (with_reducible refine (entity_pace.calls a1_5 true _ A51.out).mono ?_); rintro e w' ⟨rfl, ⟨nd, rfl⟩⟩))
                      go_ret
                      exact ⟨au6_1, au6_0⟩
                    · rw [if_neg c54] at H
                      have c54b0 : (a1_5 == 0) = false := beq_eq_false_iff_ne.mpr c54
                      have c54b1 : (a1_5 != 0) = true := bne_iff_ne.mpr c54
                      replace H := Option.bind_eq_some_iff.mp H
                      obtain ⟨t143, A570, H⟩ := H
                      (try dsimp -simprocs only at H)
                      have A57 := Aside0.mk A570
                      clear A570
                      by_cases c58 : t143 = true
                      · subst c58
                        have H1 : ((entity_within.f a1_8 1 a0_2).bind fun t144 => (some t144)) = some r := by rw [if_pos rfl] at H; exact H
                        clear H
                        have H := H1
                        clear H1
                        replace H := Option.bind_eq_some_iff.mp H
                        obtain ⟨t144, A590, H⟩ := H
                        (try dsimp -simprocs only at H)
                        have A59 := Aside0.mk A590
                        clear A590
                        obtain rfl := Option.some.inj H
                        have hnb60 := NB133_132.out
                        have hnc60 := NB132_133.out
                        have hcz61_0 : wc.cell? ⟨gb133, 0, none⟩ = some (.int .i64 a1_0) := (blk_cell BK133.out 0).trans rfl
                        have hcz61_1 : wc.cell? ⟨gb133, 1, none⟩ = some (.int .i64 a1_1) := (blk_cell BK133.out 1).trans rfl
                        have hcz61_2 : wc.cell? ⟨gb133, 2, none⟩ = some (.int .i64 a1_2) := (blk_cell BK133.out 2).trans rfl
                        have hcz61_3 : wc.cell? ⟨gb133, 3, none⟩ = some (.int .i64 a1_3) := (blk_cell BK133.out 3).trans rfl
                        have hcz61_4 : wc.cell? ⟨gb133, 4, none⟩ = some (.int .i64 a1_4) := (blk_cell BK133.out 4).trans rfl
                        have hcz61_5 : wc.cell? ⟨gb133, 5, none⟩ = some (.int .i64 a1_5) := (blk_cell BK133.out 5).trans rfl
                        have hcz61_6 : wc.cell? ⟨gb133, 6, none⟩ = some (.int .i64 a1_6) := (blk_cell BK133.out 6).trans rfl
                        have hcz61_7 : wc.cell? ⟨gb133, 7, none⟩ = some (.int .i64 a1_7) := (blk_cell BK133.out 7).trans rfl
                        have hcz61_8 : wc.cell? ⟨gb133, 8, none⟩ = some (.int .i64 a1_8) := (blk_cell BK133.out 8).trans rfl
                        have hfz61_0 := blk_frozen BK133.out 0
                        have hfz61_1 := blk_frozen BK133.out 1
                        have hfz61_2 := blk_frozen BK133.out 2
                        have hfz61_3 := blk_frozen BK133.out 3
                        have hfz61_4 := blk_frozen BK133.out 4
                        have hfz61_5 := blk_frozen BK133.out 5
                        have hfz61_6 := blk_frozen BK133.out 6
                        have hfz61_7 := blk_frozen BK133.out 7
                        have hfz61_8 := blk_frozen BK133.out 8
                        go_wp2_with (first | (go_at_call 42; (with_reducible refine (entity_pace.calls a1_4 true _ A49.out).mono ?_); rintro e w' ⟨rfl, ⟨nd, rfl⟩⟩) | (go_at_call 42; (with_reducible refine (entity_pace.calls a1_5 true _ A51.out).mono ?_); rintro e w' ⟨rfl, ⟨nd, rfl⟩⟩) | (go_at_call 41; (with_reducible refine (entity_within.calls a1_7 0 12 true _ A57.out).mono ?_); rintro e w' ⟨rfl, ⟨nd, rfl⟩⟩; have hcz62_0 : wc.cell? ⟨gb132, 0, none⟩ = some (.int .i64 a0_0) := (blk_cell BK132.out 0).trans rfl; have hcz62_1 : wc.cell? ⟨gb132, 1, none⟩ = some (.int .i64 a0_1) := (blk_cell BK132.out 1).trans rfl; have hcz62_2 : wc.cell? ⟨gb132, 2, none⟩ = some (.int .i64 a0_2) := (blk_cell BK132.out 2).trans rfl; have hcz62_3 : wc.cell? ⟨gb132, 3, none⟩ = some (.int .i64 a0_3) := (blk_cell BK132.out 3).trans rfl; have hcz62_4 : wc.cell? ⟨gb132, 4, none⟩ = some (.int .u64 a0_4) := (blk_cell BK132.out 4).trans rfl; have hfz62_0 := blk_frozen BK132.out 0; have hfz62_1 := blk_frozen BK132.out 1; have hfz62_2 := blk_frozen BK132.out 2; have hfz62_3 := blk_frozen BK132.out 3; have hfz62_4 := blk_frozen BK132.out 4) | (go_at_call 41; (with_reducible refine (entity_within.calls a1_8 1 a0_2 t144 _ A59.out).mono ?_); rintro e w' ⟨rfl, ⟨nd, rfl⟩⟩))
                        go_ret
                        exact ⟨au6_1, au6_0⟩
                      · replace c58 := Bool.eq_false_iff.mpr c58
                        subst c58
                        have H1 : (some false) = some r := by rw [if_neg (show ¬ (false = true) by decide)] at H; exact H
                        clear H
                        have H := H1
                        clear H1
                        obtain rfl := Option.some.inj H
                        have hnb63 := NB133_132.out
                        have hnc63 := NB132_133.out
                        have hcz64_0 : wc.cell? ⟨gb133, 0, none⟩ = some (.int .i64 a1_0) := (blk_cell BK133.out 0).trans rfl
                        have hcz64_1 : wc.cell? ⟨gb133, 1, none⟩ = some (.int .i64 a1_1) := (blk_cell BK133.out 1).trans rfl
                        have hcz64_2 : wc.cell? ⟨gb133, 2, none⟩ = some (.int .i64 a1_2) := (blk_cell BK133.out 2).trans rfl
                        have hcz64_3 : wc.cell? ⟨gb133, 3, none⟩ = some (.int .i64 a1_3) := (blk_cell BK133.out 3).trans rfl
                        have hcz64_4 : wc.cell? ⟨gb133, 4, none⟩ = some (.int .i64 a1_4) := (blk_cell BK133.out 4).trans rfl
                        have hcz64_5 : wc.cell? ⟨gb133, 5, none⟩ = some (.int .i64 a1_5) := (blk_cell BK133.out 5).trans rfl
                        have hcz64_6 : wc.cell? ⟨gb133, 6, none⟩ = some (.int .i64 a1_6) := (blk_cell BK133.out 6).trans rfl
                        have hcz64_7 : wc.cell? ⟨gb133, 7, none⟩ = some (.int .i64 a1_7) := (blk_cell BK133.out 7).trans rfl
                        have hcz64_8 : wc.cell? ⟨gb133, 8, none⟩ = some (.int .i64 a1_8) := (blk_cell BK133.out 8).trans rfl
                        have hfz64_0 := blk_frozen BK133.out 0
                        have hfz64_1 := blk_frozen BK133.out 1
                        have hfz64_2 := blk_frozen BK133.out 2
                        have hfz64_3 := blk_frozen BK133.out 3
                        have hfz64_4 := blk_frozen BK133.out 4
                        have hfz64_5 := blk_frozen BK133.out 5
                        have hfz64_6 := blk_frozen BK133.out 6
                        have hfz64_7 := blk_frozen BK133.out 7
                        have hfz64_8 := blk_frozen BK133.out 8
                        go_wp2_with (first | (go_at_call 42; (with_reducible refine (entity_pace.calls a1_4 true _ A49.out).mono ?_); rintro e w' ⟨rfl, ⟨nd, rfl⟩⟩) | (go_at_call 42; (with_reducible refine (entity_pace.calls a1_5 true _ A51.out).mono ?_); rintro e w' ⟨rfl, ⟨nd, rfl⟩⟩) | (go_at_call 41; (with_reducible refine (entity_within.calls a1_7 0 12 false _ A57.out).mono ?_); rintro e w' ⟨rfl, ⟨nd, rfl⟩⟩))
                        go_ret
                        exact ⟨au6_1, au6_0⟩
                  · rw [if_neg c53] at H
                    have c53b0 : (a1_4 == 0) = false := beq_eq_false_iff_ne.mpr c53
                    have c53b1 : (a1_4 != 0) = true := bne_iff_ne.mpr c53
                    replace H := Option.bind_eq_some_iff.mp H
                    obtain ⟨t145, A650, H⟩ := H
                    (try dsimp -simprocs only at H)
                    have A65 := Aside0.mk A650
                    clear A650
                    by_cases c66 : t145 = true
                    · subst c66
                      have H1 : ((entity_within.f a1_8 1 a0_2).bind fun t146 => (some t146)) = some r := by rw [if_pos rfl] at H; exact H
                      clear H
                      have H := H1
                      clear H1
                      replace H := Option.bind_eq_some_iff.mp H
                      obtain ⟨t146, A670, H⟩ := H
                      (try dsimp -simprocs only at H)
                      have A67 := Aside0.mk A670
                      clear A670
                      obtain rfl := Option.some.inj H
                      have hnb68 := NB133_132.out
                      have hnc68 := NB132_133.out
                      have hcz69_0 : wc.cell? ⟨gb133, 0, none⟩ = some (.int .i64 a1_0) := (blk_cell BK133.out 0).trans rfl
                      have hcz69_1 : wc.cell? ⟨gb133, 1, none⟩ = some (.int .i64 a1_1) := (blk_cell BK133.out 1).trans rfl
                      have hcz69_2 : wc.cell? ⟨gb133, 2, none⟩ = some (.int .i64 a1_2) := (blk_cell BK133.out 2).trans rfl
                      have hcz69_3 : wc.cell? ⟨gb133, 3, none⟩ = some (.int .i64 a1_3) := (blk_cell BK133.out 3).trans rfl
                      have hcz69_4 : wc.cell? ⟨gb133, 4, none⟩ = some (.int .i64 a1_4) := (blk_cell BK133.out 4).trans rfl
                      have hcz69_5 : wc.cell? ⟨gb133, 5, none⟩ = some (.int .i64 a1_5) := (blk_cell BK133.out 5).trans rfl
                      have hcz69_6 : wc.cell? ⟨gb133, 6, none⟩ = some (.int .i64 a1_6) := (blk_cell BK133.out 6).trans rfl
                      have hcz69_7 : wc.cell? ⟨gb133, 7, none⟩ = some (.int .i64 a1_7) := (blk_cell BK133.out 7).trans rfl
                      have hcz69_8 : wc.cell? ⟨gb133, 8, none⟩ = some (.int .i64 a1_8) := (blk_cell BK133.out 8).trans rfl
                      have hfz69_0 := blk_frozen BK133.out 0
                      have hfz69_1 := blk_frozen BK133.out 1
                      have hfz69_2 := blk_frozen BK133.out 2
                      have hfz69_3 := blk_frozen BK133.out 3
                      have hfz69_4 := blk_frozen BK133.out 4
                      have hfz69_5 := blk_frozen BK133.out 5
                      have hfz69_6 := blk_frozen BK133.out 6
                      have hfz69_7 := blk_frozen BK133.out 7
                      have hfz69_8 := blk_frozen BK133.out 8
                      go_wp2_with (first | (go_at_call 42; (with_reducible refine (entity_pace.calls a1_4 true _ A49.out).mono ?_); rintro e w' ⟨rfl, ⟨nd, rfl⟩⟩) | (go_at_call 42; (with_reducible refine (entity_pace.calls a1_5 true _ A51.out).mono ?_); rintro e w' ⟨rfl, ⟨nd, rfl⟩⟩) | (go_at_call 41; (with_reducible refine (entity_within.calls a1_7 0 12 true _ A65.out).mono ?_); rintro e w' ⟨rfl, ⟨nd, rfl⟩⟩; have hcz70_0 : wc.cell? ⟨gb132, 0, none⟩ = some (.int .i64 a0_0) := (blk_cell BK132.out 0).trans rfl; have hcz70_1 : wc.cell? ⟨gb132, 1, none⟩ = some (.int .i64 a0_1) := (blk_cell BK132.out 1).trans rfl; have hcz70_2 : wc.cell? ⟨gb132, 2, none⟩ = some (.int .i64 a0_2) := (blk_cell BK132.out 2).trans rfl; have hcz70_3 : wc.cell? ⟨gb132, 3, none⟩ = some (.int .i64 a0_3) := (blk_cell BK132.out 3).trans rfl; have hcz70_4 : wc.cell? ⟨gb132, 4, none⟩ = some (.int .u64 a0_4) := (blk_cell BK132.out 4).trans rfl; have hfz70_0 := blk_frozen BK132.out 0; have hfz70_1 := blk_frozen BK132.out 1; have hfz70_2 := blk_frozen BK132.out 2; have hfz70_3 := blk_frozen BK132.out 3; have hfz70_4 := blk_frozen BK132.out 4) | (go_at_call 41; (with_reducible refine (entity_within.calls a1_8 1 a0_2 t146 _ A67.out).mono ?_); rintro e w' ⟨rfl, ⟨nd, rfl⟩⟩))
                      go_ret
                      exact ⟨au6_1, au6_0⟩
                    · replace c66 := Bool.eq_false_iff.mpr c66
                      subst c66
                      have H1 : (some false) = some r := by rw [if_neg (show ¬ (false = true) by decide)] at H; exact H
                      clear H
                      have H := H1
                      clear H1
                      obtain rfl := Option.some.inj H
                      have hnb71 := NB133_132.out
                      have hnc71 := NB132_133.out
                      have hcz72_0 : wc.cell? ⟨gb133, 0, none⟩ = some (.int .i64 a1_0) := (blk_cell BK133.out 0).trans rfl
                      have hcz72_1 : wc.cell? ⟨gb133, 1, none⟩ = some (.int .i64 a1_1) := (blk_cell BK133.out 1).trans rfl
                      have hcz72_2 : wc.cell? ⟨gb133, 2, none⟩ = some (.int .i64 a1_2) := (blk_cell BK133.out 2).trans rfl
                      have hcz72_3 : wc.cell? ⟨gb133, 3, none⟩ = some (.int .i64 a1_3) := (blk_cell BK133.out 3).trans rfl
                      have hcz72_4 : wc.cell? ⟨gb133, 4, none⟩ = some (.int .i64 a1_4) := (blk_cell BK133.out 4).trans rfl
                      have hcz72_5 : wc.cell? ⟨gb133, 5, none⟩ = some (.int .i64 a1_5) := (blk_cell BK133.out 5).trans rfl
                      have hcz72_6 : wc.cell? ⟨gb133, 6, none⟩ = some (.int .i64 a1_6) := (blk_cell BK133.out 6).trans rfl
                      have hcz72_7 : wc.cell? ⟨gb133, 7, none⟩ = some (.int .i64 a1_7) := (blk_cell BK133.out 7).trans rfl
                      have hcz72_8 : wc.cell? ⟨gb133, 8, none⟩ = some (.int .i64 a1_8) := (blk_cell BK133.out 8).trans rfl
                      have hfz72_0 := blk_frozen BK133.out 0
                      have hfz72_1 := blk_frozen BK133.out 1
                      have hfz72_2 := blk_frozen BK133.out 2
                      have hfz72_3 := blk_frozen BK133.out 3
                      have hfz72_4 := blk_frozen BK133.out 4
                      have hfz72_5 := blk_frozen BK133.out 5
                      have hfz72_6 := blk_frozen BK133.out 6
                      have hfz72_7 := blk_frozen BK133.out 7
                      have hfz72_8 := blk_frozen BK133.out 8
                      go_wp2_with (first | (go_at_call 42; (with_reducible refine (entity_pace.calls a1_4 true _ A49.out).mono ?_); rintro e w' ⟨rfl, ⟨nd, rfl⟩⟩) | (go_at_call 42; (with_reducible refine (entity_pace.calls a1_5 true _ A51.out).mono ?_); rintro e w' ⟨rfl, ⟨nd, rfl⟩⟩) | (go_at_call 41; (with_reducible refine (entity_within.calls a1_7 0 12 false _ A65.out).mono ?_); rintro e w' ⟨rfl, ⟨nd, rfl⟩⟩))
                      go_ret
                      exact ⟨au6_1, au6_0⟩
                · replace c52 := Bool.eq_false_iff.mpr c52
                  subst c52
                  have H1 : (some false) = some r := by rw [if_neg (show ¬ (false = true) by decide)] at H; exact H
                  clear H
                  have H := H1
                  clear H1
                  obtain rfl := Option.some.inj H
                  have hnb73 := NB133_132.out
                  have hnc73 := NB132_133.out
                  have hcz74_0 : wc.cell? ⟨gb133, 0, none⟩ = some (.int .i64 a1_0) := (blk_cell BK133.out 0).trans rfl
                  have hcz74_1 : wc.cell? ⟨gb133, 1, none⟩ = some (.int .i64 a1_1) := (blk_cell BK133.out 1).trans rfl
                  have hcz74_2 : wc.cell? ⟨gb133, 2, none⟩ = some (.int .i64 a1_2) := (blk_cell BK133.out 2).trans rfl
                  have hcz74_3 : wc.cell? ⟨gb133, 3, none⟩ = some (.int .i64 a1_3) := (blk_cell BK133.out 3).trans rfl
                  have hcz74_4 : wc.cell? ⟨gb133, 4, none⟩ = some (.int .i64 a1_4) := (blk_cell BK133.out 4).trans rfl
                  have hcz74_5 : wc.cell? ⟨gb133, 5, none⟩ = some (.int .i64 a1_5) := (blk_cell BK133.out 5).trans rfl
                  have hcz74_6 : wc.cell? ⟨gb133, 6, none⟩ = some (.int .i64 a1_6) := (blk_cell BK133.out 6).trans rfl
                  have hcz74_7 : wc.cell? ⟨gb133, 7, none⟩ = some (.int .i64 a1_7) := (blk_cell BK133.out 7).trans rfl
                  have hcz74_8 : wc.cell? ⟨gb133, 8, none⟩ = some (.int .i64 a1_8) := (blk_cell BK133.out 8).trans rfl
                  have hfz74_0 := blk_frozen BK133.out 0
                  have hfz74_1 := blk_frozen BK133.out 1
                  have hfz74_2 := blk_frozen BK133.out 2
                  have hfz74_3 := blk_frozen BK133.out 3
                  have hfz74_4 := blk_frozen BK133.out 4
                  have hfz74_5 := blk_frozen BK133.out 5
                  have hfz74_6 := blk_frozen BK133.out 6
                  have hfz74_7 := blk_frozen BK133.out 7
                  have hfz74_8 := blk_frozen BK133.out 8
                  go_wp2_with (first | (go_at_call 42; (with_reducible refine (entity_pace.calls a1_4 true _ A49.out).mono ?_); rintro e w' ⟨rfl, ⟨nd, rfl⟩⟩) | (go_at_call 42; (with_reducible refine (entity_pace.calls a1_5 false _ A51.out).mono ?_); rintro e w' ⟨rfl, ⟨nd, rfl⟩⟩))
                  go_ret
                  exact ⟨au6_1, au6_0⟩
              · replace c50 := Bool.eq_false_iff.mpr c50
                subst c50
                have H1 : (some false) = some r := by rw [if_neg (show ¬ (false = true) by decide)] at H; exact H
                clear H
                have H := H1
                clear H1
                obtain rfl := Option.some.inj H
                have hnb75 := NB133_132.out
                have hnc75 := NB132_133.out
                have hcz76_0 : wc.cell? ⟨gb133, 0, none⟩ = some (.int .i64 a1_0) := (blk_cell BK133.out 0).trans rfl
                have hcz76_1 : wc.cell? ⟨gb133, 1, none⟩ = some (.int .i64 a1_1) := (blk_cell BK133.out 1).trans rfl
                have hcz76_2 : wc.cell? ⟨gb133, 2, none⟩ = some (.int .i64 a1_2) := (blk_cell BK133.out 2).trans rfl
                have hcz76_3 : wc.cell? ⟨gb133, 3, none⟩ = some (.int .i64 a1_3) := (blk_cell BK133.out 3).trans rfl
                have hcz76_4 : wc.cell? ⟨gb133, 4, none⟩ = some (.int .i64 a1_4) := (blk_cell BK133.out 4).trans rfl
                have hcz76_5 : wc.cell? ⟨gb133, 5, none⟩ = some (.int .i64 a1_5) := (blk_cell BK133.out 5).trans rfl
                have hcz76_6 : wc.cell? ⟨gb133, 6, none⟩ = some (.int .i64 a1_6) := (blk_cell BK133.out 6).trans rfl
                have hcz76_7 : wc.cell? ⟨gb133, 7, none⟩ = some (.int .i64 a1_7) := (blk_cell BK133.out 7).trans rfl
                have hcz76_8 : wc.cell? ⟨gb133, 8, none⟩ = some (.int .i64 a1_8) := (blk_cell BK133.out 8).trans rfl
                have hfz76_0 := blk_frozen BK133.out 0
                have hfz76_1 := blk_frozen BK133.out 1
                have hfz76_2 := blk_frozen BK133.out 2
                have hfz76_3 := blk_frozen BK133.out 3
                have hfz76_4 := blk_frozen BK133.out 4
                have hfz76_5 := blk_frozen BK133.out 5
                have hfz76_6 := blk_frozen BK133.out 6
                have hfz76_7 := blk_frozen BK133.out 7
                have hfz76_8 := blk_frozen BK133.out 8
                go_wp2_with (first | (go_at_call 42; (with_reducible refine (entity_pace.calls a1_4 false _ A49.out).mono ?_); rintro e w' ⟨rfl, ⟨nd, rfl⟩⟩))
                go_ret
                exact ⟨au6_1, au6_0⟩
            · replace c48 := Bool.eq_false_iff.mpr c48
              subst c48
              have H1 : (some false) = some r := by rw [if_neg (show ¬ (false = true) by decide)] at H; exact H
              clear H
              have H := H1
              clear H1
              obtain rfl := Option.some.inj H
              have hnb77 := NB133_132.out
              have hnc77 := NB132_133.out
              have hcz78_0 : wc.cell? ⟨gb133, 0, none⟩ = some (.int .i64 a1_0) := (blk_cell BK133.out 0).trans rfl
              have hcz78_1 : wc.cell? ⟨gb133, 1, none⟩ = some (.int .i64 a1_1) := (blk_cell BK133.out 1).trans rfl
              have hcz78_2 : wc.cell? ⟨gb133, 2, none⟩ = some (.int .i64 a1_2) := (blk_cell BK133.out 2).trans rfl
              have hcz78_3 : wc.cell? ⟨gb133, 3, none⟩ = some (.int .i64 a1_3) := (blk_cell BK133.out 3).trans rfl
              have hcz78_4 : wc.cell? ⟨gb133, 4, none⟩ = some (.int .i64 a1_4) := (blk_cell BK133.out 4).trans rfl
              have hcz78_5 : wc.cell? ⟨gb133, 5, none⟩ = some (.int .i64 a1_5) := (blk_cell BK133.out 5).trans rfl
              have hcz78_6 : wc.cell? ⟨gb133, 6, none⟩ = some (.int .i64 a1_6) := (blk_cell BK133.out 6).trans rfl
              have hcz78_7 : wc.cell? ⟨gb133, 7, none⟩ = some (.int .i64 a1_7) := (blk_cell BK133.out 7).trans rfl
              have hcz78_8 : wc.cell? ⟨gb133, 8, none⟩ = some (.int .i64 a1_8) := (blk_cell BK133.out 8).trans rfl
              have hfz78_0 := blk_frozen BK133.out 0
              have hfz78_1 := blk_frozen BK133.out 1
              have hfz78_2 := blk_frozen BK133.out 2
              have hfz78_3 := blk_frozen BK133.out 3
              have hfz78_4 := blk_frozen BK133.out 4
              have hfz78_5 := blk_frozen BK133.out 5
              have hfz78_6 := blk_frozen BK133.out 6
              have hfz78_7 := blk_frozen BK133.out 7
              have hfz78_8 := blk_frozen BK133.out 8
              go_wp2
              go_ret
              exact ⟨au6_1, au6_0⟩
          · rw [if_neg c47] at H
            have c47b0 : (a1_1 == 2) = false := beq_eq_false_iff_ne.mpr c47
            have c47b1 : (a1_1 != 2) = true := bne_iff_ne.mpr c47
            by_cases c79 : a1_1 = 3
            · rw [if_pos c79] at H
              have c79b0 : (a1_1 == 3) = true := beq_iff_eq.mpr c79
              have c79b1 : (a1_1 != 3) = false := bne_eq_false_iff_eq.mpr c79
              clear c79
              by_cases c80 : x5_4 = true
              · subst c80
                have H1 : (if a1_4 = 0 then (if a1_5 = 0 then (if a1_7 = 0 then (some (a1_8 == 0)) else (some false)) else (some false)) else (some false)) = some r := by rw [if_pos rfl] at H; exact H
                clear H
                have H := H1
                clear H1
                by_cases c81 : a1_4 = 0
                · rw [if_pos c81] at H
                  have c81b0 : (a1_4 == 0) = true := beq_iff_eq.mpr c81
                  have c81b1 : (a1_4 != 0) = false := bne_eq_false_iff_eq.mpr c81
                  clear c81
                  by_cases c82 : a1_5 = 0
                  · rw [if_pos c82] at H
                    have c82b0 : (a1_5 == 0) = true := beq_iff_eq.mpr c82
                    have c82b1 : (a1_5 != 0) = false := bne_eq_false_iff_eq.mpr c82
                    clear c82
                    by_cases c83 : a1_7 = 0
                    · rw [if_pos c83] at H
                      have c83b0 : (a1_7 == 0) = true := beq_iff_eq.mpr c83
                      have c83b1 : (a1_7 != 0) = false := bne_eq_false_iff_eq.mpr c83
                      clear c83
                      obtain rfl := Option.some.inj H
                      have hnb84 := NB133_132.out
                      have hnc84 := NB132_133.out
                      have hcz85_0 : wc.cell? ⟨gb133, 0, none⟩ = some (.int .i64 a1_0) := (blk_cell BK133.out 0).trans rfl
                      have hcz85_1 : wc.cell? ⟨gb133, 1, none⟩ = some (.int .i64 a1_1) := (blk_cell BK133.out 1).trans rfl
                      have hcz85_2 : wc.cell? ⟨gb133, 2, none⟩ = some (.int .i64 a1_2) := (blk_cell BK133.out 2).trans rfl
                      have hcz85_3 : wc.cell? ⟨gb133, 3, none⟩ = some (.int .i64 a1_3) := (blk_cell BK133.out 3).trans rfl
                      have hcz85_4 : wc.cell? ⟨gb133, 4, none⟩ = some (.int .i64 a1_4) := (blk_cell BK133.out 4).trans rfl
                      have hcz85_5 : wc.cell? ⟨gb133, 5, none⟩ = some (.int .i64 a1_5) := (blk_cell BK133.out 5).trans rfl
                      have hcz85_6 : wc.cell? ⟨gb133, 6, none⟩ = some (.int .i64 a1_6) := (blk_cell BK133.out 6).trans rfl
                      have hcz85_7 : wc.cell? ⟨gb133, 7, none⟩ = some (.int .i64 a1_7) := (blk_cell BK133.out 7).trans rfl
                      have hcz85_8 : wc.cell? ⟨gb133, 8, none⟩ = some (.int .i64 a1_8) := (blk_cell BK133.out 8).trans rfl
                      have hfz85_0 := blk_frozen BK133.out 0
                      have hfz85_1 := blk_frozen BK133.out 1
                      have hfz85_2 := blk_frozen BK133.out 2
                      have hfz85_3 := blk_frozen BK133.out 3
                      have hfz85_4 := blk_frozen BK133.out 4
                      have hfz85_5 := blk_frozen BK133.out 5
                      have hfz85_6 := blk_frozen BK133.out 6
                      have hfz85_7 := blk_frozen BK133.out 7
                      have hfz85_8 := blk_frozen BK133.out 8
                      go_wp2
                      go_ret
                      exact ⟨au6_1, au6_0⟩
                    · rw [if_neg c83] at H
                      have c83b0 : (a1_7 == 0) = false := beq_eq_false_iff_ne.mpr c83
                      have c83b1 : (a1_7 != 0) = true := bne_iff_ne.mpr c83
                      obtain rfl := Option.some.inj H
                      have hnb86 := NB133_132.out
                      have hnc86 := NB132_133.out
                      have hcz87_0 : wc.cell? ⟨gb133, 0, none⟩ = some (.int .i64 a1_0) := (blk_cell BK133.out 0).trans rfl
                      have hcz87_1 : wc.cell? ⟨gb133, 1, none⟩ = some (.int .i64 a1_1) := (blk_cell BK133.out 1).trans rfl
                      have hcz87_2 : wc.cell? ⟨gb133, 2, none⟩ = some (.int .i64 a1_2) := (blk_cell BK133.out 2).trans rfl
                      have hcz87_3 : wc.cell? ⟨gb133, 3, none⟩ = some (.int .i64 a1_3) := (blk_cell BK133.out 3).trans rfl
                      have hcz87_4 : wc.cell? ⟨gb133, 4, none⟩ = some (.int .i64 a1_4) := (blk_cell BK133.out 4).trans rfl
                      have hcz87_5 : wc.cell? ⟨gb133, 5, none⟩ = some (.int .i64 a1_5) := (blk_cell BK133.out 5).trans rfl
                      have hcz87_6 : wc.cell? ⟨gb133, 6, none⟩ = some (.int .i64 a1_6) := (blk_cell BK133.out 6).trans rfl
                      have hcz87_7 : wc.cell? ⟨gb133, 7, none⟩ = some (.int .i64 a1_7) := (blk_cell BK133.out 7).trans rfl
                      have hcz87_8 : wc.cell? ⟨gb133, 8, none⟩ = some (.int .i64 a1_8) := (blk_cell BK133.out 8).trans rfl
                      have hfz87_0 := blk_frozen BK133.out 0
                      have hfz87_1 := blk_frozen BK133.out 1
                      have hfz87_2 := blk_frozen BK133.out 2
                      have hfz87_3 := blk_frozen BK133.out 3
                      have hfz87_4 := blk_frozen BK133.out 4
                      have hfz87_5 := blk_frozen BK133.out 5
                      have hfz87_6 := blk_frozen BK133.out 6
                      have hfz87_7 := blk_frozen BK133.out 7
                      have hfz87_8 := blk_frozen BK133.out 8
                      go_wp2
                      go_ret
                      exact ⟨au6_1, au6_0⟩
                  · rw [if_neg c82] at H
                    have c82b0 : (a1_5 == 0) = false := beq_eq_false_iff_ne.mpr c82
                    have c82b1 : (a1_5 != 0) = true := bne_iff_ne.mpr c82
                    obtain rfl := Option.some.inj H
                    have hnb88 := NB133_132.out
                    have hnc88 := NB132_133.out
                    have hcz89_0 : wc.cell? ⟨gb133, 0, none⟩ = some (.int .i64 a1_0) := (blk_cell BK133.out 0).trans rfl
                    have hcz89_1 : wc.cell? ⟨gb133, 1, none⟩ = some (.int .i64 a1_1) := (blk_cell BK133.out 1).trans rfl
                    have hcz89_2 : wc.cell? ⟨gb133, 2, none⟩ = some (.int .i64 a1_2) := (blk_cell BK133.out 2).trans rfl
                    have hcz89_3 : wc.cell? ⟨gb133, 3, none⟩ = some (.int .i64 a1_3) := (blk_cell BK133.out 3).trans rfl
                    have hcz89_4 : wc.cell? ⟨gb133, 4, none⟩ = some (.int .i64 a1_4) := (blk_cell BK133.out 4).trans rfl
                    have hcz89_5 : wc.cell? ⟨gb133, 5, none⟩ = some (.int .i64 a1_5) := (blk_cell BK133.out 5).trans rfl
                    have hcz89_6 : wc.cell? ⟨gb133, 6, none⟩ = some (.int .i64 a1_6) := (blk_cell BK133.out 6).trans rfl
                    have hcz89_7 : wc.cell? ⟨gb133, 7, none⟩ = some (.int .i64 a1_7) := (blk_cell BK133.out 7).trans rfl
                    have hcz89_8 : wc.cell? ⟨gb133, 8, none⟩ = some (.int .i64 a1_8) := (blk_cell BK133.out 8).trans rfl
                    have hfz89_0 := blk_frozen BK133.out 0
                    have hfz89_1 := blk_frozen BK133.out 1
                    have hfz89_2 := blk_frozen BK133.out 2
                    have hfz89_3 := blk_frozen BK133.out 3
                    have hfz89_4 := blk_frozen BK133.out 4
                    have hfz89_5 := blk_frozen BK133.out 5
                    have hfz89_6 := blk_frozen BK133.out 6
                    have hfz89_7 := blk_frozen BK133.out 7
                    have hfz89_8 := blk_frozen BK133.out 8
                    go_wp2
                    go_ret
                    exact ⟨au6_1, au6_0⟩
                · rw [if_neg c81] at H
                  have c81b0 : (a1_4 == 0) = false := beq_eq_false_iff_ne.mpr c81
                  have c81b1 : (a1_4 != 0) = true := bne_iff_ne.mpr c81
                  obtain rfl := Option.some.inj H
                  have hnb90 := NB133_132.out
                  have hnc90 := NB132_133.out
                  have hcz91_0 : wc.cell? ⟨gb133, 0, none⟩ = some (.int .i64 a1_0) := (blk_cell BK133.out 0).trans rfl
                  have hcz91_1 : wc.cell? ⟨gb133, 1, none⟩ = some (.int .i64 a1_1) := (blk_cell BK133.out 1).trans rfl
                  have hcz91_2 : wc.cell? ⟨gb133, 2, none⟩ = some (.int .i64 a1_2) := (blk_cell BK133.out 2).trans rfl
                  have hcz91_3 : wc.cell? ⟨gb133, 3, none⟩ = some (.int .i64 a1_3) := (blk_cell BK133.out 3).trans rfl
                  have hcz91_4 : wc.cell? ⟨gb133, 4, none⟩ = some (.int .i64 a1_4) := (blk_cell BK133.out 4).trans rfl
                  have hcz91_5 : wc.cell? ⟨gb133, 5, none⟩ = some (.int .i64 a1_5) := (blk_cell BK133.out 5).trans rfl
                  have hcz91_6 : wc.cell? ⟨gb133, 6, none⟩ = some (.int .i64 a1_6) := (blk_cell BK133.out 6).trans rfl
                  have hcz91_7 : wc.cell? ⟨gb133, 7, none⟩ = some (.int .i64 a1_7) := (blk_cell BK133.out 7).trans rfl
                  have hcz91_8 : wc.cell? ⟨gb133, 8, none⟩ = some (.int .i64 a1_8) := (blk_cell BK133.out 8).trans rfl
                  have hfz91_0 := blk_frozen BK133.out 0
                  have hfz91_1 := blk_frozen BK133.out 1
                  have hfz91_2 := blk_frozen BK133.out 2
                  have hfz91_3 := blk_frozen BK133.out 3
                  have hfz91_4 := blk_frozen BK133.out 4
                  have hfz91_5 := blk_frozen BK133.out 5
                  have hfz91_6 := blk_frozen BK133.out 6
                  have hfz91_7 := blk_frozen BK133.out 7
                  have hfz91_8 := blk_frozen BK133.out 8
                  go_wp2
                  go_ret
                  exact ⟨au6_1, au6_0⟩
              · replace c80 := Bool.eq_false_iff.mpr c80
                subst c80
                have H1 : (some false) = some r := by rw [if_neg (show ¬ (false = true) by decide)] at H; exact H
                clear H
                have H := H1
                clear H1
                obtain rfl := Option.some.inj H
                have hnb92 := NB133_132.out
                have hnc92 := NB132_133.out
                have hcz93_0 : wc.cell? ⟨gb133, 0, none⟩ = some (.int .i64 a1_0) := (blk_cell BK133.out 0).trans rfl
                have hcz93_1 : wc.cell? ⟨gb133, 1, none⟩ = some (.int .i64 a1_1) := (blk_cell BK133.out 1).trans rfl
                have hcz93_2 : wc.cell? ⟨gb133, 2, none⟩ = some (.int .i64 a1_2) := (blk_cell BK133.out 2).trans rfl
                have hcz93_3 : wc.cell? ⟨gb133, 3, none⟩ = some (.int .i64 a1_3) := (blk_cell BK133.out 3).trans rfl
                have hcz93_4 : wc.cell? ⟨gb133, 4, none⟩ = some (.int .i64 a1_4) := (blk_cell BK133.out 4).trans rfl
                have hcz93_5 : wc.cell? ⟨gb133, 5, none⟩ = some (.int .i64 a1_5) := (blk_cell BK133.out 5).trans rfl
                have hcz93_6 : wc.cell? ⟨gb133, 6, none⟩ = some (.int .i64 a1_6) := (blk_cell BK133.out 6).trans rfl
                have hcz93_7 : wc.cell? ⟨gb133, 7, none⟩ = some (.int .i64 a1_7) := (blk_cell BK133.out 7).trans rfl
                have hcz93_8 : wc.cell? ⟨gb133, 8, none⟩ = some (.int .i64 a1_8) := (blk_cell BK133.out 8).trans rfl
                have hfz93_0 := blk_frozen BK133.out 0
                have hfz93_1 := blk_frozen BK133.out 1
                have hfz93_2 := blk_frozen BK133.out 2
                have hfz93_3 := blk_frozen BK133.out 3
                have hfz93_4 := blk_frozen BK133.out 4
                have hfz93_5 := blk_frozen BK133.out 5
                have hfz93_6 := blk_frozen BK133.out 6
                have hfz93_7 := blk_frozen BK133.out 7
                have hfz93_8 := blk_frozen BK133.out 8
                go_wp2
                go_ret
                exact ⟨au6_1, au6_0⟩
            · rw [if_neg c79] at H
              have c79b0 : (a1_1 == 3) = false := beq_eq_false_iff_ne.mpr c79
              have c79b1 : (a1_1 != 3) = true := bne_iff_ne.mpr c79
              obtain rfl := Option.some.inj H
              have hnb94 := NB133_132.out
              have hnc94 := NB132_133.out
              have hcz95_0 : wc.cell? ⟨gb133, 0, none⟩ = some (.int .i64 a1_0) := (blk_cell BK133.out 0).trans rfl
              have hcz95_1 : wc.cell? ⟨gb133, 1, none⟩ = some (.int .i64 a1_1) := (blk_cell BK133.out 1).trans rfl
              have hcz95_2 : wc.cell? ⟨gb133, 2, none⟩ = some (.int .i64 a1_2) := (blk_cell BK133.out 2).trans rfl
              have hcz95_3 : wc.cell? ⟨gb133, 3, none⟩ = some (.int .i64 a1_3) := (blk_cell BK133.out 3).trans rfl
              have hcz95_4 : wc.cell? ⟨gb133, 4, none⟩ = some (.int .i64 a1_4) := (blk_cell BK133.out 4).trans rfl
              have hcz95_5 : wc.cell? ⟨gb133, 5, none⟩ = some (.int .i64 a1_5) := (blk_cell BK133.out 5).trans rfl
              have hcz95_6 : wc.cell? ⟨gb133, 6, none⟩ = some (.int .i64 a1_6) := (blk_cell BK133.out 6).trans rfl
              have hcz95_7 : wc.cell? ⟨gb133, 7, none⟩ = some (.int .i64 a1_7) := (blk_cell BK133.out 7).trans rfl
              have hcz95_8 : wc.cell? ⟨gb133, 8, none⟩ = some (.int .i64 a1_8) := (blk_cell BK133.out 8).trans rfl
              have hfz95_0 := blk_frozen BK133.out 0
              have hfz95_1 := blk_frozen BK133.out 1
              have hfz95_2 := blk_frozen BK133.out 2
              have hfz95_3 := blk_frozen BK133.out 3
              have hfz95_4 := blk_frozen BK133.out 4
              have hfz95_5 := blk_frozen BK133.out 5
              have hfz95_6 := blk_frozen BK133.out 6
              have hfz95_7 := blk_frozen BK133.out 7
              have hfz95_8 := blk_frozen BK133.out 8
              go_wp2
              go_ret
              exact ⟨au6_1, au6_0⟩
  · replace c4 := Bool.eq_false_iff.mpr c4
    subst c4
    have H1 : (some false) = some r := by rw [if_neg (show ¬ (false = true) by decide)] at H; exact H
    clear H
    have H := H1
    clear H1
    obtain rfl := Option.some.inj H
    go_enter Try.func27, Try.ntmps27
    go_wp2_with (first | ((with_reducible refine gate_dst (N := 2) rfl ?_); refine box_event ?hg (N := 2) ?hd (cs := #[.int .i64 a0_0, .int .i64 a0_1, .int .i64 a0_2, .int .i64 a0_3, .int .u64 a0_4]) (t := 30) ?hr ?_; (case hd => rfl); (case hg => rfl); (case hr => first | (go_simp; done) | (go_simp; rfl)); intro gb132 hg w96 hbox hb; have n0_ := Aside0.mk (below_step au6_5 hb); have n1_ := Aside0.mk (hbox); have n2_ := Aside0.mk ((by rw [hg]; exact (below_size au6_5) : w.heap.size ≤ gb132)); have n3_ := Aside0.mk ((by rw [hg]; exact (below_size au6_5) : w.heap.size ≤ gb132)); clear HB; have HB := n0_; have BK132 := n1_; have GW132 := n2_; have GE132 := n3_; clear n0_ n1_ n2_ n3_; clear hb hbox hg) | ((with_reducible refine gate_dst (N := 3) rfl ?_); refine box_event ?hg (N := 3) ?hd (cs := #[.int .i64 a1_0, .int .i64 a1_1, .int .i64 a1_2, .int .i64 a1_3, .int .i64 a1_4, .int .i64 a1_5, .int .i64 a1_6, .int .i64 a1_7, .int .i64 a1_8]) (t := 26) ?hr ?_; (case hd => rfl); (case hg => rfl); (case hr => first | (go_simp; done) | (go_simp; rfl)); intro gb133 hg w97 hbox hb; have n0_ := Aside0.mk (blk_below (g := gb132) (o := .cells #[.int .i64 a0_0, .int .i64 a0_1, .int .i64 a0_2, .int .i64 a0_3, .int .u64 a0_4] 30 (0, 0)) au6_3 hb); have n1_ := Aside0.mk (below_step au6_4 hb); have n2_ := Aside0.mk (hbox); have n3_ := Aside0.mk ((by rw [hg]; exact (below_size au6_4) : w.heap.size ≤ gb133)); have n4_ := Aside0.mk ((by rw [hg]; exact (below_size au6_4) : w.heap.size ≤ gb133)); have n5_ := Aside0.mk ((by rw [hg]; exact Nat.ne_of_lt (blk_lt (g := gb132) (o := .cells #[.int .i64 a0_0, .int .i64 a0_1, .int .i64 a0_2, .int .i64 a0_3, .int .u64 a0_4] 30 (0, 0)) au6_3) : gb132 ≠ gb133)); have n6_ := Aside0.mk ((by rw [hg]; exact Nat.ne_of_gt (blk_lt (g := gb132) (o := .cells #[.int .i64 a0_0, .int .i64 a0_1, .int .i64 a0_2, .int .i64 a0_3, .int .u64 a0_4] 30 (0, 0)) au6_3) : gb133 ≠ gb132)); clear BK132; clear HB; have BK132 := n0_; have HB := n1_; have BK133 := n2_; have GW133 := n3_; have GE133 := n4_; have NB132_133 := n5_; have NB133_132 := n6_; clear n0_ n1_ n2_ n3_ n4_ n5_ n6_; clear hb hbox hg; have hnb98 := NB132_133.out; have hnc98 := NB133_132.out; have hcz99_0 : w97.cell? ⟨gb132, 0, none⟩ = some (.int .i64 a0_0) := (blk_cell BK132.out 0).trans rfl; have hcz99_1 : w97.cell? ⟨gb132, 1, none⟩ = some (.int .i64 a0_1) := (blk_cell BK132.out 1).trans rfl; have hcz99_2 : w97.cell? ⟨gb132, 2, none⟩ = some (.int .i64 a0_2) := (blk_cell BK132.out 2).trans rfl; have hcz99_3 : w97.cell? ⟨gb132, 3, none⟩ = some (.int .i64 a0_3) := (blk_cell BK132.out 3).trans rfl; have hcz99_4 : w97.cell? ⟨gb132, 4, none⟩ = some (.int .u64 a0_4) := (blk_cell BK132.out 4).trans rfl; have hfz99_0 := blk_frozen BK132.out 0; have hfz99_1 := blk_frozen BK132.out 1; have hfz99_2 := blk_frozen BK132.out 2; have hfz99_3 := blk_frozen BK132.out 3; have hfz99_4 := blk_frozen BK132.out 4; have hcz100_0 : w97.cell? ⟨gb133, 0, none⟩ = some (.int .i64 a1_0) := (blk_cell BK133.out 0).trans rfl; have hcz100_1 : w97.cell? ⟨gb133, 1, none⟩ = some (.int .i64 a1_1) := (blk_cell BK133.out 1).trans rfl; have hcz100_2 : w97.cell? ⟨gb133, 2, none⟩ = some (.int .i64 a1_2) := (blk_cell BK133.out 2).trans rfl; have hcz100_3 : w97.cell? ⟨gb133, 3, none⟩ = some (.int .i64 a1_3) := (blk_cell BK133.out 3).trans rfl; have hcz100_4 : w97.cell? ⟨gb133, 4, none⟩ = some (.int .i64 a1_4) := (blk_cell BK133.out 4).trans rfl; have hcz100_5 : w97.cell? ⟨gb133, 5, none⟩ = some (.int .i64 a1_5) := (blk_cell BK133.out 5).trans rfl; have hcz100_6 : w97.cell? ⟨gb133, 6, none⟩ = some (.int .i64 a1_6) := (blk_cell BK133.out 6).trans rfl; have hcz100_7 : w97.cell? ⟨gb133, 7, none⟩ = some (.int .i64 a1_7) := (blk_cell BK133.out 7).trans rfl; have hcz100_8 : w97.cell? ⟨gb133, 8, none⟩ = some (.int .i64 a1_8) := (blk_cell BK133.out 8).trans rfl; have hfz100_0 := blk_frozen BK133.out 0; have hfz100_1 := blk_frozen BK133.out 1; have hfz100_2 := blk_frozen BK133.out 2; have hfz100_3 := blk_frozen BK133.out 3; have hfz100_4 := blk_frozen BK133.out 4; have hfz100_5 := blk_frozen BK133.out 5; have hfz100_6 := blk_frozen BK133.out 6; have hfz100_7 := blk_frozen BK133.out 7; have hfz100_8 := blk_frozen BK133.out 8) | ((with_reducible refine gate_callee (f := 23) rfl ?_); refine goesL_ (some 11) rfl rfl Try.func23 (by kernel_rfl) rfl #[.agg #[.int .i64 a0_0, .int .i64 a0_1, .int .i64 a0_2, .int .i64 a0_3, .int .u64 a0_4], .int .i64 a1_2, .int .i64 a1_3] rfl au6_2 ?_; (with_reducible refine (grid_Grid_Inside.calls a0_0 a0_1 a0_2 a0_3 a0_4 a1_2 a1_3 false _ A3.out).mono ?_); rintro e w101 ⟨rfl, hb⟩; refine ⟨_, rfl, ?_⟩; have n0_ := Aside0.mk (blk_below (g := gb132) (o := .cells #[.int .i64 a0_0, .int .i64 a0_1, .int .i64 a0_2, .int .i64 a0_3, .int .u64 a0_4] 30 (0, 0)) au6_3 hb); have n1_ := Aside0.mk (blk_below (g := gb133) (o := .cells #[.int .i64 a1_0, .int .i64 a1_1, .int .i64 a1_2, .int .i64 a1_3, .int .i64 a1_4, .int .i64 a1_5, .int .i64 a1_6, .int .i64 a1_7, .int .i64 a1_8] 26 (0, 0)) au6_6 hb); have n2_ := Aside0.mk (below_step au6_0 hb); clear BK132; clear BK133; clear HB; have BK132 := n0_; have BK133 := n1_; have HB := n2_; clear n0_ n1_ n2_; (try clear hb); (try clear hb2); (try clear hk); (try clear hi)))
    go_ret
    exact ⟨au6_1, au6_0⟩

end Go.Proofs.Ytjnjcdaecdnkoaa.PMovingTells
