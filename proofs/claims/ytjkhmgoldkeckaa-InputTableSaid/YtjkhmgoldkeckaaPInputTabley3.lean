/- Functions that the law InputTable reaches, and what their Go code computes. No condition. (Lines of a printed text, turned by this session.) -/
import Derived.Test.YtjkhmgoldkeckaaPInputTablex0
import Derived.Test.YtjkhmgoldkeckaaPInputTablex1
import Derived.Test.YtjkhmgoldkeckaaPInputTablex2
namespace Go.Proofs.Ytjkhmgoldkeckaa.PInputTable
open Go.RowKit Go.Proofs.YtjkhmgoldkeckaaW.PrintWords Go.Proofs.YtjkhmgoldkeckaaW.PrintLast Go.Proofs.YtjkhmgoldkeckaaW.PrintMore
attribute [local go_sem] max2_int min2_int max_two min_two max_three min_three max_four min_four   -- for this text's walks alone
set_option linter.unusedVariables false
set_option linter.unusedSimpArgs false

attribute [local go_sem high] eqA23
/-! ### joustlaw04_InputTable: function 6 -/
mutual
def joustlaw04_InputTable.l0 : Nat → Int → Int → Int → Int → Int → Bool → Option (Bool)
  | 0, _, _, _, _, _, _ => none
  | k + 1, x0, x3, x5, x131000, x131001, x131002 => if x5 < 256 then ((input_FromCode.f k ((x0 + ((x5) % 256)) % 256)).bind fun bt132 => (if (bt132.2.2.2 != (decide (((x0 + ((x5) % 256)) % 256) ≤ 49))) = true then (joustlaw04_InputTable.j1 k x0 x3 x5 bt132.2.2.2 true x131000 x131001 x131002 bt132.1 bt132.2.1 bt132.2.2.1) else (if bt132.2.2.2 = true then (if (bt132.1 == x131000 && (bt132.2.1 == x131001 && (bt132.2.2.1 == x131002))) = true then (joustlaw04_InputTable.j1 k x0 x3 x5 bt132.2.2.2 true x131000 x131001 x131002 bt132.1 bt132.2.1 bt132.2.2.1) else ((input_Code.f k bt132.1 bt132.2.1 bt132.2.2.1).bind fun t137 => (if t137 = ((x0 + ((x5) % 256)) % 256) then (joustlaw04_InputTable.j1 k x0 x3 x5 bt132.2.2.2 false x131000 x131001 x131002 bt132.1 bt132.2.1 bt132.2.2.1) else (joustlaw04_InputTable.j1 k x0 x3 x5 bt132.2.2.2 true x131000 x131001 x131002 bt132.1 bt132.2.1 bt132.2.2.1)))) else (joustlaw04_InputTable.j1 k x0 x3 x5 bt132.2.2.2 (!(bt132.1 == 0) || (!(bt132.2.1 == 0) || (bt132.2.2.1))) x131000 x131001 x131002 bt132.1 bt132.2.1 bt132.2.2.1)))) else ((joustlaw04_awake.f k).bind fun t131 => (if t131 = true then (some (x3 == 50)) else (some false)))
def joustlaw04_InputTable.j1 : Nat → Int → Int → Int → Bool → Bool → Int → Int → Bool → Int → Int → Bool → Option (Bool)
  | 0, _, _, _, _, _, _, _, _, _, _, _ => none
  | k + 1, x0, x3, x5, x8, x49, x131000, x131001, x131002, x137000, x137001, x137002 => if x49 = true then (some false) else (if x8 = true then (joustlaw04_InputTable.l0 k x0 (wrap64 (x3 + 1)) (wrap64 (x5 + 1)) x137000 x137001 x137002) else (joustlaw04_InputTable.l0 k x0 x3 (wrap64 (x5 + 1)) x131000 x131001 x131002))
end
def joustlaw04_InputTable.f (k : Nat) (a0 : Int) : Option (Bool) := joustlaw04_InputTable.l0 k a0 0 0 9 0 false
theorem joustlaw04_InputTable.mono_l : ∀ k, (∀ y0 y1 y2 y3 y4 y5, LeO (joustlaw04_InputTable.l0 k y0 y1 y2 y3 y4 y5) (joustlaw04_InputTable.l0 (k + 1) y0 y1 y2 y3 y4 y5)) ∧ (∀ y0 y1 y2 y3 y4 y5 y6 y7 y8 y9 y10, LeO (joustlaw04_InputTable.j1 k y0 y1 y2 y3 y4 y5 y6 y7 y8 y9 y10) (joustlaw04_InputTable.j1 (k + 1) y0 y1 y2 y3 y4 y5 y6 y7 y8 y9 y10))
  | 0 => ⟨fun _ _ _ _ _ _ r h => by simp [joustlaw04_InputTable.l0] at h, fun _ _ _ _ _ _ _ _ _ _ _ r h => by simp [joustlaw04_InputTable.j1] at h⟩
  | k + 1 => by
    obtain ⟨ih0, ih1⟩ := joustlaw04_InputTable.mono_l k
    refine ⟨?_, ?_⟩
    · intro y0 y1 y2 y3 y4 y5
      unfold joustlaw04_InputTable.l0
      repeat' first
      | (with_reducible exact ih0 _ _ _ _ _ _)
      | (with_reducible exact ih1 _ _ _ _ _ _ _ _ _ _ _)
      | (with_reducible exact input_Code.mono _ _ _ _)
      | (with_reducible exact input_FromCode.mono _ _)
      | (with_reducible exact joustlaw04_awake.mono _)
      | (with_reducible exact LeO.refl _)
      | (with_reducible exact LeO.none _)
      | (with_reducible refine LeO.ite ?_ ?_)
      | (with_reducible refine LeO.bind ?_ (fun _ => ?_))
      | exact ih0 _ _ _ _ _ _
      | exact ih1 _ _ _ _ _ _ _ _ _ _ _
      | exact input_Code.mono _ _ _ _
      | exact input_FromCode.mono _ _
      | exact joustlaw04_awake.mono _
      | exact LeO.none _
      | refine LeO.ite ?_ ?_
      | refine LeO.bind ?_ (fun _ => ?_)
    · intro y0 y1 y2 y3 y4 y5 y6 y7 y8 y9 y10
      unfold joustlaw04_InputTable.j1
      repeat' first
      | (with_reducible exact ih0 _ _ _ _ _ _)
      | (with_reducible exact ih1 _ _ _ _ _ _ _ _ _ _ _)
      | (with_reducible exact input_Code.mono _ _ _ _)
      | (with_reducible exact input_FromCode.mono _ _)
      | (with_reducible exact joustlaw04_awake.mono _)
      | (with_reducible exact LeO.refl _)
      | (with_reducible exact LeO.none _)
      | (with_reducible refine LeO.ite ?_ ?_)
      | (with_reducible refine LeO.bind ?_ (fun _ => ?_))
      | exact ih0 _ _ _ _ _ _
      | exact ih1 _ _ _ _ _ _ _ _ _ _ _
      | exact input_Code.mono _ _ _ _
      | exact input_FromCode.mono _ _
      | exact joustlaw04_awake.mono _
      | exact LeO.none _
      | refine LeO.ite ?_ ?_
      | refine LeO.bind ?_ (fun _ => ?_)
theorem joustlaw04_InputTable.mono : ∀ a0 k, LeO (joustlaw04_InputTable.f k a0) (joustlaw04_InputTable.f (k + 1) a0) := by
  intro a0 k
  obtain ⟨ih0, ih1⟩ := joustlaw04_InputTable.mono_l k
  unfold joustlaw04_InputTable.f
  repeat' first
      | (with_reducible exact ih0 _ _ _ _ _ _)
      | (with_reducible exact ih1 _ _ _ _ _ _ _ _ _ _ _)
      | (with_reducible exact input_Code.mono _ _ _ _)
      | (with_reducible exact input_FromCode.mono _ _)
      | (with_reducible exact joustlaw04_awake.mono _)
      | (with_reducible exact LeO.refl _)
      | (with_reducible exact LeO.none _)
      | (with_reducible refine LeO.ite ?_ ?_)
      | (with_reducible refine LeO.bind ?_ (fun _ => ?_))
      | exact ih0 _ _ _ _ _ _
      | exact ih1 _ _ _ _ _ _ _ _ _ _ _
      | exact input_Code.mono _ _ _ _
      | exact input_FromCode.mono _ _
      | exact joustlaw04_awake.mono _
      | exact LeO.none _
      | refine LeO.ite ?_ ?_
      | refine LeO.bind ?_ (fun _ => ?_)
set_option maxHeartbeats 8000000 in
set_option maxRecDepth 100000 in
theorem joustlaw04_InputTable.calls (k : Nat) (a0 : Int) (r : Bool) (w : World) (h : joustlaw04_InputTable.f k a0 = some r) :
    Calls Try.prog 6 #[.int .u8 a0] w fun e w' => e = .returned (.bool r) ∧ Below w.heap.size w w' := by
  have hu23 := Try.underlying23
  have HB := Aside0.mk (Below.refl w.heap.size w)
  have H : (joustlaw04_InputTable.l0 k a0 0 0 9 0 false) = some r := h
  clear h
  have H' := Aside0.mk H
  clear H
  go_enter Try.func6, Try.ntmps6
  go_wp2_with (first | ((with_reducible refine gate_dst (N := 4) rfl ?_); refine box_event ?hg (N := 4) ?hd (cs := #[.int .i64 0, .int .i64 0, .bool false]) (t := 23) ?hr ?_; (case hd => rfl); (case hg => rfl); (case hr => first | (go_simp; done) | (go_simp; rfl)); intro gb130 hg w2 hbox hb; have n0_ := Aside0.mk (below_step (by repeat (first | (with_reducible first | exact HB.out | apply below_alloc | apply pw_below_drewN | apply below_drew1) | exact HB.out)) hb); have n1_ := Aside0.mk (hbox); have n2_ := Aside0.mk ((by rw [hg]; exact (below_size (by repeat (first | (with_reducible first | exact HB.out | apply below_alloc | apply pw_below_drewN | apply below_drew1) | exact HB.out))) : w.heap.size ≤ gb130)); have n3_ := Aside0.mk ((by rw [hg]; exact (below_size (by repeat (first | (with_reducible first | exact HB.out | apply below_alloc | apply pw_below_drewN | apply below_drew1) | exact HB.out))) : w.heap.size ≤ gb130)); clear HB; have HB := n0_; have BK130 := n1_; have GW130 := n2_; have GE130 := n3_; clear n0_ n1_ n2_ n3_; clear hb hbox hg; have hcz3_0 : w2.cell? ⟨gb130, 0, none⟩ = some (.int .i64 0) := (blk_cell BK130.out 0).trans rfl; have hcz3_1 : w2.cell? ⟨gb130, 1, none⟩ = some (.int .i64 0) := (blk_cell BK130.out 1).trans rfl; have hcz3_2 : w2.cell? ⟨gb130, 2, none⟩ = some (.bool false) := (blk_cell BK130.out 2).trans rfl; have hfz3_0 := blk_frozen BK130.out 0; have hfz3_1 := blk_frozen BK130.out 1; have hfz3_2 := blk_frozen BK130.out 2))
  go_loopg [3, 5] k (fun kq v3 v5 w' => ∃ (x3_1 : Int) (x5_1 : Int) (x131000_1 : Int) (x131001_1 : Int) (x131002_1 : Bool), v3 = .int .i64 x3_1 ∧ v5 = .int .i64 x5_1 ∧ Aside0 (joustlaw04_InputTable.l0 kq a0 x3_1 x5_1 x131000_1 x131001_1 x131002_1 = some r) ∧ Aside0 (kq ≤ k) ∧ Aside0 (w'.heap[gb130]? = some (.cells #[.int .i64 x131000_1, .int .i64 x131001_1, .bool x131002_1] 23 (0, 0))) ∧ Aside0 (Below w.heap.size w w'))
  case atStart => exact ⟨(0), (0), (9), (0), (false), (by first | rfl | (simp; done) | (simp [*]; done)), (by first | rfl | (simp; done) | (simp [*]; done)), H', ⟨Nat.le_refl _⟩, ⟨by (with_reducible repeat (first | refine blk_drewN ?_ _ | refine blk_drew ?_ | refine blk_alloc ?_ _)); refine blk_put (cs := #[.int .i64 9, .int .i64 0, .bool false]) ?_ 2 _ rfl; (with_reducible repeat (first | refine blk_drewN ?_ _ | refine blk_drew ?_ | refine blk_alloc ?_ _)); refine blk_put (cs := #[.int .i64 9, .int .i64 0, .bool false]) ?_ 1 _ rfl; (with_reducible repeat (first | refine blk_drewN ?_ _ | refine blk_drew ?_ | refine blk_alloc ?_ _)); refine blk_put (cs := #[.int .i64 0, .int .i64 0, .bool false]) ?_ 0 _ rfl; (with_reducible repeat (first | refine blk_drewN ?_ _ | refine blk_drew ?_ | refine blk_alloc ?_ _)); exact BK130.out⟩, ⟨by repeat (first | (with_reducible first | exact HB.out | apply below_alloc | apply pw_below_drewN | apply below_drew1 | refine below_set ?_ GE130.out) | exact HB.out)⟩⟩
  case round =>
    clear H'
    try clear p2
    try clear hcz3_0
    try clear hcz3_1
    try clear hcz3_2
    try clear hfz3_0
    try clear hfz3_1
    try clear hfz3_2
    obtain ⟨x3_1, x5_1, x131000_1, x131001_1, x131002_1, rfl, rfl, HA, HK1, BK130, HB⟩ := hrel
    cases gk with
    | zero => exact absurd HA.out (by simp [joustlaw04_InputTable.l0])
    | succ k1 =>
      have H := HA.out
      clear HA
      simp only [joustlaw04_InputTable.l0] at H
      by_cases c4 : x5_1 < 256
      · rw [if_pos c4] at H
        have c4b0 : decide (x5_1 < 256) = true := decide_eq_true c4
        (try (have c4z0 := c4b0; simp only [beq_false, beq_true, Bool.not_false, Bool.not_true, Int.add_emod_emod, Int.emod_add_emod] at c4z0))
        clear c4
        replace H := Option.bind_eq_some_iff.mp H
        obtain ⟨⟨t132, t133, t134, t135⟩, A50, H⟩ := H
        replace H : (if (t135 != (decide (((a0 + ((x5_1) % 256)) % 256) ≤ 49))) = true then (joustlaw04_InputTable.j1 k1 a0 x3_1 x5_1 t135 true x131000_1 x131001_1 x131002_1 t132 t133 t134) else (if t135 = true then (if (t132 == x131000_1 && (t133 == x131001_1 && (t134 == x131002_1))) = true then (joustlaw04_InputTable.j1 k1 a0 x3_1 x5_1 t135 true x131000_1 x131001_1 x131002_1 t132 t133 t134) else ((input_Code.f k1 t132 t133 t134).bind fun t137 => (if t137 = ((a0 + ((x5_1) % 256)) % 256) then (joustlaw04_InputTable.j1 k1 a0 x3_1 x5_1 t135 false x131000_1 x131001_1 x131002_1 t132 t133 t134) else (joustlaw04_InputTable.j1 k1 a0 x3_1 x5_1 t135 true x131000_1 x131001_1 x131002_1 t132 t133 t134)))) else (joustlaw04_InputTable.j1 k1 a0 x3_1 x5_1 t135 (!(t132 == 0) || (!(t133 == 0) || (t134))) x131000_1 x131001_1 x131002_1 t132 t133 t134))) = some r := H
        have A5 := Aside0.mk A50
        clear A50
        have HC6 := Aside0.mk H
        clear H
        go_upto_region 8 with (first | ((with_reducible refine gate_callee (f := 11) rfl ?_); refine goesL_ (some 20) rfl rfl Try.func11 (by kernel_rfl) rfl #[.int .u8 ((a0 + ((x5_1) % 256)) % 256)] rfl (by (try simp only [List.map_toArray, List.map_cons, List.map_nil]); first | done | rfl | (simp only [List.length_drop, List.length_take]; rfl)) ?_; (with_reducible refine (input_FromCode.calls k1 ((a0 + ((x5_1) % 256)) % 256) t132 t133 t134 t135 _ A5.out).mono ?_); rintro e w7 ⟨rfl, hb⟩; refine ⟨_, rfl, ?_⟩; have n0_ := Aside0.mk (blk_below (g := gb130) (o := .cells #[.int .i64 x131000_1, .int .i64 x131001_1, .bool x131002_1] 23 (0, 0)) (by (with_reducible repeat (first | refine blk_drewN ?_ _ | refine blk_drew ?_ | refine blk_alloc ?_ _)); exact BK130.out) hb); have n1_ := Aside0.mk (below_step (by repeat (first | (with_reducible first | exact HB.out | apply below_alloc | apply pw_below_drewN | apply below_drew1 | refine below_set ?_ GE130.out) | exact HB.out)) hb); clear BK130; clear HB; have BK130 := n0_; have HB := n1_; clear n0_ n1_; (try clear hb); (try clear hb2); (try clear hk); (try clear hi)) | ((with_reducible refine gate_dst (N := 7) rfl ?_); refine box_event ?hg (N := 7) ?hd (cs := #[.int .i64 0, .int .i64 0, .bool false]) (t := 23) ?hr ?_; (case hd => rfl); (case hg => rfl); (case hr => first | (go_simp; done) | (go_simp; rfl)); intro gb136 hg w8 hbox hb; have n0_ := Aside0.mk (blk_below (g := gb130) (o := .cells #[.int .i64 x131000_1, .int .i64 x131001_1, .bool x131002_1] 23 (0, 0)) (by (with_reducible repeat (first | refine blk_drewN ?_ _ | refine blk_drew ?_ | refine blk_alloc ?_ _)); exact BK130.out) hb); have n1_ := Aside0.mk (below_step (by repeat (first | (with_reducible first | exact HB.out | apply below_alloc | apply pw_below_drewN | apply below_drew1 | refine below_set ?_ GE130.out) | exact HB.out)) hb); have n2_ := Aside0.mk (hbox); have n3_ := Aside0.mk ((by rw [hg]; exact (below_size (by repeat (first | (with_reducible first | exact HB.out | apply below_alloc | apply pw_below_drewN | apply below_drew1 | refine below_set ?_ GE130.out) | exact HB.out))) : w.heap.size ≤ gb136)); have n4_ := Aside0.mk ((by rw [hg]; exact (below_size (by repeat (first | (with_reducible first | exact HB.out | apply below_alloc | apply pw_below_drewN | apply below_drew1 | refine below_set ?_ GE130.out) | exact HB.out))) : w.heap.size ≤ gb136)); have n5_ := Aside0.mk ((by rw [hg]; exact Nat.ne_of_lt (blk_lt (g := gb130) (o := .cells #[.int .i64 x131000_1, .int .i64 x131001_1, .bool x131002_1] 23 (0, 0)) (by (with_reducible repeat (first | refine blk_drewN ?_ _ | refine blk_drew ?_ | refine blk_alloc ?_ _)); exact BK130.out)) : gb130 ≠ gb136)); have n6_ := Aside0.mk ((by rw [hg]; exact Nat.ne_of_gt (blk_lt (g := gb130) (o := .cells #[.int .i64 x131000_1, .int .i64 x131001_1, .bool x131002_1] 23 (0, 0)) (by (with_reducible repeat (first | refine blk_drewN ?_ _ | refine blk_drew ?_ | refine blk_alloc ?_ _)); exact BK130.out)) : gb136 ≠ gb130)); clear BK130; clear HB; have BK130 := n0_; have HB := n1_; have BK136 := n2_; have GW136 := n3_; have GE136 := n4_; have NB130_136 := n5_; have NB136_130 := n6_; clear n0_ n1_ n2_ n3_ n4_ n5_ n6_; clear hb hbox hg; have hnb9 := NB136_130.out; have hnc9 := NB130_136.out; have hcz10_0 : w8.cell? ⟨gb136, 0, none⟩ = some (.int .i64 0) := (blk_cell BK136.out 0).trans rfl; have hcz10_1 : w8.cell? ⟨gb136, 1, none⟩ = some (.int .i64 0) := (blk_cell BK136.out 1).trans rfl; have hcz10_2 : w8.cell? ⟨gb136, 2, none⟩ = some (.bool false) := (blk_cell BK136.out 2).trans rfl; have hfz10_0 := blk_frozen BK136.out 0; have hfz10_1 := blk_frozen BK136.out 1; have hfz10_2 := blk_frozen BK136.out 2))
        (try simp only [Act.put, List.setIfInBounds_toArray, List.set_cons_zero, List.set_cons_succ])
        go_cut [49] (fun v49 wc => ∃ (kq : Nat) (x49_5 : Bool), v49 = .bool x49_5 ∧ Aside0 (joustlaw04_InputTable.j1 kq a0 x3_1 x5_1 t135 x49_5 x131000_1 x131001_1 x131002_1 t132 t133 t134 = some r) ∧ Aside0 (kq ≤ k1) ∧ Aside0 (wc.heap[gb130]? = some (.cells #[.int .i64 x131000_1, .int .i64 x131001_1, .bool x131002_1] 23 (0, 0))) ∧ Aside0 (wc.heap[gb136]? = some (.cells #[.int .i64 t132, .int .i64 t133, .bool t134] 23 (0, 0))) ∧ Aside0 (Below w.heap.size w wc))
        case first =>
          have H := HC6.out
          clear HC6
          by_cases c11 : (t135 != (decide (((a0 + ((x5_1) % 256)) % 256) ≤ 49))) = true
          · rw [if_pos c11] at H
            have c11b0 : (t135 != (decide (((a0 + ((x5_1) % 256)) % 256) ≤ 49))) = true := c11
            (try (have c11z0 := c11b0; simp only [beq_false, beq_true, Bool.not_false, Bool.not_true, Int.add_emod_emod, Int.emod_add_emod] at c11z0))
            (try (have c11b1 : decide (t135 = (decide (((a0 + ((x5_1) % 256)) % 256) ≤ 49))) = false := by simpa using c11))
            (try (have c11z1 := c11b1; simp only [beq_false, beq_true, Bool.not_false, Bool.not_true, Int.add_emod_emod, Int.emod_add_emod] at c11z1))
            (try (have c11b2 : (t135 == (decide (((a0 + ((x5_1) % 256)) % 256) ≤ 49))) = false := by simpa using c11))
            (try (have c11z2 := c11b2; simp only [beq_false, beq_true, Bool.not_false, Bool.not_true, Int.add_emod_emod, Int.emod_add_emod] at c11z2))
            (try (have c11b3 : ¬ (t135 = (decide (((a0 + ((x5_1) % 256)) % 256) ≤ 49))) := by simpa using c11))
            (try (have c11z3 := c11b3; simp only [beq_false, beq_true, Bool.not_false, Bool.not_true, Int.add_emod_emod, Int.emod_add_emod] at c11z3))
            clear c11
            (first | rw [c11b0] | (simp only [i64_w, i32_w]; rw [c11b0]) | skip)
            have H' := Aside0.mk H
            clear H
            go_wp2
            go_meet
            case rel => exact ⟨_, (true), (by first | rfl | (simp; done) | (simp [*]; done)), H', ⟨by have := HK1.out; first | omega | exact Nat.le_refl _⟩, ⟨by (with_reducible repeat (first | refine blk_drewN ?_ _ | refine blk_drew ?_ | refine blk_alloc ?_ _)); refine blk_far ?_ NB130_136.out _; (with_reducible repeat (first | refine blk_drewN ?_ _ | refine blk_drew ?_ | refine blk_alloc ?_ _)); refine blk_far ?_ NB130_136.out _; (with_reducible repeat (first | refine blk_drewN ?_ _ | refine blk_drew ?_ | refine blk_alloc ?_ _)); refine blk_far ?_ NB130_136.out _; (with_reducible repeat (first | refine blk_drewN ?_ _ | refine blk_drew ?_ | refine blk_alloc ?_ _)); exact BK130.out⟩, ⟨by (with_reducible repeat (first | refine blk_drewN ?_ _ | refine blk_drew ?_ | refine blk_alloc ?_ _)); refine blk_put (cs := #[.int .i64 t132, .int .i64 t133, .bool false]) ?_ 2 _ rfl; (with_reducible repeat (first | refine blk_drewN ?_ _ | refine blk_drew ?_ | refine blk_alloc ?_ _)); refine blk_put (cs := #[.int .i64 t132, .int .i64 0, .bool false]) ?_ 1 _ rfl; (with_reducible repeat (first | refine blk_drewN ?_ _ | refine blk_drew ?_ | refine blk_alloc ?_ _)); refine blk_put (cs := #[.int .i64 0, .int .i64 0, .bool false]) ?_ 0 _ rfl; (with_reducible repeat (first | refine blk_drewN ?_ _ | refine blk_drew ?_ | refine blk_alloc ?_ _)); exact BK136.out⟩, ⟨by repeat (first | (with_reducible first | exact HB.out | apply below_alloc | apply pw_below_drewN | apply below_drew1 | refine below_set ?_ GE130.out | refine below_set ?_ GE136.out) | exact HB.out)⟩⟩
          · rw [if_neg c11] at H
            have c11b0 : (t135 != (decide (((a0 + ((x5_1) % 256)) % 256) ≤ 49))) = false := by simpa using c11
            (try (have c11z0 := c11b0; simp only [beq_false, beq_true, Bool.not_false, Bool.not_true, Int.add_emod_emod, Int.emod_add_emod] at c11z0))
            (try (have c11b1 : decide (t135 = (decide (((a0 + ((x5_1) % 256)) % 256) ≤ 49))) = true := by simpa using c11))
            (try (have c11z1 := c11b1; simp only [beq_false, beq_true, Bool.not_false, Bool.not_true, Int.add_emod_emod, Int.emod_add_emod] at c11z1))
            (try (have c11b2 : (t135 == (decide (((a0 + ((x5_1) % 256)) % 256) ≤ 49))) = true := by simpa using c11))
            (try (have c11z2 := c11b2; simp only [beq_false, beq_true, Bool.not_false, Bool.not_true, Int.add_emod_emod, Int.emod_add_emod] at c11z2))
            clear c11
            (first | rw [c11b0] | (simp only [i64_w, i32_w]; rw [c11b0]) | skip)
            by_cases c12 : t135 = true
            · subst c12
              have H1 : (if (t132 == x131000_1 && (t133 == x131001_1 && (t134 == x131002_1))) = true then (joustlaw04_InputTable.j1 k1 a0 x3_1 x5_1 true true x131000_1 x131001_1 x131002_1 t132 t133 t134) else ((input_Code.f k1 t132 t133 t134).bind fun t137 => (if t137 = ((a0 + ((x5_1) % 256)) % 256) then (joustlaw04_InputTable.j1 k1 a0 x3_1 x5_1 true false x131000_1 x131001_1 x131002_1 t132 t133 t134) else (joustlaw04_InputTable.j1 k1 a0 x3_1 x5_1 true true x131000_1 x131001_1 x131002_1 t132 t133 t134)))) = some r := by rw [if_pos rfl] at H; exact H
              clear H
              have H := H1
              clear H1
              by_cases c13 : (t132 == x131000_1 && (t133 == x131001_1 && (t134 == x131002_1))) = true
              · rw [if_pos c13] at H
                have c13b0 : (t132 == x131000_1 && (t133 == x131001_1 && (t134 == x131002_1))) = true := c13
                (try (have c13z0 := c13b0; simp only [beq_false, beq_true, Bool.not_false, Bool.not_true, Int.add_emod_emod, Int.emod_add_emod] at c13z0))
                (try (have c13b1 : decide (t132 = x131000_1 && (t133 == x131001_1 && (t134 == x131002_1))) = true := by simpa using c13))
                (try (have c13z1 := c13b1; simp only [beq_false, beq_true, Bool.not_false, Bool.not_true, Int.add_emod_emod, Int.emod_add_emod] at c13z1))
                (try (have c13b2 : (t132 == x131000_1 && (t133 == x131001_1 && (t134 == x131002_1))) = true := by simpa using c13))
                (try (have c13z2 := c13b2; simp only [beq_false, beq_true, Bool.not_false, Bool.not_true, Int.add_emod_emod, Int.emod_add_emod] at c13z2))
                clear c13
                have H' := Aside0.mk H
                clear H
                have hnb14 := NB136_130.out
                have hnc14 := NB130_136.out
                have hcz15_0 : w8.cell? ⟨gb136, 0, none⟩ = some (.int .i64 0) := (blk_cell BK136.out 0).trans rfl
                have hcz15_1 : w8.cell? ⟨gb136, 1, none⟩ = some (.int .i64 0) := (blk_cell BK136.out 1).trans rfl
                have hcz15_2 : w8.cell? ⟨gb136, 2, none⟩ = some (.bool false) := (blk_cell BK136.out 2).trans rfl
                have hfz15_0 := blk_frozen BK136.out 0
                have hfz15_1 := blk_frozen BK136.out 1
                have hfz15_2 := blk_frozen BK136.out 2
                have hcz16_0 : w8.cell? ⟨gb130, 0, none⟩ = some (.int .i64 x131000_1) := (blk_cell BK130.out 0).trans rfl
                have hcz16_1 : w8.cell? ⟨gb130, 1, none⟩ = some (.int .i64 x131001_1) := (blk_cell BK130.out 1).trans rfl
                have hcz16_2 : w8.cell? ⟨gb130, 2, none⟩ = some (.bool x131002_1) := (blk_cell BK130.out 2).trans rfl
                have hfz16_0 := blk_frozen BK130.out 0
                have hfz16_1 := blk_frozen BK130.out 1
                have hfz16_2 := blk_frozen BK130.out 2
                go_wp2
                go_meet
                case rel => exact ⟨_, (true), (by first | rfl | (simp; done) | (simp [*]; done)), H', ⟨by have := HK1.out; first | omega | exact Nat.le_refl _⟩, ⟨by (with_reducible repeat (first | refine blk_drewN ?_ _ | refine blk_drew ?_ | refine blk_alloc ?_ _)); refine blk_far ?_ NB130_136.out _; (with_reducible repeat (first | refine blk_drewN ?_ _ | refine blk_drew ?_ | refine blk_alloc ?_ _)); refine blk_far ?_ NB130_136.out _; (with_reducible repeat (first | refine blk_drewN ?_ _ | refine blk_drew ?_ | refine blk_alloc ?_ _)); refine blk_far ?_ NB130_136.out _; (with_reducible repeat (first | refine blk_drewN ?_ _ | refine blk_drew ?_ | refine blk_alloc ?_ _)); exact BK130.out⟩, ⟨by (with_reducible repeat (first | refine blk_drewN ?_ _ | refine blk_drew ?_ | refine blk_alloc ?_ _)); refine blk_put (cs := #[.int .i64 t132, .int .i64 t133, .bool false]) ?_ 2 _ rfl; (with_reducible repeat (first | refine blk_drewN ?_ _ | refine blk_drew ?_ | refine blk_alloc ?_ _)); refine blk_put (cs := #[.int .i64 t132, .int .i64 0, .bool false]) ?_ 1 _ rfl; (with_reducible repeat (first | refine blk_drewN ?_ _ | refine blk_drew ?_ | refine blk_alloc ?_ _)); refine blk_put (cs := #[.int .i64 0, .int .i64 0, .bool false]) ?_ 0 _ rfl; (with_reducible repeat (first | refine blk_drewN ?_ _ | refine blk_drew ?_ | refine blk_alloc ?_ _)); exact BK136.out⟩, ⟨by repeat (first | (with_reducible first | exact HB.out | apply below_alloc | apply pw_below_drewN | apply below_drew1 | refine below_set ?_ GE130.out | refine below_set ?_ GE136.out) | exact HB.out)⟩⟩
              · rw [if_neg c13] at H
                have c13b0 : (t132 == x131000_1 && (t133 == x131001_1 && (t134 == x131002_1))) = false := by simpa using c13
                (try (have c13z0 := c13b0; simp only [beq_false, beq_true, Bool.not_false, Bool.not_true, Int.add_emod_emod, Int.emod_add_emod] at c13z0))
                (try (have c13b1 : decide (t132 = x131000_1 && (t133 == x131001_1 && (t134 == x131002_1))) = false := by simpa using c13))
                (try (have c13z1 := c13b1; simp only [beq_false, beq_true, Bool.not_false, Bool.not_true, Int.add_emod_emod, Int.emod_add_emod] at c13z1))
                (try (have c13b2 : (t132 == x131000_1 && (t133 == x131001_1 && (t134 == x131002_1))) = false := by simpa using c13))
                (try (have c13z2 := c13b2; simp only [beq_false, beq_true, Bool.not_false, Bool.not_true, Int.add_emod_emod, Int.emod_add_emod] at c13z2))
                (try (have c13b3 : ¬ (t132 = x131000_1 && (t133 == x131001_1 && (t134 == x131002_1))) := by simpa using c13))
                (try (have c13z3 := c13b3; simp only [beq_false, beq_true, Bool.not_false, Bool.not_true, Int.add_emod_emod, Int.emod_add_emod] at c13z3))
                clear c13
                replace H := Option.bind_eq_some_iff.mp H
                obtain ⟨t137, A170, H⟩ := H
                replace H : (if t137 = ((a0 + ((x5_1) % 256)) % 256) then (joustlaw04_InputTable.j1 k1 a0 x3_1 x5_1 true false x131000_1 x131001_1 x131002_1 t132 t133 t134) else (joustlaw04_InputTable.j1 k1 a0 x3_1 x5_1 true true x131000_1 x131001_1 x131002_1 t132 t133 t134)) = some r := H
                have A17 := Aside0.mk A170
                clear A170
                by_cases c18 : t137 = ((a0 + ((x5_1) % 256)) % 256)
                · rw [if_pos c18] at H
                  have c18b0 : (t137 == ((a0 + ((x5_1) % 256)) % 256)) = true := beq_iff_eq.mpr c18
                  (try (have c18z0 := c18b0; simp only [beq_false, beq_true, Bool.not_false, Bool.not_true, Int.add_emod_emod, Int.emod_add_emod] at c18z0))
                  have c18b1 : (t137 != ((a0 + ((x5_1) % 256)) % 256)) = false := bne_eq_false_iff_eq.mpr c18
                  (try (have c18z1 := c18b1; simp only [beq_false, beq_true, Bool.not_false, Bool.not_true, Int.add_emod_emod, Int.emod_add_emod] at c18z1))
                  clear c18
                  have H' := Aside0.mk H
                  clear H
                  have hnb19 := NB136_130.out
                  have hnc19 := NB130_136.out
                  have hcz20_0 : w8.cell? ⟨gb136, 0, none⟩ = some (.int .i64 0) := (blk_cell BK136.out 0).trans rfl
                  have hcz20_1 : w8.cell? ⟨gb136, 1, none⟩ = some (.int .i64 0) := (blk_cell BK136.out 1).trans rfl
                  have hcz20_2 : w8.cell? ⟨gb136, 2, none⟩ = some (.bool false) := (blk_cell BK136.out 2).trans rfl
                  have hfz20_0 := blk_frozen BK136.out 0
                  have hfz20_1 := blk_frozen BK136.out 1
                  have hfz20_2 := blk_frozen BK136.out 2
                  have hcz21_0 : w8.cell? ⟨gb130, 0, none⟩ = some (.int .i64 x131000_1) := (blk_cell BK130.out 0).trans rfl
                  have hcz21_1 : w8.cell? ⟨gb130, 1, none⟩ = some (.int .i64 x131001_1) := (blk_cell BK130.out 1).trans rfl
                  have hcz21_2 : w8.cell? ⟨gb130, 2, none⟩ = some (.bool x131002_1) := (blk_cell BK130.out 2).trans rfl
                  have hfz21_0 := blk_frozen BK130.out 0
                  have hfz21_1 := blk_frozen BK130.out 1
                  have hfz21_2 := blk_frozen BK130.out 2
                  go_wp2_with (first | (go_at_call 8; (with_reducible refine (input_Code.calls k1 t132 t133 t134 t137 _ A17.out).mono ?_); rintro e w22 ⟨rfl, hb⟩; have n0_ := Aside0.mk (blk_below (g := gb130) (o := .cells #[.int .i64 x131000_1, .int .i64 x131001_1, .bool x131002_1] 23 (0, 0)) (by (with_reducible repeat (first | refine blk_drewN ?_ _ | refine blk_drew ?_ | refine blk_alloc ?_ _)); refine blk_far ?_ NB130_136.out _; (with_reducible repeat (first | refine blk_drewN ?_ _ | refine blk_drew ?_ | refine blk_alloc ?_ _)); refine blk_far ?_ NB130_136.out _; (with_reducible repeat (first | refine blk_drewN ?_ _ | refine blk_drew ?_ | refine blk_alloc ?_ _)); refine blk_far ?_ NB130_136.out _; (with_reducible repeat (first | refine blk_drewN ?_ _ | refine blk_drew ?_ | refine blk_alloc ?_ _)); exact BK130.out) hb); have n1_ := Aside0.mk (blk_below (g := gb136) (o := .cells #[.int .i64 t132, .int .i64 t133, .bool t134] 23 (0, 0)) (by (with_reducible repeat (first | refine blk_drewN ?_ _ | refine blk_drew ?_ | refine blk_alloc ?_ _)); refine blk_put (cs := #[.int .i64 t132, .int .i64 t133, .bool false]) ?_ 2 _ rfl; (with_reducible repeat (first | refine blk_drewN ?_ _ | refine blk_drew ?_ | refine blk_alloc ?_ _)); refine blk_put (cs := #[.int .i64 t132, .int .i64 0, .bool false]) ?_ 1 _ rfl; (with_reducible repeat (first | refine blk_drewN ?_ _ | refine blk_drew ?_ | refine blk_alloc ?_ _)); refine blk_put (cs := #[.int .i64 0, .int .i64 0, .bool false]) ?_ 0 _ rfl; (with_reducible repeat (first | refine blk_drewN ?_ _ | refine blk_drew ?_ | refine blk_alloc ?_ _)); exact BK136.out) hb); have n2_ := Aside0.mk (below_step (by repeat (first | (with_reducible first | exact HB.out | apply below_alloc | apply pw_below_drewN | apply below_drew1 | refine below_set ?_ GE130.out | refine below_set ?_ GE136.out) | exact HB.out)) hb); clear BK130; clear BK136; clear HB; have BK130 := n0_; have BK136 := n1_; have HB := n2_; clear n0_ n1_ n2_; (try clear hb); (try clear hb2); (try clear hk); (try clear hi)))
                  go_meet
                  case rel => exact ⟨_, (false), (by first | rfl | (simp; done) | (simp [*]; done)), H', ⟨by have := HK1.out; first | omega | exact Nat.le_refl _⟩, ⟨by (with_reducible repeat (first | refine blk_drewN ?_ _ | refine blk_drew ?_ | refine blk_alloc ?_ _)); exact BK130.out⟩, ⟨by (with_reducible repeat (first | refine blk_drewN ?_ _ | refine blk_drew ?_ | refine blk_alloc ?_ _)); exact BK136.out⟩, ⟨by repeat (first | (with_reducible first | exact HB.out | apply below_alloc | apply pw_below_drewN | apply below_drew1 | refine below_set ?_ GE130.out | refine below_set ?_ GE136.out) | exact HB.out)⟩⟩
                · rw [if_neg c18] at H
                  have c18b0 : (t137 == ((a0 + ((x5_1) % 256)) % 256)) = false := beq_eq_false_iff_ne.mpr c18
                  (try (have c18z0 := c18b0; simp only [beq_false, beq_true, Bool.not_false, Bool.not_true, Int.add_emod_emod, Int.emod_add_emod] at c18z0))
                  have c18b1 : (t137 != ((a0 + ((x5_1) % 256)) % 256)) = true := bne_iff_ne.mpr c18
                  (try (have c18z1 := c18b1; simp only [beq_false, beq_true, Bool.not_false, Bool.not_true, Int.add_emod_emod, Int.emod_add_emod] at c18z1))
                  have H' := Aside0.mk H
                  clear H
                  have hnb23 := NB136_130.out
                  have hnc23 := NB130_136.out
                  have hcz24_0 : w8.cell? ⟨gb136, 0, none⟩ = some (.int .i64 0) := (blk_cell BK136.out 0).trans rfl
                  have hcz24_1 : w8.cell? ⟨gb136, 1, none⟩ = some (.int .i64 0) := (blk_cell BK136.out 1).trans rfl
                  have hcz24_2 : w8.cell? ⟨gb136, 2, none⟩ = some (.bool false) := (blk_cell BK136.out 2).trans rfl
                  have hfz24_0 := blk_frozen BK136.out 0
                  have hfz24_1 := blk_frozen BK136.out 1
                  have hfz24_2 := blk_frozen BK136.out 2
                  have hcz25_0 : w8.cell? ⟨gb130, 0, none⟩ = some (.int .i64 x131000_1) := (blk_cell BK130.out 0).trans rfl
                  have hcz25_1 : w8.cell? ⟨gb130, 1, none⟩ = some (.int .i64 x131001_1) := (blk_cell BK130.out 1).trans rfl
                  have hcz25_2 : w8.cell? ⟨gb130, 2, none⟩ = some (.bool x131002_1) := (blk_cell BK130.out 2).trans rfl
                  have hfz25_0 := blk_frozen BK130.out 0
                  have hfz25_1 := blk_frozen BK130.out 1
                  have hfz25_2 := blk_frozen BK130.out 2
                  go_wp2_with (first | (go_at_call 8; (with_reducible refine (input_Code.calls k1 t132 t133 t134 t137 _ A17.out).mono ?_); rintro e w26 ⟨rfl, hb⟩; have n0_ := Aside0.mk (blk_below (g := gb130) (o := .cells #[.int .i64 x131000_1, .int .i64 x131001_1, .bool x131002_1] 23 (0, 0)) (by (with_reducible repeat (first | refine blk_drewN ?_ _ | refine blk_drew ?_ | refine blk_alloc ?_ _)); refine blk_far ?_ NB130_136.out _; (with_reducible repeat (first | refine blk_drewN ?_ _ | refine blk_drew ?_ | refine blk_alloc ?_ _)); refine blk_far ?_ NB130_136.out _; (with_reducible repeat (first | refine blk_drewN ?_ _ | refine blk_drew ?_ | refine blk_alloc ?_ _)); refine blk_far ?_ NB130_136.out _; (with_reducible repeat (first | refine blk_drewN ?_ _ | refine blk_drew ?_ | refine blk_alloc ?_ _)); exact BK130.out) hb); have n1_ := Aside0.mk (blk_below (g := gb136) (o := .cells #[.int .i64 t132, .int .i64 t133, .bool t134] 23 (0, 0)) (by (with_reducible repeat (first | refine blk_drewN ?_ _ | refine blk_drew ?_ | refine blk_alloc ?_ _)); refine blk_put (cs := #[.int .i64 t132, .int .i64 t133, .bool false]) ?_ 2 _ rfl; (with_reducible repeat (first | refine blk_drewN ?_ _ | refine blk_drew ?_ | refine blk_alloc ?_ _)); refine blk_put (cs := #[.int .i64 t132, .int .i64 0, .bool false]) ?_ 1 _ rfl; (with_reducible repeat (first | refine blk_drewN ?_ _ | refine blk_drew ?_ | refine blk_alloc ?_ _)); refine blk_put (cs := #[.int .i64 0, .int .i64 0, .bool false]) ?_ 0 _ rfl; (with_reducible repeat (first | refine blk_drewN ?_ _ | refine blk_drew ?_ | refine blk_alloc ?_ _)); exact BK136.out) hb); have n2_ := Aside0.mk (below_step (by repeat (first | (with_reducible first | exact HB.out | apply below_alloc | apply pw_below_drewN | apply below_drew1 | refine below_set ?_ GE130.out | refine below_set ?_ GE136.out) | exact HB.out)) hb); clear BK130; clear BK136; clear HB; have BK130 := n0_; have BK136 := n1_; have HB := n2_; clear n0_ n1_ n2_; (try clear hb); (try clear hb2); (try clear hk); (try clear hi)))
                  go_meet
                  case rel => exact ⟨_, (true), (by first | rfl | (simp; done) | (simp [*]; done)), H', ⟨by have := HK1.out; first | omega | exact Nat.le_refl _⟩, ⟨by (with_reducible repeat (first | refine blk_drewN ?_ _ | refine blk_drew ?_ | refine blk_alloc ?_ _)); exact BK130.out⟩, ⟨by (with_reducible repeat (first | refine blk_drewN ?_ _ | refine blk_drew ?_ | refine blk_alloc ?_ _)); exact BK136.out⟩, ⟨by repeat (first | (with_reducible first | exact HB.out | apply below_alloc | apply pw_below_drewN | apply below_drew1 | refine below_set ?_ GE130.out | refine below_set ?_ GE136.out) | exact HB.out)⟩⟩
            · replace c12 := Bool.eq_false_iff.mpr c12
              subst c12
              have H1 : (joustlaw04_InputTable.j1 k1 a0 x3_1 x5_1 false (!(t132 == 0) || (!(t133 == 0) || (t134))) x131000_1 x131001_1 x131002_1 t132 t133 t134) = some r := by rw [if_neg (show ¬ (false = true) by decide)] at H; exact H
              clear H
              have H := H1
              clear H1
              have H' := Aside0.mk H
              clear H
              have hnb27 := NB136_130.out
              have hnc27 := NB130_136.out
              have hcz28_0 : w8.cell? ⟨gb136, 0, none⟩ = some (.int .i64 0) := (blk_cell BK136.out 0).trans rfl
              have hcz28_1 : w8.cell? ⟨gb136, 1, none⟩ = some (.int .i64 0) := (blk_cell BK136.out 1).trans rfl
              have hcz28_2 : w8.cell? ⟨gb136, 2, none⟩ = some (.bool false) := (blk_cell BK136.out 2).trans rfl
              have hfz28_0 := blk_frozen BK136.out 0
              have hfz28_1 := blk_frozen BK136.out 1
              have hfz28_2 := blk_frozen BK136.out 2
              go_wp2
              go_meet
              case rel => exact ⟨_, ((!(t132 == 0) || (!(t133 == 0) || (t134)))), (by first | rfl | (simp; done) | (simp [*]; done)), H', ⟨by have := HK1.out; first | omega | exact Nat.le_refl _⟩, ⟨by (with_reducible repeat (first | refine blk_drewN ?_ _ | refine blk_drew ?_ | refine blk_alloc ?_ _)); refine blk_far ?_ NB130_136.out _; (with_reducible repeat (first | refine blk_drewN ?_ _ | refine blk_drew ?_ | refine blk_alloc ?_ _)); refine blk_far ?_ NB130_136.out _; (with_reducible repeat (first | refine blk_drewN ?_ _ | refine blk_drew ?_ | refine blk_alloc ?_ _)); refine blk_far ?_ NB130_136.out _; (with_reducible repeat (first | refine blk_drewN ?_ _ | refine blk_drew ?_ | refine blk_alloc ?_ _)); exact BK130.out⟩, ⟨by (with_reducible repeat (first | refine blk_drewN ?_ _ | refine blk_drew ?_ | refine blk_alloc ?_ _)); refine blk_put (cs := #[.int .i64 t132, .int .i64 t133, .bool false]) ?_ 2 _ rfl; (with_reducible repeat (first | refine blk_drewN ?_ _ | refine blk_drew ?_ | refine blk_alloc ?_ _)); refine blk_put (cs := #[.int .i64 t132, .int .i64 0, .bool false]) ?_ 1 _ rfl; (with_reducible repeat (first | refine blk_drewN ?_ _ | refine blk_drew ?_ | refine blk_alloc ?_ _)); refine blk_put (cs := #[.int .i64 0, .int .i64 0, .bool false]) ?_ 0 _ rfl; (with_reducible repeat (first | refine blk_drewN ?_ _ | refine blk_drew ?_ | refine blk_alloc ?_ _)); exact BK136.out⟩, ⟨by repeat (first | (with_reducible first | exact HB.out | apply below_alloc | apply pw_below_drewN | apply below_drew1 | refine below_set ?_ GE130.out | refine below_set ?_ GE136.out) | exact HB.out)⟩⟩
        case rest =>
          clear HC6
          try clear c1
          try clear c2
          try clear p2
          try clear c4
          try clear c4b0
          try clear c6
          try clear c9
          try clear c11
          try clear c11b0
          try clear c11b1
          try clear c11b2
          try clear c12
          try clear c13
          try clear c13b0
          try clear c13b1
          try clear c13b2
          try clear c14
          try clear c18
          try clear c18b0
          try clear c18b1
          try clear c19
          try clear c23
          try clear c27
          try clear hcz10_0
          try clear hcz10_1
          try clear hcz10_2
          try clear hcz15_0
          try clear hcz15_1
          try clear hcz15_2
          try clear hcz16_0
          try clear hcz16_1
          try clear hcz16_2
          try clear hcz20_0
          try clear hcz20_1
          try clear hcz20_2
          try clear hcz21_0
          try clear hcz21_1
          try clear hcz21_2
          try clear hcz24_0
          try clear hcz24_1
          try clear hcz24_2
          try clear hcz25_0
          try clear hcz25_1
          try clear hcz25_2
          try clear hcz28_0
          try clear hcz28_1
          try clear hcz28_2
          try clear hcz3_0
          try clear hcz3_1
          try clear hcz3_2
          try clear hfz10_0
          try clear hfz10_1
          try clear hfz10_2
          try clear hfz15_0
          try clear hfz15_1
          try clear hfz15_2
          try clear hfz16_0
          try clear hfz16_1
          try clear hfz16_2
          try clear hfz20_0
          try clear hfz20_1
          try clear hfz20_2
          try clear hfz21_0
          try clear hfz21_1
          try clear hfz21_2
          try clear hfz24_0
          try clear hfz24_1
          try clear hfz24_2
          try clear hfz25_0
          try clear hfz25_1
          try clear hfz25_2
          try clear hfz28_0
          try clear hfz28_1
          try clear hfz28_2
          try clear hfz3_0
          try clear hfz3_1
          try clear hfz3_2
          try clear p2
          obtain ⟨kq, x49_5, rfl, HA, HJ5, BK130, BK136, HB⟩ := hcut
          cases kq with
          | zero => exact absurd HA.out (by simp [joustlaw04_InputTable.j1])
          | succ kj5 =>
            have H := HA.out
            clear HA
            simp only [joustlaw04_InputTable.j1] at H
            by_cases c29 : x49_5 = true
            · subst c29
              have H1 : (some false) = some r := by rw [if_pos rfl] at H; exact H
              clear H
              have H := H1
              clear H1
              obtain rfl := Option.some.inj H
              go_wp2
              go_ret
              exact ⟨by first | rfl | (simp [errW_none, errW_some] <;> rfl) | (simp [*, errW_none, errW_some] <;> rfl), by repeat (first | (with_reducible first | exact HB.out | apply below_alloc | apply pw_below_drewN | apply below_drew1 | refine below_set ?_ GE130.out | refine below_set ?_ GE136.out) | exact HB.out)⟩
            · replace c29 := Bool.eq_false_iff.mpr c29
              subst c29
              have H1 : (if t135 = true then (joustlaw04_InputTable.l0 kj5 a0 (wrap64 (x3_1 + 1)) (wrap64 (x5_1 + 1)) t132 t133 t134) else (joustlaw04_InputTable.l0 kj5 a0 x3_1 (wrap64 (x5_1 + 1)) x131000_1 x131001_1 x131002_1)) = some r := by rw [if_neg (show ¬ (false = true) by decide)] at H; exact H
              clear H
              have H := H1
              clear H1
              by_cases c30 : t135 = true
              · subst c30
                have H1 : (joustlaw04_InputTable.l0 kj5 a0 (wrap64 (x3_1 + 1)) (wrap64 (x5_1 + 1)) t132 t133 t134) = some r := by rw [if_pos rfl] at H; exact H
                clear H
                have H := H1
                clear H1
                have H' := Aside0.mk H
                clear H
                have hnb31 := NB136_130.out
                have hnc31 := NB130_136.out
                have hcz32_0 : wc.cell? ⟨gb136, 0, none⟩ = some (.int .i64 t132) := (blk_cell BK136.out 0).trans rfl
                have hcz32_1 : wc.cell? ⟨gb136, 1, none⟩ = some (.int .i64 t133) := (blk_cell BK136.out 1).trans rfl
                have hcz32_2 : wc.cell? ⟨gb136, 2, none⟩ = some (.bool t134) := (blk_cell BK136.out 2).trans rfl
                have hfz32_0 := blk_frozen BK136.out 0
                have hfz32_1 := blk_frozen BK136.out 1
                have hfz32_2 := blk_frozen BK136.out 2
                have hcz33_0 : wc.cell? ⟨gb130, 0, none⟩ = some (.int .i64 x131000_1) := (blk_cell BK130.out 0).trans rfl
                have hcz33_1 : wc.cell? ⟨gb130, 1, none⟩ = some (.int .i64 x131001_1) := (blk_cell BK130.out 1).trans rfl
                have hcz33_2 : wc.cell? ⟨gb130, 2, none⟩ = some (.bool x131002_1) := (blk_cell BK130.out 2).trans rfl
                have hfz33_0 := blk_frozen BK130.out 0
                have hfz33_1 := blk_frozen BK130.out 1
                have hfz33_2 := blk_frozen BK130.out 2
                go_wp2
                go_roundg kj5
                case measure => have := HK1.out; have := HJ5.out; omega
                case rel => exact ⟨(wrap64 (x3_1 + 1)), (wrap64 (x5_1 + 1)), (t132), (t133), (t134), (by first | rfl | (simp; done) | (simp [*]; done)), (by first | rfl | (simp; done) | (simp [*]; done)), H', ⟨by have := HK1.out; have := HJ5.out; omega⟩, ⟨by (with_reducible repeat (first | refine blk_drewN ?_ _ | refine blk_drew ?_ | refine blk_alloc ?_ _)); refine blk_put (cs := #[.int .i64 t132, .int .i64 t133, .bool x131002_1]) ?_ 2 _ rfl; (with_reducible repeat (first | refine blk_drewN ?_ _ | refine blk_drew ?_ | refine blk_alloc ?_ _)); refine blk_put (cs := #[.int .i64 t132, .int .i64 x131001_1, .bool x131002_1]) ?_ 1 _ rfl; (with_reducible repeat (first | refine blk_drewN ?_ _ | refine blk_drew ?_ | refine blk_alloc ?_ _)); refine blk_put (cs := #[.int .i64 x131000_1, .int .i64 x131001_1, .bool x131002_1]) ?_ 0 _ rfl; (with_reducible repeat (first | refine blk_drewN ?_ _ | refine blk_drew ?_ | refine blk_alloc ?_ _)); exact BK130.out⟩, ⟨by repeat (first | (with_reducible first | exact HB.out | apply below_alloc | apply pw_below_drewN | apply below_drew1 | refine below_set ?_ GE130.out | refine below_set ?_ GE136.out) | exact HB.out)⟩⟩
              · replace c30 := Bool.eq_false_iff.mpr c30
                subst c30
                have H1 : (joustlaw04_InputTable.l0 kj5 a0 x3_1 (wrap64 (x5_1 + 1)) x131000_1 x131001_1 x131002_1) = some r := by rw [if_neg (show ¬ (false = true) by decide)] at H; exact H
                clear H
                have H := H1
                clear H1
                have H' := Aside0.mk H
                clear H
                go_wp2
                go_roundg kj5
                case measure => have := HK1.out; have := HJ5.out; omega
                case rel => exact ⟨(x3_1), (wrap64 (x5_1 + 1)), (x131000_1), (x131001_1), (x131002_1), (by first | rfl | (simp; done) | (simp [*]; done)), (by first | rfl | (simp; done) | (simp [*]; done)), H', ⟨by have := HK1.out; have := HJ5.out; omega⟩, ⟨by (with_reducible repeat (first | refine blk_drewN ?_ _ | refine blk_drew ?_ | refine blk_alloc ?_ _)); exact BK130.out⟩, ⟨by repeat (first | (with_reducible first | exact HB.out | apply below_alloc | apply pw_below_drewN | apply below_drew1 | refine below_set ?_ GE130.out | refine below_set ?_ GE136.out) | exact HB.out)⟩⟩
      · rw [if_neg c4] at H
        have c4b0 : decide (x5_1 < 256) = false := decide_eq_false c4
        (try (have c4z0 := c4b0; simp only [beq_false, beq_true, Bool.not_false, Bool.not_true, Int.add_emod_emod, Int.emod_add_emod] at c4z0))
        clear c4
        replace H := Option.bind_eq_some_iff.mp H
        obtain ⟨t131, A340, H⟩ := H
        replace H : (if t131 = true then (some (x3_1 == 50)) else (some false)) = some r := H
        have A34 := Aside0.mk A340
        clear A340
        by_cases c35 : t131 = true
        · subst c35
          have H1 : (some (x3_1 == 50)) = some r := by rw [if_pos rfl] at H; exact H
          clear H
          have H := H1
          clear H1
          obtain rfl := Option.some.inj H
          go_wp2_with (first | ((with_reducible refine gate_callee (f := 10) rfl ?_); refine goesL_ (some 54) rfl rfl Try.func10 (by kernel_rfl) rfl #[] rfl (by (try simp only [List.map_toArray, List.map_cons, List.map_nil]); first | done | rfl | (simp only [List.length_drop, List.length_take]; rfl)) ?_; (with_reducible refine (joustlaw04_awake.calls k1  true _ A34.out).mono ?_); rintro e w36 ⟨rfl, hb⟩; refine ⟨_, rfl, ?_⟩; have n0_ := Aside0.mk (blk_below (g := gb130) (o := .cells #[.int .i64 x131000_1, .int .i64 x131001_1, .bool x131002_1] 23 (0, 0)) (by (with_reducible repeat (first | refine blk_drewN ?_ _ | refine blk_drew ?_ | refine blk_alloc ?_ _)); exact BK130.out) hb); have n1_ := Aside0.mk (below_step (by repeat (first | (with_reducible first | exact HB.out | apply below_alloc | apply pw_below_drewN | apply below_drew1 | refine below_set ?_ GE130.out) | exact HB.out)) hb); clear BK130; clear HB; have BK130 := n0_; have HB := n1_; clear n0_ n1_; (try clear hb); (try clear hb2); (try clear hk); (try clear hi)))
          go_ret
          exact ⟨by first | rfl | (simp [errW_none, errW_some] <;> rfl) | (simp [*, errW_none, errW_some] <;> rfl), by repeat (first | (with_reducible first | exact HB.out | apply below_alloc | apply pw_below_drewN | apply below_drew1 | refine below_set ?_ GE130.out) | exact HB.out)⟩
        · replace c35 := Bool.eq_false_iff.mpr c35
          subst c35
          have H1 : (some false) = some r := by rw [if_neg (show ¬ (false = true) by decide)] at H; exact H
          clear H
          have H := H1
          clear H1
          obtain rfl := Option.some.inj H
          go_wp2_with (first | ((with_reducible refine gate_callee (f := 10) rfl ?_); refine goesL_ (some 54) rfl rfl Try.func10 (by kernel_rfl) rfl #[] rfl (by (try simp only [List.map_toArray, List.map_cons, List.map_nil]); first | done | rfl | (simp only [List.length_drop, List.length_take]; rfl)) ?_; (with_reducible refine (joustlaw04_awake.calls k1  false _ A34.out).mono ?_); rintro e w37 ⟨rfl, hb⟩; refine ⟨_, rfl, ?_⟩; have n0_ := Aside0.mk (blk_below (g := gb130) (o := .cells #[.int .i64 x131000_1, .int .i64 x131001_1, .bool x131002_1] 23 (0, 0)) (by (with_reducible repeat (first | refine blk_drewN ?_ _ | refine blk_drew ?_ | refine blk_alloc ?_ _)); exact BK130.out) hb); have n1_ := Aside0.mk (below_step (by repeat (first | (with_reducible first | exact HB.out | apply below_alloc | apply pw_below_drewN | apply below_drew1 | refine below_set ?_ GE130.out) | exact HB.out)) hb); clear BK130; clear HB; have BK130 := n0_; have HB := n1_; clear n0_ n1_; (try clear hb); (try clear hb2); (try clear hk); (try clear hi)))
          go_ret
          exact ⟨by first | rfl | (simp [errW_none, errW_some] <;> rfl) | (simp [*, errW_none, errW_some] <;> rfl), by repeat (first | (with_reducible first | exact HB.out | apply below_alloc | apply pw_below_drewN | apply below_drew1 | refine below_set ?_ GE130.out) | exact HB.out)⟩

/-- THE ONE PURE STATEMENT of joustlaw04_InputTable: yours. -/
def joustlaw04_InputTable.Pure : Prop := ∀ (a0 : Int), (Lit.int .u8 a0).wf = true → ∃ k, joustlaw04_InputTable.f k a0 = some true
theorem joustlaw04_InputTable.walk (P : joustlaw04_InputTable.Pure) (a0 : Int) (w : World) (w0 : (Lit.int .u8 a0).wf = true) :
    Calls Try.prog 6 #[.int .u8 a0] w fun e w' => e = .returned (.bool true) ∧ Below w.heap.size w w' := by
  obtain ⟨k, h⟩ := P a0 w0
  refine (joustlaw04_InputTable.calls k a0 true w h).mono ?_
  rintro e w' ⟨rfl, hd⟩
  exact ⟨rfl, hd⟩

end Go.Proofs.Ytjkhmgoldkeckaa.PInputTable
