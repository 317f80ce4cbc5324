/- Functions that the law MovingTells reaches, and what their Go code computes. No condition. (Lines of a printed text, turned by this session.) -/
import Derived.Test.YtjnjcdaecdnkoaaX
import Derived.Test.YtjnjcdaecdnkoaaPMovingTellsz0
import Derived.Test.YtjnjcdaecdnkoaaPMovingTellsy13
namespace Go.Proofs.Ytjnjcdaecdnkoaa.PMovingTells
open Go.RowKit Go.Proofs.YtjnjcdaecdnkoaaW.PrintWords Go.Proofs.YtjnjcdaecdnkoaaW.PrintLast Go.Proofs.YtjnjcdaecdnkoaaW.PrintMore
attribute [local go_sem] max2_int min2_int max_two min_two max_three min_three max_four min_four   -- for this text's walks alone
set_option linter.unusedVariables false
set_option linter.unusedSimpArgs false
theorem au14_0 {p : Prop} (h : p := by (with_reducible repeat (first | refine blk_drewN ?_ _ | refine blk_drew ?_ | refine blk_alloc ?_ _)); exact BK221.out) : p := h
theorem au14_1 {p : Prop} (h : p := by repeat (first | (with_reducible first | exact HB.out | apply below_alloc | apply pw_below_drewN | apply below_drew1 | refine below_set ?_ GE221.out | refine below_set ?_ GE222.out | refine below_set ?_ GE223.out) | exact HB.out)) : p := h
theorem au14_2 {p : Prop} (h : p := by (with_reducible repeat (first | refine blk_drewN ?_ _ | refine blk_drew ?_ | refine blk_alloc ?_ _)); exact BK222.out) : p := h
theorem au14_3 {p : Prop} (h : p := by (with_reducible repeat (first | refine blk_drewN ?_ _ | refine blk_drew ?_ | refine blk_alloc ?_ _)); exact BK223.out) : p := h
theorem au14_4 {p : Prop} (h : p := by rw [hg]; exact Nat.ne_of_lt (blk_lt (g := gb221) (o := .cells #[.int .i64 a0_0, .int .i64 a0_1, .int .i64 a0_2, .int .i64 a0_3, .int .i64 a0_4, .int .i64 a0_5, .int .i64 a0_6, .int .i64 a0_7, .int .i64 a0_8] 26 (0, 0)) au14_0)) : p := h
theorem au14_5 {p : Prop} (h : p := by rw [hg]; exact Nat.ne_of_gt (blk_lt (g := gb221) (o := .cells #[.int .i64 a0_0, .int .i64 a0_1, .int .i64 a0_2, .int .i64 a0_3, .int .i64 a0_4, .int .i64 a0_5, .int .i64 a0_6, .int .i64 a0_7, .int .i64 a0_8] 26 (0, 0)) au14_0)) : p := h
theorem au14_6 {p : Prop} (h : p := by repeat (first | (with_reducible first | exact HB.out | apply below_alloc | apply pw_below_drewN | apply below_drew1 | refine below_set ?_ GE221.out | refine below_set ?_ GE222.out | refine below_set ?_ GE223.out | refine below_set ?_ GE226.out) | exact HB.out)) : p := h
theorem au14_7 {p : Prop} (h : p := by (try simp only [List.map_toArray, List.map_cons, List.map_nil]); first | done | rfl | (simp only [List.length_drop, List.length_take]; rfl)) : p := h
theorem au14_8 {p : Prop} (h : p := by rw [hg]; exact Nat.ne_of_lt (blk_lt (g := gb223) (o := .cells #[.int .i64 0, .int .i64 0, .int .i64 0, .int .i64 0, .int .i64 0, .int .i64 0, .int .i64 0, .int .i64 0, .int .i64 0] 26 (0, 0)) au14_3)) : p := h
theorem au14_9 {p : Prop} (h : p := by rw [hg]; exact Nat.ne_of_gt (blk_lt (g := gb223) (o := .cells #[.int .i64 0, .int .i64 0, .int .i64 0, .int .i64 0, .int .i64 0, .int .i64 0, .int .i64 0, .int .i64 0, .int .i64 0] 26 (0, 0)) au14_3)) : p := h
theorem au14_10 {p : Prop} (h : p := by repeat (first | (with_reducible first | exact HB.out | apply below_alloc | apply pw_below_drewN | apply below_drew1 | refine below_set ?_ GE221.out | refine below_set ?_ GE222.out) | exact HB.out)) : p := h
theorem au14_11 {p : Prop} (h : p := by rw [hg]; exact Nat.ne_of_lt (blk_lt (g := gb222) (o := .cells #[.int .i64 a1_0, .int .i64 a1_1, .bool a1_2] 28 (0, 0)) au14_2)) : p := h
theorem au14_12 {p : Prop} (h : p := by rw [hg]; exact Nat.ne_of_gt (blk_lt (g := gb222) (o := .cells #[.int .i64 a1_0, .int .i64 a1_1, .bool a1_2] 28 (0, 0)) au14_2)) : p := h
theorem au14_13 {p : Prop} (h : p := by repeat (first | (with_reducible first | exact HB.out | apply below_alloc | apply pw_below_drewN | apply below_drew1 | refine below_set ?_ GE221.out) | exact HB.out)) : p := h
theorem au14_14 {p : Prop} (h : p := by repeat (first | (with_reducible first | exact HB.out | apply below_alloc | apply pw_below_drewN | apply below_drew1) | exact HB.out)) : p := h
theorem au14_15 {p : Prop} (h : p := by (with_reducible repeat (first | refine blk_drewN ?_ _ | refine blk_drew ?_ | refine blk_alloc ?_ _)); exact BK226.out) : p := h
theorem au14_16 {p : Prop} (h : p := by simp only [putAll, Act.put, List.setIfInBounds_toArray, List.set_cons_zero, List.set_cons_succ]) : p := h
theorem au14_17 {p : Prop} (h : p := by rw [hg]; exact (below_size au14_1)) : p := h

/-! ### joustref09_Shoot: function 15 -/
def joustref09_Shoot.f (a0_0 : Int) (a0_1 : Int) (a0_2 : Int) (a0_3 : Int) (a0_4 : Int) (a0_5 : Int) (a0_6 : Int) (a0_7 : Int) (a0_8 : Int) (a1_0 : Int) (a1_1 : Int) (a1_2 : Bool) (a2 : Int) : Option (Int × Int × Int × Int × Int × Int × Int × Int × Int) := (joustref09_sign.f a1_0).bind fun t224 => ((joustref09_sign.f a1_1).bind fun t225 => (if (wrap64 (t224 * 160)) = 0 then (if (wrap64 (t225 * 160)) = 0 then (some (a2, 2, a0_2, a0_3, 160, wrap64 (t225 * 160), 1, 0, a0_0)) else (some (a2, 2, a0_2, a0_3, wrap64 (t224 * 160), wrap64 (t225 * 160), 1, 0, a0_0))) else (some (a2, 2, a0_2, a0_3, wrap64 (t224 * 160), wrap64 (t225 * 160), 1, 0, a0_0))))
def joustref09_Shoot.T1 : Bool × List (List Nat × List Nat) := (true, [([], []), ([], []), ([1], [1]), ([], []), ([3], [3]), ([], []), ([5], [5]), ([6], [6]), ([7], [7]), ([], []), ([9], [9]), ([10, 7], [10]), ([11], [11]), ([], []), ([13], [13]), ([0, 2, 4, 8, 12, 14], [0, 2, 4, 8, 12, 14]), ([], []), ([16, 15, 11, 0, 1, 2, 3, 4, 5, 6, 7, 8, 9, 10, 11, 12, 13, 14, 15, 16], [15, 16])])
def joustref09_Shoot.B1 : List Nat := [0, 0, 2, 0, 8, 0, 32, 96, 224, 0, 512, 1760, 3808, 0, 8192, 32767, 0, 131071]
theorem joustref09_Shoot.tab1 : rtab .any (opsOf Try.f15 1) = joustref09_Shoot.T1 := by kernel_rfl
theorem joustref09_Shoot.bits1 : waitsOk joustref09_Shoot.T1.2 joustref09_Shoot.B1 = true := by kernel_rfl
set_option maxHeartbeats 8000000 in
set_option maxRecDepth 100000 in
theorem joustref09_Shoot.calls (a0_0 : Int) (a0_1 : Int) (a0_2 : Int) (a0_3 : Int) (a0_4 : Int) (a0_5 : Int) (a0_6 : Int) (a0_7 : Int) (a0_8 : Int) (a1_0 : Int) (a1_1 : Int) (a1_2 : Bool) (a2 : Int) (r1 : Int) (r2 : Int) (r3 : Int) (r4 : Int) (r5 : Int) (r6 : Int) (r7 : Int) (r8 : Int) (r9 : Int) (w : World) (h : joustref09_Shoot.f a0_0 a0_1 a0_2 a0_3 a0_4 a0_5 a0_6 a0_7 a0_8 a1_0 a1_1 a1_2 a2 = some (r1, r2, r3, r4, r5, r6, r7, r8, r9)) :
    Calls Try.prog 15 #[.agg #[.int .i64 a0_0, .int .i64 a0_1, .int .i64 a0_2, .int .i64 a0_3, .int .i64 a0_4, .int .i64 a0_5, .int .i64 a0_6, .int .i64 a0_7, .int .i64 a0_8], .agg #[.int .i64 a1_0, .int .i64 a1_1, .bool a1_2], .int .i64 a2] w fun e w' => e = .returned (.agg #[.int .i64 r1, .int .i64 r2, .int .i64 r3, .int .i64 r4, .int .i64 r5, .int .i64 r6, .int .i64 r7, .int .i64 r8, .int .i64 r9]) ∧ Below w.heap.size w w' := by
  have hu26 := Try.underlying26
  have hu28 := Try.underlying28
  have HB := Aside0.mk (Below.refl w.heap.size w)
  have H : ((joustref09_sign.f a1_0).bind fun t224 => ((joustref09_sign.f a1_1).bind fun t225 => (if (wrap64 (t224 * 160)) = 0 then (if (wrap64 (t225 * 160)) = 0 then (some (a2, 2, a0_2, a0_3, 160, wrap64 (t225 * 160), 1, 0, a0_0)) else (some (a2, 2, a0_2, a0_3, wrap64 (t224 * 160), wrap64 (t225 * 160), 1, 0, a0_0))) else (some (a2, 2, a0_2, a0_3, wrap64 (t224 * 160), wrap64 (t225 * 160), 1, 0, a0_0))))) = some (r1, r2, r3, r4, r5, r6, r7, r8, r9) := h
  clear h
  replace H := Option.bind_eq_some_iff.mp H
  obtain ⟨t224, A40, H⟩ := H
  (try dsimp -simprocs only at H)
  have A4 := Aside0.mk A40
  clear A40
  replace H := Option.bind_eq_some_iff.mp H
  obtain ⟨t225, A50, H⟩ := H
  (try dsimp -simprocs only at H)
  have A5 := Aside0.mk A50
  clear A50
  by_cases c6 : (wrap64 (t224 * 160)) = 0
  · rw [if_pos c6] at H
    have c6b0 : ((wrap64 (t224 * 160)) == 0) = true := beq_iff_eq.mpr c6
    have c6b1 : ((wrap64 (t224 * 160)) != 0) = false := bne_eq_false_iff_eq.mpr c6
    clear c6
    by_cases c7 : (wrap64 (t225 * 160)) = 0
    · rw [if_pos c7] at H
      have c7b0 : ((wrap64 (t225 * 160)) == 0) = true := beq_iff_eq.mpr c7
      have c7b1 : ((wrap64 (t225 * 160)) != 0) = false := bne_eq_false_iff_eq.mpr c7
      clear c7
      simp only [Option.some.injEq, Prod.mk.injEq] at H
      obtain ⟨rfl, rfl, rfl, rfl, rfl, rfl, rfl, rfl, rfl⟩ := H
      go_enter Try.func15, Try.ntmps15
      try go_wp2_with (first | ((with_reducible refine gate_dst (N := 3) rfl ?_); refine box_event ?hg (N := 3) ?hd (cs := #[.int .i64 a0_0, .int .i64 a0_1, .int .i64 a0_2, .int .i64 a0_3, .int .i64 a0_4, .int .i64 a0_5, .int .i64 a0_6, .int .i64 a0_7, .int .i64 a0_8]) (t := 26) ?hr ?_; (case hd => rfl); (case hg => rfl); (case hr => first | (go_simp; done) | (go_simp; rfl)); intro gb221 hg w8 hbox hb; have n0_ := Aside0.mk (below_step au14_14 hb); have n1_ := Aside0.mk (hbox); have n2_ := Aside0.mk ((by rw [hg]; exact (below_size au14_14) : w.heap.size ≤ gb221)); have n3_ := Aside0.mk ((by rw [hg]; exact (below_size au14_14) : w.heap.size ≤ gb221)); clear HB; have HB := n0_; have BK221 := n1_; have GW221 := n2_; have GE221 := n3_; clear n0_ n1_ n2_ n3_; clear hb hbox hg) | ((with_reducible refine gate_dst (N := 4) rfl ?_); refine box_event ?hg (N := 4) ?hd (cs := #[.int .i64 a1_0, .int .i64 a1_1, .bool a1_2]) (t := 28) ?hr ?_; (case hd => rfl); (case hg => rfl); (case hr => first | (go_simp; done) | (go_simp; rfl)); intro gb222 hg w9 hbox hb; have n0_ := Aside0.mk (blk_below (g := gb221) (o := .cells #[.int .i64 a0_0, .int .i64 a0_1, .int .i64 a0_2, .int .i64 a0_3, .int .i64 a0_4, .int .i64 a0_5, .int .i64 a0_6, .int .i64 a0_7, .int .i64 a0_8] 26 (0, 0)) au14_0 hb); have n1_ := Aside0.mk (below_step au14_13 hb); have n2_ := Aside0.mk (hbox); have n3_ := Aside0.mk ((by rw [hg]; exact (below_size au14_13) : w.heap.size ≤ gb222)); have n4_ := Aside0.mk ((by rw [hg]; exact (below_size au14_13) : w.heap.size ≤ gb222)); have n5_ := Aside0.mk ((au14_4 : gb221 ≠ gb222)); have n6_ := Aside0.mk ((au14_5 : gb222 ≠ gb221)); clear BK221; clear HB; have BK221 := n0_; have HB := n1_; have BK222 := n2_; have GW222 := n3_; have GE222 := n4_; have NB221_222 := n5_; have NB222_221 := n6_; clear n0_ n1_ n2_ n3_ n4_ n5_ n6_; clear hb hbox hg) | ((with_reducible refine gate_dst (N := 6) rfl ?_); refine box_event ?hg (N := 6) ?hd (cs := #[.int .i64 0, .int .i64 0, .int .i64 0, .int .i64 0, .int .i64 0, .int .i64 0, .int .i64 0, .int .i64 0, .int .i64 0]) (t := 26) ?hr ?_; (case hd => rfl); (case hg => rfl); (case hr => first | (go_simp; done) | (go_simp; rfl)); intro gb223 hg w10 hbox hb; have n0_ := Aside0.mk (blk_below (g := gb221) (o := .cells #[.int .i64 a0_0, .int .i64 a0_1, .int .i64 a0_2, .int .i64 a0_3, .int .i64 a0_4, .int .i64 a0_5, .int .i64 a0_6, .int .i64 a0_7, .int .i64 a0_8] 26 (0, 0)) au14_0 hb); have n1_ := Aside0.mk (blk_below (g := gb222) (o := .cells #[.int .i64 a1_0, .int .i64 a1_1, .bool a1_2] 28 (0, 0)) au14_2 hb); have n2_ := Aside0.mk (below_step au14_10 hb); have n3_ := Aside0.mk (hbox); have n4_ := Aside0.mk ((by rw [hg]; exact (below_size au14_10) : w.heap.size ≤ gb223)); have n5_ := Aside0.mk ((by rw [hg]; exact (below_size au14_10) : w.heap.size ≤ gb223)); have n6_ := Aside0.mk ((au14_4 : gb221 ≠ gb223)); have n7_ := Aside0.mk ((au14_5 : gb223 ≠ gb221)); have n8_ := Aside0.mk ((au14_11 : gb222 ≠ gb223)); have n9_ := Aside0.mk ((au14_12 : gb223 ≠ gb222)); clear BK221; clear BK222; clear HB; have BK221 := n0_; have BK222 := n1_; have HB := n2_; have BK223 := n3_; have GW223 := n4_; have GE223 := n5_; have NB221_223 := n6_; have NB223_221 := n7_; have NB222_223 := n8_; have NB223_222 := n9_; clear n0_ n1_ n2_ n3_ n4_ n5_ n6_ n7_ n8_ n9_; clear hb hbox hg))
      have n0_ := Aside0.mk (blk_drew BK221.out)
      have n1_ := Aside0.mk (blk_drew BK222.out)
      have n2_ := Aside0.mk (blk_drew BK223.out)
      have n3_ := Aside0.mk (below_drew1 HB.out)
      clear BK221
      clear BK222
      clear BK223
      clear HB
      have BK221 := n0_
      have BK222 := n1_
      have BK223 := n2_
      have HB := n3_
      clear n0_ n1_ n2_ n3_
      refine start_ (n := 18) (S := fun w' => w'.cell? ⟨gb221, 0, none⟩ = some (.int .i64 a0_0) ∧ w'.cell? ⟨gb221, 1, none⟩ = some (.int .i64 a0_1) ∧ w'.cell? ⟨gb221, 2, none⟩ = some (.int .i64 a0_2) ∧ w'.cell? ⟨gb221, 3, none⟩ = some (.int .i64 a0_3) ∧ w'.cell? ⟨gb221, 4, none⟩ = some (.int .i64 a0_4) ∧ w'.cell? ⟨gb221, 5, none⟩ = some (.int .i64 a0_5) ∧ w'.cell? ⟨gb221, 6, none⟩ = some (.int .i64 a0_6) ∧ w'.cell? ⟨gb221, 7, none⟩ = some (.int .i64 a0_7) ∧ w'.cell? ⟨gb221, 8, none⟩ = some (.int .i64 a0_8) ∧ w'.cell? ⟨gb222, 0, none⟩ = some (.int .i64 a1_0) ∧ w'.cell? ⟨gb222, 1, none⟩ = some (.int .i64 a1_1) ∧ w'.cell? ⟨gb222, 2, none⟩ = some (.bool a1_2)) (ds := []) #[false, false, false, false, false, false, false, false, false, false, false, false, false, false, false, false, false, false] (by kernel_rfl) rfl rfl ⟨(blk_cell BK221.out 0).trans rfl, (blk_cell BK221.out 1).trans rfl, (blk_cell BK221.out 2).trans rfl, (blk_cell BK221.out 3).trans rfl, (blk_cell BK221.out 4).trans rfl, (blk_cell BK221.out 5).trans rfl, (blk_cell BK221.out 6).trans rfl, (blk_cell BK221.out 7).trans rfl, (blk_cell BK221.out 8).trans rfl, (blk_cell BK222.out 0).trans rfl, (blk_cell BK222.out 1).trans rfl, (blk_cell BK222.out 2).trans rfl⟩ (fun hHeld => ?_); refine with_tabW joustref09_Shoot.tab1 joustref09_Shoot.bits1 (fun HT_ HW_ => ?_)
      generalize w10.drew = w11 at BK221 BK222 BK223 HB hHeld ⊢
      refine pure_ (i := 0) (N := some 8) (v := ?_) (a' := ?_) #[true, false, false, false, false, false, false, false, false, false, false, false, false, false, false, false, false, false] rfl rfl (any_of HT_.out (by kernel_rfl)) (fun _ _ _ h => h) (Or.inl ⟨by rfl, ?_⟩) ?_ ?_
      rotate_left
      · intro w'
        go_simp
        with_reducible rfl
      rotate_left
      · simp only [Act.put, List.setIfInBounds_toArray, List.set_cons_zero, List.set_cons_succ, i64_w, i32_w]
        rfl
      refine pure_ (i := 1) (N := some 9) (v := ?_) (a' := ?_) #[true, true, false, false, false, false, false, false, false, false, false, false, false, false, false, false, false, false] rfl rfl (any_of HT_.out (by kernel_rfl)) (fun _ _ _ h => h) (Or.inl ⟨by rfl, ?_⟩) ?_ ?_
      rotate_left
      · intro w'
        go_simp
        with_reducible rfl
      rotate_left
      · simp only [Act.put, List.setIfInBounds_toArray, List.set_cons_zero, List.set_cons_succ, i64_w, i32_w]
        rfl
      refine pure_ (i := 3) (N := some 11) (v := ?_) (a' := ?_) #[true, true, false, true, false, false, false, false, false, false, false, false, false, false, false, false, false, false] rfl rfl (any_of HT_.out (by kernel_rfl)) (fun _ _ _ h => h) (Or.inl ⟨by rfl, ?_⟩) ?_ ?_
      rotate_left
      · intro w'
        go_simp
        with_reducible rfl
      rotate_left
      · simp only [Act.put, List.setIfInBounds_toArray, List.set_cons_zero, List.set_cons_succ, i64_w, i32_w]
        rfl
      refine pure_ (i := 5) (N := some 13) (v := ?_) (a' := ?_) #[true, true, false, true, false, true, false, false, false, false, false, false, false, false, false, false, false, false] rfl rfl (any_of HT_.out (by kernel_rfl)) (fun _ _ _ h => h) (Or.inl ⟨by rfl, ?_⟩) ?_ ?_
      rotate_left
      · intro w'
        go_simp
        with_reducible rfl
      rotate_left
      · simp only [Act.put, List.setIfInBounds_toArray, List.set_cons_zero, List.set_cons_succ, i64_w, i32_w]
        rfl
      refine pure_ (i := 9) (N := some 17) (v := ?_) (a' := ?_) #[true, true, false, true, false, true, false, false, false, true, false, false, false, false, false, false, false, false] rfl rfl (any_of HT_.out (by kernel_rfl)) (fun _ _ _ h => h) (Or.inl ⟨by rfl, ?_⟩) ?_ ?_
      rotate_left
      · intro w'
        go_simp
        with_reducible rfl
      rotate_left
      · simp only [Act.put, List.setIfInBounds_toArray, List.set_cons_zero, List.set_cons_succ, i64_w, i32_w]
        rfl
      refine pure_ (i := 13) (N := some 21) (v := ?_) (a' := ?_) #[true, true, false, true, false, true, false, false, false, true, false, false, false, true, false, false, false, false] rfl rfl (any_of HT_.out (by kernel_rfl)) (fun _ _ _ h => h) (Or.inl ⟨by rfl, ?_⟩) ?_ ?_
      rotate_left
      · intro w'
        go_simp
        with_reducible rfl
      rotate_left
      · simp only [Act.put, List.setIfInBounds_toArray, List.set_cons_zero, List.set_cons_succ, i64_w, i32_w]
        rfl
      refine take_ (i := 2) (N := some 10) (v := ?_) (a' := ?_) #[true, true, true, true, false, true, false, false, false, true, false, false, false, true, false, false, false, false] rfl rfl (take_ofW HT_.out HW_.out (by kernel_rfl)) (fun _ _ _ h => h) (Or.inl ⟨by rfl, ?_⟩) hHeld ?_ ?_
      rotate_left
      · rintro w' ⟨s0, s1, s2, s3, s4, s5, s6, s7, s8, s9, s10, s11⟩
        go_simp
        with_reducible rfl
      rotate_left
      · simp only [Act.put, List.setIfInBounds_toArray, List.set_cons_zero, List.set_cons_succ, i64_w, i32_w]
        rfl
      refine take_ (i := 4) (N := some 12) (v := ?_) (a' := ?_) #[true, true, true, true, true, true, false, false, false, true, false, false, false, true, false, false, false, false] rfl rfl (take_ofW HT_.out HW_.out (by kernel_rfl)) (fun _ _ _ h => h) (Or.inl ⟨by rfl, ?_⟩) hHeld ?_ ?_
      rotate_left
      · rintro w' ⟨s0, s1, s2, s3, s4, s5, s6, s7, s8, s9, s10, s11⟩
        go_simp
        with_reducible rfl
      rotate_left
      · simp only [Act.put, List.setIfInBounds_toArray, List.set_cons_zero, List.set_cons_succ, i64_w, i32_w]
        rfl
      refine take_ (i := 6) (N := some 14) (v := ?_) (a' := ?_) #[true, true, true, true, true, true, true, false, false, true, false, false, false, true, false, false, false, false] rfl rfl (take_ofW HT_.out HW_.out (by kernel_rfl)) (fun _ _ _ h => h) (Or.inl ⟨by rfl, ?_⟩) hHeld ?_ ?_
      rotate_left
      · rintro w' ⟨s0, s1, s2, s3, s4, s5, s6, s7, s8, s9, s10, s11⟩
        go_simp
        with_reducible rfl
      rotate_left
      · simp only [Act.put, List.setIfInBounds_toArray, List.set_cons_zero, List.set_cons_succ, i64_w, i32_w]
        rfl
      refine take_ (i := 10) (N := some 18) (v := ?_) (a' := ?_) #[true, true, true, true, true, true, true, false, false, true, true, false, false, true, false, false, false, false] rfl rfl (take_ofW HT_.out HW_.out (by kernel_rfl)) (fun _ _ _ h => h) (Or.inl ⟨by rfl, ?_⟩) hHeld ?_ ?_
      rotate_left
      · rintro w' ⟨s0, s1, s2, s3, s4, s5, s6, s7, s8, s9, s10, s11⟩
        go_simp
        with_reducible rfl
      rotate_left
      · simp only [Act.put, List.setIfInBounds_toArray, List.set_cons_zero, List.set_cons_succ, i64_w, i32_w]
        rfl
      refine take_ (i := 14) (N := some 22) (v := ?_) (a' := ?_) #[true, true, true, true, true, true, true, false, false, true, true, false, false, true, true, false, false, false] rfl rfl (take_ofW HT_.out HW_.out (by kernel_rfl)) (fun _ _ _ h => h) (Or.inl ⟨by rfl, ?_⟩) hHeld ?_ ?_
      rotate_left
      · rintro w' ⟨s0, s1, s2, s3, s4, s5, s6, s7, s8, s9, s10, s11⟩
        go_simp
        with_reducible rfl
      rotate_left
      · simp only [Act.put, List.setIfInBounds_toArray, List.set_cons_zero, List.set_cons_succ, i64_w, i32_w]
        rfl
      refine join_ (σ := Nat) 1 #[true, true, true, true, true, true, true, true, true, true, true, true, true, true, true, true, true, false] (fun s_ => [(15, .int .i64 t224), (19, .int .i64 t225), (7, .pointer (some ⟨s_, 0, none⟩)), (16, .int .i64 (wrap64 (t224 * 160))), (20, .int .i64 (wrap64 (t225 * 160))), (23, .agg #[.int .i64 a2, .int .i64 2, .int .i64 a0_2, .int .i64 a0_3, .int .i64 (wrap64 (t224 * 160)), .int .i64 (wrap64 (t225 * 160)), .int .i64 1, .int .i64 0, .int .i64 a0_0])]) (fun s_ w' => (w'.cell? ⟨gb221, 0, none⟩ = some (.int .i64 a0_0) ∧ w'.cell? ⟨gb221, 1, none⟩ = some (.int .i64 a0_1) ∧ w'.cell? ⟨gb221, 2, none⟩ = some (.int .i64 a0_2) ∧ w'.cell? ⟨gb221, 3, none⟩ = some (.int .i64 a0_3) ∧ w'.cell? ⟨gb221, 4, none⟩ = some (.int .i64 a0_4) ∧ w'.cell? ⟨gb221, 5, none⟩ = some (.int .i64 a0_5) ∧ w'.cell? ⟨gb221, 6, none⟩ = some (.int .i64 a0_6) ∧ w'.cell? ⟨gb221, 7, none⟩ = some (.int .i64 a0_7) ∧ w'.cell? ⟨gb221, 8, none⟩ = some (.int .i64 a0_8) ∧ w'.cell? ⟨gb222, 0, none⟩ = some (.int .i64 a1_0) ∧ w'.cell? ⟨gb222, 1, none⟩ = some (.int .i64 a1_1) ∧ w'.cell? ⟨gb222, 2, none⟩ = some (.bool a1_2)) ∧ (w'.heap[gb221]? = some (.cells #[.int .i64 a0_0, .int .i64 a0_1, .int .i64 a0_2, .int .i64 a0_3, .int .i64 a0_4, .int .i64 a0_5, .int .i64 a0_6, .int .i64 a0_7, .int .i64 a0_8] 26 (0, 0))) ∧ (w'.heap[gb222]? = some (.cells #[.int .i64 a1_0, .int .i64 a1_1, .bool a1_2] 28 (0, 0))) ∧ (w'.heap[gb223]? = some (.cells #[.int .i64 0, .int .i64 0, .int .i64 0, .int .i64 0, .int .i64 0, .int .i64 0, .int .i64 0, .int .i64 0, .int .i64 0] 26 (0, 0))) ∧ (w'.heap[s_]? = some (.cells #[.int .i64 0, .int .i64 0, .int .i64 0, .int .i64 0, .int .i64 0, .int .i64 0, .int .i64 0, .int .i64 0, .int .i64 0] 26 (0, 0))) ∧ (w.heap.size ≤ s_) ∧ (w.heap.size ≤ s_) ∧ (gb221 ≠ s_) ∧ (s_ ≠ gb221) ∧ (gb222 ≠ s_) ∧ (s_ ≠ gb222) ∧ (gb223 ≠ s_) ∧ (s_ ≠ gb223) ∧ (Below w.heap.size w w')) ?_ ?_
      rotate_left
      · intro hCont
        refine two_ (i := 7) (j := 16) (Ni := some 15) (Nj := some 7) #[true, true, true, true, true, true, true, true, false, true, true, false, false, true, true, false, false, false] #[true, true, true, true, true, true, true, false, false, true, true, false, false, true, true, false, true, false] rfl rfl rfl rfl (two_of HT_.out (by kernel_rfl)) (by decide) (by decide) (fun K hK => ?_) (fun K hK => ?_)
        · skip
          refine goes_ Try.func33 (by kernel_rfl) rfl #[.int .i64 a1_0] (by rfl) rfl rfl au14_7 ?_
          with_reducible refine (joustref09_sign.calls a1_0 t224 _ A4.out).mono ?_
          rintro e w' ⟨rfl, ⟨nd, rfl⟩⟩
          refine ⟨_, rfl, ?_⟩
          refine hK.out _ _ ⟨(blk_cell BK221.out 0).trans rfl, (blk_cell BK221.out 1).trans rfl, (blk_cell BK221.out 2).trans rfl, (blk_cell BK221.out 3).trans rfl, (blk_cell BK221.out 4).trans rfl, (blk_cell BK221.out 5).trans rfl, (blk_cell BK221.out 6).trans rfl, (blk_cell BK221.out 7).trans rfl, (blk_cell BK221.out 8).trans rfl, (blk_cell BK222.out 0).trans rfl, (blk_cell BK222.out 1).trans rfl, (blk_cell BK222.out 2).trans rfl⟩ (fun hHeld => ?_)
          clear hK K
          refine norm_ (a' := ?_) ?_ ?_
          rotate_left
          · show Act.put _ (some 15) _ = _
            simp only [Act.put, List.setIfInBounds_toArray, List.set_cons_zero, List.set_cons_succ, i64_w, i32_w]
            rfl
          refine pure_ (i := 8) (N := some 16) (v := ?_) (a' := ?_) #[true, true, true, true, true, true, true, true, true, true, true, false, false, true, true, false, false, false] rfl rfl (any_of HT_.out (by kernel_rfl)) (fun _ _ _ h => h) (Or.inl ⟨by rfl, ?_⟩) ?_ ?_
          rotate_left
          · intro w'
            go_simp
            with_reducible rfl
          rotate_left
          · simp only [Act.put, List.setIfInBounds_toArray, List.set_cons_zero, List.set_cons_succ, i64_w, i32_w]
            rfl
          refine two_ (i := 11) (j := 16) (Ni := some 19) (Nj := some 7) #[true, true, true, true, true, true, true, true, true, true, true, true, false, true, true, false, false, false] #[true, true, true, true, true, true, true, true, true, true, true, false, false, true, true, false, true, false] rfl rfl rfl rfl (two_of HT_.out (by kernel_rfl)) (by decide) (by decide) (fun K hK => ?_) (fun K hK => ?_)
          · skip
            refine goes_ Try.func33 (by kernel_rfl) rfl #[.int .i64 a1_1] (by rfl) rfl rfl au14_7 ?_
            with_reducible refine (joustref09_sign.calls a1_1 t225 _ A5.out).mono ?_
            rintro e w' ⟨rfl, ⟨nd, rfl⟩⟩
            refine ⟨_, rfl, ?_⟩
            refine hK.out _ _ ⟨(blk_cell BK221.out 0).trans rfl, (blk_cell BK221.out 1).trans rfl, (blk_cell BK221.out 2).trans rfl, (blk_cell BK221.out 3).trans rfl, (blk_cell BK221.out 4).trans rfl, (blk_cell BK221.out 5).trans rfl, (blk_cell BK221.out 6).trans rfl, (blk_cell BK221.out 7).trans rfl, (blk_cell BK221.out 8).trans rfl, (blk_cell BK222.out 0).trans rfl, (blk_cell BK222.out 1).trans rfl, (blk_cell BK222.out 2).trans rfl⟩ (fun hHeld => ?_)
            clear hK K
            refine norm_ (a' := ?_) ?_ ?_
            rotate_left
            · show Act.put _ (some 19) _ = _
              simp only [Act.put, List.setIfInBounds_toArray, List.set_cons_zero, List.set_cons_succ, i64_w, i32_w]
              rfl
            refine pure_ (i := 12) (N := some 20) (v := ?_) (a' := ?_) #[true, true, true, true, true, true, true, true, true, true, true, true, true, true, true, false, false, false] rfl rfl (any_of HT_.out (by kernel_rfl)) (fun _ _ _ h => h) (Or.inl ⟨by rfl, ?_⟩) ?_ ?_
            rotate_left
            · intro w'
              go_simp
              with_reducible rfl
            rotate_left
            · simp only [Act.put, List.setIfInBounds_toArray, List.set_cons_zero, List.set_cons_succ, i64_w, i32_w]
              rfl
            refine pure_ (i := 15) (N := some 23) (v := ?_) (a' := ?_) #[true, true, true, true, true, true, true, true, true, true, true, true, true, true, true, true, false, false] rfl rfl (any_of HT_.out (by kernel_rfl)) (fun _ _ _ h => h) (Or.inl ⟨by rfl, ?_⟩) ?_ ?_
            rotate_left
            · intro w'
              go_simp
              with_reducible rfl
            rotate_left
            · simp only [Act.put, List.setIfInBounds_toArray, List.set_cons_zero, List.set_cons_succ, i64_w, i32_w]
              rfl
            refine one_ (i := 16) (N := some 7) #[true, true, true, true, true, true, true, true, true, true, true, true, true, true, true, true, true, false] rfl rfl (one_of HT_.out (by kernel_rfl)) (by decide) (fun K hK => ?_)
            refine box_step ?hg (N := 7) ?hd (cs := #[.int .i64 0, .int .i64 0, .int .i64 0, .int .i64 0, .int .i64 0, .int .i64 0, .int .i64 0, .int .i64 0, .int .i64 0]) (t := 26) ?hr ?_; (case hd => rfl); (case hg => rfl); (case hr => first | (go_simp; done) | (go_simp; rfl))
            intro gb226 hg w12 hbox hb
            have n0_ := Aside0.mk (blk_below (g := gb221) (o := .cells #[.int .i64 a0_0, .int .i64 a0_1, .int .i64 a0_2, .int .i64 a0_3, .int .i64 a0_4, .int .i64 a0_5, .int .i64 a0_6, .int .i64 a0_7, .int .i64 a0_8] 26 (0, 0)) au14_0 hb)
            have n1_ := Aside0.mk (blk_below (g := gb222) (o := .cells #[.int .i64 a1_0, .int .i64 a1_1, .bool a1_2] 28 (0, 0)) au14_2 hb)
            have n2_ := Aside0.mk (blk_below (g := gb223) (o := .cells #[.int .i64 0, .int .i64 0, .int .i64 0, .int .i64 0, .int .i64 0, .int .i64 0, .int .i64 0, .int .i64 0, .int .i64 0] 26 (0, 0)) au14_3 hb)
            have n3_ := Aside0.mk (below_step au14_1 hb)
            have n4_ := Aside0.mk (hbox)
            have n5_ := Aside0.mk ((au14_17 : w.heap.size ≤ gb226))
            have n6_ := Aside0.mk ((au14_17 : w.heap.size ≤ gb226))
            have n7_ := Aside0.mk ((au14_4 : gb221 ≠ gb226))
            have n8_ := Aside0.mk ((au14_5 : gb226 ≠ gb221))
            have n9_ := Aside0.mk ((au14_11 : gb222 ≠ gb226))
            have n10_ := Aside0.mk ((au14_12 : gb226 ≠ gb222))
            have n11_ := Aside0.mk ((au14_8 : gb223 ≠ gb226))
            have n12_ := Aside0.mk ((au14_9 : gb226 ≠ gb223))
            clear BK221
            clear BK222
            clear BK223
            clear HB
            have BK221 := n0_
            have BK222 := n1_
            have BK223 := n2_
            have HB := n3_
            have BK226 := n4_
            have GW226 := n5_
            have GE226 := n6_
            have NB221_226 := n7_
            have NB226_221 := n8_
            have NB222_226 := n9_
            have NB226_222 := n10_
            have NB223_226 := n11_
            have NB226_223 := n12_
            clear n0_ n1_ n2_ n3_ n4_ n5_ n6_ n7_ n8_ n9_ n10_ n11_ n12_
            clear hb hbox hg
            refine hK.out _ _ ⟨(blk_cell BK221.out 0).trans rfl, (blk_cell BK221.out 1).trans rfl, (blk_cell BK221.out 2).trans rfl, (blk_cell BK221.out 3).trans rfl, (blk_cell BK221.out 4).trans rfl, (blk_cell BK221.out 5).trans rfl, (blk_cell BK221.out 6).trans rfl, (blk_cell BK221.out 7).trans rfl, (blk_cell BK221.out 8).trans rfl, (blk_cell BK222.out 0).trans rfl, (blk_cell BK222.out 1).trans rfl, (blk_cell BK222.out 2).trans rfl⟩ (fun hHeld => ?_)
            clear hK K
            refine norm_ (a' := ?_) ?_ ?_
            rotate_left
            · show Act.put _ (some 7) _ = _
              simp only [Act.put, List.setIfInBounds_toArray, List.set_cons_zero, List.set_cons_succ, i64_w, i32_w]
              rfl
            exact norm_ au14_16 (hCont (gb226) _ ⟨hHeld, au14_0, au14_2, au14_3, au14_15, GW226.out, GE226.out, NB221_226.out, NB226_221.out, NB222_226.out, NB226_222.out, NB223_226.out, NB226_223.out, au14_6⟩)
          · skip
            refine box_step ?hg (N := 7) ?hd (cs := #[.int .i64 0, .int .i64 0, .int .i64 0, .int .i64 0, .int .i64 0, .int .i64 0, .int .i64 0, .int .i64 0, .int .i64 0]) (t := 26) ?hr ?_; (case hd => rfl); (case hg => rfl); (case hr => first | (go_simp; done) | (go_simp; rfl))
            intro gb226 hg w12 hbox hb
            have n0_ := Aside0.mk (blk_below (g := gb221) (o := .cells #[.int .i64 a0_0, .int .i64 a0_1, .int .i64 a0_2, .int .i64 a0_3, .int .i64 a0_4, .int .i64 a0_5, .int .i64 a0_6, .int .i64 a0_7, .int .i64 a0_8] 26 (0, 0)) au14_0 hb)
            have n1_ := Aside0.mk (blk_below (g := gb222) (o := .cells #[.int .i64 a1_0, .int .i64 a1_1, .bool a1_2] 28 (0, 0)) au14_2 hb)
            have n2_ := Aside0.mk (blk_below (g := gb223) (o := .cells #[.int .i64 0, .int .i64 0, .int .i64 0, .int .i64 0, .int .i64 0, .int .i64 0, .int .i64 0, .int .i64 0, .int .i64 0] 26 (0, 0)) au14_3 hb)
            have n3_ := Aside0.mk (below_step au14_1 hb)
            have n4_ := Aside0.mk (hbox)
            have n5_ := Aside0.mk ((au14_17 : w.heap.size ≤ gb226))
            have n6_ := Aside0.mk ((au14_17 : w.heap.size ≤ gb226))
            have n7_ := Aside0.mk ((au14_4 : gb221 ≠ gb226))
            have n8_ := Aside0.mk ((au14_5 : gb226 ≠ gb221))
            have n9_ := Aside0.mk ((au14_11 : gb222 ≠ gb226))
            have n10_ := Aside0.mk ((au14_12 : gb226 ≠ gb222))
            have n11_ := Aside0.mk ((au14_8 : gb223 ≠ gb226))
            have n12_ := Aside0.mk ((au14_9 : gb226 ≠ gb223))
            clear BK221
            clear BK222
            clear BK223
            clear HB
            have BK221 := n0_
            have BK222 := n1_
            have BK223 := n2_
            have HB := n3_
            have BK226 := n4_
            have GW226 := n5_
            have GE226 := n6_
            have NB221_226 := n7_
            have NB226_221 := n8_
            have NB222_226 := n9_
            have NB226_222 := n10_
            have NB223_226 := n11_
            have NB226_223 := n12_
            clear n0_ n1_ n2_ n3_ n4_ n5_ n6_ n7_ n8_ n9_ n10_ n11_ n12_
            clear hb hbox hg
            refine hK.out _ _ ⟨(blk_cell BK221.out 0).trans rfl, (blk_cell BK221.out 1).trans rfl, (blk_cell BK221.out 2).trans rfl, (blk_cell BK221.out 3).trans rfl, (blk_cell BK221.out 4).trans rfl, (blk_cell BK221.out 5).trans rfl, (blk_cell BK221.out 6).trans rfl, (blk_cell BK221.out 7).trans rfl, (blk_cell BK221.out 8).trans rfl, (blk_cell BK222.out 0).trans rfl, (blk_cell BK222.out 1).trans rfl, (blk_cell BK222.out 2).trans rfl⟩ (fun hHeld => ?_)
            clear hK K
            refine norm_ (a' := ?_) ?_ ?_
            rotate_left
            · show Act.put _ (some 7) _ = _
              simp only [Act.put, List.setIfInBounds_toArray, List.set_cons_zero, List.set_cons_succ, i64_w, i32_w]
              rfl
            refine one_ (i := 11) (N := some 19) #[true, true, true, true, true, true, true, true, true, true, true, true, false, true, true, false, true, false] rfl rfl (one_of HT_.out (by kernel_rfl)) (by decide) (fun K hK => ?_)
            refine goes_ Try.func33 (by kernel_rfl) rfl #[.int .i64 a1_1] (by rfl) rfl rfl au14_7 ?_
            with_reducible refine (joustref09_sign.calls a1_1 t225 _ A5.out).mono ?_
            rintro e w' ⟨rfl, ⟨nd, rfl⟩⟩
            refine ⟨_, rfl, ?_⟩
            refine hK.out _ _ ⟨(blk_cell BK221.out 0).trans rfl, (blk_cell BK221.out 1).trans rfl, (blk_cell BK221.out 2).trans rfl, (blk_cell BK221.out 3).trans rfl, (blk_cell BK221.out 4).trans rfl, (blk_cell BK221.out 5).trans rfl, (blk_cell BK221.out 6).trans rfl, (blk_cell BK221.out 7).trans rfl, (blk_cell BK221.out 8).trans rfl, (blk_cell BK222.out 0).trans rfl, (blk_cell BK222.out 1).trans rfl, (blk_cell BK222.out 2).trans rfl⟩ (fun hHeld => ?_)
            clear hK K
            refine norm_ (a' := ?_) ?_ ?_
            rotate_left
            · show Act.put _ (some 19) _ = _
              simp only [Act.put, List.setIfInBounds_toArray, List.set_cons_zero, List.set_cons_succ, i64_w, i32_w]
              rfl
            refine pure_ (i := 12) (N := some 20) (v := ?_) (a' := ?_) #[true, true, true, true, true, true, true, true, true, true, true, true, true, true, true, false, true, false] rfl rfl (any_of HT_.out (by kernel_rfl)) (fun _ _ _ h => h) (Or.inl ⟨by rfl, ?_⟩) ?_ ?_
            rotate_left
            · intro w'
              go_simp
              with_reducible rfl
            rotate_left
            · simp only [Act.put, List.setIfInBounds_toArray, List.set_cons_zero, List.set_cons_succ, i64_w, i32_w]
              rfl
            refine pure_ (i := 15) (N := some 23) (v := ?_) (a' := ?_) #[true, true, true, true, true, true, true, true, true, true, true, true, true, true, true, true, true, false] rfl rfl (any_of HT_.out (by kernel_rfl)) (fun _ _ _ h => h) (Or.inl ⟨by rfl, ?_⟩) ?_ ?_
            rotate_left
            · intro w'
              go_simp
              with_reducible rfl
            rotate_left
            · simp only [Act.put, List.setIfInBounds_toArray, List.set_cons_zero, List.set_cons_succ, i64_w, i32_w]
              rfl
            exact norm_ au14_16 (hCont (gb226) _ ⟨hHeld, au14_0, au14_2, au14_3, au14_15, GW226.out, GE226.out, NB221_226.out, NB226_221.out, NB222_226.out, NB226_222.out, NB223_226.out, NB226_223.out, au14_6⟩)
        · skip
          refine box_step ?hg (N := 7) ?hd (cs := #[.int .i64 0, .int .i64 0, .int .i64 0, .int .i64 0, .int .i64 0, .int .i64 0, .int .i64 0, .int .i64 0, .int .i64 0]) (t := 26) ?hr ?_; (case hd => rfl); (case hg => rfl); (case hr => first | (go_simp; done) | (go_simp; rfl))
          intro gb226 hg w12 hbox hb
          have n0_ := Aside0.mk (blk_below (g := gb221) (o := .cells #[.int .i64 a0_0, .int .i64 a0_1, .int .i64 a0_2, .int .i64 a0_3, .int .i64 a0_4, .int .i64 a0_5, .int .i64 a0_6, .int .i64 a0_7, .int .i64 a0_8] 26 (0, 0)) au14_0 hb)
          have n1_ := Aside0.mk (blk_below (g := gb222) (o := .cells #[.int .i64 a1_0, .int .i64 a1_1, .bool a1_2] 28 (0, 0)) au14_2 hb)
          have n2_ := Aside0.mk (blk_below (g := gb223) (o := .cells #[.int .i64 0, .int .i64 0, .int .i64 0, .int .i64 0, .int .i64 0, .int .i64 0, .int .i64 0, .int .i64 0, .int .i64 0] 26 (0, 0)) au14_3 hb)
          have n3_ := Aside0.mk (below_step au14_1 hb)
          have n4_ := Aside0.mk (hbox)
          have n5_ := Aside0.mk ((au14_17 : w.heap.size ≤ gb226))
          have n6_ := Aside0.mk ((au14_17 : w.heap.size ≤ gb226))
          have n7_ := Aside0.mk ((au14_4 : gb221 ≠ gb226))
          have n8_ := Aside0.mk ((au14_5 : gb226 ≠ gb221))
          have n9_ := Aside0.mk ((au14_11 : gb222 ≠ gb226))
          have n10_ := Aside0.mk ((au14_12 : gb226 ≠ gb222))
          have n11_ := Aside0.mk ((au14_8 : gb223 ≠ gb226))
          have n12_ := Aside0.mk ((au14_9 : gb226 ≠ gb223))
          clear BK221
          clear BK222
          clear BK223
          clear HB
          have BK221 := n0_
          have BK222 := n1_
          have BK223 := n2_
          have HB := n3_
          have BK226 := n4_
          have GW226 := n5_
          have GE226 := n6_
          have NB221_226 := n7_
          have NB226_221 := n8_
          have NB222_226 := n9_
          have NB226_222 := n10_
          have NB223_226 := n11_
          have NB226_223 := n12_
          clear n0_ n1_ n2_ n3_ n4_ n5_ n6_ n7_ n8_ n9_ n10_ n11_ n12_
          clear hb hbox hg
          refine hK.out _ _ ⟨(blk_cell BK221.out 0).trans rfl, (blk_cell BK221.out 1).trans rfl, (blk_cell BK221.out 2).trans rfl, (blk_cell BK221.out 3).trans rfl, (blk_cell BK221.out 4).trans rfl, (blk_cell BK221.out 5).trans rfl, (blk_cell BK221.out 6).trans rfl, (blk_cell BK221.out 7).trans rfl, (blk_cell BK221.out 8).trans rfl, (blk_cell BK222.out 0).trans rfl, (blk_cell BK222.out 1).trans rfl, (blk_cell BK222.out 2).trans rfl⟩ (fun hHeld => ?_)
          clear hK K
          refine norm_ (a' := ?_) ?_ ?_
          rotate_left
          · show Act.put _ (some 7) _ = _
            simp only [Act.put, List.setIfInBounds_toArray, List.set_cons_zero, List.set_cons_succ, i64_w, i32_w]
            rfl
          refine one_ (i := 7) (N := some 15) #[true, true, true, true, true, true, true, true, false, true, true, false, false, true, true, false, true, false] rfl rfl (one_of HT_.out (by kernel_rfl)) (by decide) (fun K hK => ?_)
          refine goes_ Try.func33 (by kernel_rfl) rfl #[.int .i64 a1_0] (by rfl) rfl rfl au14_7 ?_
          with_reducible refine (joustref09_sign.calls a1_0 t224 _ A4.out).mono ?_
          rintro e w' ⟨rfl, ⟨nd, rfl⟩⟩
          refine ⟨_, rfl, ?_⟩
          refine hK.out _ _ ⟨(blk_cell BK221.out 0).trans rfl, (blk_cell BK221.out 1).trans rfl, (blk_cell BK221.out 2).trans rfl, (blk_cell BK221.out 3).trans rfl, (blk_cell BK221.out 4).trans rfl, (blk_cell BK221.out 5).trans rfl, (blk_cell BK221.out 6).trans rfl, (blk_cell BK221.out 7).trans rfl, (blk_cell BK221.out 8).trans rfl, (blk_cell BK222.out 0).trans rfl, (blk_cell BK222.out 1).trans rfl, (blk_cell BK222.out 2).trans rfl⟩ (fun hHeld => ?_)
          clear hK K
          refine norm_ (a' := ?_) ?_ ?_
          rotate_left
          · show Act.put _ (some 15) _ = _
            simp only [Act.put, List.setIfInBounds_toArray, List.set_cons_zero, List.set_cons_succ, i64_w, i32_w]
            rfl
          refine pure_ (i := 8) (N := some 16) (v := ?_) (a' := ?_) #[true, true, true, true, true, true, true, true, true, true, true, false, false, true, true, false, true, false] rfl rfl (any_of HT_.out (by kernel_rfl)) (fun _ _ _ h => h) (Or.inl ⟨by rfl, ?_⟩) ?_ ?_
          rotate_left
          · intro w'
            go_simp
            with_reducible rfl
          rotate_left
          · simp only [Act.put, List.setIfInBounds_toArray, List.set_cons_zero, List.set_cons_succ, i64_w, i32_w]
            rfl
          refine one_ (i := 11) (N := some 19) #[true, true, true, true, true, true, true, true, true, true, true, true, false, true, true, false, true, false] rfl rfl (one_of HT_.out (by kernel_rfl)) (by decide) (fun K hK => ?_)
          refine goes_ Try.func33 (by kernel_rfl) rfl #[.int .i64 a1_1] (by rfl) rfl rfl au14_7 ?_
          with_reducible refine (joustref09_sign.calls a1_1 t225 _ A5.out).mono ?_
          rintro e w' ⟨rfl, ⟨nd, rfl⟩⟩
          refine ⟨_, rfl, ?_⟩
          refine hK.out _ _ ⟨(blk_cell BK221.out 0).trans rfl, (blk_cell BK221.out 1).trans rfl, (blk_cell BK221.out 2).trans rfl, (blk_cell BK221.out 3).trans rfl, (blk_cell BK221.out 4).trans rfl, (blk_cell BK221.out 5).trans rfl, (blk_cell BK221.out 6).trans rfl, (blk_cell BK221.out 7).trans rfl, (blk_cell BK221.out 8).trans rfl, (blk_cell BK222.out 0).trans rfl, (blk_cell BK222.out 1).trans rfl, (blk_cell BK222.out 2).trans rfl⟩ (fun hHeld => ?_)
          clear hK K
          refine norm_ (a' := ?_) ?_ ?_
          rotate_left
          · show Act.put _ (some 19) _ = _
            simp only [Act.put, List.setIfInBounds_toArray, List.set_cons_zero, List.set_cons_succ, i64_w, i32_w]
            rfl
          refine pure_ (i := 12) (N := some 20) (v := ?_) (a' := ?_) #[true, true, true, true, true, true, true, true, true, true, true, true, true, true, true, false, true, false] rfl rfl (any_of HT_.out (by kernel_rfl)) (fun _ _ _ h => h) (Or.inl ⟨by rfl, ?_⟩) ?_ ?_
          rotate_left
          · intro w'
            go_simp
            with_reducible rfl
          rotate_left
          · simp only [Act.put, List.setIfInBounds_toArray, List.set_cons_zero, List.set_cons_succ, i64_w, i32_w]
            rfl
          refine pure_ (i := 15) (N := some 23) (v := ?_) (a' := ?_) #[true, true, true, true, true, true, true, true, true, true, true, true, true, true, true, true, true, false] rfl rfl (any_of HT_.out (by kernel_rfl)) (fun _ _ _ h => h) (Or.inl ⟨by rfl, ?_⟩) ?_ ?_
          rotate_left
          · intro w'
            go_simp
            with_reducible rfl
          rotate_left
          · simp only [Act.put, List.setIfInBounds_toArray, List.set_cons_zero, List.set_cons_succ, i64_w, i32_w]
            rfl
          exact norm_ au14_16 (hCont (gb226) _ ⟨hHeld, au14_0, au14_2, au14_3, au14_15, GW226.out, GE226.out, NB221_226.out, NB226_221.out, NB222_226.out, NB226_222.out, NB223_226.out, NB226_223.out, au14_6⟩)
      rintro gb226 w13 ⟨hS_, h0_, h1_, h2_, h3_, h4_, h5_, h6_, h7_, h8_, h9_, h10_, h11_, h12_⟩
      have n0_ : Aside0 (w13.heap[gb221]? = some (.cells #[.int .i64 a0_0, .int .i64 a0_1, .int .i64 a0_2, .int .i64 a0_3, .int .i64 a0_4, .int .i64 a0_5, .int .i64 a0_6, .int .i64 a0_7, .int .i64 a0_8] 26 (0, 0))) := ⟨h0_⟩
      have n1_ : Aside0 (w13.heap[gb222]? = some (.cells #[.int .i64 a1_0, .int .i64 a1_1, .bool a1_2] 28 (0, 0))) := ⟨h1_⟩
      have n2_ : Aside0 (w13.heap[gb223]? = some (.cells #[.int .i64 0, .int .i64 0, .int .i64 0, .int .i64 0, .int .i64 0, .int .i64 0, .int .i64 0, .int .i64 0, .int .i64 0] 26 (0, 0))) := ⟨h2_⟩
      have n3_ : Aside0 (w13.heap[gb226]? = some (.cells #[.int .i64 0, .int .i64 0, .int .i64 0, .int .i64 0, .int .i64 0, .int .i64 0, .int .i64 0, .int .i64 0, .int .i64 0] 26 (0, 0))) := ⟨h3_⟩
      have n4_ : Aside0 (w.heap.size ≤ gb226) := ⟨h4_⟩
      have n5_ : Aside0 (w.heap.size ≤ gb226) := ⟨h5_⟩
      have n6_ : Aside0 (gb221 ≠ gb226) := ⟨h6_⟩
      have n7_ : Aside0 (gb226 ≠ gb221) := ⟨h7_⟩
      have n8_ : Aside0 (gb222 ≠ gb226) := ⟨h8_⟩
      have n9_ : Aside0 (gb226 ≠ gb222) := ⟨h9_⟩
      have n10_ : Aside0 (gb223 ≠ gb226) := ⟨h10_⟩
      have n11_ : Aside0 (gb226 ≠ gb223) := ⟨h11_⟩
      have n12_ : Aside0 (Below w.heap.size w w13) := ⟨h12_⟩
      clear BK221
      clear BK222
      clear BK223
      clear HB
      clear h0_ h1_ h2_ h3_ h4_ h5_ h6_ h7_ h8_ h9_ h10_ h11_ h12_
      have BK221 := n0_
      have BK222 := n1_
      have BK223 := n2_
      have BK226 := n3_
      have GW226 := n4_
      have GE226 := n5_
      have NB221_226 := n6_
      have NB226_221 := n7_
      have NB222_226 := n8_
      have NB226_222 := n9_
      have NB223_226 := n10_
      have NB226_223 := n11_
      have HB := n12_
      clear n0_ n1_ n2_ n3_ n4_ n5_ n6_ n7_ n8_ n9_ n10_ n11_ n12_
      have hHeld : w13.cell? ⟨gb221, 0, none⟩ = some (.int .i64 a0_0) ∧ w13.cell? ⟨gb221, 1, none⟩ = some (.int .i64 a0_1) ∧ w13.cell? ⟨gb221, 2, none⟩ = some (.int .i64 a0_2) ∧ w13.cell? ⟨gb221, 3, none⟩ = some (.int .i64 a0_3) ∧ w13.cell? ⟨gb221, 4, none⟩ = some (.int .i64 a0_4) ∧ w13.cell? ⟨gb221, 5, none⟩ = some (.int .i64 a0_5) ∧ w13.cell? ⟨gb221, 6, none⟩ = some (.int .i64 a0_6) ∧ w13.cell? ⟨gb221, 7, none⟩ = some (.int .i64 a0_7) ∧ w13.cell? ⟨gb221, 8, none⟩ = some (.int .i64 a0_8) ∧ w13.cell? ⟨gb222, 0, none⟩ = some (.int .i64 a1_0) ∧ w13.cell? ⟨gb222, 1, none⟩ = some (.int .i64 a1_1) ∧ w13.cell? ⟨gb222, 2, none⟩ = some (.bool a1_2) := hS_
      refine norm_ (a' := ?_) ?_ ?_
      rotate_left
      · simp only [putAll, Act.put, List.setIfInBounds_toArray, List.set_cons_zero, List.set_cons_succ]
        rfl
      refine one_ (i := 17) (N := none) #[true, true, true, true, true, true, true, true, true, true, true, true, true, true, true, true, true, true] rfl rfl (one_of HT_.out (by kernel_rfl)) (by decide) (fun K hK => ?_)
      have hs14 : w13.cell? ⟨gb226, 0, none⟩ = some (.int .i64 0) := (blk_cell BK226.out 0).trans rfl
      have hfs14 := blk_frozen BK226.out 0
      have hns14_0 := NB221_226.out
      have hns14_1 := NB222_226.out
      have hns14_2 := NB223_226.out
      have hms14_0 := NB226_221.out
      have hms14_1 := NB226_222.out
      have hms14_2 := NB226_223.out
      have hs15 : w13.cell? ⟨gb226, 1, none⟩ = some (.int .i64 0) := (blk_cell BK226.out 1).trans rfl
      have hfs15 := blk_frozen BK226.out 1
      have hns15_0 := NB221_226.out
      have hns15_1 := NB222_226.out
      have hns15_2 := NB223_226.out
      have hms15_0 := NB226_221.out
      have hms15_1 := NB226_222.out
      have hms15_2 := NB226_223.out
      have hs16 : w13.cell? ⟨gb226, 2, none⟩ = some (.int .i64 0) := (blk_cell BK226.out 2).trans rfl
      have hfs16 := blk_frozen BK226.out 2
      have hns16_0 := NB221_226.out
      have hns16_1 := NB222_226.out
      have hns16_2 := NB223_226.out
      have hms16_0 := NB226_221.out
      have hms16_1 := NB226_222.out
      have hms16_2 := NB226_223.out
      have hs17 : w13.cell? ⟨gb226, 3, none⟩ = some (.int .i64 0) := (blk_cell BK226.out 3).trans rfl
      have hfs17 := blk_frozen BK226.out 3
      have hns17_0 := NB221_226.out
      have hns17_1 := NB222_226.out
      have hns17_2 := NB223_226.out
      have hms17_0 := NB226_221.out
      have hms17_1 := NB226_222.out
      have hms17_2 := NB226_223.out
      have hs18 : w13.cell? ⟨gb226, 4, none⟩ = some (.int .i64 0) := (blk_cell BK226.out 4).trans rfl
      have hfs18 := blk_frozen BK226.out 4
      have hns18_0 := NB221_226.out
      have hns18_1 := NB222_226.out
      have hns18_2 := NB223_226.out
      have hms18_0 := NB226_221.out
      have hms18_1 := NB226_222.out
      have hms18_2 := NB226_223.out
      have hs19 : w13.cell? ⟨gb226, 5, none⟩ = some (.int .i64 0) := (blk_cell BK226.out 5).trans rfl
      have hfs19 := blk_frozen BK226.out 5
      have hns19_0 := NB221_226.out
      have hns19_1 := NB222_226.out
      have hns19_2 := NB223_226.out
      have hms19_0 := NB226_221.out
      have hms19_1 := NB226_222.out
      have hms19_2 := NB226_223.out
      have hs20 : w13.cell? ⟨gb226, 6, none⟩ = some (.int .i64 0) := (blk_cell BK226.out 6).trans rfl
      have hfs20 := blk_frozen BK226.out 6
      have hns20_0 := NB221_226.out
      have hns20_1 := NB222_226.out
      have hns20_2 := NB223_226.out
      have hms20_0 := NB226_221.out
      have hms20_1 := NB226_222.out
      have hms20_2 := NB226_223.out
      have hs21 : w13.cell? ⟨gb226, 7, none⟩ = some (.int .i64 0) := (blk_cell BK226.out 7).trans rfl
      have hfs21 := blk_frozen BK226.out 7
      have hns21_0 := NB221_226.out
      have hns21_1 := NB222_226.out
      have hns21_2 := NB223_226.out
      have hms21_0 := NB226_221.out
      have hms21_1 := NB226_222.out
      have hms21_2 := NB226_223.out
      have hs22 : w13.cell? ⟨gb226, 8, none⟩ = some (.int .i64 0) := (blk_cell BK226.out 8).trans rfl
      have hfs22 := blk_frozen BK226.out 8
      have hns22_0 := NB221_226.out
      have hns22_1 := NB222_226.out
      have hns22_2 := NB223_226.out
      have hms22_0 := NB226_221.out
      have hms22_1 := NB226_222.out
      have hms22_2 := NB226_223.out
      refine skip_ (w1 := ?_) (by rfl) rfl ?_ ?_
      rotate_left
      · go_simp
        rfl
      refine hK.out _ _ ⟨((cell_far (p := ⟨gb226, _, none⟩) NB221_226.out _).trans (((cell_far (p := ⟨gb226, _, none⟩) NB221_226.out _).trans (((cell_far (p := ⟨gb226, _, none⟩) NB221_226.out _).trans (((cell_far (p := ⟨gb226, _, none⟩) NB221_226.out _).trans (((cell_far (p := ⟨gb226, _, none⟩) NB221_226.out _).trans (((cell_far (p := ⟨gb226, _, none⟩) NB221_226.out _).trans (((cell_far (p := ⟨gb226, _, none⟩) NB221_226.out _).trans (((cell_far (p := ⟨gb226, _, none⟩) NB221_226.out _).trans (((cell_far (p := ⟨gb226, _, none⟩) NB221_226.out _).trans (hHeld.1)))))))))))))))))), ((cell_far (p := ⟨gb226, _, none⟩) NB221_226.out _).trans (((cell_far (p := ⟨gb226, _, none⟩) NB221_226.out _).trans (((cell_far (p := ⟨gb226, _, none⟩) NB221_226.out _).trans (((cell_far (p := ⟨gb226, _, none⟩) NB221_226.out _).trans (((cell_far (p := ⟨gb226, _, none⟩) NB221_226.out _).trans (((cell_far (p := ⟨gb226, _, none⟩) NB221_226.out _).trans (((cell_far (p := ⟨gb226, _, none⟩) NB221_226.out _).trans (((cell_far (p := ⟨gb226, _, none⟩) NB221_226.out _).trans (((cell_far (p := ⟨gb226, _, none⟩) NB221_226.out _).trans (hHeld.2.1)))))))))))))))))), ((cell_far (p := ⟨gb226, _, none⟩) NB221_226.out _).trans (((cell_far (p := ⟨gb226, _, none⟩) NB221_226.out _).trans (((cell_far (p := ⟨gb226, _, none⟩) NB221_226.out _).trans (((cell_far (p := ⟨gb226, _, none⟩) NB221_226.out _).trans (((cell_far (p := ⟨gb226, _, none⟩) NB221_226.out _).trans (((cell_far (p := ⟨gb226, _, none⟩) NB221_226.out _).trans (((cell_far (p := ⟨gb226, _, none⟩) NB221_226.out _).trans (((cell_far (p := ⟨gb226, _, none⟩) NB221_226.out _).trans (((cell_far (p := ⟨gb226, _, none⟩) NB221_226.out _).trans (hHeld.2.2.1)))))))))))))))))), ((cell_far (p := ⟨gb226, _, none⟩) NB221_226.out _).trans (((cell_far (p := ⟨gb226, _, none⟩) NB221_226.out _).trans (((cell_far (p := ⟨gb226, _, none⟩) NB221_226.out _).trans (((cell_far (p := ⟨gb226, _, none⟩) NB221_226.out _).trans (((cell_far (p := ⟨gb226, _, none⟩) NB221_226.out _).trans (((cell_far (p := ⟨gb226, _, none⟩) NB221_226.out _).trans (((cell_far (p := ⟨gb226, _, none⟩) NB221_226.out _).trans (((cell_far (p := ⟨gb226, _, none⟩) NB221_226.out _).trans (((cell_far (p := ⟨gb226, _, none⟩) NB221_226.out _).trans (hHeld.2.2.2.1)))))))))))))))))), ((cell_far (p := ⟨gb226, _, none⟩) NB221_226.out _).trans (((cell_far (p := ⟨gb226, _, none⟩) NB221_226.out _).trans (((cell_far (p := ⟨gb226, _, none⟩) NB221_226.out _).trans (((cell_far (p := ⟨gb226, _, none⟩) NB221_226.out _).trans (((cell_far (p := ⟨gb226, _, none⟩) NB221_226.out _).trans (((cell_far (p := ⟨gb226, _, none⟩) NB221_226.out _).trans (((cell_far (p := ⟨gb226, _, none⟩) NB221_226.out _).trans (((cell_far (p := ⟨gb226, _, none⟩) NB221_226.out _).trans (((cell_far (p := ⟨gb226, _, none⟩) NB221_226.out _).trans (hHeld.2.2.2.2.1)))))))))))))))))), ((cell_far (p := ⟨gb226, _, none⟩) NB221_226.out _).trans (((cell_far (p := ⟨gb226, _, none⟩) NB221_226.out _).trans (((cell_far (p := ⟨gb226, _, none⟩) NB221_226.out _).trans (((cell_far (p := ⟨gb226, _, none⟩) NB221_226.out _).trans (((cell_far (p := ⟨gb226, _, none⟩) NB221_226.out _).trans (((cell_far (p := ⟨gb226, _, none⟩) NB221_226.out _).trans (((cell_far (p := ⟨gb226, _, none⟩) NB221_226.out _).trans (((cell_far (p := ⟨gb226, _, none⟩) NB221_226.out _).trans (((cell_far (p := ⟨gb226, _, none⟩) NB221_226.out _).trans (hHeld.2.2.2.2.2.1)))))))))))))))))), ((cell_far (p := ⟨gb226, _, none⟩) NB221_226.out _).trans (((cell_far (p := ⟨gb226, _, none⟩) NB221_226.out _).trans (((cell_far (p := ⟨gb226, _, none⟩) NB221_226.out _).trans (((cell_far (p := ⟨gb226, _, none⟩) NB221_226.out _).trans (((cell_far (p := ⟨gb226, _, none⟩) NB221_226.out _).trans (((cell_far (p := ⟨gb226, _, none⟩) NB221_226.out _).trans (((cell_far (p := ⟨gb226, _, none⟩) NB221_226.out _).trans (((cell_far (p := ⟨gb226, _, none⟩) NB221_226.out _).trans (((cell_far (p := ⟨gb226, _, none⟩) NB221_226.out _).trans (hHeld.2.2.2.2.2.2.1)))))))))))))))))), ((cell_far (p := ⟨gb226, _, none⟩) NB221_226.out _).trans (((cell_far (p := ⟨gb226, _, none⟩) NB221_226.out _).trans (((cell_far (p := ⟨gb226, _, none⟩) NB221_226.out _).trans (((cell_far (p := ⟨gb226, _, none⟩) NB221_226.out _).trans (((cell_far (p := ⟨gb226, _, none⟩) NB221_226.out _).trans (((cell_far (p := ⟨gb226, _, none⟩) NB221_226.out _).trans (((cell_far (p := ⟨gb226, _, none⟩) NB221_226.out _).trans (((cell_far (p := ⟨gb226, _, none⟩) NB221_226.out _).trans (((cell_far (p := ⟨gb226, _, none⟩) NB221_226.out _).trans (hHeld.2.2.2.2.2.2.2.1)))))))))))))))))), ((cell_far (p := ⟨gb226, _, none⟩) NB221_226.out _).trans (((cell_far (p := ⟨gb226, _, none⟩) NB221_226.out _).trans (((cell_far (p := ⟨gb226, _, none⟩) NB221_226.out _).trans (((cell_far (p := ⟨gb226, _, none⟩) NB221_226.out _).trans (((cell_far (p := ⟨gb226, _, none⟩) NB221_226.out _).trans (((cell_far (p := ⟨gb226, _, none⟩) NB221_226.out _).trans (((cell_far (p := ⟨gb226, _, none⟩) NB221_226.out _).trans (((cell_far (p := ⟨gb226, _, none⟩) NB221_226.out _).trans (((cell_far (p := ⟨gb226, _, none⟩) NB221_226.out _).trans (hHeld.2.2.2.2.2.2.2.2.1)))))))))))))))))), ((cell_far (p := ⟨gb226, _, none⟩) NB222_226.out _).trans (((cell_far (p := ⟨gb226, _, none⟩) NB222_226.out _).trans (((cell_far (p := ⟨gb226, _, none⟩) NB222_226.out _).trans (((cell_far (p := ⟨gb226, _, none⟩) NB222_226.out _).trans (((cell_far (p := ⟨gb226, _, none⟩) NB222_226.out _).trans (((cell_far (p := ⟨gb226, _, none⟩) NB222_226.out _).trans (((cell_far (p := ⟨gb226, _, none⟩) NB222_226.out _).trans (((cell_far (p := ⟨gb226, _, none⟩) NB222_226.out _).trans (((cell_far (p := ⟨gb226, _, none⟩) NB222_226.out _).trans (hHeld.2.2.2.2.2.2.2.2.2.1)))))))))))))))))), ((cell_far (p := ⟨gb226, _, none⟩) NB222_226.out _).trans (((cell_far (p := ⟨gb226, _, none⟩) NB222_226.out _).trans (((cell_far (p := ⟨gb226, _, none⟩) NB222_226.out _).trans (((cell_far (p := ⟨gb226, _, none⟩) NB222_226.out _).trans (((cell_far (p := ⟨gb226, _, none⟩) NB222_226.out _).trans (((cell_far (p := ⟨gb226, _, none⟩) NB222_226.out _).trans (((cell_far (p := ⟨gb226, _, none⟩) NB222_226.out _).trans (((cell_far (p := ⟨gb226, _, none⟩) NB222_226.out _).trans (((cell_far (p := ⟨gb226, _, none⟩) NB222_226.out _).trans (hHeld.2.2.2.2.2.2.2.2.2.2.1)))))))))))))))))), ((cell_far (p := ⟨gb226, _, none⟩) NB222_226.out _).trans (((cell_far (p := ⟨gb226, _, none⟩) NB222_226.out _).trans (((cell_far (p := ⟨gb226, _, none⟩) NB222_226.out _).trans (((cell_far (p := ⟨gb226, _, none⟩) NB222_226.out _).trans (((cell_far (p := ⟨gb226, _, none⟩) NB222_226.out _).trans (((cell_far (p := ⟨gb226, _, none⟩) NB222_226.out _).trans (((cell_far (p := ⟨gb226, _, none⟩) NB222_226.out _).trans (((cell_far (p := ⟨gb226, _, none⟩) NB222_226.out _).trans (((cell_far (p := ⟨gb226, _, none⟩) NB222_226.out _).trans (hHeld.2.2.2.2.2.2.2.2.2.2.2))))))))))))))))))⟩ (fun hHeld => ?_)
      clear hK K
      refine doneG_ (done_of HT_.out (by kernel_rfl)) (fun w' => Aside0 (w'.heap[gb226]? = some (.cells #[.int .i64 a2, .int .i64 2, .int .i64 a0_2, .int .i64 a0_3, .int .i64 (wrap64 (t224 * 160)), .int .i64 (wrap64 (t225 * 160)), .int .i64 1, .int .i64 0, .int .i64 a0_0] 26 (0, 0))) ∧ Aside0 (w'.heap[gb223]? = some (.cells #[.int .i64 0, .int .i64 0, .int .i64 0, .int .i64 0, .int .i64 0, .int .i64 0, .int .i64 0, .int .i64 0, .int .i64 0] 26 (0, 0))) ∧ Aside0 (Below w.heap.size w w')) ⟨⟨by refine blk_put (cs := #[.int .i64 a2, .int .i64 2, .int .i64 a0_2, .int .i64 a0_3, .int .i64 (wrap64 (t224 * 160)), .int .i64 (wrap64 (t225 * 160)), .int .i64 1, .int .i64 0, .int .i64 0]) ?_ 8 _ rfl; refine blk_put (cs := #[.int .i64 a2, .int .i64 2, .int .i64 a0_2, .int .i64 a0_3, .int .i64 (wrap64 (t224 * 160)), .int .i64 (wrap64 (t225 * 160)), .int .i64 1, .int .i64 0, .int .i64 0]) ?_ 7 _ rfl; refine blk_put (cs := #[.int .i64 a2, .int .i64 2, .int .i64 a0_2, .int .i64 a0_3, .int .i64 (wrap64 (t224 * 160)), .int .i64 (wrap64 (t225 * 160)), .int .i64 0, .int .i64 0, .int .i64 0]) ?_ 6 _ rfl; refine blk_put (cs := #[.int .i64 a2, .int .i64 2, .int .i64 a0_2, .int .i64 a0_3, .int .i64 (wrap64 (t224 * 160)), .int .i64 0, .int .i64 0, .int .i64 0, .int .i64 0]) ?_ 5 _ rfl; refine blk_put (cs := #[.int .i64 a2, .int .i64 2, .int .i64 a0_2, .int .i64 a0_3, .int .i64 0, .int .i64 0, .int .i64 0, .int .i64 0, .int .i64 0]) ?_ 4 _ rfl; refine blk_put (cs := #[.int .i64 a2, .int .i64 2, .int .i64 a0_2, .int .i64 0, .int .i64 0, .int .i64 0, .int .i64 0, .int .i64 0, .int .i64 0]) ?_ 3 _ rfl; refine blk_put (cs := #[.int .i64 a2, .int .i64 2, .int .i64 0, .int .i64 0, .int .i64 0, .int .i64 0, .int .i64 0, .int .i64 0, .int .i64 0]) ?_ 2 _ rfl; refine blk_put (cs := #[.int .i64 a2, .int .i64 0, .int .i64 0, .int .i64 0, .int .i64 0, .int .i64 0, .int .i64 0, .int .i64 0, .int .i64 0]) ?_ 1 _ rfl; refine blk_put (cs := #[.int .i64 0, .int .i64 0, .int .i64 0, .int .i64 0, .int .i64 0, .int .i64 0, .int .i64 0, .int .i64 0, .int .i64 0]) ?_ 0 _ rfl; (with_reducible repeat (first | refine blk_drewN ?_ _ | refine blk_drew ?_ | refine blk_alloc ?_ _)); exact BK226.out⟩, ⟨by (with_reducible repeat (first | refine blk_drewN ?_ _ | refine blk_drew ?_ | refine blk_alloc ?_ _ | refine blk_far ?_ NB223_226.out _)); exact BK223.out⟩, ⟨by repeat (first | (with_reducible first | exact HB.out | apply below_alloc | apply pw_below_drewN | apply below_drew1 | refine below_set ?_ GE226.out | refine below_set ?_ GE223.out) | exact HB.out)⟩⟩ ?_
      clear HB BK226 BK223
      rintro wG_ ⟨BK226, BK223, HB⟩
      have hnb23 := NB226_221.out
      have hnc23 := NB221_226.out
      have hnb24 := NB226_222.out
      have hnc24 := NB222_226.out
      have hnb25 := NB226_223.out
      have hnc25 := NB223_226.out
      have hcz26_0 : wG_.cell? ⟨gb226, 0, none⟩ = some (.int .i64 a2) := (blk_cell BK226.out 0).trans rfl
      have hcz26_1 : wG_.cell? ⟨gb226, 1, none⟩ = some (.int .i64 2) := (blk_cell BK226.out 1).trans rfl
      have hcz26_2 : wG_.cell? ⟨gb226, 2, none⟩ = some (.int .i64 a0_2) := (blk_cell BK226.out 2).trans rfl
      have hcz26_3 : wG_.cell? ⟨gb226, 3, none⟩ = some (.int .i64 a0_3) := (blk_cell BK226.out 3).trans rfl
      have hcz26_4 : wG_.cell? ⟨gb226, 4, none⟩ = some (.int .i64 (wrap64 (t224 * 160))) := (blk_cell BK226.out 4).trans rfl
      have hcz26_5 : wG_.cell? ⟨gb226, 5, none⟩ = some (.int .i64 (wrap64 (t225 * 160))) := (blk_cell BK226.out 5).trans rfl
      have hcz26_6 : wG_.cell? ⟨gb226, 6, none⟩ = some (.int .i64 1) := (blk_cell BK226.out 6).trans rfl
      have hcz26_7 : wG_.cell? ⟨gb226, 7, none⟩ = some (.int .i64 0) := (blk_cell BK226.out 7).trans rfl
      have hcz26_8 : wG_.cell? ⟨gb226, 8, none⟩ = some (.int .i64 a0_0) := (blk_cell BK226.out 8).trans rfl
      have hfz26_0 := blk_frozen BK226.out 0
      have hfz26_1 := blk_frozen BK226.out 1
      have hfz26_2 := blk_frozen BK226.out 2
      have hfz26_3 := blk_frozen BK226.out 3
      have hfz26_4 := blk_frozen BK226.out 4
      have hfz26_5 := blk_frozen BK226.out 5
      have hfz26_6 := blk_frozen BK226.out 6
      have hfz26_7 := blk_frozen BK226.out 7
      have hfz26_8 := blk_frozen BK226.out 8
      have hnb27 := NB223_221.out
      have hnc27 := NB221_223.out
      have hnb28 := NB223_222.out
      have hnc28 := NB222_223.out
      have hcz29_0 : wG_.cell? ⟨gb223, 0, none⟩ = some (.int .i64 0) := (blk_cell BK223.out 0).trans rfl
      have hcz29_1 : wG_.cell? ⟨gb223, 1, none⟩ = some (.int .i64 0) := (blk_cell BK223.out 1).trans rfl
      have hcz29_2 : wG_.cell? ⟨gb223, 2, none⟩ = some (.int .i64 0) := (blk_cell BK223.out 2).trans rfl
      have hcz29_3 : wG_.cell? ⟨gb223, 3, none⟩ = some (.int .i64 0) := (blk_cell BK223.out 3).trans rfl
      have hcz29_4 : wG_.cell? ⟨gb223, 4, none⟩ = some (.int .i64 0) := (blk_cell BK223.out 4).trans rfl
      have hcz29_5 : wG_.cell? ⟨gb223, 5, none⟩ = some (.int .i64 0) := (blk_cell BK223.out 5).trans rfl
      have hcz29_6 : wG_.cell? ⟨gb223, 6, none⟩ = some (.int .i64 0) := (blk_cell BK223.out 6).trans rfl
      have hcz29_7 : wG_.cell? ⟨gb223, 7, none⟩ = some (.int .i64 0) := (blk_cell BK223.out 7).trans rfl
      have hcz29_8 : wG_.cell? ⟨gb223, 8, none⟩ = some (.int .i64 0) := (blk_cell BK223.out 8).trans rfl
      have hfz29_0 := blk_frozen BK223.out 0
      have hfz29_1 := blk_frozen BK223.out 1
      have hfz29_2 := blk_frozen BK223.out 2
      have hfz29_3 := blk_frozen BK223.out 3
      have hfz29_4 := blk_frozen BK223.out 4
      have hfz29_5 := blk_frozen BK223.out 5
      have hfz29_6 := blk_frozen BK223.out 6
      have hfz29_7 := blk_frozen BK223.out 7
      have hfz29_8 := blk_frozen BK223.out 8
      try go_wp2
      refine bodyPost_ret (results_cell_row rfl _ _ gb223 26 #[.int .i64 a2, .int .i64 2, .int .i64 a0_2, .int .i64 a0_3, .int .i64 160, .int .i64 (wrap64 (t225 * 160)), .int .i64 1, .int .i64 0, .int .i64 a0_0] (0, 0) _ rfl (by (with_reducible repeat (first | refine blk_drewN ?_ _ | refine blk_drew ?_ | refine blk_alloc ?_ _)); refine blk_put (cs := #[.int .i64 a2, .int .i64 2, .int .i64 a0_2, .int .i64 a0_3, .int .i64 160, .int .i64 (wrap64 (t225 * 160)), .int .i64 1, .int .i64 0, .int .i64 0]) ?_ 8 _ rfl; (with_reducible repeat (first | refine blk_drewN ?_ _ | refine blk_drew ?_ | refine blk_alloc ?_ _)); refine blk_put (cs := #[.int .i64 a2, .int .i64 2, .int .i64 a0_2, .int .i64 a0_3, .int .i64 160, .int .i64 (wrap64 (t225 * 160)), .int .i64 1, .int .i64 0, .int .i64 0]) ?_ 7 _ rfl; (with_reducible repeat (first | refine blk_drewN ?_ _ | refine blk_drew ?_ | refine blk_alloc ?_ _)); refine blk_put (cs := #[.int .i64 a2, .int .i64 2, .int .i64 a0_2, .int .i64 a0_3, .int .i64 160, .int .i64 (wrap64 (t225 * 160)), .int .i64 0, .int .i64 0, .int .i64 0]) ?_ 6 _ rfl; (with_reducible repeat (first | refine blk_drewN ?_ _ | refine blk_drew ?_ | refine blk_alloc ?_ _)); refine blk_put (cs := #[.int .i64 a2, .int .i64 2, .int .i64 a0_2, .int .i64 a0_3, .int .i64 160, .int .i64 0, .int .i64 0, .int .i64 0, .int .i64 0]) ?_ 5 _ rfl; (with_reducible repeat (first | refine blk_drewN ?_ _ | refine blk_drew ?_ | refine blk_alloc ?_ _)); refine blk_put (cs := #[.int .i64 a2, .int .i64 2, .int .i64 a0_2, .int .i64 a0_3, .int .i64 0, .int .i64 0, .int .i64 0, .int .i64 0, .int .i64 0]) ?_ 4 _ rfl; (with_reducible repeat (first | refine blk_drewN ?_ _ | refine blk_drew ?_ | refine blk_alloc ?_ _)); refine blk_put (cs := #[.int .i64 a2, .int .i64 2, .int .i64 a0_2, .int .i64 0, .int .i64 0, .int .i64 0, .int .i64 0, .int .i64 0, .int .i64 0]) ?_ 3 _ rfl; (with_reducible repeat (first | refine blk_drewN ?_ _ | refine blk_drew ?_ | refine blk_alloc ?_ _)); refine blk_put (cs := #[.int .i64 a2, .int .i64 2, .int .i64 0, .int .i64 0, .int .i64 0, .int .i64 0, .int .i64 0, .int .i64 0, .int .i64 0]) ?_ 2 _ rfl; (with_reducible repeat (first | refine blk_drewN ?_ _ | refine blk_drew ?_ | refine blk_alloc ?_ _)); refine blk_put (cs := #[.int .i64 a2, .int .i64 0, .int .i64 0, .int .i64 0, .int .i64 0, .int .i64 0, .int .i64 0, .int .i64 0, .int .i64 0]) ?_ 1 _ rfl; (with_reducible repeat (first | refine blk_drewN ?_ _ | refine blk_drew ?_ | refine blk_alloc ?_ _)); refine blk_put (cs := #[.int .i64 0, .int .i64 0, .int .i64 0, .int .i64 0, .int .i64 0, .int .i64 0, .int .i64 0, .int .i64 0, .int .i64 0]) ?_ 0 _ rfl; (with_reducible repeat (first | refine blk_far ?_ NB223_226.out _ | refine blk_drewN ?_ _ | refine blk_drew ?_ | refine blk_alloc ?_ _)); exact BK223.out) Try.underlying26 rfl (by kernel_rfl)) rfl ?_
      exact ⟨by first | rfl | (simp [errW_none, errW_some] <;> rfl) | (simp [*, errW_none, errW_some] <;> rfl), au14_6⟩
    · rw [if_neg c7] at H
      have c7b0 : ((wrap64 (t225 * 160)) == 0) = false := beq_eq_false_iff_ne.mpr c7
      have c7b1 : ((wrap64 (t225 * 160)) != 0) = true := bne_iff_ne.mpr c7
      simp only [Option.some.injEq, Prod.mk.injEq] at H
      obtain ⟨rfl, rfl, rfl, rfl, rfl, rfl, rfl, rfl, rfl⟩ := H
      go_enter Try.func15, Try.ntmps15
      try go_wp2_with (first | ((with_reducible refine gate_dst (N := 3) rfl ?_); refine box_event ?hg (N := 3) ?hd (cs := #[.int .i64 a0_0, .int .i64 a0_1, .int .i64 a0_2, .int .i64 a0_3, .int .i64 a0_4, .int .i64 a0_5, .int .i64 a0_6, .int .i64 a0_7, .int .i64 a0_8]) (t := 26) ?hr ?_; (case hd => rfl); (case hg => rfl); (case hr => first | (go_simp; done) | (go_simp; rfl)); intro gb221 hg w30 hbox hb; have n0_ := Aside0.mk (below_step au14_14 hb); have n1_ := Aside0.mk (hbox); have n2_ := Aside0.mk ((by rw [hg]; exact (below_size au14_14) : w.heap.size ≤ gb221)); have n3_ := Aside0.mk ((by rw [hg]; exact (below_size au14_14) : w.heap.size ≤ gb221)); clear HB; have HB := n0_; have BK221 := n1_; have GW221 := n2_; have GE221 := n3_; clear n0_ n1_ n2_ n3_; clear hb hbox hg) | ((with_reducible refine gate_dst (N := 4) rfl ?_); refine box_event ?hg (N := 4) ?hd (cs := #[.int .i64 a1_0, .int .i64 a1_1, .bool a1_2]) (t := 28) ?hr ?_; (case hd => rfl); (case hg => rfl); (case hr => first | (go_simp; done) | (go_simp; rfl)); intro gb222 hg w31 hbox hb; have n0_ := Aside0.mk (blk_below (g := gb221) (o := .cells #[.int .i64 a0_0, .int .i64 a0_1, .int .i64 a0_2, .int .i64 a0_3, .int .i64 a0_4, .int .i64 a0_5, .int .i64 a0_6, .int .i64 a0_7, .int .i64 a0_8] 26 (0, 0)) au14_0 hb); have n1_ := Aside0.mk (below_step au14_13 hb); have n2_ := Aside0.mk (hbox); have n3_ := Aside0.mk ((by rw [hg]; exact (below_size au14_13) : w.heap.size ≤ gb222)); have n4_ := Aside0.mk ((by rw [hg]; exact (below_size au14_13) : w.heap.size ≤ gb222)); have n5_ := Aside0.mk ((au14_4 : gb221 ≠ gb222)); have n6_ := Aside0.mk ((au14_5 : gb222 ≠ gb221)); clear BK221; clear HB; have BK221 := n0_; have HB := n1_; have BK222 := n2_; have GW222 := n3_; have GE222 := n4_; have NB221_222 := n5_; have NB222_221 := n6_; clear n0_ n1_ n2_ n3_ n4_ n5_ n6_; clear hb hbox hg) | ((with_reducible refine gate_dst (N := 6) rfl ?_); refine box_event ?hg (N := 6) ?hd (cs := #[.int .i64 0, .int .i64 0, .int .i64 0, .int .i64 0, .int .i64 0, .int .i64 0, .int .i64 0, .int .i64 0, .int .i64 0]) (t := 26) ?hr ?_; (case hd => rfl); (case hg => rfl); (case hr => first | (go_simp; done) | (go_simp; rfl)); intro gb223 hg w32 hbox hb; have n0_ := Aside0.mk (blk_below (g := gb221) (o := .cells #[.int .i64 a0_0, .int .i64 a0_1, .int .i64 a0_2, .int .i64 a0_3, .int .i64 a0_4, .int .i64 a0_5, .int .i64 a0_6, .int .i64 a0_7, .int .i64 a0_8] 26 (0, 0)) au14_0 hb); have n1_ := Aside0.mk (blk_below (g := gb222) (o := .cells #[.int .i64 a1_0, .int .i64 a1_1, .bool a1_2] 28 (0, 0)) au14_2 hb); have n2_ := Aside0.mk (below_step au14_10 hb); have n3_ := Aside0.mk (hbox); have n4_ := Aside0.mk ((by rw [hg]; exact (below_size au14_10) : w.heap.size ≤ gb223)); have n5_ := Aside0.mk ((by rw [hg]; exact (below_size au14_10) : w.heap.size ≤ gb223)); have n6_ := Aside0.mk ((au14_4 : gb221 ≠ gb223)); have n7_ := Aside0.mk ((au14_5 : gb223 ≠ gb221)); have n8_ := Aside0.mk ((au14_11 : gb222 ≠ gb223)); have n9_ := Aside0.mk ((au14_12 : gb223 ≠ gb222)); clear BK221; clear BK222; clear HB; have BK221 := n0_; have BK222 := n1_; have HB := n2_; have BK223 := n3_; have GW223 := n4_; have GE223 := n5_; have NB221_223 := n6_; have NB223_221 := n7_; have NB222_223 := n8_; have NB223_222 := n9_; clear n0_ n1_ n2_ n3_ n4_ n5_ n6_ n7_ n8_ n9_; clear hb hbox hg))
      have n0_ := Aside0.mk (blk_drew BK221.out)
      have n1_ := Aside0.mk (blk_drew BK222.out)
      have n2_ := Aside0.mk (blk_drew BK223.out)
      have n3_ := Aside0.mk (below_drew1 HB.out)
      clear BK221
      clear BK222
      clear BK223
      clear HB
      have BK221 := n0_
      have BK222 := n1_
      have BK223 := n2_
      have HB := n3_
      clear n0_ n1_ n2_ n3_
      refine start_ (n := 18) (S := fun w' => w'.cell? ⟨gb221, 0, none⟩ = some (.int .i64 a0_0) ∧ w'.cell? ⟨gb221, 1, none⟩ = some (.int .i64 a0_1) ∧ w'.cell? ⟨gb221, 2, none⟩ = some (.int .i64 a0_2) ∧ w'.cell? ⟨gb221, 3, none⟩ = some (.int .i64 a0_3) ∧ w'.cell? ⟨gb221, 4, none⟩ = some (.int .i64 a0_4) ∧ w'.cell? ⟨gb221, 5, none⟩ = some (.int .i64 a0_5) ∧ w'.cell? ⟨gb221, 6, none⟩ = some (.int .i64 a0_6) ∧ w'.cell? ⟨gb221, 7, none⟩ = some (.int .i64 a0_7) ∧ w'.cell? ⟨gb221, 8, none⟩ = some (.int .i64 a0_8) ∧ w'.cell? ⟨gb222, 0, none⟩ = some (.int .i64 a1_0) ∧ w'.cell? ⟨gb222, 1, none⟩ = some (.int .i64 a1_1) ∧ w'.cell? ⟨gb222, 2, none⟩ = some (.bool a1_2)) (ds := []) #[false, false, false, false, false, false, false, false, false, false, false, false, false, false, false, false, false, false] (by kernel_rfl) rfl rfl ⟨(blk_cell BK221.out 0).trans rfl, (blk_cell BK221.out 1).trans rfl, (blk_cell BK221.out 2).trans rfl, (blk_cell BK221.out 3).trans rfl, (blk_cell BK221.out 4).trans rfl, (blk_cell BK221.out 5).trans rfl, (blk_cell BK221.out 6).trans rfl, (blk_cell BK221.out 7).trans rfl, (blk_cell BK221.out 8).trans rfl, (blk_cell BK222.out 0).trans rfl, (blk_cell BK222.out 1).trans rfl, (blk_cell BK222.out 2).trans rfl⟩ (fun hHeld => ?_); refine with_tabW joustref09_Shoot.tab1 joustref09_Shoot.bits1 (fun HT_ HW_ => ?_)
      generalize w32.drew = w33 at BK221 BK222 BK223 HB hHeld ⊢
      refine pure_ (i := 0) (N := some 8) (v := ?_) (a' := ?_) #[true, false, false, false, false, false, false, false, false, false, false, false, false, false, false, false, false, false] rfl rfl (any_of HT_.out (by kernel_rfl)) (fun _ _ _ h => h) (Or.inl ⟨by rfl, ?_⟩) ?_ ?_
      rotate_left
      · intro w'
        go_simp
        with_reducible rfl
      rotate_left
      · simp only [Act.put, List.setIfInBounds_toArray, List.set_cons_zero, List.set_cons_succ, i64_w, i32_w]
        rfl
      refine pure_ (i := 1) (N := some 9) (v := ?_) (a' := ?_) #[true, true, false, false, false, false, false, false, false, false, false, false, false, false, false, false, false, false] rfl rfl (any_of HT_.out (by kernel_rfl)) (fun _ _ _ h => h) (Or.inl ⟨by rfl, ?_⟩) ?_ ?_
      rotate_left
      · intro w'
        go_simp
        with_reducible rfl
      rotate_left
      · simp only [Act.put, List.setIfInBounds_toArray, List.set_cons_zero, List.set_cons_succ, i64_w, i32_w]
        rfl
      refine pure_ (i := 3) (N := some 11) (v := ?_) (a' := ?_) #[true, true, false, true, false, false, false, false, false, false, false, false, false, false, false, false, false, false] rfl rfl (any_of HT_.out (by kernel_rfl)) (fun _ _ _ h => h) (Or.inl ⟨by rfl, ?_⟩) ?_ ?_
      rotate_left
      · intro w'
        go_simp
        with_reducible rfl
      rotate_left
      · simp only [Act.put, List.setIfInBounds_toArray, List.set_cons_zero, List.set_cons_succ, i64_w, i32_w]
        rfl
      refine pure_ (i := 5) (N := some 13) (v := ?_) (a' := ?_) #[true, true, false, true, false, true, false, false, false, false, false, false, false, false, false, false, false, false] rfl rfl (any_of HT_.out (by kernel_rfl)) (fun _ _ _ h => h) (Or.inl ⟨by rfl, ?_⟩) ?_ ?_
      rotate_left
      · intro w'
        go_simp
        with_reducible rfl
      rotate_left
      · simp only [Act.put, List.setIfInBounds_toArray, List.set_cons_zero, List.set_cons_succ, i64_w, i32_w]
        rfl
      refine pure_ (i := 9) (N := some 17) (v := ?_) (a' := ?_) #[true, true, false, true, false, true, false, false, false, true, false, false, false, false, false, false, false, false] rfl rfl (any_of HT_.out (by kernel_rfl)) (fun _ _ _ h => h) (Or.inl ⟨by rfl, ?_⟩) ?_ ?_
      rotate_left
      · intro w'
        go_simp
        with_reducible rfl
      rotate_left
      · simp only [Act.put, List.setIfInBounds_toArray, List.set_cons_zero, List.set_cons_succ, i64_w, i32_w]
        rfl
      refine pure_ (i := 13) (N := some 21) (v := ?_) (a' := ?_) #[true, true, false, true, false, true, false, false, false, true, false, false, false, true, false, false, false, false] rfl rfl (any_of HT_.out (by kernel_rfl)) (fun _ _ _ h => h) (Or.inl ⟨by rfl, ?_⟩) ?_ ?_
      rotate_left
      · intro w'
        go_simp
        with_reducible rfl
      rotate_left
      · simp only [Act.put, List.setIfInBounds_toArray, List.set_cons_zero, List.set_cons_succ, i64_w, i32_w]
        rfl
      refine take_ (i := 2) (N := some 10) (v := ?_) (a' := ?_) #[true, true, true, true, false, true, false, false, false, true, false, false, false, true, false, false, false, false] rfl rfl (take_ofW HT_.out HW_.out (by kernel_rfl)) (fun _ _ _ h => h) (Or.inl ⟨by rfl, ?_⟩) hHeld ?_ ?_
      rotate_left
      · rintro w' ⟨s0, s1, s2, s3, s4, s5, s6, s7, s8, s9, s10, s11⟩
        go_simp
        with_reducible rfl
      rotate_left
      · simp only [Act.put, List.setIfInBounds_toArray, List.set_cons_zero, List.set_cons_succ, i64_w, i32_w]
        rfl
      refine take_ (i := 4) (N := some 12) (v := ?_) (a' := ?_) #[true, true, true, true, true, true, false, false, false, true, false, false, false, true, false, false, false, false] rfl rfl (take_ofW HT_.out HW_.out (by kernel_rfl)) (fun _ _ _ h => h) (Or.inl ⟨by rfl, ?_⟩) hHeld ?_ ?_
      rotate_left
      · rintro w' ⟨s0, s1, s2, s3, s4, s5, s6, s7, s8, s9, s10, s11⟩
        go_simp
        with_reducible rfl
      rotate_left
      · simp only [Act.put, List.setIfInBounds_toArray, List.set_cons_zero, List.set_cons_succ, i64_w, i32_w]
        rfl
      refine take_ (i := 6) (N := some 14) (v := ?_) (a' := ?_) #[true, true, true, true, true, true, true, false, false, true, false, false, false, true, false, false, false, false] rfl rfl (take_ofW HT_.out HW_.out (by kernel_rfl)) (fun _ _ _ h => h) (Or.inl ⟨by rfl, ?_⟩) hHeld ?_ ?_
      rotate_left
      · rintro w' ⟨s0, s1, s2, s3, s4, s5, s6, s7, s8, s9, s10, s11⟩
        go_simp
        with_reducible rfl
      rotate_left
      · simp only [Act.put, List.setIfInBounds_toArray, List.set_cons_zero, List.set_cons_succ, i64_w, i32_w]
        rfl
      refine take_ (i := 10) (N := some 18) (v := ?_) (a' := ?_) #[true, true, true, true, true, true, true, false, false, true, true, false, false, true, false, false, false, false] rfl rfl (take_ofW HT_.out HW_.out (by kernel_rfl)) (fun _ _ _ h => h) (Or.inl ⟨by rfl, ?_⟩) hHeld ?_ ?_
      rotate_left
      · rintro w' ⟨s0, s1, s2, s3, s4, s5, s6, s7, s8, s9, s10, s11⟩
        go_simp
        with_reducible rfl
      rotate_left
      · simp only [Act.put, List.setIfInBounds_toArray, List.set_cons_zero, List.set_cons_succ, i64_w, i32_w]
        rfl
      refine take_ (i := 14) (N := some 22) (v := ?_) (a' := ?_) #[true, true, true, true, true, true, true, false, false, true, true, false, false, true, true, false, false, false] rfl rfl (take_ofW HT_.out HW_.out (by kernel_rfl)) (fun _ _ _ h => h) (Or.inl ⟨by rfl, ?_⟩) hHeld ?_ ?_
      rotate_left
      · rintro w' ⟨s0, s1, s2, s3, s4, s5, s6, s7, s8, s9, s10, s11⟩
        go_simp
        with_reducible rfl
      rotate_left
      · simp only [Act.put, List.setIfInBounds_toArray, List.set_cons_zero, List.set_cons_succ, i64_w, i32_w]
        rfl
      refine join_ (σ := Nat) 1 #[true, true, true, true, true, true, true, true, true, true, true, true, true, true, true, true, true, false] (fun s_ => [(15, .int .i64 t224), (19, .int .i64 t225), (7, .pointer (some ⟨s_, 0, none⟩)), (16, .int .i64 (wrap64 (t224 * 160))), (20, .int .i64 (wrap64 (t225 * 160))), (23, .agg #[.int .i64 a2, .int .i64 2, .int .i64 a0_2, .int .i64 a0_3, .int .i64 (wrap64 (t224 * 160)), .int .i64 (wrap64 (t225 * 160)), .int .i64 1, .int .i64 0, .int .i64 a0_0])]) (fun s_ w' => (w'.cell? ⟨gb221, 0, none⟩ = some (.int .i64 a0_0) ∧ w'.cell? ⟨gb221, 1, none⟩ = some (.int .i64 a0_1) ∧ w'.cell? ⟨gb221, 2, none⟩ = some (.int .i64 a0_2) ∧ w'.cell? ⟨gb221, 3, none⟩ = some (.int .i64 a0_3) ∧ w'.cell? ⟨gb221, 4, none⟩ = some (.int .i64 a0_4) ∧ w'.cell? ⟨gb221, 5, none⟩ = some (.int .i64 a0_5) ∧ w'.cell? ⟨gb221, 6, none⟩ = some (.int .i64 a0_6) ∧ w'.cell? ⟨gb221, 7, none⟩ = some (.int .i64 a0_7) ∧ w'.cell? ⟨gb221, 8, none⟩ = some (.int .i64 a0_8) ∧ w'.cell? ⟨gb222, 0, none⟩ = some (.int .i64 a1_0) ∧ w'.cell? ⟨gb222, 1, none⟩ = some (.int .i64 a1_1) ∧ w'.cell? ⟨gb222, 2, none⟩ = some (.bool a1_2)) ∧ (w'.heap[gb221]? = some (.cells #[.int .i64 a0_0, .int .i64 a0_1, .int .i64 a0_2, .int .i64 a0_3, .int .i64 a0_4, .int .i64 a0_5, .int .i64 a0_6, .int .i64 a0_7, .int .i64 a0_8] 26 (0, 0))) ∧ (w'.heap[gb222]? = some (.cells #[.int .i64 a1_0, .int .i64 a1_1, .bool a1_2] 28 (0, 0))) ∧ (w'.heap[gb223]? = some (.cells #[.int .i64 0, .int .i64 0, .int .i64 0, .int .i64 0, .int .i64 0, .int .i64 0, .int .i64 0, .int .i64 0, .int .i64 0] 26 (0, 0))) ∧ (w'.heap[s_]? = some (.cells #[.int .i64 0, .int .i64 0, .int .i64 0, .int .i64 0, .int .i64 0, .int .i64 0, .int .i64 0, .int .i64 0, .int .i64 0] 26 (0, 0))) ∧ (w.heap.size ≤ s_) ∧ (w.heap.size ≤ s_) ∧ (gb221 ≠ s_) ∧ (s_ ≠ gb221) ∧ (gb222 ≠ s_) ∧ (s_ ≠ gb222) ∧ (gb223 ≠ s_) ∧ (s_ ≠ gb223) ∧ (Below w.heap.size w w')) ?_ ?_
      rotate_left
      · intro hCont
        refine two_ (i := 7) (j := 16) (Ni := some 15) (Nj := some 7) #[true, true, true, true, true, true, true, true, false, true, true, false, false, true, true, false, false, false] #[true, true, true, true, true, true, true, false, false, true, true, false, false, true, true, false, true, false] rfl rfl rfl rfl (two_of HT_.out (by kernel_rfl)) (by decide) (by decide) (fun K hK => ?_) (fun K hK => ?_)
        · skip
          refine goes_ Try.func33 (by kernel_rfl) rfl #[.int .i64 a1_0] (by rfl) rfl rfl au14_7 ?_
          with_reducible refine (joustref09_sign.calls a1_0 t224 _ A4.out).mono ?_
          rintro e w' ⟨rfl, ⟨nd, rfl⟩⟩
          refine ⟨_, rfl, ?_⟩
          refine hK.out _ _ ⟨(blk_cell BK221.out 0).trans rfl, (blk_cell BK221.out 1).trans rfl, (blk_cell BK221.out 2).trans rfl, (blk_cell BK221.out 3).trans rfl, (blk_cell BK221.out 4).trans rfl, (blk_cell BK221.out 5).trans rfl, (blk_cell BK221.out 6).trans rfl, (blk_cell BK221.out 7).trans rfl, (blk_cell BK221.out 8).trans rfl, (blk_cell BK222.out 0).trans rfl, (blk_cell BK222.out 1).trans rfl, (blk_cell BK222.out 2).trans rfl⟩ (fun hHeld => ?_)
          clear hK K
          refine norm_ (a' := ?_) ?_ ?_
          rotate_left
          · show Act.put _ (some 15) _ = _
            simp only [Act.put, List.setIfInBounds_toArray, List.set_cons_zero, List.set_cons_succ, i64_w, i32_w]
            rfl
          refine pure_ (i := 8) (N := some 16) (v := ?_) (a' := ?_) #[true, true, true, true, true, true, true, true, true, true, true, false, false, true, true, false, false, false] rfl rfl (any_of HT_.out (by kernel_rfl)) (fun _ _ _ h => h) (Or.inl ⟨by rfl, ?_⟩) ?_ ?_
          rotate_left
          · intro w'
            go_simp
            with_reducible rfl
          rotate_left
          · simp only [Act.put, List.setIfInBounds_toArray, List.set_cons_zero, List.set_cons_succ, i64_w, i32_w]
            rfl
          refine two_ (i := 11) (j := 16) (Ni := some 19) (Nj := some 7) #[true, true, true, true, true, true, true, true, true, true, true, true, false, true, true, false, false, false] #[true, true, true, true, true, true, true, true, true, true, true, false, false, true, true, false, true, false] rfl rfl rfl rfl (two_of HT_.out (by kernel_rfl)) (by decide) (by decide) (fun K hK => ?_) (fun K hK => ?_)
          · skip
            refine goes_ Try.func33 (by kernel_rfl) rfl #[.int .i64 a1_1] (by rfl) rfl rfl au14_7 ?_
            with_reducible refine (joustref09_sign.calls a1_1 t225 _ A5.out).mono ?_
            rintro e w' ⟨rfl, ⟨nd, rfl⟩⟩
            refine ⟨_, rfl, ?_⟩
            refine hK.out _ _ ⟨(blk_cell BK221.out 0).trans rfl, (blk_cell BK221.out 1).trans rfl, (blk_cell BK221.out 2).trans rfl, (blk_cell BK221.out 3).trans rfl, (blk_cell BK221.out 4).trans rfl, (blk_cell BK221.out 5).trans rfl, (blk_cell BK221.out 6).trans rfl, (blk_cell BK221.out 7).trans rfl, (blk_cell BK221.out 8).trans rfl, (blk_cell BK222.out 0).trans rfl, (blk_cell BK222.out 1).trans rfl, (blk_cell BK222.out 2).trans rfl⟩ (fun hHeld => ?_)
            clear hK K
            refine norm_ (a' := ?_) ?_ ?_
            rotate_left
            · show Act.put _ (some 19) _ = _
              simp only [Act.put, List.setIfInBounds_toArray, List.set_cons_zero, List.set_cons_succ, i64_w, i32_w]
              rfl
            refine pure_ (i := 12) (N := some 20) (v := ?_) (a' := ?_) #[true, true, true, true, true, true, true, true, true, true, true, true, true, true, true, false, false, false] rfl rfl (any_of HT_.out (by kernel_rfl)) (fun _ _ _ h => h) (Or.inl ⟨by rfl, ?_⟩) ?_ ?_
            rotate_left
            · intro w'
              go_simp
              with_reducible rfl
            rotate_left
            · simp only [Act.put, List.setIfInBounds_toArray, List.set_cons_zero, List.set_cons_succ, i64_w, i32_w]
              rfl
            refine pure_ (i := 15) (N := some 23) (v := ?_) (a' := ?_) #[true, true, true, true, true, true, true, true, true, true, true, true, true, true, true, true, false, false] rfl rfl (any_of HT_.out (by kernel_rfl)) (fun _ _ _ h => h) (Or.inl ⟨by rfl, ?_⟩) ?_ ?_
            rotate_left
            · intro w'
              go_simp
              with_reducible rfl
            rotate_left
            · simp only [Act.put, List.setIfInBounds_toArray, List.set_cons_zero, List.set_cons_succ, i64_w, i32_w]
              rfl
            refine one_ (i := 16) (N := some 7) #[true, true, true, true, true, true, true, true, true, true, true, true, true, true, true, true, true, false] rfl rfl (one_of HT_.out (by kernel_rfl)) (by decide) (fun K hK => ?_)
            refine box_step ?hg (N := 7) ?hd (cs := #[.int .i64 0, .int .i64 0, .int .i64 0, .int .i64 0, .int .i64 0, .int .i64 0, .int .i64 0, .int .i64 0, .int .i64 0]) (t := 26) ?hr ?_; (case hd => rfl); (case hg => rfl); (case hr => first | (go_simp; done) | (go_simp; rfl))
            intro gb226 hg w34 hbox hb
            have n0_ := Aside0.mk (blk_below (g := gb221) (o := .cells #[.int .i64 a0_0, .int .i64 a0_1, .int .i64 a0_2, .int .i64 a0_3, .int .i64 a0_4, .int .i64 a0_5, .int .i64 a0_6, .int .i64 a0_7, .int .i64 a0_8] 26 (0, 0)) au14_0 hb)
            have n1_ := Aside0.mk (blk_below (g := gb222) (o := .cells #[.int .i64 a1_0, .int .i64 a1_1, .bool a1_2] 28 (0, 0)) au14_2 hb)
            have n2_ := Aside0.mk (blk_below (g := gb223) (o := .cells #[.int .i64 0, .int .i64 0, .int .i64 0, .int .i64 0, .int .i64 0, .int .i64 0, .int .i64 0, .int .i64 0, .int .i64 0] 26 (0, 0)) au14_3 hb)
            have n3_ := Aside0.mk (below_step au14_1 hb)
            have n4_ := Aside0.mk (hbox)
            have n5_ := Aside0.mk ((au14_17 : w.heap.size ≤ gb226))
            have n6_ := Aside0.mk ((au14_17 : w.heap.size ≤ gb226))
            have n7_ := Aside0.mk ((au14_4 : gb221 ≠ gb226))
            have n8_ := Aside0.mk ((au14_5 : gb226 ≠ gb221))
            have n9_ := Aside0.mk ((au14_11 : gb222 ≠ gb226))
            have n10_ := Aside0.mk ((au14_12 : gb226 ≠ gb222))
            have n11_ := Aside0.mk ((au14_8 : gb223 ≠ gb226))
            have n12_ := Aside0.mk ((au14_9 : gb226 ≠ gb223))
            clear BK221
            clear BK222
            clear BK223
            clear HB
            have BK221 := n0_
            have BK222 := n1_
            have BK223 := n2_
            have HB := n3_
            have BK226 := n4_
            have GW226 := n5_
            have GE226 := n6_
            have NB221_226 := n7_
            have NB226_221 := n8_
            have NB222_226 := n9_
            have NB226_222 := n10_
            have NB223_226 := n11_
            have NB226_223 := n12_
            clear n0_ n1_ n2_ n3_ n4_ n5_ n6_ n7_ n8_ n9_ n10_ n11_ n12_
            clear hb hbox hg
            refine hK.out _ _ ⟨(blk_cell BK221.out 0).trans rfl, (blk_cell BK221.out 1).trans rfl, (blk_cell BK221.out 2).trans rfl, (blk_cell BK221.out 3).trans rfl, (blk_cell BK221.out 4).trans rfl, (blk_cell BK221.out 5).trans rfl, (blk_cell BK221.out 6).trans rfl, (blk_cell BK221.out 7).trans rfl, (blk_cell BK221.out 8).trans rfl, (blk_cell BK222.out 0).trans rfl, (blk_cell BK222.out 1).trans rfl, (blk_cell BK222.out 2).trans rfl⟩ (fun hHeld => ?_)
            clear hK K
            refine norm_ (a' := ?_) ?_ ?_
            rotate_left
            · show Act.put _ (some 7) _ = _
              simp only [Act.put, List.setIfInBounds_toArray, List.set_cons_zero, List.set_cons_succ, i64_w, i32_w]
              rfl
            exact norm_ au14_16 (hCont (gb226) _ ⟨hHeld, au14_0, au14_2, au14_3, au14_15, GW226.out, GE226.out, NB221_226.out, NB226_221.out, NB222_226.out, NB226_222.out, NB223_226.out, NB226_223.out, au14_6⟩)
          · skip
            refine box_step ?hg (N := 7) ?hd (cs := #[.int .i64 0, .int .i64 0, .int .i64 0, .int .i64 0, .int .i64 0, .int .i64 0, .int .i64 0, .int .i64 0, .int .i64 0]) (t := 26) ?hr ?_; (case hd => rfl); (case hg => rfl); (case hr => first | (go_simp; done) | (go_simp; rfl))
            intro gb226 hg w34 hbox hb
            have n0_ := Aside0.mk (blk_below (g := gb221) (o := .cells #[.int .i64 a0_0, .int .i64 a0_1, .int .i64 a0_2, .int .i64 a0_3, .int .i64 a0_4, .int .i64 a0_5, .int .i64 a0_6, .int .i64 a0_7, .int .i64 a0_8] 26 (0, 0)) au14_0 hb)
            have n1_ := Aside0.mk (blk_below (g := gb222) (o := .cells #[.int .i64 a1_0, .int .i64 a1_1, .bool a1_2] 28 (0, 0)) au14_2 hb)
            have n2_ := Aside0.mk (blk_below (g := gb223) (o := .cells #[.int .i64 0, .int .i64 0, .int .i64 0, .int .i64 0, .int .i64 0, .int .i64 0, .int .i64 0, .int .i64 0, .int .i64 0] 26 (0, 0)) au14_3 hb)
            have n3_ := Aside0.mk (below_step au14_1 hb)
            have n4_ := Aside0.mk (hbox)
            have n5_ := Aside0.mk ((au14_17 : w.heap.size ≤ gb226))
            have n6_ := Aside0.mk ((au14_17 : w.heap.size ≤ gb226))
            have n7_ := Aside0.mk ((au14_4 : gb221 ≠ gb226))
            have n8_ := Aside0.mk ((au14_5 : gb226 ≠ gb221))
            have n9_ := Aside0.mk ((au14_11 : gb222 ≠ gb226))
            have n10_ := Aside0.mk ((au14_12 : gb226 ≠ gb222))
            have n11_ := Aside0.mk ((au14_8 : gb223 ≠ gb226))
            have n12_ := Aside0.mk ((au14_9 : gb226 ≠ gb223))
            clear BK221
            clear BK222
            clear BK223
            clear HB
            have BK221 := n0_
            have BK222 := n1_
            have BK223 := n2_
            have HB := n3_
            have BK226 := n4_
            have GW226 := n5_
            have GE226 := n6_
            have NB221_226 := n7_
            have NB226_221 := n8_
            have NB222_226 := n9_
            have NB226_222 := n10_
            have NB223_226 := n11_
            have NB226_223 := n12_
            clear n0_ n1_ n2_ n3_ n4_ n5_ n6_ n7_ n8_ n9_ n10_ n11_ n12_
            clear hb hbox hg
            refine hK.out _ _ ⟨(blk_cell BK221.out 0).trans rfl, (blk_cell BK221.out 1).trans rfl, (blk_cell BK221.out 2).trans rfl, (blk_cell BK221.out 3).trans rfl, (blk_cell BK221.out 4).trans rfl, (blk_cell BK221.out 5).trans rfl, (blk_cell BK221.out 6).trans rfl, (blk_cell BK221.out 7).trans rfl, (blk_cell BK221.out 8).trans rfl, (blk_cell BK222.out 0).trans rfl, (blk_cell BK222.out 1).trans rfl, (blk_cell BK222.out 2).trans rfl⟩ (fun hHeld => ?_)
            clear hK K
            refine norm_ (a' := ?_) ?_ ?_
            rotate_left
            · show Act.put _ (some 7) _ = _
              simp only [Act.put, List.setIfInBounds_toArray, List.set_cons_zero, List.set_cons_succ, i64_w, i32_w]
              rfl
            refine one_ (i := 11) (N := some 19) #[true, true, true, true, true, true, true, true, true, true, true, true, false, true, true, false, true, false] rfl rfl (one_of HT_.out (by kernel_rfl)) (by decide) (fun K hK => ?_)
            refine goes_ Try.func33 (by kernel_rfl) rfl #[.int .i64 a1_1] (by rfl) rfl rfl au14_7 ?_
            with_reducible refine (joustref09_sign.calls a1_1 t225 _ A5.out).mono ?_
            rintro e w' ⟨rfl, ⟨nd, rfl⟩⟩
            refine ⟨_, rfl, ?_⟩
            refine hK.out _ _ ⟨(blk_cell BK221.out 0).trans rfl, (blk_cell BK221.out 1).trans rfl, (blk_cell BK221.out 2).trans rfl, (blk_cell BK221.out 3).trans rfl, (blk_cell BK221.out 4).trans rfl, (blk_cell BK221.out 5).trans rfl, (blk_cell BK221.out 6).trans rfl, (blk_cell BK221.out 7).trans rfl, (blk_cell BK221.out 8).trans rfl, (blk_cell BK222.out 0).trans rfl, (blk_cell BK222.out 1).trans rfl, (blk_cell BK222.out 2).trans rfl⟩ (fun hHeld => ?_)
            clear hK K
            refine norm_ (a' := ?_) ?_ ?_
            rotate_left
            · show Act.put _ (some 19) _ = _
              simp only [Act.put, List.setIfInBounds_toArray, List.set_cons_zero, List.set_cons_succ, i64_w, i32_w]
              rfl
            refine pure_ (i := 12) (N := some 20) (v := ?_) (a' := ?_) #[true, true, true, true, true, true, true, true, true, true, true, true, true, true, true, false, true, false] rfl rfl (any_of HT_.out (by kernel_rfl)) (fun _ _ _ h => h) (Or.inl ⟨by rfl, ?_⟩) ?_ ?_
            rotate_left
            · intro w'
              go_simp
              with_reducible rfl
            rotate_left
            · simp only [Act.put, List.setIfInBounds_toArray, List.set_cons_zero, List.set_cons_succ, i64_w, i32_w]
              rfl
            refine pure_ (i := 15) (N := some 23) (v := ?_) (a' := ?_) #[true, true, true, true, true, true, true, true, true, true, true, true, true, true, true, true, true, false] rfl rfl (any_of HT_.out (by kernel_rfl)) (fun _ _ _ h => h) (Or.inl ⟨by rfl, ?_⟩) ?_ ?_
            rotate_left
            · intro w'
              go_simp
              with_reducible rfl
            rotate_left
            · simp only [Act.put, List.setIfInBounds_toArray, List.set_cons_zero, List.set_cons_succ, i64_w, i32_w]
              rfl
            exact norm_ au14_16 (hCont (gb226) _ ⟨hHeld, au14_0, au14_2, au14_3, au14_15, GW226.out, GE226.out, NB221_226.out, NB226_221.out, NB222_226.out, NB226_222.out, NB223_226.out, NB226_223.out, au14_6⟩)
        · skip
          refine box_step ?hg (N := 7) ?hd (cs := #[.int .i64 0, .int .i64 0, .int .i64 0, .int .i64 0, .int .i64 0, .int .i64 0, .int .i64 0, .int .i64 0, .int .i64 0]) (t := 26) ?hr ?_; (case hd => rfl); (case hg => rfl); (case hr => first | (go_simp; done) | (go_simp; rfl))
          intro gb226 hg w34 hbox hb
          have n0_ := Aside0.mk (blk_below (g := gb221) (o := .cells #[.int .i64 a0_0, .int .i64 a0_1, .int .i64 a0_2, .int .i64 a0_3, .int .i64 a0_4, .int .i64 a0_5, .int .i64 a0_6, .int .i64 a0_7, .int .i64 a0_8] 26 (0, 0)) au14_0 hb)
          have n1_ := Aside0.mk (blk_below (g := gb222) (o := .cells #[.int .i64 a1_0, .int .i64 a1_1, .bool a1_2] 28 (0, 0)) au14_2 hb)
          have n2_ := Aside0.mk (blk_below (g := gb223) (o := .cells #[.int .i64 0, .int .i64 0, .int .i64 0, .int .i64 0, .int .i64 0, .int .i64 0, .int .i64 0, .int .i64 0, .int .i64 0] 26 (0, 0)) au14_3 hb)
          have n3_ := Aside0.mk (below_step au14_1 hb)
          have n4_ := Aside0.mk (hbox)
          have n5_ := Aside0.mk ((au14_17 : w.heap.size ≤ gb226))
          have n6_ := Aside0.mk ((au14_17 : w.heap.size ≤ gb226))
          have n7_ := Aside0.mk ((au14_4 : gb221 ≠ gb226))
          have n8_ := Aside0.mk ((au14_5 : gb226 ≠ gb221))
          have n9_ := Aside0.mk ((au14_11 : gb222 ≠ gb226))
          have n10_ := Aside0.mk ((au14_12 : gb226 ≠ gb222))
          have n11_ := Aside0.mk ((au14_8 : gb223 ≠ gb226))
          have n12_ := Aside0.mk ((au14_9 : gb226 ≠ gb223))
          clear BK221
          clear BK222
          clear BK223
          clear HB
          have BK221 := n0_
          have BK222 := n1_
          have BK223 := n2_
          have HB := n3_
          have BK226 := n4_
          have GW226 := n5_
          have GE226 := n6_
          have NB221_226 := n7_
          have NB226_221 := n8_
          have NB222_226 := n9_
          have NB226_222 := n10_
          have NB223_226 := n11_
          have NB226_223 := n12_
          clear n0_ n1_ n2_ n3_ n4_ n5_ n6_ n7_ n8_ n9_ n10_ n11_ n12_
          clear hb hbox hg
          refine hK.out _ _ ⟨(blk_cell BK221.out 0).trans rfl, (blk_cell BK221.out 1).trans rfl, (blk_cell BK221.out 2).trans rfl, (blk_cell BK221.out 3).trans rfl, (blk_cell BK221.out 4).trans rfl, (blk_cell BK221.out 5).trans rfl, (blk_cell BK221.out 6).trans rfl, (blk_cell BK221.out 7).trans rfl, (blk_cell BK221.out 8).trans rfl, (blk_cell BK222.out 0).trans rfl, (blk_cell BK222.out 1).trans rfl, (blk_cell BK222.out 2).trans rfl⟩ (fun hHeld => ?_)
          clear hK K
          refine norm_ (a' := ?_) ?_ ?_
          rotate_left
          · show Act.put _ (some 7) _ = _
            simp only [Act.put, List.setIfInBounds_toArray, List.set_cons_zero, List.set_cons_succ, i64_w, i32_w]
            rfl
          refine one_ (i := 7) (N := some 15) #[true, true, true, true, true, true, true, true, false, true, true, false, false, true, true, false, true, false] rfl rfl (one_of HT_.out (by kernel_rfl)) (by decide) (fun K hK => ?_)
          refine goes_ Try.func33 (by kernel_rfl) rfl #[.int .i64 a1_0] (by rfl) rfl rfl au14_7 ?_
          with_reducible refine (joustref09_sign.calls a1_0 t224 _ A4.out).mono ?_
          rintro e w' ⟨rfl, ⟨nd, rfl⟩⟩
          refine ⟨_, rfl, ?_⟩
          refine hK.out _ _ ⟨(blk_cell BK221.out 0).trans rfl, (blk_cell BK221.out 1).trans rfl, (blk_cell BK221.out 2).trans rfl, (blk_cell BK221.out 3).trans rfl, (blk_cell BK221.out 4).trans rfl, (blk_cell BK221.out 5).trans rfl, (blk_cell BK221.out 6).trans rfl, (blk_cell BK221.out 7).trans rfl, (blk_cell BK221.out 8).trans rfl, (blk_cell BK222.out 0).trans rfl, (blk_cell BK222.out 1).trans rfl, (blk_cell BK222.out 2).trans rfl⟩ (fun hHeld => ?_)
          clear hK K
          refine norm_ (a' := ?_) ?_ ?_
          rotate_left
          · show Act.put _ (some 15) _ = _
            simp only [Act.put, List.setIfInBounds_toArray, List.set_cons_zero, List.set_cons_succ, i64_w, i32_w]
            rfl
          refine pure_ (i := 8) (N := some 16) (v := ?_) (a' := ?_) #[true, true, true, true, true, true, true, true, true, true, true, false, false, true, true, false, true, false] rfl rfl (any_of HT_.out (by kernel_rfl)) (fun _ _ _ h => h) (Or.inl ⟨by rfl, ?_⟩) ?_ ?_
          rotate_left
          · intro w'
            go_simp
            with_reducible rfl
          rotate_left
          · simp only [Act.put, List.setIfInBounds_toArray, List.set_cons_zero, List.set_cons_succ, i64_w, i32_w]
            rfl
          refine one_ (i := 11) (N := some 19) #[true, true, true, true, true, true, true, true, true, true, true, true, false, true, true, false, true, false] rfl rfl (one_of HT_.out (by kernel_rfl)) (by decide) (fun K hK => ?_)
          refine goes_ Try.func33 (by kernel_rfl) rfl #[.int .i64 a1_1] (by rfl) rfl rfl au14_7 ?_
          with_reducible refine (joustref09_sign.calls a1_1 t225 _ A5.out).mono ?_
          rintro e w' ⟨rfl, ⟨nd, rfl⟩⟩
          refine ⟨_, rfl, ?_⟩
          refine hK.out _ _ ⟨(blk_cell BK221.out 0).trans rfl, (blk_cell BK221.out 1).trans rfl, (blk_cell BK221.out 2).trans rfl, (blk_cell BK221.out 3).trans rfl, (blk_cell BK221.out 4).trans rfl, (blk_cell BK221.out 5).trans rfl, (blk_cell BK221.out 6).trans rfl, (blk_cell BK221.out 7).trans rfl, (blk_cell BK221.out 8).trans rfl, (blk_cell BK222.out 0).trans rfl, (blk_cell BK222.out 1).trans rfl, (blk_cell BK222.out 2).trans rfl⟩ (fun hHeld => ?_)
          clear hK K
          refine norm_ (a' := ?_) ?_ ?_
          rotate_left
          · show Act.put _ (some 19) _ = _
            simp only [Act.put, List.setIfInBounds_toArray, List.set_cons_zero, List.set_cons_succ, i64_w, i32_w]
            rfl
          refine pure_ (i := 12) (N := some 20) (v := ?_) (a' := ?_) #[true, true, true, true, true, true, true, true, true, true, true, true, true, true, true, false, true, false] rfl rfl (any_of HT_.out (by kernel_rfl)) (fun _ _ _ h => h) (Or.inl ⟨by rfl, ?_⟩) ?_ ?_
          rotate_left
          · intro w'
            go_simp
            with_reducible rfl
          rotate_left
          · simp only [Act.put, List.setIfInBounds_toArray, List.set_cons_zero, List.set_cons_succ, i64_w, i32_w]
            rfl
          refine pure_ (i := 15) (N := some 23) (v := ?_) (a' := ?_) #[true, true, true, true, true, true, true, true, true, true, true, true, true, true, true, true, true, false] rfl rfl (any_of HT_.out (by kernel_rfl)) (fun _ _ _ h => h) (Or.inl ⟨by rfl, ?_⟩) ?_ ?_
          rotate_left
          · intro w'
            go_simp
            with_reducible rfl
          rotate_left
          · simp only [Act.put, List.setIfInBounds_toArray, List.set_cons_zero, List.set_cons_succ, i64_w, i32_w]
            rfl
          exact norm_ au14_16 (hCont (gb226) _ ⟨hHeld, au14_0, au14_2, au14_3, au14_15, GW226.out, GE226.out, NB221_226.out, NB226_221.out, NB222_226.out, NB226_222.out, NB223_226.out, NB226_223.out, au14_6⟩)
      rintro gb226 w35 ⟨hS_, h0_, h1_, h2_, h3_, h4_, h5_, h6_, h7_, h8_, h9_, h10_, h11_, h12_⟩
      have n0_ : Aside0 (w35.heap[gb221]? = some (.cells #[.int .i64 a0_0, .int .i64 a0_1, .int .i64 a0_2, .int .i64 a0_3, .int .i64 a0_4, .int .i64 a0_5, .int .i64 a0_6, .int .i64 a0_7, .int .i64 a0_8] 26 (0, 0))) := ⟨h0_⟩
      have n1_ : Aside0 (w35.heap[gb222]? = some (.cells #[.int .i64 a1_0, .int .i64 a1_1, .bool a1_2] 28 (0, 0))) := ⟨h1_⟩
      have n2_ : Aside0 (w35.heap[gb223]? = some (.cells #[.int .i64 0, .int .i64 0, .int .i64 0, .int .i64 0, .int .i64 0, .int .i64 0, .int .i64 0, .int .i64 0, .int .i64 0] 26 (0, 0))) := ⟨h2_⟩
      have n3_ : Aside0 (w35.heap[gb226]? = some (.cells #[.int .i64 0, .int .i64 0, .int .i64 0, .int .i64 0, .int .i64 0, .int .i64 0, .int .i64 0, .int .i64 0, .int .i64 0] 26 (0, 0))) := ⟨h3_⟩
      have n4_ : Aside0 (w.heap.size ≤ gb226) := ⟨h4_⟩
      have n5_ : Aside0 (w.heap.size ≤ gb226) := ⟨h5_⟩
      have n6_ : Aside0 (gb221 ≠ gb226) := ⟨h6_⟩
      have n7_ : Aside0 (gb226 ≠ gb221) := ⟨h7_⟩
      have n8_ : Aside0 (gb222 ≠ gb226) := ⟨h8_⟩
      have n9_ : Aside0 (gb226 ≠ gb222) := ⟨h9_⟩
      have n10_ : Aside0 (gb223 ≠ gb226) := ⟨h10_⟩
      have n11_ : Aside0 (gb226 ≠ gb223) := ⟨h11_⟩
      have n12_ : Aside0 (Below w.heap.size w w35) := ⟨h12_⟩
      clear BK221
      clear BK222
      clear BK223
      clear HB
      clear h0_ h1_ h2_ h3_ h4_ h5_ h6_ h7_ h8_ h9_ h10_ h11_ h12_
      have BK221 := n0_
      have BK222 := n1_
      have BK223 := n2_
      have BK226 := n3_
      have GW226 := n4_
      have GE226 := n5_
      have NB221_226 := n6_
      have NB226_221 := n7_
      have NB222_226 := n8_
      have NB226_222 := n9_
      have NB223_226 := n10_
      have NB226_223 := n11_
      have HB := n12_
      clear n0_ n1_ n2_ n3_ n4_ n5_ n6_ n7_ n8_ n9_ n10_ n11_ n12_
      have hHeld : w35.cell? ⟨gb221, 0, none⟩ = some (.int .i64 a0_0) ∧ w35.cell? ⟨gb221, 1, none⟩ = some (.int .i64 a0_1) ∧ w35.cell? ⟨gb221, 2, none⟩ = some (.int .i64 a0_2) ∧ w35.cell? ⟨gb221, 3, none⟩ = some (.int .i64 a0_3) ∧ w35.cell? ⟨gb221, 4, none⟩ = some (.int .i64 a0_4) ∧ w35.cell? ⟨gb221, 5, none⟩ = some (.int .i64 a0_5) ∧ w35.cell? ⟨gb221, 6, none⟩ = some (.int .i64 a0_6) ∧ w35.cell? ⟨gb221, 7, none⟩ = some (.int .i64 a0_7) ∧ w35.cell? ⟨gb221, 8, none⟩ = some (.int .i64 a0_8) ∧ w35.cell? ⟨gb222, 0, none⟩ = some (.int .i64 a1_0) ∧ w35.cell? ⟨gb222, 1, none⟩ = some (.int .i64 a1_1) ∧ w35.cell? ⟨gb222, 2, none⟩ = some (.bool a1_2) := hS_
      refine norm_ (a' := ?_) ?_ ?_
      rotate_left
      · simp only [putAll, Act.put, List.setIfInBounds_toArray, List.set_cons_zero, List.set_cons_succ]
        rfl
      refine one_ (i := 17) (N := none) #[true, true, true, true, true, true, true, true, true, true, true, true, true, true, true, true, true, true] rfl rfl (one_of HT_.out (by kernel_rfl)) (by decide) (fun K hK => ?_)
      have hs36 : w35.cell? ⟨gb226, 0, none⟩ = some (.int .i64 0) := (blk_cell BK226.out 0).trans rfl
      have hfs36 := blk_frozen BK226.out 0
      have hns36_0 := NB221_226.out
      have hns36_1 := NB222_226.out
      have hns36_2 := NB223_226.out
      have hms36_0 := NB226_221.out
      have hms36_1 := NB226_222.out
      have hms36_2 := NB226_223.out
      have hs37 : w35.cell? ⟨gb226, 1, none⟩ = some (.int .i64 0) := (blk_cell BK226.out 1).trans rfl
      have hfs37 := blk_frozen BK226.out 1
      have hns37_0 := NB221_226.out
      have hns37_1 := NB222_226.out
      have hns37_2 := NB223_226.out
      have hms37_0 := NB226_221.out
      have hms37_1 := NB226_222.out
      have hms37_2 := NB226_223.out
      have hs38 : w35.cell? ⟨gb226, 2, none⟩ = some (.int .i64 0) := (blk_cell BK226.out 2).trans rfl
      have hfs38 := blk_frozen BK226.out 2
      have hns38_0 := NB221_226.out
      have hns38_1 := NB222_226.out
      have hns38_2 := NB223_226.out
      have hms38_0 := NB226_221.out
      have hms38_1 := NB226_222.out
      have hms38_2 := NB226_223.out
      have hs39 : w35.cell? ⟨gb226, 3, none⟩ = some (.int .i64 0) := (blk_cell BK226.out 3).trans rfl
      have hfs39 := blk_frozen BK226.out 3
      have hns39_0 := NB221_226.out
      have hns39_1 := NB222_226.out
      have hns39_2 := NB223_226.out
      have hms39_0 := NB226_221.out
      have hms39_1 := NB226_222.out
      have hms39_2 := NB226_223.out
      have hs40 : w35.cell? ⟨gb226, 4, none⟩ = some (.int .i64 0) := (blk_cell BK226.out 4).trans rfl
      have hfs40 := blk_frozen BK226.out 4
      have hns40_0 := NB221_226.out
      have hns40_1 := NB222_226.out
      have hns40_2 := NB223_226.out
      have hms40_0 := NB226_221.out
      have hms40_1 := NB226_222.out
      have hms40_2 := NB226_223.out
      have hs41 : w35.cell? ⟨gb226, 5, none⟩ = some (.int .i64 0) := (blk_cell BK226.out 5).trans rfl
      have hfs41 := blk_frozen BK226.out 5
      have hns41_0 := NB221_226.out
      have hns41_1 := NB222_226.out
      have hns41_2 := NB223_226.out
      have hms41_0 := NB226_221.out
      have hms41_1 := NB226_222.out
      have hms41_2 := NB226_223.out
      have hs42 : w35.cell? ⟨gb226, 6, none⟩ = some (.int .i64 0) := (blk_cell BK226.out 6).trans rfl
      have hfs42 := blk_frozen BK226.out 6
      have hns42_0 := NB221_226.out
      have hns42_1 := NB222_226.out
      have hns42_2 := NB223_226.out
      have hms42_0 := NB226_221.out
      have hms42_1 := NB226_222.out
      have hms42_2 := NB226_223.out
      have hs43 : w35.cell? ⟨gb226, 7, none⟩ = some (.int .i64 0) := (blk_cell BK226.out 7).trans rfl
      have hfs43 := blk_frozen BK226.out 7
      have hns43_0 := NB221_226.out
      have hns43_1 := NB222_226.out
      have hns43_2 := NB223_226.out
      have hms43_0 := NB226_221.out
      have hms43_1 := NB226_222.out
      have hms43_2 := NB226_223.out
      have hs44 : w35.cell? ⟨gb226, 8, none⟩ = some (.int .i64 0) := (blk_cell BK226.out 8).trans rfl
      have hfs44 := blk_frozen BK226.out 8
      have hns44_0 := NB221_226.out
      have hns44_1 := NB222_226.out
      have hns44_2 := NB223_226.out
      have hms44_0 := NB226_221.out
      have hms44_1 := NB226_222.out
      have hms44_2 := NB226_223.out
      refine skip_ (w1 := ?_) (by rfl) rfl ?_ ?_
      rotate_left
      · go_simp
        rfl
      refine hK.out _ _ ⟨((cell_far (p := ⟨gb226, _, none⟩) NB221_226.out _).trans (((cell_far (p := ⟨gb226, _, none⟩) NB221_226.out _).trans (((cell_far (p := ⟨gb226, _, none⟩) NB221_226.out _).trans (((cell_far (p := ⟨gb226, _, none⟩) NB221_226.out _).trans (((cell_far (p := ⟨gb226, _, none⟩) NB221_226.out _).trans (((cell_far (p := ⟨gb226, _, none⟩) NB221_226.out _).trans (((cell_far (p := ⟨gb226, _, none⟩) NB221_226.out _).trans (((cell_far (p := ⟨gb226, _, none⟩) NB221_226.out _).trans (((cell_far (p := ⟨gb226, _, none⟩) NB221_226.out _).trans (hHeld.1)))))))))))))))))), ((cell_far (p := ⟨gb226, _, none⟩) NB221_226.out _).trans (((cell_far (p := ⟨gb226, _, none⟩) NB221_226.out _).trans (((cell_far (p := ⟨gb226, _, none⟩) NB221_226.out _).trans (((cell_far (p := ⟨gb226, _, none⟩) NB221_226.out _).trans (((cell_far (p := ⟨gb226, _, none⟩) NB221_226.out _).trans (((cell_far (p := ⟨gb226, _, none⟩) NB221_226.out _).trans (((cell_far (p := ⟨gb226, _, none⟩) NB221_226.out _).trans (((cell_far (p := ⟨gb226, _, none⟩) NB221_226.out _).trans (((cell_far (p := ⟨gb226, _, none⟩) NB221_226.out _).trans (hHeld.2.1)))))))))))))))))), ((cell_far (p := ⟨gb226, _, none⟩) NB221_226.out _).trans (((cell_far (p := ⟨gb226, _, none⟩) NB221_226.out _).trans (((cell_far (p := ⟨gb226, _, none⟩) NB221_226.out _).trans (((cell_far (p := ⟨gb226, _, none⟩) NB221_226.out _).trans (((cell_far (p := ⟨gb226, _, none⟩) NB221_226.out _).trans (((cell_far (p := ⟨gb226, _, none⟩) NB221_226.out _).trans (((cell_far (p := ⟨gb226, _, none⟩) NB221_226.out _).trans (((cell_far (p := ⟨gb226, _, none⟩) NB221_226.out _).trans (((cell_far (p := ⟨gb226, _, none⟩) NB221_226.out _).trans (hHeld.2.2.1)))))))))))))))))), ((cell_far (p := ⟨gb226, _, none⟩) NB221_226.out _).trans (((cell_far (p := ⟨gb226, _, none⟩) NB221_226.out _).trans (((cell_far (p := ⟨gb226, _, none⟩) NB221_226.out _).trans (((cell_far (p := ⟨gb226, _, none⟩) NB221_226.out _).trans (((cell_far (p := ⟨gb226, _, none⟩) NB221_226.out _).trans (((cell_far (p := ⟨gb226, _, none⟩) NB221_226.out _).trans (((cell_far (p := ⟨gb226, _, none⟩) NB221_226.out _).trans (((cell_far (p := ⟨gb226, _, none⟩) NB221_226.out _).trans (((cell_far (p := ⟨gb226, _, none⟩) NB221_226.out _).trans (hHeld.2.2.2.1)))))))))))))))))), ((cell_far (p := ⟨gb226, _, none⟩) NB221_226.out _).trans (((cell_far (p := ⟨gb226, _, none⟩) NB221_226.out _).trans (((cell_far (p := ⟨gb226, _, none⟩) NB221_226.out _).trans (((cell_far (p := ⟨gb226, _, none⟩) NB221_226.out _).trans (((cell_far (p := ⟨gb226, _, none⟩) NB221_226.out _).trans (((cell_far (p := ⟨gb226, _, none⟩) NB221_226.out _).trans (((cell_far (p := ⟨gb226, _, none⟩) NB221_226.out _).trans (((cell_far (p := ⟨gb226, _, none⟩) NB221_226.out _).trans (((cell_far (p := ⟨gb226, _, none⟩) NB221_226.out _).trans (hHeld.2.2.2.2.1)))))))))))))))))), ((cell_far (p := ⟨gb226, _, none⟩) NB221_226.out _).trans (((cell_far (p := ⟨gb226, _, none⟩) NB221_226.out _).trans (((cell_far (p := ⟨gb226, _, none⟩) NB221_226.out _).trans (((cell_far (p := ⟨gb226, _, none⟩) NB221_226.out _).trans (((cell_far (p := ⟨gb226, _, none⟩) NB221_226.out _).trans (((cell_far (p := ⟨gb226, _, none⟩) NB221_226.out _).trans (((cell_far (p := ⟨gb226, _, none⟩) NB221_226.out _).trans (((cell_far (p := ⟨gb226, _, none⟩) NB221_226.out _).trans (((cell_far (p := ⟨gb226, _, none⟩) NB221_226.out _).trans (hHeld.2.2.2.2.2.1)))))))))))))))))), ((cell_far (p := ⟨gb226, _, none⟩) NB221_226.out _).trans (((cell_far (p := ⟨gb226, _, none⟩) NB221_226.out _).trans (((cell_far (p := ⟨gb226, _, none⟩) NB221_226.out _).trans (((cell_far (p := ⟨gb226, _, none⟩) NB221_226.out _).trans (((cell_far (p := ⟨gb226, _, none⟩) NB221_226.out _).trans (((cell_far (p := ⟨gb226, _, none⟩) NB221_226.out _).trans (((cell_far (p := ⟨gb226, _, none⟩) NB221_226.out _).trans (((cell_far (p := ⟨gb226, _, none⟩) NB221_226.out _).trans (((cell_far (p := ⟨gb226, _, none⟩) NB221_226.out _).trans (hHeld.2.2.2.2.2.2.1)))))))))))))))))), ((cell_far (p := ⟨gb226, _, none⟩) NB221_226.out _).trans (((cell_far (p := ⟨gb226, _, none⟩) NB221_226.out _).trans (((cell_far (p := ⟨gb226, _, none⟩) NB221_226.out _).trans (((cell_far (p := ⟨gb226, _, none⟩) NB221_226.out _).trans (((cell_far (p := ⟨gb226, _, none⟩) NB221_226.out _).trans (((cell_far (p := ⟨gb226, _, none⟩) NB221_226.out _).trans (((cell_far (p := ⟨gb226, _, none⟩) NB221_226.out _).trans (((cell_far (p := ⟨gb226, _, none⟩) NB221_226.out _).trans (((cell_far (p := ⟨gb226, _, none⟩) NB221_226.out _).trans (hHeld.2.2.2.2.2.2.2.1)))))))))))))))))), ((cell_far (p := ⟨gb226, _, none⟩) NB221_226.out _).trans (((cell_far (p := ⟨gb226, _, none⟩) NB221_226.out _).trans (((cell_far (p := ⟨gb226, _, none⟩) NB221_226.out _).trans (((cell_far (p := ⟨gb226, _, none⟩) NB221_226.out _).trans (((cell_far (p := ⟨gb226, _, none⟩) NB221_226.out _).trans (((cell_far (p := ⟨gb226, _, none⟩) NB221_226.out _).trans (((cell_far (p := ⟨gb226, _, none⟩) NB221_226.out _).trans (((cell_far (p := ⟨gb226, _, none⟩) NB221_226.out _).trans (((cell_far (p := ⟨gb226, _, none⟩) NB221_226.out _).trans (hHeld.2.2.2.2.2.2.2.2.1)))))))))))))))))), ((cell_far (p := ⟨gb226, _, none⟩) NB222_226.out _).trans (((cell_far (p := ⟨gb226, _, none⟩) NB222_226.out _).trans (((cell_far (p := ⟨gb226, _, none⟩) NB222_226.out _).trans (((cell_far (p := ⟨gb226, _, none⟩) NB222_226.out _).trans (((cell_far (p := ⟨gb226, _, none⟩) NB222_226.out _).trans (((cell_far (p := ⟨gb226, _, none⟩) NB222_226.out _).trans (((cell_far (p := ⟨gb226, _, none⟩) NB222_226.out _).trans (((cell_far (p := ⟨gb226, _, none⟩) NB222_226.out _).trans (((cell_far (p := ⟨gb226, _, none⟩) NB222_226.out _).trans (hHeld.2.2.2.2.2.2.2.2.2.1)))))))))))))))))), ((cell_far (p := ⟨gb226, _, none⟩) NB222_226.out _).trans (((cell_far (p := ⟨gb226, _, none⟩) NB222_226.out _).trans (((cell_far (p := ⟨gb226, _, none⟩) NB222_226.out _).trans (((cell_far (p := ⟨gb226, _, none⟩) NB222_226.out _).trans (((cell_far (p := ⟨gb226, _, none⟩) NB222_226.out _).trans (((cell_far (p := ⟨gb226, _, none⟩) NB222_226.out _).trans (((cell_far (p := ⟨gb226, _, none⟩) NB222_226.out _).trans (((cell_far (p := ⟨gb226, _, none⟩) NB222_226.out _).trans (((cell_far (p := ⟨gb226, _, none⟩) NB222_226.out _).trans (hHeld.2.2.2.2.2.2.2.2.2.2.1)))))))))))))))))), ((cell_far (p := ⟨gb226, _, none⟩) NB222_226.out _).trans (((cell_far (p := ⟨gb226, _, none⟩) NB222_226.out _).trans (((cell_far (p := ⟨gb226, _, none⟩) NB222_226.out _).trans (((cell_far (p := ⟨gb226, _, none⟩) NB222_226.out _).trans (((cell_far (p := ⟨gb226, _, none⟩) NB222_226.out _).trans (((cell_far (p := ⟨gb226, _, none⟩) NB222_226.out _).trans (((cell_far (p := ⟨gb226, _, none⟩) NB222_226.out _).trans (((cell_far (p := ⟨gb226, _, none⟩) NB222_226.out _).trans (((cell_far (p := ⟨gb226, _, none⟩) NB222_226.out _).trans (hHeld.2.2.2.2.2.2.2.2.2.2.2))))))))))))))))))⟩ (fun hHeld => ?_)
      clear hK K
      refine doneG_ (done_of HT_.out (by kernel_rfl)) (fun w' => Aside0 (w'.heap[gb226]? = some (.cells #[.int .i64 a2, .int .i64 2, .int .i64 a0_2, .int .i64 a0_3, .int .i64 (wrap64 (t224 * 160)), .int .i64 (wrap64 (t225 * 160)), .int .i64 1, .int .i64 0, .int .i64 a0_0] 26 (0, 0))) ∧ Aside0 (w'.heap[gb223]? = some (.cells #[.int .i64 0, .int .i64 0, .int .i64 0, .int .i64 0, .int .i64 0, .int .i64 0, .int .i64 0, .int .i64 0, .int .i64 0] 26 (0, 0))) ∧ Aside0 (Below w.heap.size w w')) ⟨⟨by refine blk_put (cs := #[.int .i64 a2, .int .i64 2, .int .i64 a0_2, .int .i64 a0_3, .int .i64 (wrap64 (t224 * 160)), .int .i64 (wrap64 (t225 * 160)), .int .i64 1, .int .i64 0, .int .i64 0]) ?_ 8 _ rfl; refine blk_put (cs := #[.int .i64 a2, .int .i64 2, .int .i64 a0_2, .int .i64 a0_3, .int .i64 (wrap64 (t224 * 160)), .int .i64 (wrap64 (t225 * 160)), .int .i64 1, .int .i64 0, .int .i64 0]) ?_ 7 _ rfl; refine blk_put (cs := #[.int .i64 a2, .int .i64 2, .int .i64 a0_2, .int .i64 a0_3, .int .i64 (wrap64 (t224 * 160)), .int .i64 (wrap64 (t225 * 160)), .int .i64 0, .int .i64 0, .int .i64 0]) ?_ 6 _ rfl; refine blk_put (cs := #[.int .i64 a2, .int .i64 2, .int .i64 a0_2, .int .i64 a0_3, .int .i64 (wrap64 (t224 * 160)), .int .i64 0, .int .i64 0, .int .i64 0, .int .i64 0]) ?_ 5 _ rfl; refine blk_put (cs := #[.int .i64 a2, .int .i64 2, .int .i64 a0_2, .int .i64 a0_3, .int .i64 0, .int .i64 0, .int .i64 0, .int .i64 0, .int .i64 0]) ?_ 4 _ rfl; refine blk_put (cs := #[.int .i64 a2, .int .i64 2, .int .i64 a0_2, .int .i64 0, .int .i64 0, .int .i64 0, .int .i64 0, .int .i64 0, .int .i64 0]) ?_ 3 _ rfl; refine blk_put (cs := #[.int .i64 a2, .int .i64 2, .int .i64 0, .int .i64 0, .int .i64 0, .int .i64 0, .int .i64 0, .int .i64 0, .int .i64 0]) ?_ 2 _ rfl; refine blk_put (cs := #[.int .i64 a2, .int .i64 0, .int .i64 0, .int .i64 0, .int .i64 0, .int .i64 0, .int .i64 0, .int .i64 0, .int .i64 0]) ?_ 1 _ rfl; refine blk_put (cs := #[.int .i64 0, .int .i64 0, .int .i64 0, .int .i64 0, .int .i64 0, .int .i64 0, .int .i64 0, .int .i64 0, .int .i64 0]) ?_ 0 _ rfl; (with_reducible repeat (first | refine blk_drewN ?_ _ | refine blk_drew ?_ | refine blk_alloc ?_ _)); exact BK226.out⟩, ⟨by (with_reducible repeat (first | refine blk_drewN ?_ _ | refine blk_drew ?_ | refine blk_alloc ?_ _ | refine blk_far ?_ NB223_226.out _)); exact BK223.out⟩, ⟨by repeat (first | (with_reducible first | exact HB.out | apply below_alloc | apply pw_below_drewN | apply below_drew1 | refine below_set ?_ GE226.out | refine below_set ?_ GE223.out) | exact HB.out)⟩⟩ ?_
      clear HB BK226 BK223
      rintro wG_ ⟨BK226, BK223, HB⟩
      have hnb45 := NB226_221.out
      have hnc45 := NB221_226.out
      have hnb46 := NB226_222.out
      have hnc46 := NB222_226.out
      have hnb47 := NB226_223.out
      have hnc47 := NB223_226.out
      have hcz48_0 : wG_.cell? ⟨gb226, 0, none⟩ = some (.int .i64 a2) := (blk_cell BK226.out 0).trans rfl
      have hcz48_1 : wG_.cell? ⟨gb226, 1, none⟩ = some (.int .i64 2) := (blk_cell BK226.out 1).trans rfl
      have hcz48_2 : wG_.cell? ⟨gb226, 2, none⟩ = some (.int .i64 a0_2) := (blk_cell BK226.out 2).trans rfl
      have hcz48_3 : wG_.cell? ⟨gb226, 3, none⟩ = some (.int .i64 a0_3) := (blk_cell BK226.out 3).trans rfl
      have hcz48_4 : wG_.cell? ⟨gb226, 4, none⟩ = some (.int .i64 (wrap64 (t224 * 160))) := (blk_cell BK226.out 4).trans rfl
      have hcz48_5 : wG_.cell? ⟨gb226, 5, none⟩ = some (.int .i64 (wrap64 (t225 * 160))) := (blk_cell BK226.out 5).trans rfl
      have hcz48_6 : wG_.cell? ⟨gb226, 6, none⟩ = some (.int .i64 1) := (blk_cell BK226.out 6).trans rfl
      have hcz48_7 : wG_.cell? ⟨gb226, 7, none⟩ = some (.int .i64 0) := (blk_cell BK226.out 7).trans rfl
      have hcz48_8 : wG_.cell? ⟨gb226, 8, none⟩ = some (.int .i64 a0_0) := (blk_cell BK226.out 8).trans rfl
      have hfz48_0 := blk_frozen BK226.out 0
      have hfz48_1 := blk_frozen BK226.out 1
      have hfz48_2 := blk_frozen BK226.out 2
      have hfz48_3 := blk_frozen BK226.out 3
      have hfz48_4 := blk_frozen BK226.out 4
      have hfz48_5 := blk_frozen BK226.out 5
      have hfz48_6 := blk_frozen BK226.out 6
      have hfz48_7 := blk_frozen BK226.out 7
      have hfz48_8 := blk_frozen BK226.out 8
      have hnb49 := NB223_221.out
      have hnc49 := NB221_223.out
      have hnb50 := NB223_222.out
      have hnc50 := NB222_223.out
      have hcz51_0 : wG_.cell? ⟨gb223, 0, none⟩ = some (.int .i64 0) := (blk_cell BK223.out 0).trans rfl
      have hcz51_1 : wG_.cell? ⟨gb223, 1, none⟩ = some (.int .i64 0) := (blk_cell BK223.out 1).trans rfl
      have hcz51_2 : wG_.cell? ⟨gb223, 2, none⟩ = some (.int .i64 0) := (blk_cell BK223.out 2).trans rfl
      have hcz51_3 : wG_.cell? ⟨gb223, 3, none⟩ = some (.int .i64 0) := (blk_cell BK223.out 3).trans rfl
      have hcz51_4 : wG_.cell? ⟨gb223, 4, none⟩ = some (.int .i64 0) := (blk_cell BK223.out 4).trans rfl
      have hcz51_5 : wG_.cell? ⟨gb223, 5, none⟩ = some (.int .i64 0) := (blk_cell BK223.out 5).trans rfl
      have hcz51_6 : wG_.cell? ⟨gb223, 6, none⟩ = some (.int .i64 0) := (blk_cell BK223.out 6).trans rfl
      have hcz51_7 : wG_.cell? ⟨gb223, 7, none⟩ = some (.int .i64 0) := (blk_cell BK223.out 7).trans rfl
      have hcz51_8 : wG_.cell? ⟨gb223, 8, none⟩ = some (.int .i64 0) := (blk_cell BK223.out 8).trans rfl
      have hfz51_0 := blk_frozen BK223.out 0
      have hfz51_1 := blk_frozen BK223.out 1
      have hfz51_2 := blk_frozen BK223.out 2
      have hfz51_3 := blk_frozen BK223.out 3
      have hfz51_4 := blk_frozen BK223.out 4
      have hfz51_5 := blk_frozen BK223.out 5
      have hfz51_6 := blk_frozen BK223.out 6
      have hfz51_7 := blk_frozen BK223.out 7
      have hfz51_8 := blk_frozen BK223.out 8
      try go_wp2
      refine bodyPost_ret (results_cell_row rfl _ _ gb223 26 #[.int .i64 a2, .int .i64 2, .int .i64 a0_2, .int .i64 a0_3, .int .i64 (wrap64 (t224 * 160)), .int .i64 (wrap64 (t225 * 160)), .int .i64 1, .int .i64 0, .int .i64 a0_0] (0, 0) _ rfl (by (with_reducible repeat (first | refine blk_drewN ?_ _ | refine blk_drew ?_ | refine blk_alloc ?_ _)); refine blk_put (cs := #[.int .i64 a2, .int .i64 2, .int .i64 a0_2, .int .i64 a0_3, .int .i64 (wrap64 (t224 * 160)), .int .i64 (wrap64 (t225 * 160)), .int .i64 1, .int .i64 0, .int .i64 0]) ?_ 8 _ rfl; (with_reducible repeat (first | refine blk_drewN ?_ _ | refine blk_drew ?_ | refine blk_alloc ?_ _)); refine blk_put (cs := #[.int .i64 a2, .int .i64 2, .int .i64 a0_2, .int .i64 a0_3, .int .i64 (wrap64 (t224 * 160)), .int .i64 (wrap64 (t225 * 160)), .int .i64 1, .int .i64 0, .int .i64 0]) ?_ 7 _ rfl; (with_reducible repeat (first | refine blk_drewN ?_ _ | refine blk_drew ?_ | refine blk_alloc ?_ _)); refine blk_put (cs := #[.int .i64 a2, .int .i64 2, .int .i64 a0_2, .int .i64 a0_3, .int .i64 (wrap64 (t224 * 160)), .int .i64 (wrap64 (t225 * 160)), .int .i64 0, .int .i64 0, .int .i64 0]) ?_ 6 _ rfl; (with_reducible repeat (first | refine blk_drewN ?_ _ | refine blk_drew ?_ | refine blk_alloc ?_ _)); refine blk_put (cs := #[.int .i64 a2, .int .i64 2, .int .i64 a0_2, .int .i64 a0_3, .int .i64 (wrap64 (t224 * 160)), .int .i64 0, .int .i64 0, .int .i64 0, .int .i64 0]) ?_ 5 _ rfl; (with_reducible repeat (first | refine blk_drewN ?_ _ | refine blk_drew ?_ | refine blk_alloc ?_ _)); refine blk_put (cs := #[.int .i64 a2, .int .i64 2, .int .i64 a0_2, .int .i64 a0_3, .int .i64 0, .int .i64 0, .int .i64 0, .int .i64 0, .int .i64 0]) ?_ 4 _ rfl; (with_reducible repeat (first | refine blk_drewN ?_ _ | refine blk_drew ?_ | refine blk_alloc ?_ _)); refine blk_put (cs := #[.int .i64 a2, .int .i64 2, .int .i64 a0_2, .int .i64 0, .int .i64 0, .int .i64 0, .int .i64 0, .int .i64 0, .int .i64 0]) ?_ 3 _ rfl; (with_reducible repeat (first | refine blk_drewN ?_ _ | refine blk_drew ?_ | refine blk_alloc ?_ _)); refine blk_put (cs := #[.int .i64 a2, .int .i64 2, .int .i64 0, .int .i64 0, .int .i64 0, .int .i64 0, .int .i64 0, .int .i64 0, .int .i64 0]) ?_ 2 _ rfl; (with_reducible repeat (first | refine blk_drewN ?_ _ | refine blk_drew ?_ | refine blk_alloc ?_ _)); refine blk_put (cs := #[.int .i64 a2, .int .i64 0, .int .i64 0, .int .i64 0, .int .i64 0, .int .i64 0, .int .i64 0, .int .i64 0, .int .i64 0]) ?_ 1 _ rfl; (with_reducible repeat (first | refine blk_drewN ?_ _ | refine blk_drew ?_ | refine blk_alloc ?_ _)); refine blk_put (cs := #[.int .i64 0, .int .i64 0, .int .i64 0, .int .i64 0, .int .i64 0, .int .i64 0, .int .i64 0, .int .i64 0, .int .i64 0]) ?_ 0 _ rfl; (with_reducible repeat (first | refine blk_far ?_ NB223_226.out _ | refine blk_drewN ?_ _ | refine blk_drew ?_ | refine blk_alloc ?_ _)); exact BK223.out) Try.underlying26 rfl (by kernel_rfl)) rfl ?_
      exact ⟨by first | rfl | (simp [errW_none, errW_some] <;> rfl) | (simp [*, errW_none, errW_some] <;> rfl), au14_6⟩
  · rw [if_neg c6] at H
    have c6b0 : ((wrap64 (t224 * 160)) == 0) = false := beq_eq_false_iff_ne.mpr c6
    have c6b1 : ((wrap64 (t224 * 160)) != 0) = true := bne_iff_ne.mpr c6
    simp only [Option.some.injEq, Prod.mk.injEq] at H
    obtain ⟨rfl, rfl, rfl, rfl, rfl, rfl, rfl, rfl, rfl⟩ := H
    go_enter Try.func15, Try.ntmps15
    try go_wp2_with (first | ((with_reducible refine gate_dst (N := 3) rfl ?_); refine box_event ?hg (N := 3) ?hd (cs := #[.int .i64 a0_0, .int .i64 a0_1, .int .i64 a0_2, .int .i64 a0_3, .int .i64 a0_4, .int .i64 a0_5, .int .i64 a0_6, .int .i64 a0_7, .int .i64 a0_8]) (t := 26) ?hr ?_; (case hd => rfl); (case hg => rfl); (case hr => first | (go_simp; done) | (go_simp; rfl)); intro gb221 hg w52 hbox hb; have n0_ := Aside0.mk (below_step au14_14 hb); have n1_ := Aside0.mk (hbox); have n2_ := Aside0.mk ((by rw [hg]; exact (below_size au14_14) : w.heap.size ≤ gb221)); have n3_ := Aside0.mk ((by rw [hg]; exact (below_size au14_14) : w.heap.size ≤ gb221)); clear HB; have HB := n0_; have BK221 := n1_; have GW221 := n2_; have GE221 := n3_; clear n0_ n1_ n2_ n3_; clear hb hbox hg) | ((with_reducible refine gate_dst (N := 4) rfl ?_); refine box_event ?hg (N := 4) ?hd (cs := #[.int .i64 a1_0, .int .i64 a1_1, .bool a1_2]) (t := 28) ?hr ?_; (case hd => rfl); (case hg => rfl); (case hr => first | (go_simp; done) | (go_simp; rfl)); intro gb222 hg w53 hbox hb; have n0_ := Aside0.mk (blk_below (g := gb221) (o := .cells #[.int .i64 a0_0, .int .i64 a0_1, .int .i64 a0_2, .int .i64 a0_3, .int .i64 a0_4, .int .i64 a0_5, .int .i64 a0_6, .int .i64 a0_7, .int .i64 a0_8] 26 (0, 0)) au14_0 hb); have n1_ := Aside0.mk (below_step au14_13 hb); have n2_ := Aside0.mk (hbox); have n3_ := Aside0.mk ((by rw [hg]; exact (below_size au14_13) : w.heap.size ≤ gb222)); have n4_ := Aside0.mk ((by rw [hg]; exact (below_size au14_13) : w.heap.size ≤ gb222)); have n5_ := Aside0.mk ((au14_4 : gb221 ≠ gb222)); have n6_ := Aside0.mk ((au14_5 : gb222 ≠ gb221)); clear BK221; clear HB; have BK221 := n0_; have HB := n1_; have BK222 := n2_; have GW222 := n3_; have GE222 := n4_; have NB221_222 := n5_; have NB222_221 := n6_; clear n0_ n1_ n2_ n3_ n4_ n5_ n6_; clear hb hbox hg) | ((with_reducible refine gate_dst (N := 6) rfl ?_); refine box_event ?hg (N := 6) ?hd (cs := #[.int .i64 0, .int .i64 0, .int .i64 0, .int .i64 0, .int .i64 0, .int .i64 0, .int .i64 0, .int .i64 0, .int .i64 0]) (t := 26) ?hr ?_; (case hd => rfl); (case hg => rfl); (case hr => first | (go_simp; done) | (go_simp; rfl)); intro gb223 hg w54 hbox hb; have n0_ := Aside0.mk (blk_below (g := gb221) (o := .cells #[.int .i64 a0_0, .int .i64 a0_1, .int .i64 a0_2, .int .i64 a0_3, .int .i64 a0_4, .int .i64 a0_5, .int .i64 a0_6, .int .i64 a0_7, .int .i64 a0_8] 26 (0, 0)) au14_0 hb); have n1_ := Aside0.mk (blk_below (g := gb222) (o := .cells #[.int .i64 a1_0, .int .i64 a1_1, .bool a1_2] 28 (0, 0)) au14_2 hb); have n2_ := Aside0.mk (below_step au14_10 hb); have n3_ := Aside0.mk (hbox); have n4_ := Aside0.mk ((by rw [hg]; exact (below_size au14_10) : w.heap.size ≤ gb223)); have n5_ := Aside0.mk ((by rw [hg]; exact (below_size au14_10) : w.heap.size ≤ gb223)); have n6_ := Aside0.mk ((au14_4 : gb221 ≠ gb223)); have n7_ := Aside0.mk ((au14_5 : gb223 ≠ gb221)); have n8_ := Aside0.mk ((au14_11 : gb222 ≠ gb223)); have n9_ := Aside0.mk ((au14_12 : gb223 ≠ gb222)); clear BK221; clear BK222; clear HB; have BK221 := n0_; have BK222 := n1_; have HB := n2_; have BK223 := n3_; have GW223 := n4_; have GE223 := n5_; have NB221_223 := n6_; have NB223_221 := n7_; have NB222_223 := n8_; have NB223_222 := n9_; clear n0_ n1_ n2_ n3_ n4_ n5_ n6_ n7_ n8_ n9_; clear hb hbox hg))
    have n0_ := Aside0.mk (blk_drew BK221.out)
    have n1_ := Aside0.mk (blk_drew BK222.out)
    have n2_ := Aside0.mk (blk_drew BK223.out)
    have n3_ := Aside0.mk (below_drew1 HB.out)
    clear BK221
    clear BK222
    clear BK223
    clear HB
    have BK221 := n0_
    have BK222 := n1_
    have BK223 := n2_
    have HB := n3_
    clear n0_ n1_ n2_ n3_
    refine start_ (n := 18) (S := fun w' => w'.cell? ⟨gb221, 0, none⟩ = some (.int .i64 a0_0) ∧ w'.cell? ⟨gb221, 1, none⟩ = some (.int .i64 a0_1) ∧ w'.cell? ⟨gb221, 2, none⟩ = some (.int .i64 a0_2) ∧ w'.cell? ⟨gb221, 3, none⟩ = some (.int .i64 a0_3) ∧ w'.cell? ⟨gb221, 4, none⟩ = some (.int .i64 a0_4) ∧ w'.cell? ⟨gb221, 5, none⟩ = some (.int .i64 a0_5) ∧ w'.cell? ⟨gb221, 6, none⟩ = some (.int .i64 a0_6) ∧ w'.cell? ⟨gb221, 7, none⟩ = some (.int .i64 a0_7) ∧ w'.cell? ⟨gb221, 8, none⟩ = some (.int .i64 a0_8) ∧ w'.cell? ⟨gb222, 0, none⟩ = some (.int .i64 a1_0) ∧ w'.cell? ⟨gb222, 1, none⟩ = some (.int .i64 a1_1) ∧ w'.cell? ⟨gb222, 2, none⟩ = some (.bool a1_2)) (ds := []) #[false, false, false, false, false, false, false, false, false, false, false, false, false, false, false, false, false, false] (by kernel_rfl) rfl rfl ⟨(blk_cell BK221.out 0).trans rfl, (blk_cell BK221.out 1).trans rfl, (blk_cell BK221.out 2).trans rfl, (blk_cell BK221.out 3).trans rfl, (blk_cell BK221.out 4).trans rfl, (blk_cell BK221.out 5).trans rfl, (blk_cell BK221.out 6).trans rfl, (blk_cell BK221.out 7).trans rfl, (blk_cell BK221.out 8).trans rfl, (blk_cell BK222.out 0).trans rfl, (blk_cell BK222.out 1).trans rfl, (blk_cell BK222.out 2).trans rfl⟩ (fun hHeld => ?_); refine with_tabW joustref09_Shoot.tab1 joustref09_Shoot.bits1 (fun HT_ HW_ => ?_)
    generalize w54.drew = w55 at BK221 BK222 BK223 HB hHeld ⊢
    refine pure_ (i := 0) (N := some 8) (v := ?_) (a' := ?_) #[true, false, false, false, false, false, false, false, false, false, false, false, false, false, false, false, false, false] rfl rfl (any_of HT_.out (by kernel_rfl)) (fun _ _ _ h => h) (Or.inl ⟨by rfl, ?_⟩) ?_ ?_
    rotate_left
    · intro w'
      go_simp
      with_reducible rfl
    rotate_left
    · simp only [Act.put, List.setIfInBounds_toArray, List.set_cons_zero, List.set_cons_succ, i64_w, i32_w]
      rfl
    refine pure_ (i := 1) (N := some 9) (v := ?_) (a' := ?_) #[true, true, false, false, false, false, false, false, false, false, false, false, false, false, false, false, false, false] rfl rfl (any_of HT_.out (by kernel_rfl)) (fun _ _ _ h => h) (Or.inl ⟨by rfl, ?_⟩) ?_ ?_
    rotate_left
    · intro w'
      go_simp
      with_reducible rfl
    rotate_left
    · simp only [Act.put, List.setIfInBounds_toArray, List.set_cons_zero, List.set_cons_succ, i64_w, i32_w]
      rfl
    refine pure_ (i := 3) (N := some 11) (v := ?_) (a' := ?_) #[true, true, false, true, false, false, false, false, false, false, false, false, false, false, false, false, false, false] rfl rfl (any_of HT_.out (by kernel_rfl)) (fun _ _ _ h => h) (Or.inl ⟨by rfl, ?_⟩) ?_ ?_
    rotate_left
    · intro w'
      go_simp
      with_reducible rfl
    rotate_left
    · simp only [Act.put, List.setIfInBounds_toArray, List.set_cons_zero, List.set_cons_succ, i64_w, i32_w]
      rfl
    refine pure_ (i := 5) (N := some 13) (v := ?_) (a' := ?_) #[true, true, false, true, false, true, false, false, false, false, false, false, false, false, false, false, false, false] rfl rfl (any_of HT_.out (by kernel_rfl)) (fun _ _ _ h => h) (Or.inl ⟨by rfl, ?_⟩) ?_ ?_
    rotate_left
    · intro w'
      go_simp
      with_reducible rfl
    rotate_left
    · simp only [Act.put, List.setIfInBounds_toArray, List.set_cons_zero, List.set_cons_succ, i64_w, i32_w]
      rfl
    refine pure_ (i := 9) (N := some 17) (v := ?_) (a' := ?_) #[true, true, false, true, false, true, false, false, false, true, false, false, false, false, false, false, false, false] rfl rfl (any_of HT_.out (by kernel_rfl)) (fun _ _ _ h => h) (Or.inl ⟨by rfl, ?_⟩) ?_ ?_
    rotate_left
    · intro w'
      go_simp
      with_reducible rfl
    rotate_left
    · simp only [Act.put, List.setIfInBounds_toArray, List.set_cons_zero, List.set_cons_succ, i64_w, i32_w]
      rfl
    refine pure_ (i := 13) (N := some 21) (v := ?_) (a' := ?_) #[true, true, false, true, false, true, false, false, false, true, false, false, false, true, false, false, false, false] rfl rfl (any_of HT_.out (by kernel_rfl)) (fun _ _ _ h => h) (Or.inl ⟨by rfl, ?_⟩) ?_ ?_
    rotate_left
    · intro w'
      go_simp
      with_reducible rfl
    rotate_left
    · simp only [Act.put, List.setIfInBounds_toArray, List.set_cons_zero, List.set_cons_succ, i64_w, i32_w]
      rfl
    refine take_ (i := 2) (N := some 10) (v := ?_) (a' := ?_) #[true, true, true, true, false, true, false, false, false, true, false, false, false, true, false, false, false, false] rfl rfl (take_ofW HT_.out HW_.out (by kernel_rfl)) (fun _ _ _ h => h) (Or.inl ⟨by rfl, ?_⟩) hHeld ?_ ?_
    rotate_left
    · rintro w' ⟨s0, s1, s2, s3, s4, s5, s6, s7, s8, s9, s10, s11⟩
      go_simp
      with_reducible rfl
    rotate_left
    · simp only [Act.put, List.setIfInBounds_toArray, List.set_cons_zero, List.set_cons_succ, i64_w, i32_w]
      rfl
    refine take_ (i := 4) (N := some 12) (v := ?_) (a' := ?_) #[true, true, true, true, true, true, false, false, false, true, false, false, false, true, false, false, false, false] rfl rfl (take_ofW HT_.out HW_.out (by kernel_rfl)) (fun _ _ _ h => h) (Or.inl ⟨by rfl, ?_⟩) hHeld ?_ ?_
    rotate_left
    · rintro w' ⟨s0, s1, s2, s3, s4, s5, s6, s7, s8, s9, s10, s11⟩
      go_simp
      with_reducible rfl
    rotate_left
    · simp only [Act.put, List.setIfInBounds_toArray, List.set_cons_zero, List.set_cons_succ, i64_w, i32_w]
      rfl
    refine take_ (i := 6) (N := some 14) (v := ?_) (a' := ?_) #[true, true, true, true, true, true, true, false, false, true, false, false, false, true, false, false, false, false] rfl rfl (take_ofW HT_.out HW_.out (by kernel_rfl)) (fun _ _ _ h => h) (Or.inl ⟨by rfl, ?_⟩) hHeld ?_ ?_
    rotate_left
    · rintro w' ⟨s0, s1, s2, s3, s4, s5, s6, s7, s8, s9, s10, s11⟩
      go_simp
      with_reducible rfl
    rotate_left
    · simp only [Act.put, List.setIfInBounds_toArray, List.set_cons_zero, List.set_cons_succ, i64_w, i32_w]
      rfl
    refine take_ (i := 10) (N := some 18) (v := ?_) (a' := ?_) #[true, true, true, true, true, true, true, false, false, true, true, false, false, true, false, false, false, false] rfl rfl (take_ofW HT_.out HW_.out (by kernel_rfl)) (fun _ _ _ h => h) (Or.inl ⟨by rfl, ?_⟩) hHeld ?_ ?_
    rotate_left
    · rintro w' ⟨s0, s1, s2, s3, s4, s5, s6, s7, s8, s9, s10, s11⟩
      go_simp
      with_reducible rfl
    rotate_left
    · simp only [Act.put, List.setIfInBounds_toArray, List.set_cons_zero, List.set_cons_succ, i64_w, i32_w]
      rfl
    refine take_ (i := 14) (N := some 22) (v := ?_) (a' := ?_) #[true, true, true, true, true, true, true, false, false, true, true, false, false, true, true, false, false, false] rfl rfl (take_ofW HT_.out HW_.out (by kernel_rfl)) (fun _ _ _ h => h) (Or.inl ⟨by rfl, ?_⟩) hHeld ?_ ?_
    rotate_left
    · rintro w' ⟨s0, s1, s2, s3, s4, s5, s6, s7, s8, s9, s10, s11⟩
      go_simp
      with_reducible rfl
    rotate_left
    · simp only [Act.put, List.setIfInBounds_toArray, List.set_cons_zero, List.set_cons_succ, i64_w, i32_w]
      rfl
    refine join_ (σ := Nat) 1 #[true, true, true, true, true, true, true, true, true, true, true, true, true, true, true, true, true, false] (fun s_ => [(15, .int .i64 t224), (19, .int .i64 t225), (7, .pointer (some ⟨s_, 0, none⟩)), (16, .int .i64 (wrap64 (t224 * 160))), (20, .int .i64 (wrap64 (t225 * 160))), (23, .agg #[.int .i64 a2, .int .i64 2, .int .i64 a0_2, .int .i64 a0_3, .int .i64 (wrap64 (t224 * 160)), .int .i64 (wrap64 (t225 * 160)), .int .i64 1, .int .i64 0, .int .i64 a0_0])]) (fun s_ w' => (w'.cell? ⟨gb221, 0, none⟩ = some (.int .i64 a0_0) ∧ w'.cell? ⟨gb221, 1, none⟩ = some (.int .i64 a0_1) ∧ w'.cell? ⟨gb221, 2, none⟩ = some (.int .i64 a0_2) ∧ w'.cell? ⟨gb221, 3, none⟩ = some (.int .i64 a0_3) ∧ w'.cell? ⟨gb221, 4, none⟩ = some (.int .i64 a0_4) ∧ w'.cell? ⟨gb221, 5, none⟩ = some (.int .i64 a0_5) ∧ w'.cell? ⟨gb221, 6, none⟩ = some (.int .i64 a0_6) ∧ w'.cell? ⟨gb221, 7, none⟩ = some (.int .i64 a0_7) ∧ w'.cell? ⟨gb221, 8, none⟩ = some (.int .i64 a0_8) ∧ w'.cell? ⟨gb222, 0, none⟩ = some (.int .i64 a1_0) ∧ w'.cell? ⟨gb222, 1, none⟩ = some (.int .i64 a1_1) ∧ w'.cell? ⟨gb222, 2, none⟩ = some (.bool a1_2)) ∧ (w'.heap[gb221]? = some (.cells #[.int .i64 a0_0, .int .i64 a0_1, .int .i64 a0_2, .int .i64 a0_3, .int .i64 a0_4, .int .i64 a0_5, .int .i64 a0_6, .int .i64 a0_7, .int .i64 a0_8] 26 (0, 0))) ∧ (w'.heap[gb222]? = some (.cells #[.int .i64 a1_0, .int .i64 a1_1, .bool a1_2] 28 (0, 0))) ∧ (w'.heap[gb223]? = some (.cells #[.int .i64 0, .int .i64 0, .int .i64 0, .int .i64 0, .int .i64 0, .int .i64 0, .int .i64 0, .int .i64 0, .int .i64 0] 26 (0, 0))) ∧ (w'.heap[s_]? = some (.cells #[.int .i64 0, .int .i64 0, .int .i64 0, .int .i64 0, .int .i64 0, .int .i64 0, .int .i64 0, .int .i64 0, .int .i64 0] 26 (0, 0))) ∧ (w.heap.size ≤ s_) ∧ (w.heap.size ≤ s_) ∧ (gb221 ≠ s_) ∧ (s_ ≠ gb221) ∧ (gb222 ≠ s_) ∧ (s_ ≠ gb222) ∧ (gb223 ≠ s_) ∧ (s_ ≠ gb223) ∧ (Below w.heap.size w w')) ?_ ?_
    rotate_left
    · intro hCont
      refine two_ (i := 7) (j := 16) (Ni := some 15) (Nj := some 7) #[true, true, true, true, true, true, true, true, false, true, true, false, false, true, true, false, false, false] #[true, true, true, true, true, true, true, false, false, true, true, false, false, true, true, false, true, false] rfl rfl rfl rfl (two_of HT_.out (by kernel_rfl)) (by decide) (by decide) (fun K hK => ?_) (fun K hK => ?_)
      · skip
        refine goes_ Try.func33 (by kernel_rfl) rfl #[.int .i64 a1_0] (by rfl) rfl rfl au14_7 ?_
        with_reducible refine (joustref09_sign.calls a1_0 t224 _ A4.out).mono ?_
        rintro e w' ⟨rfl, ⟨nd, rfl⟩⟩
        refine ⟨_, rfl, ?_⟩
        refine hK.out _ _ ⟨(blk_cell BK221.out 0).trans rfl, (blk_cell BK221.out 1).trans rfl, (blk_cell BK221.out 2).trans rfl, (blk_cell BK221.out 3).trans rfl, (blk_cell BK221.out 4).trans rfl, (blk_cell BK221.out 5).trans rfl, (blk_cell BK221.out 6).trans rfl, (blk_cell BK221.out 7).trans rfl, (blk_cell BK221.out 8).trans rfl, (blk_cell BK222.out 0).trans rfl, (blk_cell BK222.out 1).trans rfl, (blk_cell BK222.out 2).trans rfl⟩ (fun hHeld => ?_)
        clear hK K
        refine norm_ (a' := ?_) ?_ ?_
        rotate_left
        · show Act.put _ (some 15) _ = _
          simp only [Act.put, List.setIfInBounds_toArray, List.set_cons_zero, List.set_cons_succ, i64_w, i32_w]
          rfl
        refine pure_ (i := 8) (N := some 16) (v := ?_) (a' := ?_) #[true, true, true, true, true, true, true, true, true, true, true, false, false, true, true, false, false, false] rfl rfl (any_of HT_.out (by kernel_rfl)) (fun _ _ _ h => h) (Or.inl ⟨by rfl, ?_⟩) ?_ ?_
        rotate_left
        · intro w'
          go_simp
          with_reducible rfl
        rotate_left
        · simp only [Act.put, List.setIfInBounds_toArray, List.set_cons_zero, List.set_cons_succ, i64_w, i32_w]
          rfl
        refine two_ (i := 11) (j := 16) (Ni := some 19) (Nj := some 7) #[true, true, true, true, true, true, true, true, true, true, true, true, false, true, true, false, false, false] #[true, true, true, true, true, true, true, true, true, true, true, false, false, true, true, false, true, false] rfl rfl rfl rfl (two_of HT_.out (by kernel_rfl)) (by decide) (by decide) (fun K hK => ?_) (fun K hK => ?_)
        · skip
          refine goes_ Try.func33 (by kernel_rfl) rfl #[.int .i64 a1_1] (by rfl) rfl rfl au14_7 ?_
          with_reducible refine (joustref09_sign.calls a1_1 t225 _ A5.out).mono ?_
          rintro e w' ⟨rfl, ⟨nd, rfl⟩⟩
          refine ⟨_, rfl, ?_⟩
          refine hK.out _ _ ⟨(blk_cell BK221.out 0).trans rfl, (blk_cell BK221.out 1).trans rfl, (blk_cell BK221.out 2).trans rfl, (blk_cell BK221.out 3).trans rfl, (blk_cell BK221.out 4).trans rfl, (blk_cell BK221.out 5).trans rfl, (blk_cell BK221.out 6).trans rfl, (blk_cell BK221.out 7).trans rfl, (blk_cell BK221.out 8).trans rfl, (blk_cell BK222.out 0).trans rfl, (blk_cell BK222.out 1).trans rfl, (blk_cell BK222.out 2).trans rfl⟩ (fun hHeld => ?_)
          clear hK K
          refine norm_ (a' := ?_) ?_ ?_
          rotate_left
          · show Act.put _ (some 19) _ = _
            simp only [Act.put, List.setIfInBounds_toArray, List.set_cons_zero, List.set_cons_succ, i64_w, i32_w]
            rfl
          refine pure_ (i := 12) (N := some 20) (v := ?_) (a' := ?_) #[true, true, true, true, true, true, true, true, true, true, true, true, true, true, true, false, false, false] rfl rfl (any_of HT_.out (by kernel_rfl)) (fun _ _ _ h => h) (Or.inl ⟨by rfl, ?_⟩) ?_ ?_
          rotate_left
          · intro w'
            go_simp
            with_reducible rfl
          rotate_left
          · simp only [Act.put, List.setIfInBounds_toArray, List.set_cons_zero, List.set_cons_succ, i64_w, i32_w]
            rfl
          refine pure_ (i := 15) (N := some 23) (v := ?_) (a' := ?_) #[true, true, true, true, true, true, true, true, true, true, true, true, true, true, true, true, false, false] rfl rfl (any_of HT_.out (by kernel_rfl)) (fun _ _ _ h => h) (Or.inl ⟨by rfl, ?_⟩) ?_ ?_
          rotate_left
          · intro w'
            go_simp
            with_reducible rfl
          rotate_left
          · simp only [Act.put, List.setIfInBounds_toArray, List.set_cons_zero, List.set_cons_succ, i64_w, i32_w]
            rfl
          refine one_ (i := 16) (N := some 7) #[true, true, true, true, true, true, true, true, true, true, true, true, true, true, true, true, true, false] rfl rfl (one_of HT_.out (by kernel_rfl)) (by decide) (fun K hK => ?_)
          refine box_step ?hg (N := 7) ?hd (cs := #[.int .i64 0, .int .i64 0, .int .i64 0, .int .i64 0, .int .i64 0, .int .i64 0, .int .i64 0, .int .i64 0, .int .i64 0]) (t := 26) ?hr ?_; (case hd => rfl); (case hg => rfl); (case hr => first | (go_simp; done) | (go_simp; rfl))
          intro gb226 hg w56 hbox hb
          have n0_ := Aside0.mk (blk_below (g := gb221) (o := .cells #[.int .i64 a0_0, .int .i64 a0_1, .int .i64 a0_2, .int .i64 a0_3, .int .i64 a0_4, .int .i64 a0_5, .int .i64 a0_6, .int .i64 a0_7, .int .i64 a0_8] 26 (0, 0)) au14_0 hb)
          have n1_ := Aside0.mk (blk_below (g := gb222) (o := .cells #[.int .i64 a1_0, .int .i64 a1_1, .bool a1_2] 28 (0, 0)) au14_2 hb)
          have n2_ := Aside0.mk (blk_below (g := gb223) (o := .cells #[.int .i64 0, .int .i64 0, .int .i64 0, .int .i64 0, .int .i64 0, .int .i64 0, .int .i64 0, .int .i64 0, .int .i64 0] 26 (0, 0)) au14_3 hb)
          have n3_ := Aside0.mk (below_step au14_1 hb)
          have n4_ := Aside0.mk (hbox)
          have n5_ := Aside0.mk ((au14_17 : w.heap.size ≤ gb226))
          have n6_ := Aside0.mk ((au14_17 : w.heap.size ≤ gb226))
          have n7_ := Aside0.mk ((au14_4 : gb221 ≠ gb226))
          have n8_ := Aside0.mk ((au14_5 : gb226 ≠ gb221))
          have n9_ := Aside0.mk ((au14_11 : gb222 ≠ gb226))
          have n10_ := Aside0.mk ((au14_12 : gb226 ≠ gb222))
          have n11_ := Aside0.mk ((au14_8 : gb223 ≠ gb226))
          have n12_ := Aside0.mk ((au14_9 : gb226 ≠ gb223))
          clear BK221
          clear BK222
          clear BK223
          clear HB
          have BK221 := n0_
          have BK222 := n1_
          have BK223 := n2_
          have HB := n3_
          have BK226 := n4_
          have GW226 := n5_
          have GE226 := n6_
          have NB221_226 := n7_
          have NB226_221 := n8_
          have NB222_226 := n9_
          have NB226_222 := n10_
          have NB223_226 := n11_
          have NB226_223 := n12_
          clear n0_ n1_ n2_ n3_ n4_ n5_ n6_ n7_ n8_ n9_ n10_ n11_ n12_
          clear hb hbox hg
          refine hK.out _ _ ⟨(blk_cell BK221.out 0).trans rfl, (blk_cell BK221.out 1).trans rfl, (blk_cell BK221.out 2).trans rfl, (blk_cell BK221.out 3).trans rfl, (blk_cell BK221.out 4).trans rfl, (blk_cell BK221.out 5).trans rfl, (blk_cell BK221.out 6).trans rfl, (blk_cell BK221.out 7).trans rfl, (blk_cell BK221.out 8).trans rfl, (blk_cell BK222.out 0).trans rfl, (blk_cell BK222.out 1).trans rfl, (blk_cell BK222.out 2).trans rfl⟩ (fun hHeld => ?_)
          clear hK K
          refine norm_ (a' := ?_) ?_ ?_
          rotate_left
          · show Act.put _ (some 7) _ = _
            simp only [Act.put, List.setIfInBounds_toArray, List.set_cons_zero, List.set_cons_succ, i64_w, i32_w]
            rfl
          exact norm_ au14_16 (hCont (gb226) _ ⟨hHeld, au14_0, au14_2, au14_3, au14_15, GW226.out, GE226.out, NB221_226.out, NB226_221.out, NB222_226.out, NB226_222.out, NB223_226.out, NB226_223.out, au14_6⟩)
        · skip
          refine box_step ?hg (N := 7) ?hd (cs := #[.int .i64 0, .int .i64 0, .int .i64 0, .int .i64 0, .int .i64 0, .int .i64 0, .int .i64 0, .int .i64 0, .int .i64 0]) (t := 26) ?hr ?_; (case hd => rfl); (case hg => rfl); (case hr => first | (go_simp; done) | (go_simp; rfl))
          intro gb226 hg w56 hbox hb
          have n0_ := Aside0.mk (blk_below (g := gb221) (o := .cells #[.int .i64 a0_0, .int .i64 a0_1, .int .i64 a0_2, .int .i64 a0_3, .int .i64 a0_4, .int .i64 a0_5, .int .i64 a0_6, .int .i64 a0_7, .int .i64 a0_8] 26 (0, 0)) au14_0 hb)
          have n1_ := Aside0.mk (blk_below (g := gb222) (o := .cells #[.int .i64 a1_0, .int .i64 a1_1, .bool a1_2] 28 (0, 0)) au14_2 hb)
          have n2_ := Aside0.mk (blk_below (g := gb223) (o := .cells #[.int .i64 0, .int .i64 0, .int .i64 0, .int .i64 0, .int .i64 0, .int .i64 0, .int .i64 0, .int .i64 0, .int .i64 0] 26 (0, 0)) au14_3 hb)
          have n3_ := Aside0.mk (below_step au14_1 hb)
          have n4_ := Aside0.mk (hbox)
          have n5_ := Aside0.mk ((au14_17 : w.heap.size ≤ gb226))
          have n6_ := Aside0.mk ((au14_17 : w.heap.size ≤ gb226))
          have n7_ := Aside0.mk ((au14_4 : gb221 ≠ gb226))
          have n8_ := Aside0.mk ((au14_5 : gb226 ≠ gb221))
          have n9_ := Aside0.mk ((au14_11 : gb222 ≠ gb226))
          have n10_ := Aside0.mk ((au14_12 : gb226 ≠ gb222))
          have n11_ := Aside0.mk ((au14_8 : gb223 ≠ gb226))
          have n12_ := Aside0.mk ((au14_9 : gb226 ≠ gb223))
          clear BK221
          clear BK222
          clear BK223
          clear HB
          have BK221 := n0_
          have BK222 := n1_
          have BK223 := n2_
          have HB := n3_
          have BK226 := n4_
          have GW226 := n5_
          have GE226 := n6_
          have NB221_226 := n7_
          have NB226_221 := n8_
          have NB222_226 := n9_
          have NB226_222 := n10_
          have NB223_226 := n11_
          have NB226_223 := n12_
          clear n0_ n1_ n2_ n3_ n4_ n5_ n6_ n7_ n8_ n9_ n10_ n11_ n12_
          clear hb hbox hg
          refine hK.out _ _ ⟨(blk_cell BK221.out 0).trans rfl, (blk_cell BK221.out 1).trans rfl, (blk_cell BK221.out 2).trans rfl, (blk_cell BK221.out 3).trans rfl, (blk_cell BK221.out 4).trans rfl, (blk_cell BK221.out 5).trans rfl, (blk_cell BK221.out 6).trans rfl, (blk_cell BK221.out 7).trans rfl, (blk_cell BK221.out 8).trans rfl, (blk_cell BK222.out 0).trans rfl, (blk_cell BK222.out 1).trans rfl, (blk_cell BK222.out 2).trans rfl⟩ (fun hHeld => ?_)
          clear hK K
          refine norm_ (a' := ?_) ?_ ?_
          rotate_left
          · show Act.put _ (some 7) _ = _
            simp only [Act.put, List.setIfInBounds_toArray, List.set_cons_zero, List.set_cons_succ, i64_w, i32_w]
            rfl
          refine one_ (i := 11) (N := some 19) #[true, true, true, true, true, true, true, true, true, true, true, true, false, true, true, false, true, false] rfl rfl (one_of HT_.out (by kernel_rfl)) (by decide) (fun K hK => ?_)
          refine goes_ Try.func33 (by kernel_rfl) rfl #[.int .i64 a1_1] (by rfl) rfl rfl au14_7 ?_
          with_reducible refine (joustref09_sign.calls a1_1 t225 _ A5.out).mono ?_
          rintro e w' ⟨rfl, ⟨nd, rfl⟩⟩
          refine ⟨_, rfl, ?_⟩
          refine hK.out _ _ ⟨(blk_cell BK221.out 0).trans rfl, (blk_cell BK221.out 1).trans rfl, (blk_cell BK221.out 2).trans rfl, (blk_cell BK221.out 3).trans rfl, (blk_cell BK221.out 4).trans rfl, (blk_cell BK221.out 5).trans rfl, (blk_cell BK221.out 6).trans rfl, (blk_cell BK221.out 7).trans rfl, (blk_cell BK221.out 8).trans rfl, (blk_cell BK222.out 0).trans rfl, (blk_cell BK222.out 1).trans rfl, (blk_cell BK222.out 2).trans rfl⟩ (fun hHeld => ?_)
          clear hK K
          refine norm_ (a' := ?_) ?_ ?_
          rotate_left
          · show Act.put _ (some 19) _ = _
            simp only [Act.put, List.setIfInBounds_toArray, List.set_cons_zero, List.set_cons_succ, i64_w, i32_w]
            rfl
          refine pure_ (i := 12) (N := some 20) (v := ?_) (a' := ?_) #[true, true, true, true, true, true, true, true, true, true, true, true, true, true, true, false, true, false] rfl rfl (any_of HT_.out (by kernel_rfl)) (fun _ _ _ h => h) (Or.inl ⟨by rfl, ?_⟩) ?_ ?_
          rotate_left
          · intro w'
            go_simp
            with_reducible rfl
          rotate_left
          · simp only [Act.put, List.setIfInBounds_toArray, List.set_cons_zero, List.set_cons_succ, i64_w, i32_w]
            rfl
          refine pure_ (i := 15) (N := some 23) (v := ?_) (a' := ?_) #[true, true, true, true, true, true, true, true, true, true, true, true, true, true, true, true, true, false] rfl rfl (any_of HT_.out (by kernel_rfl)) (fun _ _ _ h => h) (Or.inl ⟨by rfl, ?_⟩) ?_ ?_
          rotate_left
          · intro w'
            go_simp
            with_reducible rfl
          rotate_left
          · simp only [Act.put, List.setIfInBounds_toArray, List.set_cons_zero, List.set_cons_succ, i64_w, i32_w]
            rfl
          exact norm_ au14_16 (hCont (gb226) _ ⟨hHeld, au14_0, au14_2, au14_3, au14_15, GW226.out, GE226.out, NB221_226.out, NB226_221.out, NB222_226.out, NB226_222.out, NB223_226.out, NB226_223.out, au14_6⟩)
      · skip
        refine box_step ?hg (N := 7) ?hd (cs := #[.int .i64 0, .int .i64 0, .int .i64 0, .int .i64 0, .int .i64 0, .int .i64 0, .int .i64 0, .int .i64 0, .int .i64 0]) (t := 26) ?hr ?_; (case hd => rfl); (case hg => rfl); (case hr => first | (go_simp; done) | (go_simp; rfl))
        intro gb226 hg w56 hbox hb
        have n0_ := Aside0.mk (blk_below (g := gb221) (o := .cells #[.int .i64 a0_0, .int .i64 a0_1, .int .i64 a0_2, .int .i64 a0_3, .int .i64 a0_4, .int .i64 a0_5, .int .i64 a0_6, .int .i64 a0_7, .int .i64 a0_8] 26 (0, 0)) au14_0 hb)
        have n1_ := Aside0.mk (blk_below (g := gb222) (o := .cells #[.int .i64 a1_0, .int .i64 a1_1, .bool a1_2] 28 (0, 0)) au14_2 hb)
        have n2_ := Aside0.mk (blk_below (g := gb223) (o := .cells #[.int .i64 0, .int .i64 0, .int .i64 0, .int .i64 0, .int .i64 0, .int .i64 0, .int .i64 0, .int .i64 0, .int .i64 0] 26 (0, 0)) au14_3 hb)
        have n3_ := Aside0.mk (below_step au14_1 hb)
        have n4_ := Aside0.mk (hbox)
        have n5_ := Aside0.mk ((au14_17 : w.heap.size ≤ gb226))
        have n6_ := Aside0.mk ((au14_17 : w.heap.size ≤ gb226))
        have n7_ := Aside0.mk ((au14_4 : gb221 ≠ gb226))
        have n8_ := Aside0.mk ((au14_5 : gb226 ≠ gb221))
        have n9_ := Aside0.mk ((au14_11 : gb222 ≠ gb226))
        have n10_ := Aside0.mk ((au14_12 : gb226 ≠ gb222))
        have n11_ := Aside0.mk ((au14_8 : gb223 ≠ gb226))
        have n12_ := Aside0.mk ((au14_9 : gb226 ≠ gb223))
        clear BK221
        clear BK222
        clear BK223
        clear HB
        have BK221 := n0_
        have BK222 := n1_
        have BK223 := n2_
        have HB := n3_
        have BK226 := n4_
        have GW226 := n5_
        have GE226 := n6_
        have NB221_226 := n7_
        have NB226_221 := n8_
        have NB222_226 := n9_
        have NB226_222 := n10_
        have NB223_226 := n11_
        have NB226_223 := n12_
        clear n0_ n1_ n2_ n3_ n4_ n5_ n6_ n7_ n8_ n9_ n10_ n11_ n12_
        clear hb hbox hg
        refine hK.out _ _ ⟨(blk_cell BK221.out 0).trans rfl, (blk_cell BK221.out 1).trans rfl, (blk_cell BK221.out 2).trans rfl, (blk_cell BK221.out 3).trans rfl, (blk_cell BK221.out 4).trans rfl, (blk_cell BK221.out 5).trans rfl, (blk_cell BK221.out 6).trans rfl, (blk_cell BK221.out 7).trans rfl, (blk_cell BK221.out 8).trans rfl, (blk_cell BK222.out 0).trans rfl, (blk_cell BK222.out 1).trans rfl, (blk_cell BK222.out 2).trans rfl⟩ (fun hHeld => ?_)
        clear hK K
        refine norm_ (a' := ?_) ?_ ?_
        rotate_left
        · show Act.put _ (some 7) _ = _
          simp only [Act.put, List.setIfInBounds_toArray, List.set_cons_zero, List.set_cons_succ, i64_w, i32_w]
          rfl
        refine one_ (i := 7) (N := some 15) #[true, true, true, true, true, true, true, true, false, true, true, false, false, true, true, false, true, false] rfl rfl (one_of HT_.out (by kernel_rfl)) (by decide) (fun K hK => ?_)
        refine goes_ Try.func33 (by kernel_rfl) rfl #[.int .i64 a1_0] (by rfl) rfl rfl au14_7 ?_
        with_reducible refine (joustref09_sign.calls a1_0 t224 _ A4.out).mono ?_
        rintro e w' ⟨rfl, ⟨nd, rfl⟩⟩
        refine ⟨_, rfl, ?_⟩
        refine hK.out _ _ ⟨(blk_cell BK221.out 0).trans rfl, (blk_cell BK221.out 1).trans rfl, (blk_cell BK221.out 2).trans rfl, (blk_cell BK221.out 3).trans rfl, (blk_cell BK221.out 4).trans rfl, (blk_cell BK221.out 5).trans rfl, (blk_cell BK221.out 6).trans rfl, (blk_cell BK221.out 7).trans rfl, (blk_cell BK221.out 8).trans rfl, (blk_cell BK222.out 0).trans rfl, (blk_cell BK222.out 1).trans rfl, (blk_cell BK222.out 2).trans rfl⟩ (fun hHeld => ?_)
        clear hK K
        refine norm_ (a' := ?_) ?_ ?_
        rotate_left
        · show Act.put _ (some 15) _ = _
          simp only [Act.put, List.setIfInBounds_toArray, List.set_cons_zero, List.set_cons_succ, i64_w, i32_w]
          rfl
        refine pure_ (i := 8) (N := some 16) (v := ?_) (a' := ?_) #[true, true, true, true, true, true, true, true, true, true, true, false, false, true, true, false, true, false] rfl rfl (any_of HT_.out (by kernel_rfl)) (fun _ _ _ h => h) (Or.inl ⟨by rfl, ?_⟩) ?_ ?_
        rotate_left
        · intro w'
          go_simp
          with_reducible rfl
        rotate_left
        · simp only [Act.put, List.setIfInBounds_toArray, List.set_cons_zero, List.set_cons_succ, i64_w, i32_w]
          rfl
        refine one_ (i := 11) (N := some 19) #[true, true, true, true, true, true, true, true, true, true, true, true, false, true, true, false, true, false] rfl rfl (one_of HT_.out (by kernel_rfl)) (by decide) (fun K hK => ?_)
        refine goes_ Try.func33 (by kernel_rfl) rfl #[.int .i64 a1_1] (by rfl) rfl rfl au14_7 ?_
        with_reducible refine (joustref09_sign.calls a1_1 t225 _ A5.out).mono ?_
        rintro e w' ⟨rfl, ⟨nd, rfl⟩⟩
        refine ⟨_, rfl, ?_⟩
        refine hK.out _ _ ⟨(blk_cell BK221.out 0).trans rfl, (blk_cell BK221.out 1).trans rfl, (blk_cell BK221.out 2).trans rfl, (blk_cell BK221.out 3).trans rfl, (blk_cell BK221.out 4).trans rfl, (blk_cell BK221.out 5).trans rfl, (blk_cell BK221.out 6).trans rfl, (blk_cell BK221.out 7).trans rfl, (blk_cell BK221.out 8).trans rfl, (blk_cell BK222.out 0).trans rfl, (blk_cell BK222.out 1).trans rfl, (blk_cell BK222.out 2).trans rfl⟩ (fun hHeld => ?_)
        clear hK K
        refine norm_ (a' := ?_) ?_ ?_
        rotate_left
        · show Act.put _ (some 19) _ = _
          simp only [Act.put, List.setIfInBounds_toArray, List.set_cons_zero, List.set_cons_succ, i64_w, i32_w]
          rfl
        refine pure_ (i := 12) (N := some 20) (v := ?_) (a' := ?_) #[true, true, true, true, true, true, true, true, true, true, true, true, true, true, true, false, true, false] rfl rfl (any_of HT_.out (by kernel_rfl)) (fun _ _ _ h => h) (Or.inl ⟨by rfl, ?_⟩) ?_ ?_
        rotate_left
        · intro w'
          go_simp
          with_reducible rfl
        rotate_left
        · simp only [Act.put, List.setIfInBounds_toArray, List.set_cons_zero, List.set_cons_succ, i64_w, i32_w]
          rfl
        refine pure_ (i := 15) (N := some 23) (v := ?_) (a' := ?_) #[true, true, true, true, true, true, true, true, true, true, true, true, true, true, true, true, true, false] rfl rfl (any_of HT_.out (by kernel_rfl)) (fun _ _ _ h => h) (Or.inl ⟨by rfl, ?_⟩) ?_ ?_
        rotate_left
        · intro w'
          go_simp
          with_reducible rfl
        rotate_left
        · simp only [Act.put, List.setIfInBounds_toArray, List.set_cons_zero, List.set_cons_succ, i64_w, i32_w]
          rfl
        exact norm_ au14_16 (hCont (gb226) _ ⟨hHeld, au14_0, au14_2, au14_3, au14_15, GW226.out, GE226.out, NB221_226.out, NB226_221.out, NB222_226.out, NB226_222.out, NB223_226.out, NB226_223.out, au14_6⟩)
    rintro gb226 w57 ⟨hS_, h0_, h1_, h2_, h3_, h4_, h5_, h6_, h7_, h8_, h9_, h10_, h11_, h12_⟩
    have n0_ : Aside0 (w57.heap[gb221]? = some (.cells #[.int .i64 a0_0, .int .i64 a0_1, .int .i64 a0_2, .int .i64 a0_3, .int .i64 a0_4, .int .i64 a0_5, .int .i64 a0_6, .int .i64 a0_7, .int .i64 a0_8] 26 (0, 0))) := ⟨h0_⟩
    have n1_ : Aside0 (w57.heap[gb222]? = some (.cells #[.int .i64 a1_0, .int .i64 a1_1, .bool a1_2] 28 (0, 0))) := ⟨h1_⟩
    have n2_ : Aside0 (w57.heap[gb223]? = some (.cells #[.int .i64 0, .int .i64 0, .int .i64 0, .int .i64 0, .int .i64 0, .int .i64 0, .int .i64 0, .int .i64 0, .int .i64 0] 26 (0, 0))) := ⟨h2_⟩
    have n3_ : Aside0 (w57.heap[gb226]? = some (.cells #[.int .i64 0, .int .i64 0, .int .i64 0, .int .i64 0, .int .i64 0, .int .i64 0, .int .i64 0, .int .i64 0, .int .i64 0] 26 (0, 0))) := ⟨h3_⟩
    have n4_ : Aside0 (w.heap.size ≤ gb226) := ⟨h4_⟩
    have n5_ : Aside0 (w.heap.size ≤ gb226) := ⟨h5_⟩
    have n6_ : Aside0 (gb221 ≠ gb226) := ⟨h6_⟩
    have n7_ : Aside0 (gb226 ≠ gb221) := ⟨h7_⟩
    have n8_ : Aside0 (gb222 ≠ gb226) := ⟨h8_⟩
    have n9_ : Aside0 (gb226 ≠ gb222) := ⟨h9_⟩
    have n10_ : Aside0 (gb223 ≠ gb226) := ⟨h10_⟩
    have n11_ : Aside0 (gb226 ≠ gb223) := ⟨h11_⟩
    have n12_ : Aside0 (Below w.heap.size w w57) := ⟨h12_⟩
    clear BK221
    clear BK222
    clear BK223
    clear HB
    clear h0_ h1_ h2_ h3_ h4_ h5_ h6_ h7_ h8_ h9_ h10_ h11_ h12_
    have BK221 := n0_
    have BK222 := n1_
    have BK223 := n2_
    have BK226 := n3_
    have GW226 := n4_
    have GE226 := n5_
    have NB221_226 := n6_
    have NB226_221 := n7_
    have NB222_226 := n8_
    have NB226_222 := n9_
    have NB223_226 := n10_
    have NB226_223 := n11_
    have HB := n12_
    clear n0_ n1_ n2_ n3_ n4_ n5_ n6_ n7_ n8_ n9_ n10_ n11_ n12_
    have hHeld : w57.cell? ⟨gb221, 0, none⟩ = some (.int .i64 a0_0) ∧ w57.cell? ⟨gb221, 1, none⟩ = some (.int .i64 a0_1) ∧ w57.cell? ⟨gb221, 2, none⟩ = some (.int .i64 a0_2) ∧ w57.cell? ⟨gb221, 3, none⟩ = some (.int .i64 a0_3) ∧ w57.cell? ⟨gb221, 4, none⟩ = some (.int .i64 a0_4) ∧ w57.cell? ⟨gb221, 5, none⟩ = some (.int .i64 a0_5) ∧ w57.cell? ⟨gb221, 6, none⟩ = some (.int .i64 a0_6) ∧ w57.cell? ⟨gb221, 7, none⟩ = some (.int .i64 a0_7) ∧ w57.cell? ⟨gb221, 8, none⟩ = some (.int .i64 a0_8) ∧ w57.cell? ⟨gb222, 0, none⟩ = some (.int .i64 a1_0) ∧ w57.cell? ⟨gb222, 1, none⟩ = some (.int .i64 a1_1) ∧ w57.cell? ⟨gb222, 2, none⟩ = some (.bool a1_2) := hS_
    refine norm_ (a' := ?_) ?_ ?_
    rotate_left
    · simp only [putAll, Act.put, List.setIfInBounds_toArray, List.set_cons_zero, List.set_cons_succ]
      rfl
    refine one_ (i := 17) (N := none) #[true, true, true, true, true, true, true, true, true, true, true, true, true, true, true, true, true, true] rfl rfl (one_of HT_.out (by kernel_rfl)) (by decide) (fun K hK => ?_)
    have hs58 : w57.cell? ⟨gb226, 0, none⟩ = some (.int .i64 0) := (blk_cell BK226.out 0).trans rfl
    have hfs58 := blk_frozen BK226.out 0
    have hns58_0 := NB221_226.out
    have hns58_1 := NB222_226.out
    have hns58_2 := NB223_226.out
    have hms58_0 := NB226_221.out
    have hms58_1 := NB226_222.out
    have hms58_2 := NB226_223.out
    have hs59 : w57.cell? ⟨gb226, 1, none⟩ = some (.int .i64 0) := (blk_cell BK226.out 1).trans rfl
    have hfs59 := blk_frozen BK226.out 1
    have hns59_0 := NB221_226.out
    have hns59_1 := NB222_226.out
    have hns59_2 := NB223_226.out
    have hms59_0 := NB226_221.out
    have hms59_1 := NB226_222.out
    have hms59_2 := NB226_223.out
    have hs60 : w57.cell? ⟨gb226, 2, none⟩ = some (.int .i64 0) := (blk_cell BK226.out 2).trans rfl
    have hfs60 := blk_frozen BK226.out 2
    have hns60_0 := NB221_226.out
    have hns60_1 := NB222_226.out
    have hns60_2 := NB223_226.out
    have hms60_0 := NB226_221.out
    have hms60_1 := NB226_222.out
    have hms60_2 := NB226_223.out
    have hs61 : w57.cell? ⟨gb226, 3, none⟩ = some (.int .i64 0) := (blk_cell BK226.out 3).trans rfl
    have hfs61 := blk_frozen BK226.out 3
    have hns61_0 := NB221_226.out
    have hns61_1 := NB222_226.out
    have hns61_2 := NB223_226.out
    have hms61_0 := NB226_221.out
    have hms61_1 := NB226_222.out
    have hms61_2 := NB226_223.out
    have hs62 : w57.cell? ⟨gb226, 4, none⟩ = some (.int .i64 0) := (blk_cell BK226.out 4).trans rfl
    have hfs62 := blk_frozen BK226.out 4
    have hns62_0 := NB221_226.out
    have hns62_1 := NB222_226.out
    have hns62_2 := NB223_226.out
    have hms62_0 := NB226_221.out
    have hms62_1 := NB226_222.out
    have hms62_2 := NB226_223.out
    have hs63 : w57.cell? ⟨gb226, 5, none⟩ = some (.int .i64 0) := (blk_cell BK226.out 5).trans rfl
    have hfs63 := blk_frozen BK226.out 5
    have hns63_0 := NB221_226.out
    have hns63_1 := NB222_226.out
    have hns63_2 := NB223_226.out
    have hms63_0 := NB226_221.out
    have hms63_1 := NB226_222.out
    have hms63_2 := NB226_223.out
    have hs64 : w57.cell? ⟨gb226, 6, none⟩ = some (.int .i64 0) := (blk_cell BK226.out 6).trans rfl
    have hfs64 := blk_frozen BK226.out 6
    have hns64_0 := NB221_226.out
    have hns64_1 := NB222_226.out
    have hns64_2 := NB223_226.out
    have hms64_0 := NB226_221.out
    have hms64_1 := NB226_222.out
    have hms64_2 := NB226_223.out
    have hs65 : w57.cell? ⟨gb226, 7, none⟩ = some (.int .i64 0) := (blk_cell BK226.out 7).trans rfl
    have hfs65 := blk_frozen BK226.out 7
    have hns65_0 := NB221_226.out
    have hns65_1 := NB222_226.out
    have hns65_2 := NB223_226.out
    have hms65_0 := NB226_221.out
    have hms65_1 := NB226_222.out
    have hms65_2 := NB226_223.out
    have hs66 : w57.cell? ⟨gb226, 8, none⟩ = some (.int .i64 0) := (blk_cell BK226.out 8).trans rfl
    have hfs66 := blk_frozen BK226.out 8
    have hns66_0 := NB221_226.out
    have hns66_1 := NB222_226.out
    have hns66_2 := NB223_226.out
    have hms66_0 := NB226_221.out
    have hms66_1 := NB226_222.out
    have hms66_2 := NB226_223.out
    refine skip_ (w1 := ?_) (by rfl) rfl ?_ ?_
    rotate_left
    · go_simp
      rfl
    refine hK.out _ _ ⟨((cell_far (p := ⟨gb226, _, none⟩) NB221_226.out _).trans (((cell_far (p := ⟨gb226, _, none⟩) NB221_226.out _).trans (((cell_far (p := ⟨gb226, _, none⟩) NB221_226.out _).trans (((cell_far (p := ⟨gb226, _, none⟩) NB221_226.out _).trans (((cell_far (p := ⟨gb226, _, none⟩) NB221_226.out _).trans (((cell_far (p := ⟨gb226, _, none⟩) NB221_226.out _).trans (((cell_far (p := ⟨gb226, _, none⟩) NB221_226.out _).trans (((cell_far (p := ⟨gb226, _, none⟩) NB221_226.out _).trans (((cell_far (p := ⟨gb226, _, none⟩) NB221_226.out _).trans (hHeld.1)))))))))))))))))), ((cell_far (p := ⟨gb226, _, none⟩) NB221_226.out _).trans (((cell_far (p := ⟨gb226, _, none⟩) NB221_226.out _).trans (((cell_far (p := ⟨gb226, _, none⟩) NB221_226.out _).trans (((cell_far (p := ⟨gb226, _, none⟩) NB221_226.out _).trans (((cell_far (p := ⟨gb226, _, none⟩) NB221_226.out _).trans (((cell_far (p := ⟨gb226, _, none⟩) NB221_226.out _).trans (((cell_far (p := ⟨gb226, _, none⟩) NB221_226.out _).trans (((cell_far (p := ⟨gb226, _, none⟩) NB221_226.out _).trans (((cell_far (p := ⟨gb226, _, none⟩) NB221_226.out _).trans (hHeld.2.1)))))))))))))))))), ((cell_far (p := ⟨gb226, _, none⟩) NB221_226.out _).trans (((cell_far (p := ⟨gb226, _, none⟩) NB221_226.out _).trans (((cell_far (p := ⟨gb226, _, none⟩) NB221_226.out _).trans (((cell_far (p := ⟨gb226, _, none⟩) NB221_226.out _).trans (((cell_far (p := ⟨gb226, _, none⟩) NB221_226.out _).trans (((cell_far (p := ⟨gb226, _, none⟩) NB221_226.out _).trans (((cell_far (p := ⟨gb226, _, none⟩) NB221_226.out _).trans (((cell_far (p := ⟨gb226, _, none⟩) NB221_226.out _).trans (((cell_far (p := ⟨gb226, _, none⟩) NB221_226.out _).trans (hHeld.2.2.1)))))))))))))))))), ((cell_far (p := ⟨gb226, _, none⟩) NB221_226.out _).trans (((cell_far (p := ⟨gb226, _, none⟩) NB221_226.out _).trans (((cell_far (p := ⟨gb226, _, none⟩) NB221_226.out _).trans (((cell_far (p := ⟨gb226, _, none⟩) NB221_226.out _).trans (((cell_far (p := ⟨gb226, _, none⟩) NB221_226.out _).trans (((cell_far (p := ⟨gb226, _, none⟩) NB221_226.out _).trans (((cell_far (p := ⟨gb226, _, none⟩) NB221_226.out _).trans (((cell_far (p := ⟨gb226, _, none⟩) NB221_226.out _).trans (((cell_far (p := ⟨gb226, _, none⟩) NB221_226.out _).trans (hHeld.2.2.2.1)))))))))))))))))), ((cell_far (p := ⟨gb226, _, none⟩) NB221_226.out _).trans (((cell_far (p := ⟨gb226, _, none⟩) NB221_226.out _).trans (((cell_far (p := ⟨gb226, _, none⟩) NB221_226.out _).trans (((cell_far (p := ⟨gb226, _, none⟩) NB221_226.out _).trans (((cell_far (p := ⟨gb226, _, none⟩) NB221_226.out _).trans (((cell_far (p := ⟨gb226, _, none⟩) NB221_226.out _).trans (((cell_far (p := ⟨gb226, _, none⟩) NB221_226.out _).trans (((cell_far (p := ⟨gb226, _, none⟩) NB221_226.out _).trans (((cell_far (p := ⟨gb226, _, none⟩) NB221_226.out _).trans (hHeld.2.2.2.2.1)))))))))))))))))), ((cell_far (p := ⟨gb226, _, none⟩) NB221_226.out _).trans (((cell_far (p := ⟨gb226, _, none⟩) NB221_226.out _).trans (((cell_far (p := ⟨gb226, _, none⟩) NB221_226.out _).trans (((cell_far (p := ⟨gb226, _, none⟩) NB221_226.out _).trans (((cell_far (p := ⟨gb226, _, none⟩) NB221_226.out _).trans (((cell_far (p := ⟨gb226, _, none⟩) NB221_226.out _).trans (((cell_far (p := ⟨gb226, _, none⟩) NB221_226.out _).trans (((cell_far (p := ⟨gb226, _, none⟩) NB221_226.out _).trans (((cell_far (p := ⟨gb226, _, none⟩) NB221_226.out _).trans (hHeld.2.2.2.2.2.1)))))))))))))))))), ((cell_far (p := ⟨gb226, _, none⟩) NB221_226.out _).trans (((cell_far (p := ⟨gb226, _, none⟩) NB221_226.out _).trans (((cell_far (p := ⟨gb226, _, none⟩) NB221_226.out _).trans (((cell_far (p := ⟨gb226, _, none⟩) NB221_226.out _).trans (((cell_far (p := ⟨gb226, _, none⟩) NB221_226.out _).trans (((cell_far (p := ⟨gb226, _, none⟩) NB221_226.out _).trans (((cell_far (p := ⟨gb226, _, none⟩) NB221_226.out _).trans (((cell_far (p := ⟨gb226, _, none⟩) NB221_226.out _).trans (((cell_far (p := ⟨gb226, _, none⟩) NB221_226.out _).trans (hHeld.2.2.2.2.2.2.1)))))))))))))))))), ((cell_far (p := ⟨gb226, _, none⟩) NB221_226.out _).trans (((cell_far (p := ⟨gb226, _, none⟩) NB221_226.out _).trans (((cell_far (p := ⟨gb226, _, none⟩) NB221_226.out _).trans (((cell_far (p := ⟨gb226, _, none⟩) NB221_226.out _).trans (((cell_far (p := ⟨gb226, _, none⟩) NB221_226.out _).trans (((cell_far (p := ⟨gb226, _, none⟩) NB221_226.out _).trans (((cell_far (p := ⟨gb226, _, none⟩) NB221_226.out _).trans (((cell_far (p := ⟨gb226, _, none⟩) NB221_226.out _).trans (((cell_far (p := ⟨gb226, _, none⟩) NB221_226.out _).trans (hHeld.2.2.2.2.2.2.2.1)))))))))))))))))), ((cell_far (p := ⟨gb226, _, none⟩) NB221_226.out _).trans (((cell_far (p := ⟨gb226, _, none⟩) NB221_226.out _).trans (((cell_far (p := ⟨gb226, _, none⟩) NB221_226.out _).trans (((cell_far (p := ⟨gb226, _, none⟩) NB221_226.out _).trans (((cell_far (p := ⟨gb226, _, none⟩) NB221_226.out _).trans (((cell_far (p := ⟨gb226, _, none⟩) NB221_226.out _).trans (((cell_far (p := ⟨gb226, _, none⟩) NB221_226.out _).trans (((cell_far (p := ⟨gb226, _, none⟩) NB221_226.out _).trans (((cell_far (p := ⟨gb226, _, none⟩) NB221_226.out _).trans (hHeld.2.2.2.2.2.2.2.2.1)))))))))))))))))), ((cell_far (p := ⟨gb226, _, none⟩) NB222_226.out _).trans (((cell_far (p := ⟨gb226, _, none⟩) NB222_226.out _).trans (((cell_far (p := ⟨gb226, _, none⟩) NB222_226.out _).trans (((cell_far (p := ⟨gb226, _, none⟩) NB222_226.out _).trans (((cell_far (p := ⟨gb226, _, none⟩) NB222_226.out _).trans (((cell_far (p := ⟨gb226, _, none⟩) NB222_226.out _).trans (((cell_far (p := ⟨gb226, _, none⟩) NB222_226.out _).trans (((cell_far (p := ⟨gb226, _, none⟩) NB222_226.out _).trans (((cell_far (p := ⟨gb226, _, none⟩) NB222_226.out _).trans (hHeld.2.2.2.2.2.2.2.2.2.1)))))))))))))))))), ((cell_far (p := ⟨gb226, _, none⟩) NB222_226.out _).trans (((cell_far (p := ⟨gb226, _, none⟩) NB222_226.out _).trans (((cell_far (p := ⟨gb226, _, none⟩) NB222_226.out _).trans (((cell_far (p := ⟨gb226, _, none⟩) NB222_226.out _).trans (((cell_far (p := ⟨gb226, _, none⟩) NB222_226.out _).trans (((cell_far (p := ⟨gb226, _, none⟩) NB222_226.out _).trans (((cell_far (p := ⟨gb226, _, none⟩) NB222_226.out _).trans (((cell_far (p := ⟨gb226, _, none⟩) NB222_226.out _).trans (((cell_far (p := ⟨gb226, _, none⟩) NB222_226.out _).trans (hHeld.2.2.2.2.2.2.2.2.2.2.1)))))))))))))))))), ((cell_far (p := ⟨gb226, _, none⟩) NB222_226.out _).trans (((cell_far (p := ⟨gb226, _, none⟩) NB222_226.out _).trans (((cell_far (p := ⟨gb226, _, none⟩) NB222_226.out _).trans (((cell_far (p := ⟨gb226, _, none⟩) NB222_226.out _).trans (((cell_far (p := ⟨gb226, _, none⟩) NB222_226.out _).trans (((cell_far (p := ⟨gb226, _, none⟩) NB222_226.out _).trans (((cell_far (p := ⟨gb226, _, none⟩) NB222_226.out _).trans (((cell_far (p := ⟨gb226, _, none⟩) NB222_226.out _).trans (((cell_far (p := ⟨gb226, _, none⟩) NB222_226.out _).trans (hHeld.2.2.2.2.2.2.2.2.2.2.2))))))))))))))))))⟩ (fun hHeld => ?_)
    clear hK K
    refine doneG_ (done_of HT_.out (by kernel_rfl)) (fun w' => Aside0 (w'.heap[gb226]? = some (.cells #[.int .i64 a2, .int .i64 2, .int .i64 a0_2, .int .i64 a0_3, .int .i64 (wrap64 (t224 * 160)), .int .i64 (wrap64 (t225 * 160)), .int .i64 1, .int .i64 0, .int .i64 a0_0] 26 (0, 0))) ∧ Aside0 (w'.heap[gb223]? = some (.cells #[.int .i64 0, .int .i64 0, .int .i64 0, .int .i64 0, .int .i64 0, .int .i64 0, .int .i64 0, .int .i64 0, .int .i64 0] 26 (0, 0))) ∧ Aside0 (Below w.heap.size w w')) ⟨⟨by refine blk_put (cs := #[.int .i64 a2, .int .i64 2, .int .i64 a0_2, .int .i64 a0_3, .int .i64 (wrap64 (t224 * 160)), .int .i64 (wrap64 (t225 * 160)), .int .i64 1, .int .i64 0, .int .i64 0]) ?_ 8 _ rfl; refine blk_put (cs := #[.int .i64 a2, .int .i64 2, .int .i64 a0_2, .int .i64 a0_3, .int .i64 (wrap64 (t224 * 160)), .int .i64 (wrap64 (t225 * 160)), .int .i64 1, .int .i64 0, .int .i64 0]) ?_ 7 _ rfl; refine blk_put (cs := #[.int .i64 a2, .int .i64 2, .int .i64 a0_2, .int .i64 a0_3, .int .i64 (wrap64 (t224 * 160)), .int .i64 (wrap64 (t225 * 160)), .int .i64 0, .int .i64 0, .int .i64 0]) ?_ 6 _ rfl; refine blk_put (cs := #[.int .i64 a2, .int .i64 2, .int .i64 a0_2, .int .i64 a0_3, .int .i64 (wrap64 (t224 * 160)), .int .i64 0, .int .i64 0, .int .i64 0, .int .i64 0]) ?_ 5 _ rfl; refine blk_put (cs := #[.int .i64 a2, .int .i64 2, .int .i64 a0_2, .int .i64 a0_3, .int .i64 0, .int .i64 0, .int .i64 0, .int .i64 0, .int .i64 0]) ?_ 4 _ rfl; refine blk_put (cs := #[.int .i64 a2, .int .i64 2, .int .i64 a0_2, .int .i64 0, .int .i64 0, .int .i64 0, .int .i64 0, .int .i64 0, .int .i64 0]) ?_ 3 _ rfl; refine blk_put (cs := #[.int .i64 a2, .int .i64 2, .int .i64 0, .int .i64 0, .int .i64 0, .int .i64 0, .int .i64 0, .int .i64 0, .int .i64 0]) ?_ 2 _ rfl; refine blk_put (cs := #[.int .i64 a2, .int .i64 0, .int .i64 0, .int .i64 0, .int .i64 0, .int .i64 0, .int .i64 0, .int .i64 0, .int .i64 0]) ?_ 1 _ rfl; refine blk_put (cs := #[.int .i64 0, .int .i64 0, .int .i64 0, .int .i64 0, .int .i64 0, .int .i64 0, .int .i64 0, .int .i64 0, .int .i64 0]) ?_ 0 _ rfl; (with_reducible repeat (first | refine blk_drewN ?_ _ | refine blk_drew ?_ | refine blk_alloc ?_ _)); exact BK226.out⟩, ⟨by (with_reducible repeat (first | refine blk_drewN ?_ _ | refine blk_drew ?_ | refine blk_alloc ?_ _ | refine blk_far ?_ NB223_226.out _)); exact BK223.out⟩, ⟨by repeat (first | (with_reducible first | exact HB.out | apply below_alloc | apply pw_below_drewN | apply below_drew1 | refine below_set ?_ GE226.out | refine below_set ?_ GE223.out) | exact HB.out)⟩⟩ ?_
    clear HB BK226 BK223
    rintro wG_ ⟨BK226, BK223, HB⟩
    have hnb67 := NB226_221.out
    have hnc67 := NB221_226.out
    have hnb68 := NB226_222.out
    have hnc68 := NB222_226.out
    have hnb69 := NB226_223.out
    have hnc69 := NB223_226.out
    have hcz70_0 : wG_.cell? ⟨gb226, 0, none⟩ = some (.int .i64 a2) := (blk_cell BK226.out 0).trans rfl
    have hcz70_1 : wG_.cell? ⟨gb226, 1, none⟩ = some (.int .i64 2) := (blk_cell BK226.out 1).trans rfl
    have hcz70_2 : wG_.cell? ⟨gb226, 2, none⟩ = some (.int .i64 a0_2) := (blk_cell BK226.out 2).trans rfl
    have hcz70_3 : wG_.cell? ⟨gb226, 3, none⟩ = some (.int .i64 a0_3) := (blk_cell BK226.out 3).trans rfl
    have hcz70_4 : wG_.cell? ⟨gb226, 4, none⟩ = some (.int .i64 (wrap64 (t224 * 160))) := (blk_cell BK226.out 4).trans rfl
    have hcz70_5 : wG_.cell? ⟨gb226, 5, none⟩ = some (.int .i64 (wrap64 (t225 * 160))) := (blk_cell BK226.out 5).trans rfl
    have hcz70_6 : wG_.cell? ⟨gb226, 6, none⟩ = some (.int .i64 1) := (blk_cell BK226.out 6).trans rfl
    have hcz70_7 : wG_.cell? ⟨gb226, 7, none⟩ = some (.int .i64 0) := (blk_cell BK226.out 7).trans rfl
    have hcz70_8 : wG_.cell? ⟨gb226, 8, none⟩ = some (.int .i64 a0_0) := (blk_cell BK226.out 8).trans rfl
    have hfz70_0 := blk_frozen BK226.out 0
    have hfz70_1 := blk_frozen BK226.out 1
    have hfz70_2 := blk_frozen BK226.out 2
    have hfz70_3 := blk_frozen BK226.out 3
    have hfz70_4 := blk_frozen BK226.out 4
    have hfz70_5 := blk_frozen BK226.out 5
    have hfz70_6 := blk_frozen BK226.out 6
    have hfz70_7 := blk_frozen BK226.out 7
    have hfz70_8 := blk_frozen BK226.out 8
    have hnb71 := NB223_221.out
    have hnc71 := NB221_223.out
    have hnb72 := NB223_222.out
    have hnc72 := NB222_223.out
    have hcz73_0 : wG_.cell? ⟨gb223, 0, none⟩ = some (.int .i64 0) := (blk_cell BK223.out 0).trans rfl
    have hcz73_1 : wG_.cell? ⟨gb223, 1, none⟩ = some (.int .i64 0) := (blk_cell BK223.out 1).trans rfl
    have hcz73_2 : wG_.cell? ⟨gb223, 2, none⟩ = some (.int .i64 0) := (blk_cell BK223.out 2).trans rfl
    have hcz73_3 : wG_.cell? ⟨gb223, 3, none⟩ = some (.int .i64 0) := (blk_cell BK223.out 3).trans rfl
    have hcz73_4 : wG_.cell? ⟨gb223, 4, none⟩ = some (.int .i64 0) := (blk_cell BK223.out 4).trans rfl
    have hcz73_5 : wG_.cell? ⟨gb223, 5, none⟩ = some (.int .i64 0) := (blk_cell BK223.out 5).trans rfl
    have hcz73_6 : wG_.cell? ⟨gb223, 6, none⟩ = some (.int .i64 0) := (blk_cell BK223.out 6).trans rfl
    have hcz73_7 : wG_.cell? ⟨gb223, 7, none⟩ = some (.int .i64 0) := (blk_cell BK223.out 7).trans rfl
    have hcz73_8 : wG_.cell? ⟨gb223, 8, none⟩ = some (.int .i64 0) := (blk_cell BK223.out 8).trans rfl
    have hfz73_0 := blk_frozen BK223.out 0
    have hfz73_1 := blk_frozen BK223.out 1
    have hfz73_2 := blk_frozen BK223.out 2
    have hfz73_3 := blk_frozen BK223.out 3
    have hfz73_4 := blk_frozen BK223.out 4
    have hfz73_5 := blk_frozen BK223.out 5
    have hfz73_6 := blk_frozen BK223.out 6
    have hfz73_7 := blk_frozen BK223.out 7
    have hfz73_8 := blk_frozen BK223.out 8
    try go_wp2
    refine bodyPost_ret (results_cell_row rfl _ _ gb223 26 #[.int .i64 a2, .int .i64 2, .int .i64 a0_2, .int .i64 a0_3, .int .i64 (wrap64 (t224 * 160)), .int .i64 (wrap64 (t225 * 160)), .int .i64 1, .int .i64 0, .int .i64 a0_0] (0, 0) _ rfl (by (with_reducible repeat (first | refine blk_drewN ?_ _ | refine blk_drew ?_ | refine blk_alloc ?_ _)); refine blk_put (cs := #[.int .i64 a2, .int .i64 2, .int .i64 a0_2, .int .i64 a0_3, .int .i64 (wrap64 (t224 * 160)), .int .i64 (wrap64 (t225 * 160)), .int .i64 1, .int .i64 0, .int .i64 0]) ?_ 8 _ rfl; (with_reducible repeat (first | refine blk_drewN ?_ _ | refine blk_drew ?_ | refine blk_alloc ?_ _)); refine blk_put (cs := #[.int .i64 a2, .int .i64 2, .int .i64 a0_2, .int .i64 a0_3, .int .i64 (wrap64 (t224 * 160)), .int .i64 (wrap64 (t225 * 160)), .int .i64 1, .int .i64 0, .int .i64 0]) ?_ 7 _ rfl; (with_reducible repeat (first | refine blk_drewN ?_ _ | refine blk_drew ?_ | refine blk_alloc ?_ _)); refine blk_put (cs := #[.int .i64 a2, .int .i64 2, .int .i64 a0_2, .int .i64 a0_3, .int .i64 (wrap64 (t224 * 160)), .int .i64 (wrap64 (t225 * 160)), .int .i64 0, .int .i64 0, .int .i64 0]) ?_ 6 _ rfl; (with_reducible repeat (first | refine blk_drewN ?_ _ | refine blk_drew ?_ | refine blk_alloc ?_ _)); refine blk_put (cs := #[.int .i64 a2, .int .i64 2, .int .i64 a0_2, .int .i64 a0_3, .int .i64 (wrap64 (t224 * 160)), .int .i64 0, .int .i64 0, .int .i64 0, .int .i64 0]) ?_ 5 _ rfl; (with_reducible repeat (first | refine blk_drewN ?_ _ | refine blk_drew ?_ | refine blk_alloc ?_ _)); refine blk_put (cs := #[.int .i64 a2, .int .i64 2, .int .i64 a0_2, .int .i64 a0_3, .int .i64 0, .int .i64 0, .int .i64 0, .int .i64 0, .int .i64 0]) ?_ 4 _ rfl; (with_reducible repeat (first | refine blk_drewN ?_ _ | refine blk_drew ?_ | refine blk_alloc ?_ _)); refine blk_put (cs := #[.int .i64 a2, .int .i64 2, .int .i64 a0_2, .int .i64 0, .int .i64 0, .int .i64 0, .int .i64 0, .int .i64 0, .int .i64 0]) ?_ 3 _ rfl; (with_reducible repeat (first | refine blk_drewN ?_ _ | refine blk_drew ?_ | refine blk_alloc ?_ _)); refine blk_put (cs := #[.int .i64 a2, .int .i64 2, .int .i64 0, .int .i64 0, .int .i64 0, .int .i64 0, .int .i64 0, .int .i64 0, .int .i64 0]) ?_ 2 _ rfl; (with_reducible repeat (first | refine blk_drewN ?_ _ | refine blk_drew ?_ | refine blk_alloc ?_ _)); refine blk_put (cs := #[.int .i64 a2, .int .i64 0, .int .i64 0, .int .i64 0, .int .i64 0, .int .i64 0, .int .i64 0, .int .i64 0, .int .i64 0]) ?_ 1 _ rfl; (with_reducible repeat (first | refine blk_drewN ?_ _ | refine blk_drew ?_ | refine blk_alloc ?_ _)); refine blk_put (cs := #[.int .i64 0, .int .i64 0, .int .i64 0, .int .i64 0, .int .i64 0, .int .i64 0, .int .i64 0, .int .i64 0, .int .i64 0]) ?_ 0 _ rfl; (with_reducible repeat (first | refine blk_far ?_ NB223_226.out _ | refine blk_drewN ?_ _ | refine blk_drew ?_ | refine blk_alloc ?_ _)); exact BK223.out) Try.underlying26 rfl (by kernel_rfl)) rfl ?_
    exact ⟨by first | rfl | (simp [errW_none, errW_some] <;> rfl) | (simp [*, errW_none, errW_some] <;> rfl), au14_6⟩

end Go.Proofs.Ytjnjcdaecdnkoaa.PMovingTells
