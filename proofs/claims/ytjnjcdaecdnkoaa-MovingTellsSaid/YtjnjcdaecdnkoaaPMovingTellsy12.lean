/- Functions that the law MovingTells reaches, and what their Go code computes. No condition. (Lines of a printed text, turned by this session.) -/
import Derived.Test.YtjnjcdaecdnkoaaX
import Derived.Test.YtjnjcdaecdnkoaaPMovingTellsz0
import Derived.Test.YtjnjcdaecdnkoaaPMovingTellsz11
namespace Go.Proofs.Ytjnjcdaecdnkoaa.PMovingTells
open Go.RowKit Go.Proofs.YtjnjcdaecdnkoaaW.PrintWords Go.Proofs.YtjnjcdaecdnkoaaW.PrintLast Go.Proofs.YtjnjcdaecdnkoaaW.PrintMore
attribute [local go_sem] max2_int min2_int max_two min_two max_three min_three max_four min_four   -- for this text's walks alone
set_option linter.unusedVariables false
set_option linter.unusedSimpArgs false
theorem au12_0 {p : Prop} (h : p := by (with_reducible repeat (first | refine blk_drewN ?_ _ | refine blk_drew ?_ | refine blk_alloc ?_ _)); exact BK195.out) : p := h
theorem au12_1 {p : Prop} (h : p := by repeat (first | (with_reducible first | exact HB.out | apply below_alloc | apply pw_below_drewN | apply below_drew1 | refine below_set ?_ GE195.out | refine below_set ?_ GE196.out | refine below_set ?_ GE197.out) | exact HB.out)) : p := h
theorem au12_2 {p : Prop} (h : p := by (with_reducible repeat (first | refine blk_drewN ?_ _ | refine blk_drew ?_ | refine blk_alloc ?_ _)); exact BK196.out) : p := h
theorem au12_3 {p : Prop} (h : p := by (with_reducible repeat (first | refine blk_drewN ?_ _ | refine blk_drew ?_ | refine blk_alloc ?_ _)); exact BK197.out) : p := h
theorem au12_4 {p : Prop} (h : p := by rw [hg]; exact Nat.ne_of_lt (blk_lt (g := gb195) (o := .cells #[.int .i64 a0_0, .int .i64 a0_1, .int .i64 a0_2, .int .i64 a0_3, .int .i64 a0_4, .int .i64 a0_5, .int .i64 a0_6, .int .i64 a0_7, .int .i64 a0_8] 26 (0, 0)) au12_0)) : p := h
theorem au12_5 {p : Prop} (h : p := by rw [hg]; exact Nat.ne_of_gt (blk_lt (g := gb195) (o := .cells #[.int .i64 a0_0, .int .i64 a0_1, .int .i64 a0_2, .int .i64 a0_3, .int .i64 a0_4, .int .i64 a0_5, .int .i64 a0_6, .int .i64 a0_7, .int .i64 a0_8] 26 (0, 0)) au12_0)) : p := h
theorem au12_6 {p : Prop} (h : p := by repeat (first | (with_reducible first | exact HB.out | apply below_alloc | apply pw_below_drewN | apply below_drew1 | refine below_set ?_ GE195.out | refine below_set ?_ GE196.out | refine below_set ?_ GE197.out | refine below_set ?_ GE200.out) | exact HB.out)) : p := h
theorem au12_7 {p : Prop} (h : p := by (try simp only [List.map_toArray, List.map_cons, List.map_nil]); first | done | rfl | (simp only [List.length_drop, List.length_take]; rfl)) : p := h
theorem au12_8 {p : Prop} (h : p := by rw [hg]; exact Nat.ne_of_lt (blk_lt (g := gb197) (o := .cells #[.int .i64 0, .int .i64 0, .int .i64 0, .int .i64 0, .int .i64 0, .int .i64 0, .int .i64 0, .int .i64 0, .int .i64 0] 26 (0, 0)) au12_3)) : p := h
theorem au12_9 {p : Prop} (h : p := by rw [hg]; exact Nat.ne_of_gt (blk_lt (g := gb197) (o := .cells #[.int .i64 0, .int .i64 0, .int .i64 0, .int .i64 0, .int .i64 0, .int .i64 0, .int .i64 0, .int .i64 0, .int .i64 0] 26 (0, 0)) au12_3)) : p := h
theorem au12_10 {p : Prop} (h : p := by repeat (first | (with_reducible first | exact HB.out | apply below_alloc | apply pw_below_drewN | apply below_drew1 | refine below_set ?_ GE195.out | refine below_set ?_ GE196.out) | exact HB.out)) : p := h
theorem au12_11 {p : Prop} (h : p := by rw [hg]; exact Nat.ne_of_lt (blk_lt (g := gb196) (o := .cells #[.int .i64 a1_0, .int .i64 a1_1, .bool a1_2] 28 (0, 0)) au12_2)) : p := h
theorem au12_12 {p : Prop} (h : p := by rw [hg]; exact Nat.ne_of_gt (blk_lt (g := gb196) (o := .cells #[.int .i64 a1_0, .int .i64 a1_1, .bool a1_2] 28 (0, 0)) au12_2)) : p := h
theorem au12_13 {p : Prop} (h : p := by repeat (first | (with_reducible first | exact HB.out | apply below_alloc | apply pw_below_drewN | apply below_drew1 | refine below_set ?_ GE195.out) | exact HB.out)) : p := h
theorem au12_14 {p : Prop} (h : p := by repeat (first | (with_reducible first | exact HB.out | apply below_alloc | apply pw_below_drewN | apply below_drew1) | exact HB.out)) : p := h
theorem au12_15 {p : Prop} (h : p := by (with_reducible repeat (first | refine blk_drewN ?_ _ | refine blk_drew ?_ | refine blk_alloc ?_ _)); exact BK200.out) : p := h
theorem au12_16 {p : Prop} (h : p := by simp only [putAll, Act.put, List.setIfInBounds_toArray, List.set_cons_zero, List.set_cons_succ]) : p := h
theorem au12_17 {p : Prop} (h : p := by rw [hg]; exact (below_size au12_1)) : p := h

/-! ### moving_Shoot: function 14 -/
def moving_Shoot.f (a0_0 : Int) (a0_1 : Int) (a0_2 : Int) (a0_3 : Int) (a0_4 : Int) (a0_5 : Int) (a0_6 : Int) (a0_7 : Int) (a0_8 : Int) (a1_0 : Int) (a1_1 : Int) (a1_2 : Bool) (a2 : Int) : Option (Int × Int × Int × Int × Int × Int × Int × Int × Int) := (moving_pace.f a1_0).bind fun t198 => ((moving_pace.f a1_1).bind fun t199 => (if t198 = 0 then (if t199 = 0 then (some (a2, 2, a0_2, a0_3, 160, t199, 1, 0, a0_0)) else (some (a2, 2, a0_2, a0_3, t198, t199, 1, 0, a0_0))) else (some (a2, 2, a0_2, a0_3, t198, t199, 1, 0, a0_0))))
def moving_Shoot.T1 : Bool × List (List Nat × List Nat) := (true, [([], []), ([], []), ([1], [1]), ([], []), ([3], [3]), ([], []), ([5], [5]), ([6], [6]), ([], []), ([8], [8]), ([9, 7], [9]), ([], []), ([11], [11]), ([0, 2, 4, 7, 10, 12], [0, 2, 4, 7, 10, 12]), ([], []), ([14, 13, 10, 0, 1, 2, 3, 4, 5, 6, 7, 8, 9, 10, 11, 12, 13, 14], [13, 14])])
def moving_Shoot.B1 : List Nat := [0, 0, 2, 0, 8, 0, 32, 96, 0, 256, 992, 0, 2048, 8191, 0, 32767]
theorem moving_Shoot.tab1 : rtab .any (opsOf Try.f14 1) = moving_Shoot.T1 := by kernel_rfl
theorem moving_Shoot.bits1 : waitsOk moving_Shoot.T1.2 moving_Shoot.B1 = true := by kernel_rfl
set_option maxHeartbeats 8000000 in
set_option maxRecDepth 100000 in
theorem moving_Shoot.calls (a0_0 : Int) (a0_1 : Int) (a0_2 : Int) (a0_3 : Int) (a0_4 : Int) (a0_5 : Int) (a0_6 : Int) (a0_7 : Int) (a0_8 : Int) (a1_0 : Int) (a1_1 : Int) (a1_2 : Bool) (a2 : Int) (r1 : Int) (r2 : Int) (r3 : Int) (r4 : Int) (r5 : Int) (r6 : Int) (r7 : Int) (r8 : Int) (r9 : Int) (w : World) (h : moving_Shoot.f a0_0 a0_1 a0_2 a0_3 a0_4 a0_5 a0_6 a0_7 a0_8 a1_0 a1_1 a1_2 a2 = some (r1, r2, r3, r4, r5, r6, r7, r8, r9)) :
    Calls Try.prog 14 #[.agg #[.int .i64 a0_0, .int .i64 a0_1, .int .i64 a0_2, .int .i64 a0_3, .int .i64 a0_4, .int .i64 a0_5, .int .i64 a0_6, .int .i64 a0_7, .int .i64 a0_8], .agg #[.int .i64 a1_0, .int .i64 a1_1, .bool a1_2], .int .i64 a2] w fun e w' => e = .returned (.agg #[.int .i64 r1, .int .i64 r2, .int .i64 r3, .int .i64 r4, .int .i64 r5, .int .i64 r6, .int .i64 r7, .int .i64 r8, .int .i64 r9]) ∧ Below w.heap.size w w' := by
  have hu26 := Try.underlying26
  have hu28 := Try.underlying28
  have HB := Aside0.mk (Below.refl w.heap.size w)
  have H : ((moving_pace.f a1_0).bind fun t198 => ((moving_pace.f a1_1).bind fun t199 => (if t198 = 0 then (if t199 = 0 then (some (a2, 2, a0_2, a0_3, 160, t199, 1, 0, a0_0)) else (some (a2, 2, a0_2, a0_3, t198, t199, 1, 0, a0_0))) else (some (a2, 2, a0_2, a0_3, t198, t199, 1, 0, a0_0))))) = some (r1, r2, r3, r4, r5, r6, r7, r8, r9) := h
  clear h
  replace H := Option.bind_eq_some_iff.mp H
  obtain ⟨t198, A40, H⟩ := H
  (try dsimp -simprocs only at H)
  have A4 := Aside0.mk A40
  clear A40
  replace H := Option.bind_eq_some_iff.mp H
  obtain ⟨t199, A50, H⟩ := H
  (try dsimp -simprocs only at H)
  have A5 := Aside0.mk A50
  clear A50
  by_cases c6 : t198 = 0
  · rw [if_pos c6] at H
    have c6b0 : (t198 == 0) = true := beq_iff_eq.mpr c6
    have c6b1 : (t198 != 0) = false := bne_eq_false_iff_eq.mpr c6
    clear c6
    by_cases c7 : t199 = 0
    · rw [if_pos c7] at H
      have c7b0 : (t199 == 0) = true := beq_iff_eq.mpr c7
      have c7b1 : (t199 != 0) = false := bne_eq_false_iff_eq.mpr c7
      clear c7
      simp only [Option.some.injEq, Prod.mk.injEq] at H
      obtain ⟨rfl, rfl, rfl, rfl, rfl, rfl, rfl, rfl, rfl⟩ := H
      go_enter Try.func14, Try.ntmps14
      try go_wp2_with (first | ((with_reducible refine gate_dst (N := 3) rfl ?_); refine box_event ?hg (N := 3) ?hd (cs := #[.int .i64 a0_0, .int .i64 a0_1, .int .i64 a0_2, .int .i64 a0_3, .int .i64 a0_4, .int .i64 a0_5, .int .i64 a0_6, .int .i64 a0_7, .int .i64 a0_8]) (t := 26) ?hr ?_; (case hd => rfl); (case hg => rfl); (case hr => first | (go_simp; done) | (go_simp; rfl)); intro gb195 hg w8 hbox hb; have n0_ := Aside0.mk (below_step au12_14 hb); have n1_ := Aside0.mk (hbox); have n2_ := Aside0.mk ((by rw [hg]; exact (below_size au12_14) : w.heap.size ≤ gb195)); have n3_ := Aside0.mk ((by rw [hg]; exact (below_size au12_14) : w.heap.size ≤ gb195)); clear HB; have HB := n0_; have BK195 := n1_; have GW195 := n2_; have GE195 := n3_; clear n0_ n1_ n2_ n3_; clear hb hbox hg) | ((with_reducible refine gate_dst (N := 4) rfl ?_); refine box_event ?hg (N := 4) ?hd (cs := #[.int .i64 a1_0, .int .i64 a1_1, .bool a1_2]) (t := 28) ?hr ?_; (case hd => rfl); (case hg => rfl); (case hr => first | (go_simp; done) | (go_simp; rfl)); intro gb196 hg w9 hbox hb; have n0_ := Aside0.mk (blk_below (g := gb195) (o := .cells #[.int .i64 a0_0, .int .i64 a0_1, .int .i64 a0_2, .int .i64 a0_3, .int .i64 a0_4, .int .i64 a0_5, .int .i64 a0_6, .int .i64 a0_7, .int .i64 a0_8] 26 (0, 0)) au12_0 hb); have n1_ := Aside0.mk (below_step au12_13 hb); have n2_ := Aside0.mk (hbox); have n3_ := Aside0.mk ((by rw [hg]; exact (below_size au12_13) : w.heap.size ≤ gb196)); have n4_ := Aside0.mk ((by rw [hg]; exact (below_size au12_13) : w.heap.size ≤ gb196)); have n5_ := Aside0.mk ((au12_4 : gb195 ≠ gb196)); have n6_ := Aside0.mk ((au12_5 : gb196 ≠ gb195)); clear BK195; clear HB; have BK195 := n0_; have HB := n1_; have BK196 := n2_; have GW196 := n3_; have GE196 := n4_; have NB195_196 := n5_; have NB196_195 := n6_; clear n0_ n1_ n2_ n3_ n4_ n5_ n6_; clear hb hbox hg) | ((with_reducible refine gate_dst (N := 6) rfl ?_); refine box_event ?hg (N := 6) ?hd (cs := #[.int .i64 0, .int .i64 0, .int .i64 0, .int .i64 0, .int .i64 0, .int .i64 0, .int .i64 0, .int .i64 0, .int .i64 0]) (t := 26) ?hr ?_; (case hd => rfl); (case hg => rfl); (case hr => first | (go_simp; done) | (go_simp; rfl)); intro gb197 hg w10 hbox hb; have n0_ := Aside0.mk (blk_below (g := gb195) (o := .cells #[.int .i64 a0_0, .int .i64 a0_1, .int .i64 a0_2, .int .i64 a0_3, .int .i64 a0_4, .int .i64 a0_5, .int .i64 a0_6, .int .i64 a0_7, .int .i64 a0_8] 26 (0, 0)) au12_0 hb); have n1_ := Aside0.mk (blk_below (g := gb196) (o := .cells #[.int .i64 a1_0, .int .i64 a1_1, .bool a1_2] 28 (0, 0)) au12_2 hb); have n2_ := Aside0.mk (below_step au12_10 hb); have n3_ := Aside0.mk (hbox); have n4_ := Aside0.mk ((by rw [hg]; exact (below_size au12_10) : w.heap.size ≤ gb197)); have n5_ := Aside0.mk ((by rw [hg]; exact (below_size au12_10) : w.heap.size ≤ gb197)); have n6_ := Aside0.mk ((au12_4 : gb195 ≠ gb197)); have n7_ := Aside0.mk ((au12_5 : gb197 ≠ gb195)); have n8_ := Aside0.mk ((au12_11 : gb196 ≠ gb197)); have n9_ := Aside0.mk ((au12_12 : gb197 ≠ gb196)); clear BK195; clear BK196; clear HB; have BK195 := n0_; have BK196 := n1_; have HB := n2_; have BK197 := n3_; have GW197 := n4_; have GE197 := n5_; have NB195_197 := n6_; have NB197_195 := n7_; have NB196_197 := n8_; have NB197_196 := n9_; clear n0_ n1_ n2_ n3_ n4_ n5_ n6_ n7_ n8_ n9_; clear hb hbox hg))
      have n0_ := Aside0.mk (blk_drew BK195.out)
      have n1_ := Aside0.mk (blk_drew BK196.out)
      have n2_ := Aside0.mk (blk_drew BK197.out)
      have n3_ := Aside0.mk (below_drew1 HB.out)
      clear BK195
      clear BK196
      clear BK197
      clear HB
      have BK195 := n0_
      have BK196 := n1_
      have BK197 := n2_
      have HB := n3_
      clear n0_ n1_ n2_ n3_
      refine start_ (n := 16) (S := fun w' => w'.cell? ⟨gb195, 0, none⟩ = some (.int .i64 a0_0) ∧ w'.cell? ⟨gb195, 1, none⟩ = some (.int .i64 a0_1) ∧ w'.cell? ⟨gb195, 2, none⟩ = some (.int .i64 a0_2) ∧ w'.cell? ⟨gb195, 3, none⟩ = some (.int .i64 a0_3) ∧ w'.cell? ⟨gb195, 4, none⟩ = some (.int .i64 a0_4) ∧ w'.cell? ⟨gb195, 5, none⟩ = some (.int .i64 a0_5) ∧ w'.cell? ⟨gb195, 6, none⟩ = some (.int .i64 a0_6) ∧ w'.cell? ⟨gb195, 7, none⟩ = some (.int .i64 a0_7) ∧ w'.cell? ⟨gb195, 8, none⟩ = some (.int .i64 a0_8) ∧ w'.cell? ⟨gb196, 0, none⟩ = some (.int .i64 a1_0) ∧ w'.cell? ⟨gb196, 1, none⟩ = some (.int .i64 a1_1) ∧ w'.cell? ⟨gb196, 2, none⟩ = some (.bool a1_2)) (ds := []) #[false, false, false, false, false, false, false, false, false, false, false, false, false, false, false, false] (by kernel_rfl) rfl rfl ⟨(blk_cell BK195.out 0).trans rfl, (blk_cell BK195.out 1).trans rfl, (blk_cell BK195.out 2).trans rfl, (blk_cell BK195.out 3).trans rfl, (blk_cell BK195.out 4).trans rfl, (blk_cell BK195.out 5).trans rfl, (blk_cell BK195.out 6).trans rfl, (blk_cell BK195.out 7).trans rfl, (blk_cell BK195.out 8).trans rfl, (blk_cell BK196.out 0).trans rfl, (blk_cell BK196.out 1).trans rfl, (blk_cell BK196.out 2).trans rfl⟩ (fun hHeld => ?_); refine with_tabW moving_Shoot.tab1 moving_Shoot.bits1 (fun HT_ HW_ => ?_)
      generalize w10.drew = w11 at BK195 BK196 BK197 HB hHeld ⊢
      refine pure_ (i := 0) (N := some 8) (v := ?_) (a' := ?_) #[true, false, false, false, false, false, false, false, false, false, false, false, false, false, false, false] rfl rfl (any_of HT_.out (by kernel_rfl)) (fun _ _ _ h => h) (Or.inl ⟨by rfl, ?_⟩) ?_ ?_
      rotate_left
      · intro w'
        go_simp
        with_reducible rfl
      rotate_left
      · simp only [Act.put, List.setIfInBounds_toArray, List.set_cons_zero, List.set_cons_succ, i64_w, i32_w]
        rfl
      refine pure_ (i := 1) (N := some 9) (v := ?_) (a' := ?_) #[true, true, false, false, false, false, false, false, false, false, false, false, false, false, false, false] rfl rfl (any_of HT_.out (by kernel_rfl)) (fun _ _ _ h => h) (Or.inl ⟨by rfl, ?_⟩) ?_ ?_
      rotate_left
      · intro w'
        go_simp
        with_reducible rfl
      rotate_left
      · simp only [Act.put, List.setIfInBounds_toArray, List.set_cons_zero, List.set_cons_succ, i64_w, i32_w]
        rfl
      refine pure_ (i := 3) (N := some 11) (v := ?_) (a' := ?_) #[true, true, false, true, false, false, false, false, false, false, false, false, false, false, false, false] rfl rfl (any_of HT_.out (by kernel_rfl)) (fun _ _ _ h => h) (Or.inl ⟨by rfl, ?_⟩) ?_ ?_
      rotate_left
      · intro w'
        go_simp
        with_reducible rfl
      rotate_left
      · simp only [Act.put, List.setIfInBounds_toArray, List.set_cons_zero, List.set_cons_succ, i64_w, i32_w]
        rfl
      refine pure_ (i := 5) (N := some 13) (v := ?_) (a' := ?_) #[true, true, false, true, false, true, false, false, false, false, false, false, false, false, false, false] rfl rfl (any_of HT_.out (by kernel_rfl)) (fun _ _ _ h => h) (Or.inl ⟨by rfl, ?_⟩) ?_ ?_
      rotate_left
      · intro w'
        go_simp
        with_reducible rfl
      rotate_left
      · simp only [Act.put, List.setIfInBounds_toArray, List.set_cons_zero, List.set_cons_succ, i64_w, i32_w]
        rfl
      refine pure_ (i := 8) (N := some 16) (v := ?_) (a' := ?_) #[true, true, false, true, false, true, false, false, true, false, false, false, false, false, false, false] rfl rfl (any_of HT_.out (by kernel_rfl)) (fun _ _ _ h => h) (Or.inl ⟨by rfl, ?_⟩) ?_ ?_
      rotate_left
      · intro w'
        go_simp
        with_reducible rfl
      rotate_left
      · simp only [Act.put, List.setIfInBounds_toArray, List.set_cons_zero, List.set_cons_succ, i64_w, i32_w]
        rfl
      refine pure_ (i := 11) (N := some 19) (v := ?_) (a' := ?_) #[true, true, false, true, false, true, false, false, true, false, false, true, false, false, false, false] rfl rfl (any_of HT_.out (by kernel_rfl)) (fun _ _ _ h => h) (Or.inl ⟨by rfl, ?_⟩) ?_ ?_
      rotate_left
      · intro w'
        go_simp
        with_reducible rfl
      rotate_left
      · simp only [Act.put, List.setIfInBounds_toArray, List.set_cons_zero, List.set_cons_succ, i64_w, i32_w]
        rfl
      refine take_ (i := 2) (N := some 10) (v := ?_) (a' := ?_) #[true, true, true, true, false, true, false, false, true, false, false, true, false, false, false, false] rfl rfl (take_ofW HT_.out HW_.out (by kernel_rfl)) (fun _ _ _ h => h) (Or.inl ⟨by rfl, ?_⟩) hHeld ?_ ?_
      rotate_left
      · rintro w' ⟨s0, s1, s2, s3, s4, s5, s6, s7, s8, s9, s10, s11⟩
        go_simp
        with_reducible rfl
      rotate_left
      · simp only [Act.put, List.setIfInBounds_toArray, List.set_cons_zero, List.set_cons_succ, i64_w, i32_w]
        rfl
      refine take_ (i := 4) (N := some 12) (v := ?_) (a' := ?_) #[true, true, true, true, true, true, false, false, true, false, false, true, false, false, false, false] rfl rfl (take_ofW HT_.out HW_.out (by kernel_rfl)) (fun _ _ _ h => h) (Or.inl ⟨by rfl, ?_⟩) hHeld ?_ ?_
      rotate_left
      · rintro w' ⟨s0, s1, s2, s3, s4, s5, s6, s7, s8, s9, s10, s11⟩
        go_simp
        with_reducible rfl
      rotate_left
      · simp only [Act.put, List.setIfInBounds_toArray, List.set_cons_zero, List.set_cons_succ, i64_w, i32_w]
        rfl
      refine take_ (i := 6) (N := some 14) (v := ?_) (a' := ?_) #[true, true, true, true, true, true, true, false, true, false, false, true, false, false, false, false] rfl rfl (take_ofW HT_.out HW_.out (by kernel_rfl)) (fun _ _ _ h => h) (Or.inl ⟨by rfl, ?_⟩) hHeld ?_ ?_
      rotate_left
      · rintro w' ⟨s0, s1, s2, s3, s4, s5, s6, s7, s8, s9, s10, s11⟩
        go_simp
        with_reducible rfl
      rotate_left
      · simp only [Act.put, List.setIfInBounds_toArray, List.set_cons_zero, List.set_cons_succ, i64_w, i32_w]
        rfl
      refine take_ (i := 9) (N := some 17) (v := ?_) (a' := ?_) #[true, true, true, true, true, true, true, false, true, true, false, true, false, false, false, false] rfl rfl (take_ofW HT_.out HW_.out (by kernel_rfl)) (fun _ _ _ h => h) (Or.inl ⟨by rfl, ?_⟩) hHeld ?_ ?_
      rotate_left
      · rintro w' ⟨s0, s1, s2, s3, s4, s5, s6, s7, s8, s9, s10, s11⟩
        go_simp
        with_reducible rfl
      rotate_left
      · simp only [Act.put, List.setIfInBounds_toArray, List.set_cons_zero, List.set_cons_succ, i64_w, i32_w]
        rfl
      refine take_ (i := 12) (N := some 20) (v := ?_) (a' := ?_) #[true, true, true, true, true, true, true, false, true, true, false, true, true, false, false, false] rfl rfl (take_ofW HT_.out HW_.out (by kernel_rfl)) (fun _ _ _ h => h) (Or.inl ⟨by rfl, ?_⟩) hHeld ?_ ?_
      rotate_left
      · rintro w' ⟨s0, s1, s2, s3, s4, s5, s6, s7, s8, s9, s10, s11⟩
        go_simp
        with_reducible rfl
      rotate_left
      · simp only [Act.put, List.setIfInBounds_toArray, List.set_cons_zero, List.set_cons_succ, i64_w, i32_w]
        rfl
      refine join_ (σ := Nat) 1 #[true, true, true, true, true, true, true, true, true, true, true, true, true, true, true, false] (fun s_ => [(15, .int .i64 t198), (18, .int .i64 t199), (7, .pointer (some ⟨s_, 0, none⟩)), (21, .agg #[.int .i64 a2, .int .i64 2, .int .i64 a0_2, .int .i64 a0_3, .int .i64 t198, .int .i64 t199, .int .i64 1, .int .i64 0, .int .i64 a0_0])]) (fun s_ w' => (w'.cell? ⟨gb195, 0, none⟩ = some (.int .i64 a0_0) ∧ w'.cell? ⟨gb195, 1, none⟩ = some (.int .i64 a0_1) ∧ w'.cell? ⟨gb195, 2, none⟩ = some (.int .i64 a0_2) ∧ w'.cell? ⟨gb195, 3, none⟩ = some (.int .i64 a0_3) ∧ w'.cell? ⟨gb195, 4, none⟩ = some (.int .i64 a0_4) ∧ w'.cell? ⟨gb195, 5, none⟩ = some (.int .i64 a0_5) ∧ w'.cell? ⟨gb195, 6, none⟩ = some (.int .i64 a0_6) ∧ w'.cell? ⟨gb195, 7, none⟩ = some (.int .i64 a0_7) ∧ w'.cell? ⟨gb195, 8, none⟩ = some (.int .i64 a0_8) ∧ w'.cell? ⟨gb196, 0, none⟩ = some (.int .i64 a1_0) ∧ w'.cell? ⟨gb196, 1, none⟩ = some (.int .i64 a1_1) ∧ w'.cell? ⟨gb196, 2, none⟩ = some (.bool a1_2)) ∧ (w'.heap[gb195]? = some (.cells #[.int .i64 a0_0, .int .i64 a0_1, .int .i64 a0_2, .int .i64 a0_3, .int .i64 a0_4, .int .i64 a0_5, .int .i64 a0_6, .int .i64 a0_7, .int .i64 a0_8] 26 (0, 0))) ∧ (w'.heap[gb196]? = some (.cells #[.int .i64 a1_0, .int .i64 a1_1, .bool a1_2] 28 (0, 0))) ∧ (w'.heap[gb197]? = some (.cells #[.int .i64 0, .int .i64 0, .int .i64 0, .int .i64 0, .int .i64 0, .int .i64 0, .int .i64 0, .int .i64 0, .int .i64 0] 26 (0, 0))) ∧ (w'.heap[s_]? = some (.cells #[.int .i64 0, .int .i64 0, .int .i64 0, .int .i64 0, .int .i64 0, .int .i64 0, .int .i64 0, .int .i64 0, .int .i64 0] 26 (0, 0))) ∧ (w.heap.size ≤ s_) ∧ (w.heap.size ≤ s_) ∧ (gb195 ≠ s_) ∧ (s_ ≠ gb195) ∧ (gb196 ≠ s_) ∧ (s_ ≠ gb196) ∧ (gb197 ≠ s_) ∧ (s_ ≠ gb197) ∧ (Below w.heap.size w w')) ?_ ?_
      rotate_left
      · intro hCont
        refine two_ (i := 7) (j := 14) (Ni := some 15) (Nj := some 7) #[true, true, true, true, true, true, true, true, true, true, false, true, true, false, false, false] #[true, true, true, true, true, true, true, false, true, true, false, true, true, false, true, false] rfl rfl rfl rfl (two_of HT_.out (by kernel_rfl)) (by decide) (by decide) (fun K hK => ?_) (fun K hK => ?_)
        · skip
          refine goes_ Try.func32 (by kernel_rfl) rfl #[.int .i64 a1_0] (by rfl) rfl rfl au12_7 ?_
          with_reducible refine (moving_pace.calls a1_0 t198 _ A4.out).mono ?_
          rintro e w' ⟨rfl, ⟨nd, rfl⟩⟩
          refine ⟨_, rfl, ?_⟩
          refine hK.out _ _ ⟨(blk_cell BK195.out 0).trans rfl, (blk_cell BK195.out 1).trans rfl, (blk_cell BK195.out 2).trans rfl, (blk_cell BK195.out 3).trans rfl, (blk_cell BK195.out 4).trans rfl, (blk_cell BK195.out 5).trans rfl, (blk_cell BK195.out 6).trans rfl, (blk_cell BK195.out 7).trans rfl, (blk_cell BK195.out 8).trans rfl, (blk_cell BK196.out 0).trans rfl, (blk_cell BK196.out 1).trans rfl, (blk_cell BK196.out 2).trans rfl⟩ (fun hHeld => ?_)
          clear hK K
          refine norm_ (a' := ?_) ?_ ?_
          rotate_left
          · show Act.put _ (some 15) _ = _
            simp only [Act.put, List.setIfInBounds_toArray, List.set_cons_zero, List.set_cons_succ, i64_w, i32_w]
            rfl
          refine two_ (i := 10) (j := 14) (Ni := some 18) (Nj := some 7) #[true, true, true, true, true, true, true, true, true, true, true, true, true, false, false, false] #[true, true, true, true, true, true, true, true, true, true, false, true, true, false, true, false] rfl rfl rfl rfl (two_of HT_.out (by kernel_rfl)) (by decide) (by decide) (fun K hK => ?_) (fun K hK => ?_)
          · skip
            refine goes_ Try.func32 (by kernel_rfl) rfl #[.int .i64 a1_1] (by rfl) rfl rfl au12_7 ?_
            with_reducible refine (moving_pace.calls a1_1 t199 _ A5.out).mono ?_
            rintro e w' ⟨rfl, ⟨nd, rfl⟩⟩
            refine ⟨_, rfl, ?_⟩
            refine hK.out _ _ ⟨(blk_cell BK195.out 0).trans rfl, (blk_cell BK195.out 1).trans rfl, (blk_cell BK195.out 2).trans rfl, (blk_cell BK195.out 3).trans rfl, (blk_cell BK195.out 4).trans rfl, (blk_cell BK195.out 5).trans rfl, (blk_cell BK195.out 6).trans rfl, (blk_cell BK195.out 7).trans rfl, (blk_cell BK195.out 8).trans rfl, (blk_cell BK196.out 0).trans rfl, (blk_cell BK196.out 1).trans rfl, (blk_cell BK196.out 2).trans rfl⟩ (fun hHeld => ?_)
            clear hK K
            refine norm_ (a' := ?_) ?_ ?_
            rotate_left
            · show Act.put _ (some 18) _ = _
              simp only [Act.put, List.setIfInBounds_toArray, List.set_cons_zero, List.set_cons_succ, i64_w, i32_w]
              rfl
            refine pure_ (i := 13) (N := some 21) (v := ?_) (a' := ?_) #[true, true, true, true, true, true, true, true, true, true, true, true, true, true, false, false] rfl rfl (any_of HT_.out (by kernel_rfl)) (fun _ _ _ h => h) (Or.inl ⟨by rfl, ?_⟩) ?_ ?_
            rotate_left
            · intro w'
              go_simp
              with_reducible rfl
            rotate_left
            · simp only [Act.put, List.setIfInBounds_toArray, List.set_cons_zero, List.set_cons_succ, i64_w, i32_w]
              rfl
            refine one_ (i := 14) (N := some 7) #[true, true, true, true, true, true, true, true, true, true, true, true, true, true, true, false] rfl rfl (one_of HT_.out (by kernel_rfl)) (by decide) (fun K hK => ?_)
            refine box_step ?hg (N := 7) ?hd (cs := #[.int .i64 0, .int .i64 0, .int .i64 0, .int .i64 0, .int .i64 0, .int .i64 0, .int .i64 0, .int .i64 0, .int .i64 0]) (t := 26) ?hr ?_; (case hd => rfl); (case hg => rfl); (case hr => first | (go_simp; done) | (go_simp; rfl))
            intro gb200 hg w12 hbox hb
            have n0_ := Aside0.mk (blk_below (g := gb195) (o := .cells #[.int .i64 a0_0, .int .i64 a0_1, .int .i64 a0_2, .int .i64 a0_3, .int .i64 a0_4, .int .i64 a0_5, .int .i64 a0_6, .int .i64 a0_7, .int .i64 a0_8] 26 (0, 0)) au12_0 hb)
            have n1_ := Aside0.mk (blk_below (g := gb196) (o := .cells #[.int .i64 a1_0, .int .i64 a1_1, .bool a1_2] 28 (0, 0)) au12_2 hb)
            have n2_ := Aside0.mk (blk_below (g := gb197) (o := .cells #[.int .i64 0, .int .i64 0, .int .i64 0, .int .i64 0, .int .i64 0, .int .i64 0, .int .i64 0, .int .i64 0, .int .i64 0] 26 (0, 0)) au12_3 hb)
            have n3_ := Aside0.mk (below_step au12_1 hb)
            have n4_ := Aside0.mk (hbox)
            have n5_ := Aside0.mk ((au12_17 : w.heap.size ≤ gb200))
            have n6_ := Aside0.mk ((au12_17 : w.heap.size ≤ gb200))
            have n7_ := Aside0.mk ((au12_4 : gb195 ≠ gb200))
            have n8_ := Aside0.mk ((au12_5 : gb200 ≠ gb195))
            have n9_ := Aside0.mk ((au12_11 : gb196 ≠ gb200))
            have n10_ := Aside0.mk ((au12_12 : gb200 ≠ gb196))
            have n11_ := Aside0.mk ((au12_8 : gb197 ≠ gb200))
            have n12_ := Aside0.mk ((au12_9 : gb200 ≠ gb197))
            clear BK195
            clear BK196
            clear BK197
            clear HB
            have BK195 := n0_
            have BK196 := n1_
            have BK197 := n2_
            have HB := n3_
            have BK200 := n4_
            have GW200 := n5_
            have GE200 := n6_
            have NB195_200 := n7_
            have NB200_195 := n8_
            have NB196_200 := n9_
            have NB200_196 := n10_
            have NB197_200 := n11_
            have NB200_197 := n12_
            clear n0_ n1_ n2_ n3_ n4_ n5_ n6_ n7_ n8_ n9_ n10_ n11_ n12_
            clear hb hbox hg
            refine hK.out _ _ ⟨(blk_cell BK195.out 0).trans rfl, (blk_cell BK195.out 1).trans rfl, (blk_cell BK195.out 2).trans rfl, (blk_cell BK195.out 3).trans rfl, (blk_cell BK195.out 4).trans rfl, (blk_cell BK195.out 5).trans rfl, (blk_cell BK195.out 6).trans rfl, (blk_cell BK195.out 7).trans rfl, (blk_cell BK195.out 8).trans rfl, (blk_cell BK196.out 0).trans rfl, (blk_cell BK196.out 1).trans rfl, (blk_cell BK196.out 2).trans rfl⟩ (fun hHeld => ?_)
            clear hK K
            refine norm_ (a' := ?_) ?_ ?_
            rotate_left
            · show Act.put _ (some 7) _ = _
              simp only [Act.put, List.setIfInBounds_toArray, List.set_cons_zero, List.set_cons_succ, i64_w, i32_w]
              rfl
            exact norm_ au12_16 (hCont (gb200) _ ⟨hHeld, au12_0, au12_2, au12_3, au12_15, GW200.out, GE200.out, NB195_200.out, NB200_195.out, NB196_200.out, NB200_196.out, NB197_200.out, NB200_197.out, au12_6⟩)
          · skip
            refine box_step ?hg (N := 7) ?hd (cs := #[.int .i64 0, .int .i64 0, .int .i64 0, .int .i64 0, .int .i64 0, .int .i64 0, .int .i64 0, .int .i64 0, .int .i64 0]) (t := 26) ?hr ?_; (case hd => rfl); (case hg => rfl); (case hr => first | (go_simp; done) | (go_simp; rfl))
            intro gb200 hg w12 hbox hb
            have n0_ := Aside0.mk (blk_below (g := gb195) (o := .cells #[.int .i64 a0_0, .int .i64 a0_1, .int .i64 a0_2, .int .i64 a0_3, .int .i64 a0_4, .int .i64 a0_5, .int .i64 a0_6, .int .i64 a0_7, .int .i64 a0_8] 26 (0, 0)) au12_0 hb)
            have n1_ := Aside0.mk (blk_below (g := gb196) (o := .cells #[.int .i64 a1_0, .int .i64 a1_1, .bool a1_2] 28 (0, 0)) au12_2 hb)
            have n2_ := Aside0.mk (blk_below (g := gb197) (o := .cells #[.int .i64 0, .int .i64 0, .int .i64 0, .int .i64 0, .int .i64 0, .int .i64 0, .int .i64 0, .int .i64 0, .int .i64 0] 26 (0, 0)) au12_3 hb)
            have n3_ := Aside0.mk (below_step au12_1 hb)
            have n4_ := Aside0.mk (hbox)
            have n5_ := Aside0.mk ((au12_17 : w.heap.size ≤ gb200))
            have n6_ := Aside0.mk ((au12_17 : w.heap.size ≤ gb200))
            have n7_ := Aside0.mk ((au12_4 : gb195 ≠ gb200))
            have n8_ := Aside0.mk ((au12_5 : gb200 ≠ gb195))
            have n9_ := Aside0.mk ((au12_11 : gb196 ≠ gb200))
            have n10_ := Aside0.mk ((au12_12 : gb200 ≠ gb196))
            have n11_ := Aside0.mk ((au12_8 : gb197 ≠ gb200))
            have n12_ := Aside0.mk ((au12_9 : gb200 ≠ gb197))
            clear BK195
            clear BK196
            clear BK197
            clear HB
            have BK195 := n0_
            have BK196 := n1_
            have BK197 := n2_
            have HB := n3_
            have BK200 := n4_
            have GW200 := n5_
            have GE200 := n6_
            have NB195_200 := n7_
            have NB200_195 := n8_
            have NB196_200 := n9_
            have NB200_196 := n10_
            have NB197_200 := n11_
            have NB200_197 := n12_
            clear n0_ n1_ n2_ n3_ n4_ n5_ n6_ n7_ n8_ n9_ n10_ n11_ n12_
            clear hb hbox hg
            refine hK.out _ _ ⟨(blk_cell BK195.out 0).trans rfl, (blk_cell BK195.out 1).trans rfl, (blk_cell BK195.out 2).trans rfl, (blk_cell BK195.out 3).trans rfl, (blk_cell BK195.out 4).trans rfl, (blk_cell BK195.out 5).trans rfl, (blk_cell BK195.out 6).trans rfl, (blk_cell BK195.out 7).trans rfl, (blk_cell BK195.out 8).trans rfl, (blk_cell BK196.out 0).trans rfl, (blk_cell BK196.out 1).trans rfl, (blk_cell BK196.out 2).trans rfl⟩ (fun hHeld => ?_)
            clear hK K
            refine norm_ (a' := ?_) ?_ ?_
            rotate_left
            · show Act.put _ (some 7) _ = _
              simp only [Act.put, List.setIfInBounds_toArray, List.set_cons_zero, List.set_cons_succ, i64_w, i32_w]
              rfl
            refine one_ (i := 10) (N := some 18) #[true, true, true, true, true, true, true, true, true, true, true, true, true, false, true, false] rfl rfl (one_of HT_.out (by kernel_rfl)) (by decide) (fun K hK => ?_)
            refine goes_ Try.func32 (by kernel_rfl) rfl #[.int .i64 a1_1] (by rfl) rfl rfl au12_7 ?_
            with_reducible refine (moving_pace.calls a1_1 t199 _ A5.out).mono ?_
            rintro e w' ⟨rfl, ⟨nd, rfl⟩⟩
            refine ⟨_, rfl, ?_⟩
            refine hK.out _ _ ⟨(blk_cell BK195.out 0).trans rfl, (blk_cell BK195.out 1).trans rfl, (blk_cell BK195.out 2).trans rfl, (blk_cell BK195.out 3).trans rfl, (blk_cell BK195.out 4).trans rfl, (blk_cell BK195.out 5).trans rfl, (blk_cell BK195.out 6).trans rfl, (blk_cell BK195.out 7).trans rfl, (blk_cell BK195.out 8).trans rfl, (blk_cell BK196.out 0).trans rfl, (blk_cell BK196.out 1).trans rfl, (blk_cell BK196.out 2).trans rfl⟩ (fun hHeld => ?_)
            clear hK K
            refine norm_ (a' := ?_) ?_ ?_
            rotate_left
            · show Act.put _ (some 18) _ = _
              simp only [Act.put, List.setIfInBounds_toArray, List.set_cons_zero, List.set_cons_succ, i64_w, i32_w]
              rfl
            refine pure_ (i := 13) (N := some 21) (v := ?_) (a' := ?_) #[true, true, true, true, true, true, true, true, true, true, true, true, true, true, true, false] rfl rfl (any_of HT_.out (by kernel_rfl)) (fun _ _ _ h => h) (Or.inl ⟨by rfl, ?_⟩) ?_ ?_
            rotate_left
            · intro w'
              go_simp
              with_reducible rfl
            rotate_left
            · simp only [Act.put, List.setIfInBounds_toArray, List.set_cons_zero, List.set_cons_succ, i64_w, i32_w]
              rfl
            exact norm_ au12_16 (hCont (gb200) _ ⟨hHeld, au12_0, au12_2, au12_3, au12_15, GW200.out, GE200.out, NB195_200.out, NB200_195.out, NB196_200.out, NB200_196.out, NB197_200.out, NB200_197.out, au12_6⟩)
        · skip
          refine box_step ?hg (N := 7) ?hd (cs := #[.int .i64 0, .int .i64 0, .int .i64 0, .int .i64 0, .int .i64 0, .int .i64 0, .int .i64 0, .int .i64 0, .int .i64 0]) (t := 26) ?hr ?_; (case hd => rfl); (case hg => rfl); (case hr => first | (go_simp; done) | (go_simp; rfl))
          intro gb200 hg w12 hbox hb
          have n0_ := Aside0.mk (blk_below (g := gb195) (o := .cells #[.int .i64 a0_0, .int .i64 a0_1, .int .i64 a0_2, .int .i64 a0_3, .int .i64 a0_4, .int .i64 a0_5, .int .i64 a0_6, .int .i64 a0_7, .int .i64 a0_8] 26 (0, 0)) au12_0 hb)
          have n1_ := Aside0.mk (blk_below (g := gb196) (o := .cells #[.int .i64 a1_0, .int .i64 a1_1, .bool a1_2] 28 (0, 0)) au12_2 hb)
          have n2_ := Aside0.mk (blk_below (g := gb197) (o := .cells #[.int .i64 0, .int .i64 0, .int .i64 0, .int .i64 0, .int .i64 0, .int .i64 0, .int .i64 0, .int .i64 0, .int .i64 0] 26 (0, 0)) au12_3 hb)
          have n3_ := Aside0.mk (below_step au12_1 hb)
          have n4_ := Aside0.mk (hbox)
          have n5_ := Aside0.mk ((au12_17 : w.heap.size ≤ gb200))
          have n6_ := Aside0.mk ((au12_17 : w.heap.size ≤ gb200))
          have n7_ := Aside0.mk ((au12_4 : gb195 ≠ gb200))
          have n8_ := Aside0.mk ((au12_5 : gb200 ≠ gb195))
          have n9_ := Aside0.mk ((au12_11 : gb196 ≠ gb200))
          have n10_ := Aside0.mk ((au12_12 : gb200 ≠ gb196))
          have n11_ := Aside0.mk ((au12_8 : gb197 ≠ gb200))
          have n12_ := Aside0.mk ((au12_9 : gb200 ≠ gb197))
          clear BK195
          clear BK196
          clear BK197
          clear HB
          have BK195 := n0_
          have BK196 := n1_
          have BK197 := n2_
          have HB := n3_
          have BK200 := n4_
          have GW200 := n5_
          have GE200 := n6_
          have NB195_200 := n7_
          have NB200_195 := n8_
          have NB196_200 := n9_
          have NB200_196 := n10_
          have NB197_200 := n11_
          have NB200_197 := n12_
          clear n0_ n1_ n2_ n3_ n4_ n5_ n6_ n7_ n8_ n9_ n10_ n11_ n12_
          clear hb hbox hg
          refine hK.out _ _ ⟨(blk_cell BK195.out 0).trans rfl, (blk_cell BK195.out 1).trans rfl, (blk_cell BK195.out 2).trans rfl, (blk_cell BK195.out 3).trans rfl, (blk_cell BK195.out 4).trans rfl, (blk_cell BK195.out 5).trans rfl, (blk_cell BK195.out 6).trans rfl, (blk_cell BK195.out 7).trans rfl, (blk_cell BK195.out 8).trans rfl, (blk_cell BK196.out 0).trans rfl, (blk_cell BK196.out 1).trans rfl, (blk_cell BK196.out 2).trans rfl⟩ (fun hHeld => ?_)
          clear hK K
          refine norm_ (a' := ?_) ?_ ?_
          rotate_left
          · show Act.put _ (some 7) _ = _
            simp only [Act.put, List.setIfInBounds_toArray, List.set_cons_zero, List.set_cons_succ, i64_w, i32_w]
            rfl
          refine one_ (i := 7) (N := some 15) #[true, true, true, true, true, true, true, true, true, true, false, true, true, false, true, false] rfl rfl (one_of HT_.out (by kernel_rfl)) (by decide) (fun K hK => ?_)
          refine goes_ Try.func32 (by kernel_rfl) rfl #[.int .i64 a1_0] (by rfl) rfl rfl au12_7 ?_
          with_reducible refine (moving_pace.calls a1_0 t198 _ A4.out).mono ?_
          rintro e w' ⟨rfl, ⟨nd, rfl⟩⟩
          refine ⟨_, rfl, ?_⟩
          refine hK.out _ _ ⟨(blk_cell BK195.out 0).trans rfl, (blk_cell BK195.out 1).trans rfl, (blk_cell BK195.out 2).trans rfl, (blk_cell BK195.out 3).trans rfl, (blk_cell BK195.out 4).trans rfl, (blk_cell BK195.out 5).trans rfl, (blk_cell BK195.out 6).trans rfl, (blk_cell BK195.out 7).trans rfl, (blk_cell BK195.out 8).trans rfl, (blk_cell BK196.out 0).trans rfl, (blk_cell BK196.out 1).trans rfl, (blk_cell BK196.out 2).trans rfl⟩ (fun hHeld => ?_)
          clear hK K
          refine norm_ (a' := ?_) ?_ ?_
          rotate_left
          · show Act.put _ (some 15) _ = _
            simp only [Act.put, List.setIfInBounds_toArray, List.set_cons_zero, List.set_cons_succ, i64_w, i32_w]
            rfl
          refine one_ (i := 10) (N := some 18) #[true, true, true, true, true, true, true, true, true, true, true, true, true, false, true, false] rfl rfl (one_of HT_.out (by kernel_rfl)) (by decide) (fun K hK => ?_)
          refine goes_ Try.func32 (by kernel_rfl) rfl #[.int .i64 a1_1] (by rfl) rfl rfl au12_7 ?_
          with_reducible refine (moving_pace.calls a1_1 t199 _ A5.out).mono ?_
          rintro e w' ⟨rfl, ⟨nd, rfl⟩⟩
          refine ⟨_, rfl, ?_⟩
          refine hK.out _ _ ⟨(blk_cell BK195.out 0).trans rfl, (blk_cell BK195.out 1).trans rfl, (blk_cell BK195.out 2).trans rfl, (blk_cell BK195.out 3).trans rfl, (blk_cell BK195.out 4).trans rfl, (blk_cell BK195.out 5).trans rfl, (blk_cell BK195.out 6).trans rfl, (blk_cell BK195.out 7).trans rfl, (blk_cell BK195.out 8).trans rfl, (blk_cell BK196.out 0).trans rfl, (blk_cell BK196.out 1).trans rfl, (blk_cell BK196.out 2).trans rfl⟩ (fun hHeld => ?_)
          clear hK K
          refine norm_ (a' := ?_) ?_ ?_
          rotate_left
          · show Act.put _ (some 18) _ = _
            simp only [Act.put, List.setIfInBounds_toArray, List.set_cons_zero, List.set_cons_succ, i64_w, i32_w]
            rfl
          refine pure_ (i := 13) (N := some 21) (v := ?_) (a' := ?_) #[true, true, true, true, true, true, true, true, true, true, true, true, true, true, true, false] rfl rfl (any_of HT_.out (by kernel_rfl)) (fun _ _ _ h => h) (Or.inl ⟨by rfl, ?_⟩) ?_ ?_
          rotate_left
          · intro w'
            go_simp
            with_reducible rfl
          rotate_left
          · simp only [Act.put, List.setIfInBounds_toArray, List.set_cons_zero, List.set_cons_succ, i64_w, i32_w]
            rfl
          exact norm_ au12_16 (hCont (gb200) _ ⟨hHeld, au12_0, au12_2, au12_3, au12_15, GW200.out, GE200.out, NB195_200.out, NB200_195.out, NB196_200.out, NB200_196.out, NB197_200.out, NB200_197.out, au12_6⟩)
      rintro gb200 w13 ⟨hS_, h0_, h1_, h2_, h3_, h4_, h5_, h6_, h7_, h8_, h9_, h10_, h11_, h12_⟩
      have n0_ : Aside0 (w13.heap[gb195]? = some (.cells #[.int .i64 a0_0, .int .i64 a0_1, .int .i64 a0_2, .int .i64 a0_3, .int .i64 a0_4, .int .i64 a0_5, .int .i64 a0_6, .int .i64 a0_7, .int .i64 a0_8] 26 (0, 0))) := ⟨h0_⟩
      have n1_ : Aside0 (w13.heap[gb196]? = some (.cells #[.int .i64 a1_0, .int .i64 a1_1, .bool a1_2] 28 (0, 0))) := ⟨h1_⟩
      have n2_ : Aside0 (w13.heap[gb197]? = some (.cells #[.int .i64 0, .int .i64 0, .int .i64 0, .int .i64 0, .int .i64 0, .int .i64 0, .int .i64 0, .int .i64 0, .int .i64 0] 26 (0, 0))) := ⟨h2_⟩
      have n3_ : Aside0 (w13.heap[gb200]? = some (.cells #[.int .i64 0, .int .i64 0, .int .i64 0, .int .i64 0, .int .i64 0, .int .i64 0, .int .i64 0, .int .i64 0, .int .i64 0] 26 (0, 0))) := ⟨h3_⟩
      have n4_ : Aside0 (w.heap.size ≤ gb200) := ⟨h4_⟩
      have n5_ : Aside0 (w.heap.size ≤ gb200) := ⟨h5_⟩
      have n6_ : Aside0 (gb195 ≠ gb200) := ⟨h6_⟩
      have n7_ : Aside0 (gb200 ≠ gb195) := ⟨h7_⟩
      have n8_ : Aside0 (gb196 ≠ gb200) := ⟨h8_⟩
      have n9_ : Aside0 (gb200 ≠ gb196) := ⟨h9_⟩
      have n10_ : Aside0 (gb197 ≠ gb200) := ⟨h10_⟩
      have n11_ : Aside0 (gb200 ≠ gb197) := ⟨h11_⟩
      have n12_ : Aside0 (Below w.heap.size w w13) := ⟨h12_⟩
      clear BK195
      clear BK196
      clear BK197
      clear HB
      clear h0_ h1_ h2_ h3_ h4_ h5_ h6_ h7_ h8_ h9_ h10_ h11_ h12_
      have BK195 := n0_
      have BK196 := n1_
      have BK197 := n2_
      have BK200 := n3_
      have GW200 := n4_
      have GE200 := n5_
      have NB195_200 := n6_
      have NB200_195 := n7_
      have NB196_200 := n8_
      have NB200_196 := n9_
      have NB197_200 := n10_
      have NB200_197 := n11_
      have HB := n12_
      clear n0_ n1_ n2_ n3_ n4_ n5_ n6_ n7_ n8_ n9_ n10_ n11_ n12_
      have hHeld : w13.cell? ⟨gb195, 0, none⟩ = some (.int .i64 a0_0) ∧ w13.cell? ⟨gb195, 1, none⟩ = some (.int .i64 a0_1) ∧ w13.cell? ⟨gb195, 2, none⟩ = some (.int .i64 a0_2) ∧ w13.cell? ⟨gb195, 3, none⟩ = some (.int .i64 a0_3) ∧ w13.cell? ⟨gb195, 4, none⟩ = some (.int .i64 a0_4) ∧ w13.cell? ⟨gb195, 5, none⟩ = some (.int .i64 a0_5) ∧ w13.cell? ⟨gb195, 6, none⟩ = some (.int .i64 a0_6) ∧ w13.cell? ⟨gb195, 7, none⟩ = some (.int .i64 a0_7) ∧ w13.cell? ⟨gb195, 8, none⟩ = some (.int .i64 a0_8) ∧ w13.cell? ⟨gb196, 0, none⟩ = some (.int .i64 a1_0) ∧ w13.cell? ⟨gb196, 1, none⟩ = some (.int .i64 a1_1) ∧ w13.cell? ⟨gb196, 2, none⟩ = some (.bool a1_2) := hS_
      refine norm_ (a' := ?_) ?_ ?_
      rotate_left
      · simp only [putAll, Act.put, List.setIfInBounds_toArray, List.set_cons_zero, List.set_cons_succ]
        rfl
      refine one_ (i := 15) (N := none) #[true, true, true, true, true, true, true, true, true, true, true, true, true, true, true, true] rfl rfl (one_of HT_.out (by kernel_rfl)) (by decide) (fun K hK => ?_)
      have hs14 : w13.cell? ⟨gb200, 0, none⟩ = some (.int .i64 0) := (blk_cell BK200.out 0).trans rfl
      have hfs14 := blk_frozen BK200.out 0
      have hns14_0 := NB195_200.out
      have hns14_1 := NB196_200.out
      have hns14_2 := NB197_200.out
      have hms14_0 := NB200_195.out
      have hms14_1 := NB200_196.out
      have hms14_2 := NB200_197.out
      have hs15 : w13.cell? ⟨gb200, 1, none⟩ = some (.int .i64 0) := (blk_cell BK200.out 1).trans rfl
      have hfs15 := blk_frozen BK200.out 1
      have hns15_0 := NB195_200.out
      have hns15_1 := NB196_200.out
      have hns15_2 := NB197_200.out
      have hms15_0 := NB200_195.out
      have hms15_1 := NB200_196.out
      have hms15_2 := NB200_197.out
      have hs16 : w13.cell? ⟨gb200, 2, none⟩ = some (.int .i64 0) := (blk_cell BK200.out 2).trans rfl
      have hfs16 := blk_frozen BK200.out 2
      have hns16_0 := NB195_200.out
      have hns16_1 := NB196_200.out
      have hns16_2 := NB197_200.out
      have hms16_0 := NB200_195.out
      have hms16_1 := NB200_196.out
      have hms16_2 := NB200_197.out
      have hs17 : w13.cell? ⟨gb200, 3, none⟩ = some (.int .i64 0) := (blk_cell BK200.out 3).trans rfl
      have hfs17 := blk_frozen BK200.out 3
      have hns17_0 := NB195_200.out
      have hns17_1 := NB196_200.out
      have hns17_2 := NB197_200.out
      have hms17_0 := NB200_195.out
      have hms17_1 := NB200_196.out
      have hms17_2 := NB200_197.out
      have hs18 : w13.cell? ⟨gb200, 4, none⟩ = some (.int .i64 0) := (blk_cell BK200.out 4).trans rfl
      have hfs18 := blk_frozen BK200.out 4
      have hns18_0 := NB195_200.out
      have hns18_1 := NB196_200.out
      have hns18_2 := NB197_200.out
      have hms18_0 := NB200_195.out
      have hms18_1 := NB200_196.out
      have hms18_2 := NB200_197.out
      have hs19 : w13.cell? ⟨gb200, 5, none⟩ = some (.int .i64 0) := (blk_cell BK200.out 5).trans rfl
      have hfs19 := blk_frozen BK200.out 5
      have hns19_0 := NB195_200.out
      have hns19_1 := NB196_200.out
      have hns19_2 := NB197_200.out
      have hms19_0 := NB200_195.out
      have hms19_1 := NB200_196.out
      have hms19_2 := NB200_197.out
      have hs20 : w13.cell? ⟨gb200, 6, none⟩ = some (.int .i64 0) := (blk_cell BK200.out 6).trans rfl
      have hfs20 := blk_frozen BK200.out 6
      have hns20_0 := NB195_200.out
      have hns20_1 := NB196_200.out
      have hns20_2 := NB197_200.out
      have hms20_0 := NB200_195.out
      have hms20_1 := NB200_196.out
      have hms20_2 := NB200_197.out
      have hs21 : w13.cell? ⟨gb200, 7, none⟩ = some (.int .i64 0) := (blk_cell BK200.out 7).trans rfl
      have hfs21 := blk_frozen BK200.out 7
      have hns21_0 := NB195_200.out
      have hns21_1 := NB196_200.out
      have hns21_2 := NB197_200.out
      have hms21_0 := NB200_195.out
      have hms21_1 := NB200_196.out
      have hms21_2 := NB200_197.out
      have hs22 : w13.cell? ⟨gb200, 8, none⟩ = some (.int .i64 0) := (blk_cell BK200.out 8).trans rfl
      have hfs22 := blk_frozen BK200.out 8
      have hns22_0 := NB195_200.out
      have hns22_1 := NB196_200.out
      have hns22_2 := NB197_200.out
      have hms22_0 := NB200_195.out
      have hms22_1 := NB200_196.out
      have hms22_2 := NB200_197.out
      refine skip_ (w1 := ?_) (by rfl) rfl ?_ ?_
      rotate_left
      · go_simp
        rfl
      refine hK.out _ _ ⟨((cell_far (p := ⟨gb200, _, none⟩) NB195_200.out _).trans (((cell_far (p := ⟨gb200, _, none⟩) NB195_200.out _).trans (((cell_far (p := ⟨gb200, _, none⟩) NB195_200.out _).trans (((cell_far (p := ⟨gb200, _, none⟩) NB195_200.out _).trans (((cell_far (p := ⟨gb200, _, none⟩) NB195_200.out _).trans (((cell_far (p := ⟨gb200, _, none⟩) NB195_200.out _).trans (((cell_far (p := ⟨gb200, _, none⟩) NB195_200.out _).trans (((cell_far (p := ⟨gb200, _, none⟩) NB195_200.out _).trans (((cell_far (p := ⟨gb200, _, none⟩) NB195_200.out _).trans (hHeld.1)))))))))))))))))), ((cell_far (p := ⟨gb200, _, none⟩) NB195_200.out _).trans (((cell_far (p := ⟨gb200, _, none⟩) NB195_200.out _).trans (((cell_far (p := ⟨gb200, _, none⟩) NB195_200.out _).trans (((cell_far (p := ⟨gb200, _, none⟩) NB195_200.out _).trans (((cell_far (p := ⟨gb200, _, none⟩) NB195_200.out _).trans (((cell_far (p := ⟨gb200, _, none⟩) NB195_200.out _).trans (((cell_far (p := ⟨gb200, _, none⟩) NB195_200.out _).trans (((cell_far (p := ⟨gb200, _, none⟩) NB195_200.out _).trans (((cell_far (p := ⟨gb200, _, none⟩) NB195_200.out _).trans (hHeld.2.1)))))))))))))))))), ((cell_far (p := ⟨gb200, _, none⟩) NB195_200.out _).trans (((cell_far (p := ⟨gb200, _, none⟩) NB195_200.out _).trans (((cell_far (p := ⟨gb200, _, none⟩) NB195_200.out _).trans (((cell_far (p := ⟨gb200, _, none⟩) NB195_200.out _).trans (((cell_far (p := ⟨gb200, _, none⟩) NB195_200.out _).trans (((cell_far (p := ⟨gb200, _, none⟩) NB195_200.out _).trans (((cell_far (p := ⟨gb200, _, none⟩) NB195_200.out _).trans (((cell_far (p := ⟨gb200, _, none⟩) NB195_200.out _).trans (((cell_far (p := ⟨gb200, _, none⟩) NB195_200.out _).trans (hHeld.2.2.1)))))))))))))))))), ((cell_far (p := ⟨gb200, _, none⟩) NB195_200.out _).trans (((cell_far (p := ⟨gb200, _, none⟩) NB195_200.out _).trans (((cell_far (p := ⟨gb200, _, none⟩) NB195_200.out _).trans (((cell_far (p := ⟨gb200, _, none⟩) NB195_200.out _).trans (((cell_far (p := ⟨gb200, _, none⟩) NB195_200.out _).trans (((cell_far (p := ⟨gb200, _, none⟩) NB195_200.out _).trans (((cell_far (p := ⟨gb200, _, none⟩) NB195_200.out _).trans (((cell_far (p := ⟨gb200, _, none⟩) NB195_200.out _).trans (((cell_far (p := ⟨gb200, _, none⟩) NB195_200.out _).trans (hHeld.2.2.2.1)))))))))))))))))), ((cell_far (p := ⟨gb200, _, none⟩) NB195_200.out _).trans (((cell_far (p := ⟨gb200, _, none⟩) NB195_200.out _).trans (((cell_far (p := ⟨gb200, _, none⟩) NB195_200.out _).trans (((cell_far (p := ⟨gb200, _, none⟩) NB195_200.out _).trans (((cell_far (p := ⟨gb200, _, none⟩) NB195_200.out _).trans (((cell_far (p := ⟨gb200, _, none⟩) NB195_200.out _).trans (((cell_far (p := ⟨gb200, _, none⟩) NB195_200.out _).trans (((cell_far (p := ⟨gb200, _, none⟩) NB195_200.out _).trans (((cell_far (p := ⟨gb200, _, none⟩) NB195_200.out _).trans (hHeld.2.2.2.2.1)))))))))))))))))), ((cell_far (p := ⟨gb200, _, none⟩) NB195_200.out _).trans (((cell_far (p := ⟨gb200, _, none⟩) NB195_200.out _).trans (((cell_far (p := ⟨gb200, _, none⟩) NB195_200.out _).trans (((cell_far (p := ⟨gb200, _, none⟩) NB195_200.out _).trans (((cell_far (p := ⟨gb200, _, none⟩) NB195_200.out _).trans (((cell_far (p := ⟨gb200, _, none⟩) NB195_200.out _).trans (((cell_far (p := ⟨gb200, _, none⟩) NB195_200.out _).trans (((cell_far (p := ⟨gb200, _, none⟩) NB195_200.out _).trans (((cell_far (p := ⟨gb200, _, none⟩) NB195_200.out _).trans (hHeld.2.2.2.2.2.1)))))))))))))))))), ((cell_far (p := ⟨gb200, _, none⟩) NB195_200.out _).trans (((cell_far (p := ⟨gb200, _, none⟩) NB195_200.out _).trans (((cell_far (p := ⟨gb200, _, none⟩) NB195_200.out _).trans (((cell_far (p := ⟨gb200, _, none⟩) NB195_200.out _).trans (((cell_far (p := ⟨gb200, _, none⟩) NB195_200.out _).trans (((cell_far (p := ⟨gb200, _, none⟩) NB195_200.out _).trans (((cell_far (p := ⟨gb200, _, none⟩) NB195_200.out _).trans (((cell_far (p := ⟨gb200, _, none⟩) NB195_200.out _).trans (((cell_far (p := ⟨gb200, _, none⟩) NB195_200.out _).trans (hHeld.2.2.2.2.2.2.1)))))))))))))))))), ((cell_far (p := ⟨gb200, _, none⟩) NB195_200.out _).trans (((cell_far (p := ⟨gb200, _, none⟩) NB195_200.out _).trans (((cell_far (p := ⟨gb200, _, none⟩) NB195_200.out _).trans (((cell_far (p := ⟨gb200, _, none⟩) NB195_200.out _).trans (((cell_far (p := ⟨gb200, _, none⟩) NB195_200.out _).trans (((cell_far (p := ⟨gb200, _, none⟩) NB195_200.out _).trans (((cell_far (p := ⟨gb200, _, none⟩) NB195_200.out _).trans (((cell_far (p := ⟨gb200, _, none⟩) NB195_200.out _).trans (((cell_far (p := ⟨gb200, _, none⟩) NB195_200.out _).trans (hHeld.2.2.2.2.2.2.2.1)))))))))))))))))), ((cell_far (p := ⟨gb200, _, none⟩) NB195_200.out _).trans (((cell_far (p := ⟨gb200, _, none⟩) NB195_200.out _).trans (((cell_far (p := ⟨gb200, _, none⟩) NB195_200.out _).trans (((cell_far (p := ⟨gb200, _, none⟩) NB195_200.out _).trans (((cell_far (p := ⟨gb200, _, none⟩) NB195_200.out _).trans (((cell_far (p := ⟨gb200, _, none⟩) NB195_200.out _).trans (((cell_far (p := ⟨gb200, _, none⟩) NB195_200.out _).trans (((cell_far (p := ⟨gb200, _, none⟩) NB195_200.out _).trans (((cell_far (p := ⟨gb200, _, none⟩) NB195_200.out _).trans (hHeld.2.2.2.2.2.2.2.2.1)))))))))))))))))), ((cell_far (p := ⟨gb200, _, none⟩) NB196_200.out _).trans (((cell_far (p := ⟨gb200, _, none⟩) NB196_200.out _).trans (((cell_far (p := ⟨gb200, _, none⟩) NB196_200.out _).trans (((cell_far (p := ⟨gb200, _, none⟩) NB196_200.out _).trans (((cell_far (p := ⟨gb200, _, none⟩) NB196_200.out _).trans (((cell_far (p := ⟨gb200, _, none⟩) NB196_200.out _).trans (((cell_far (p := ⟨gb200, _, none⟩) NB196_200.out _).trans (((cell_far (p := ⟨gb200, _, none⟩) NB196_200.out _).trans (((cell_far (p := ⟨gb200, _, none⟩) NB196_200.out _).trans (hHeld.2.2.2.2.2.2.2.2.2.1)))))))))))))))))), ((cell_far (p := ⟨gb200, _, none⟩) NB196_200.out _).trans (((cell_far (p := ⟨gb200, _, none⟩) NB196_200.out _).trans (((cell_far (p := ⟨gb200, _, none⟩) NB196_200.out _).trans (((cell_far (p := ⟨gb200, _, none⟩) NB196_200.out _).trans (((cell_far (p := ⟨gb200, _, none⟩) NB196_200.out _).trans (((cell_far (p := ⟨gb200, _, none⟩) NB196_200.out _).trans (((cell_far (p := ⟨gb200, _, none⟩) NB196_200.out _).trans (((cell_far (p := ⟨gb200, _, none⟩) NB196_200.out _).trans (((cell_far (p := ⟨gb200, _, none⟩) NB196_200.out _).trans (hHeld.2.2.2.2.2.2.2.2.2.2.1)))))))))))))))))), ((cell_far (p := ⟨gb200, _, none⟩) NB196_200.out _).trans (((cell_far (p := ⟨gb200, _, none⟩) NB196_200.out _).trans (((cell_far (p := ⟨gb200, _, none⟩) NB196_200.out _).trans (((cell_far (p := ⟨gb200, _, none⟩) NB196_200.out _).trans (((cell_far (p := ⟨gb200, _, none⟩) NB196_200.out _).trans (((cell_far (p := ⟨gb200, _, none⟩) NB196_200.out _).trans (((cell_far (p := ⟨gb200, _, none⟩) NB196_200.out _).trans (((cell_far (p := ⟨gb200, _, none⟩) NB196_200.out _).trans (((cell_far (p := ⟨gb200, _, none⟩) NB196_200.out _).trans (hHeld.2.2.2.2.2.2.2.2.2.2.2))))))))))))))))))⟩ (fun hHeld => ?_)
      clear hK K
      refine doneG_ (done_of HT_.out (by kernel_rfl)) (fun w' => Aside0 (w'.heap[gb200]? = some (.cells #[.int .i64 a2, .int .i64 2, .int .i64 a0_2, .int .i64 a0_3, .int .i64 t198, .int .i64 t199, .int .i64 1, .int .i64 0, .int .i64 a0_0] 26 (0, 0))) ∧ Aside0 (w'.heap[gb197]? = some (.cells #[.int .i64 0, .int .i64 0, .int .i64 0, .int .i64 0, .int .i64 0, .int .i64 0, .int .i64 0, .int .i64 0, .int .i64 0] 26 (0, 0))) ∧ Aside0 (Below w.heap.size w w')) ⟨⟨by refine blk_put (cs := #[.int .i64 a2, .int .i64 2, .int .i64 a0_2, .int .i64 a0_3, .int .i64 t198, .int .i64 t199, .int .i64 1, .int .i64 0, .int .i64 0]) ?_ 8 _ rfl; refine blk_put (cs := #[.int .i64 a2, .int .i64 2, .int .i64 a0_2, .int .i64 a0_3, .int .i64 t198, .int .i64 t199, .int .i64 1, .int .i64 0, .int .i64 0]) ?_ 7 _ rfl; refine blk_put (cs := #[.int .i64 a2, .int .i64 2, .int .i64 a0_2, .int .i64 a0_3, .int .i64 t198, .int .i64 t199, .int .i64 0, .int .i64 0, .int .i64 0]) ?_ 6 _ rfl; refine blk_put (cs := #[.int .i64 a2, .int .i64 2, .int .i64 a0_2, .int .i64 a0_3, .int .i64 t198, .int .i64 0, .int .i64 0, .int .i64 0, .int .i64 0]) ?_ 5 _ rfl; refine blk_put (cs := #[.int .i64 a2, .int .i64 2, .int .i64 a0_2, .int .i64 a0_3, .int .i64 0, .int .i64 0, .int .i64 0, .int .i64 0, .int .i64 0]) ?_ 4 _ rfl; refine blk_put (cs := #[.int .i64 a2, .int .i64 2, .int .i64 a0_2, .int .i64 0, .int .i64 0, .int .i64 0, .int .i64 0, .int .i64 0, .int .i64 0]) ?_ 3 _ rfl; refine blk_put (cs := #[.int .i64 a2, .int .i64 2, .int .i64 0, .int .i64 0, .int .i64 0, .int .i64 0, .int .i64 0, .int .i64 0, .int .i64 0]) ?_ 2 _ rfl; refine blk_put (cs := #[.int .i64 a2, .int .i64 0, .int .i64 0, .int .i64 0, .int .i64 0, .int .i64 0, .int .i64 0, .int .i64 0, .int .i64 0]) ?_ 1 _ rfl; refine blk_put (cs := #[.int .i64 0, .int .i64 0, .int .i64 0, .int .i64 0, .int .i64 0, .int .i64 0, .int .i64 0, .int .i64 0, .int .i64 0]) ?_ 0 _ rfl; (with_reducible repeat (first | refine blk_drewN ?_ _ | refine blk_drew ?_ | refine blk_alloc ?_ _)); exact BK200.out⟩, ⟨by (with_reducible repeat (first | refine blk_drewN ?_ _ | refine blk_drew ?_ | refine blk_alloc ?_ _ | refine blk_far ?_ NB197_200.out _)); exact BK197.out⟩, ⟨by repeat (first | (with_reducible first | exact HB.out | apply below_alloc | apply pw_below_drewN | apply below_drew1 | refine below_set ?_ GE200.out | refine below_set ?_ GE197.out) | exact HB.out)⟩⟩ ?_
      clear HB BK200 BK197
      rintro wG_ ⟨BK200, BK197, HB⟩
      have hnb23 := NB200_195.out
      have hnc23 := NB195_200.out
      have hnb24 := NB200_196.out
      have hnc24 := NB196_200.out
      have hnb25 := NB200_197.out
      have hnc25 := NB197_200.out
      have hcz26_0 : wG_.cell? ⟨gb200, 0, none⟩ = some (.int .i64 a2) := (blk_cell BK200.out 0).trans rfl
      have hcz26_1 : wG_.cell? ⟨gb200, 1, none⟩ = some (.int .i64 2) := (blk_cell BK200.out 1).trans rfl
      have hcz26_2 : wG_.cell? ⟨gb200, 2, none⟩ = some (.int .i64 a0_2) := (blk_cell BK200.out 2).trans rfl
      have hcz26_3 : wG_.cell? ⟨gb200, 3, none⟩ = some (.int .i64 a0_3) := (blk_cell BK200.out 3).trans rfl
      have hcz26_4 : wG_.cell? ⟨gb200, 4, none⟩ = some (.int .i64 t198) := (blk_cell BK200.out 4).trans rfl
      have hcz26_5 : wG_.cell? ⟨gb200, 5, none⟩ = some (.int .i64 t199) := (blk_cell BK200.out 5).trans rfl
      have hcz26_6 : wG_.cell? ⟨gb200, 6, none⟩ = some (.int .i64 1) := (blk_cell BK200.out 6).trans rfl
      have hcz26_7 : wG_.cell? ⟨gb200, 7, none⟩ = some (.int .i64 0) := (blk_cell BK200.out 7).trans rfl
      have hcz26_8 : wG_.cell? ⟨gb200, 8, none⟩ = some (.int .i64 a0_0) := (blk_cell BK200.out 8).trans rfl
      have hfz26_0 := blk_frozen BK200.out 0
      have hfz26_1 := blk_frozen BK200.out 1
      have hfz26_2 := blk_frozen BK200.out 2
      have hfz26_3 := blk_frozen BK200.out 3
      have hfz26_4 := blk_frozen BK200.out 4
      have hfz26_5 := blk_frozen BK200.out 5
      have hfz26_6 := blk_frozen BK200.out 6
      have hfz26_7 := blk_frozen BK200.out 7
      have hfz26_8 := blk_frozen BK200.out 8
      have hnb27 := NB197_195.out
      have hnc27 := NB195_197.out
      have hnb28 := NB197_196.out
      have hnc28 := NB196_197.out
      have hcz29_0 : wG_.cell? ⟨gb197, 0, none⟩ = some (.int .i64 0) := (blk_cell BK197.out 0).trans rfl
      have hcz29_1 : wG_.cell? ⟨gb197, 1, none⟩ = some (.int .i64 0) := (blk_cell BK197.out 1).trans rfl
      have hcz29_2 : wG_.cell? ⟨gb197, 2, none⟩ = some (.int .i64 0) := (blk_cell BK197.out 2).trans rfl
      have hcz29_3 : wG_.cell? ⟨gb197, 3, none⟩ = some (.int .i64 0) := (blk_cell BK197.out 3).trans rfl
      have hcz29_4 : wG_.cell? ⟨gb197, 4, none⟩ = some (.int .i64 0) := (blk_cell BK197.out 4).trans rfl
      have hcz29_5 : wG_.cell? ⟨gb197, 5, none⟩ = some (.int .i64 0) := (blk_cell BK197.out 5).trans rfl
      have hcz29_6 : wG_.cell? ⟨gb197, 6, none⟩ = some (.int .i64 0) := (blk_cell BK197.out 6).trans rfl
      have hcz29_7 : wG_.cell? ⟨gb197, 7, none⟩ = some (.int .i64 0) := (blk_cell BK197.out 7).trans rfl
      have hcz29_8 : wG_.cell? ⟨gb197, 8, none⟩ = some (.int .i64 0) := (blk_cell BK197.out 8).trans rfl
      have hfz29_0 := blk_frozen BK197.out 0
      have hfz29_1 := blk_frozen BK197.out 1
      have hfz29_2 := blk_frozen BK197.out 2
      have hfz29_3 := blk_frozen BK197.out 3
      have hfz29_4 := blk_frozen BK197.out 4
      have hfz29_5 := blk_frozen BK197.out 5
      have hfz29_6 := blk_frozen BK197.out 6
      have hfz29_7 := blk_frozen BK197.out 7
      have hfz29_8 := blk_frozen BK197.out 8
      try go_wp2
      refine bodyPost_ret (results_cell_row rfl _ _ gb197 26 #[.int .i64 a2, .int .i64 2, .int .i64 a0_2, .int .i64 a0_3, .int .i64 160, .int .i64 t199, .int .i64 1, .int .i64 0, .int .i64 a0_0] (0, 0) _ rfl (by (with_reducible repeat (first | refine blk_drewN ?_ _ | refine blk_drew ?_ | refine blk_alloc ?_ _)); refine blk_put (cs := #[.int .i64 a2, .int .i64 2, .int .i64 a0_2, .int .i64 a0_3, .int .i64 160, .int .i64 t199, .int .i64 1, .int .i64 0, .int .i64 0]) ?_ 8 _ rfl; (with_reducible repeat (first | refine blk_drewN ?_ _ | refine blk_drew ?_ | refine blk_alloc ?_ _)); refine blk_put (cs := #[.int .i64 a2, .int .i64 2, .int .i64 a0_2, .int .i64 a0_3, .int .i64 160, .int .i64 t199, .int .i64 1, .int .i64 0, .int .i64 0]) ?_ 7 _ rfl; (with_reducible repeat (first | refine blk_drewN ?_ _ | refine blk_drew ?_ | refine blk_alloc ?_ _)); refine blk_put (cs := #[.int .i64 a2, .int .i64 2, .int .i64 a0_2, .int .i64 a0_3, .int .i64 160, .int .i64 t199, .int .i64 0, .int .i64 0, .int .i64 0]) ?_ 6 _ rfl; (with_reducible repeat (first | refine blk_drewN ?_ _ | refine blk_drew ?_ | refine blk_alloc ?_ _)); refine blk_put (cs := #[.int .i64 a2, .int .i64 2, .int .i64 a0_2, .int .i64 a0_3, .int .i64 160, .int .i64 0, .int .i64 0, .int .i64 0, .int .i64 0]) ?_ 5 _ rfl; (with_reducible repeat (first | refine blk_drewN ?_ _ | refine blk_drew ?_ | refine blk_alloc ?_ _)); refine blk_put (cs := #[.int .i64 a2, .int .i64 2, .int .i64 a0_2, .int .i64 a0_3, .int .i64 0, .int .i64 0, .int .i64 0, .int .i64 0, .int .i64 0]) ?_ 4 _ rfl; (with_reducible repeat (first | refine blk_drewN ?_ _ | refine blk_drew ?_ | refine blk_alloc ?_ _)); refine blk_put (cs := #[.int .i64 a2, .int .i64 2, .int .i64 a0_2, .int .i64 0, .int .i64 0, .int .i64 0, .int .i64 0, .int .i64 0, .int .i64 0]) ?_ 3 _ rfl; (with_reducible repeat (first | refine blk_drewN ?_ _ | refine blk_drew ?_ | refine blk_alloc ?_ _)); refine blk_put (cs := #[.int .i64 a2, .int .i64 2, .int .i64 0, .int .i64 0, .int .i64 0, .int .i64 0, .int .i64 0, .int .i64 0, .int .i64 0]) ?_ 2 _ rfl; (with_reducible repeat (first | refine blk_drewN ?_ _ | refine blk_drew ?_ | refine blk_alloc ?_ _)); refine blk_put (cs := #[.int .i64 a2, .int .i64 0, .int .i64 0, .int .i64 0, .int .i64 0, .int .i64 0, .int .i64 0, .int .i64 0, .int .i64 0]) ?_ 1 _ rfl; (with_reducible repeat (first | refine blk_drewN ?_ _ | refine blk_drew ?_ | refine blk_alloc ?_ _)); refine blk_put (cs := #[.int .i64 0, .int .i64 0, .int .i64 0, .int .i64 0, .int .i64 0, .int .i64 0, .int .i64 0, .int .i64 0, .int .i64 0]) ?_ 0 _ rfl; (with_reducible repeat (first | refine blk_far ?_ NB197_200.out _ | refine blk_drewN ?_ _ | refine blk_drew ?_ | refine blk_alloc ?_ _)); exact BK197.out) Try.underlying26 rfl (by kernel_rfl)) rfl ?_
      exact ⟨by first | rfl | (simp [errW_none, errW_some] <;> rfl) | (simp [*, errW_none, errW_some] <;> rfl), au12_6⟩
    · rw [if_neg c7] at H
      have c7b0 : (t199 == 0) = false := beq_eq_false_iff_ne.mpr c7
      have c7b1 : (t199 != 0) = true := bne_iff_ne.mpr c7
      simp only [Option.some.injEq, Prod.mk.injEq] at H
      obtain ⟨rfl, rfl, rfl, rfl, rfl, rfl, rfl, rfl, rfl⟩ := H
      go_enter Try.func14, Try.ntmps14
      try go_wp2_with (first | ((with_reducible refine gate_dst (N := 3) rfl ?_); refine box_event ?hg (N := 3) ?hd (cs := #[.int .i64 a0_0, .int .i64 a0_1, .int .i64 a0_2, .int .i64 a0_3, .int .i64 a0_4, .int .i64 a0_5, .int .i64 a0_6, .int .i64 a0_7, .int .i64 a0_8]) (t := 26) ?hr ?_; (case hd => rfl); (case hg => rfl); (case hr => first | (go_simp; done) | (go_simp; rfl)); intro gb195 hg w30 hbox hb; have n0_ := Aside0.mk (below_step au12_14 hb); have n1_ := Aside0.mk (hbox); have n2_ := Aside0.mk ((by rw [hg]; exact (below_size au12_14) : w.heap.size ≤ gb195)); have n3_ := Aside0.mk ((by rw [hg]; exact (below_size au12_14) : w.heap.size ≤ gb195)); clear HB; have HB := n0_; have BK195 := n1_; have GW195 := n2_; have GE195 := n3_; clear n0_ n1_ n2_ n3_; clear hb hbox hg) | ((with_reducible refine gate_dst (N := 4) rfl ?_); refine box_event ?hg (N := 4) ?hd (cs := #[.int .i64 a1_0, .int .i64 a1_1, .bool a1_2]) (t := 28) ?hr ?_; (case hd => rfl); (case hg => rfl); (case hr => first | (go_simp; done) | (go_simp; rfl)); intro gb196 hg w31 hbox hb; have n0_ := Aside0.mk (blk_below (g := gb195) (o := .cells #[.int .i64 a0_0, .int .i64 a0_1, .int .i64 a0_2, .int .i64 a0_3, .int .i64 a0_4, .int .i64 a0_5, .int .i64 a0_6, .int .i64 a0_7, .int .i64 a0_8] 26 (0, 0)) au12_0 hb); have n1_ := Aside0.mk (below_step au12_13 hb); have n2_ := Aside0.mk (hbox); have n3_ := Aside0.mk ((by rw [hg]; exact (below_size au12_13) : w.heap.size ≤ gb196)); have n4_ := Aside0.mk ((by rw [hg]; exact (below_size au12_13) : w.heap.size ≤ gb196)); have n5_ := Aside0.mk ((au12_4 : gb195 ≠ gb196)); have n6_ := Aside0.mk ((au12_5 : gb196 ≠ gb195)); clear BK195; clear HB; have BK195 := n0_; have HB := n1_; have BK196 := n2_; have GW196 := n3_; have GE196 := n4_; have NB195_196 := n5_; have NB196_195 := n6_; clear n0_ n1_ n2_ n3_ n4_ n5_ n6_; clear hb hbox hg) | ((with_reducible refine gate_dst (N := 6) rfl ?_); refine box_event ?hg (N := 6) ?hd (cs := #[.int .i64 0, .int .i64 0, .int .i64 0, .int .i64 0, .int .i64 0, .int .i64 0, .int .i64 0, .int .i64 0, .int .i64 0]) (t := 26) ?hr ?_; (case hd => rfl); (case hg => rfl); (case hr => first | (go_simp; done) | (go_simp; rfl)); intro gb197 hg w32 hbox hb; have n0_ := Aside0.mk (blk_below (g := gb195) (o := .cells #[.int .i64 a0_0, .int .i64 a0_1, .int .i64 a0_2, .int .i64 a0_3, .int .i64 a0_4, .int .i64 a0_5, .int .i64 a0_6, .int .i64 a0_7, .int .i64 a0_8] 26 (0, 0)) au12_0 hb); have n1_ := Aside0.mk (blk_below (g := gb196) (o := .cells #[.int .i64 a1_0, .int .i64 a1_1, .bool a1_2] 28 (0, 0)) au12_2 hb); have n2_ := Aside0.mk (below_step au12_10 hb); have n3_ := Aside0.mk (hbox); have n4_ := Aside0.mk ((by rw [hg]; exact (below_size au12_10) : w.heap.size ≤ gb197)); have n5_ := Aside0.mk ((by rw [hg]; exact (below_size au12_10) : w.heap.size ≤ gb197)); have n6_ := Aside0.mk ((au12_4 : gb195 ≠ gb197)); have n7_ := Aside0.mk ((au12_5 : gb197 ≠ gb195)); have n8_ := Aside0.mk ((au12_11 : gb196 ≠ gb197)); have n9_ := Aside0.mk ((au12_12 : gb197 ≠ gb196)); clear BK195; clear BK196; clear HB; have BK195 := n0_; have BK196 := n1_; have HB := n2_; have BK197 := n3_; have GW197 := n4_; have GE197 := n5_; have NB195_197 := n6_; have NB197_195 := n7_; have NB196_197 := n8_; have NB197_196 := n9_; clear n0_ n1_ n2_ n3_ n4_ n5_ n6_ n7_ n8_ n9_; clear hb hbox hg))
      have n0_ := Aside0.mk (blk_drew BK195.out)
      have n1_ := Aside0.mk (blk_drew BK196.out)
      have n2_ := Aside0.mk (blk_drew BK197.out)
      have n3_ := Aside0.mk (below_drew1 HB.out)
      clear BK195
      clear BK196
      clear BK197
      clear HB
      have BK195 := n0_
      have BK196 := n1_
      have BK197 := n2_
      have HB := n3_
      clear n0_ n1_ n2_ n3_
      refine start_ (n := 16) (S := fun w' => w'.cell? ⟨gb195, 0, none⟩ = some (.int .i64 a0_0) ∧ w'.cell? ⟨gb195, 1, none⟩ = some (.int .i64 a0_1) ∧ w'.cell? ⟨gb195, 2, none⟩ = some (.int .i64 a0_2) ∧ w'.cell? ⟨gb195, 3, none⟩ = some (.int .i64 a0_3) ∧ w'.cell? ⟨gb195, 4, none⟩ = some (.int .i64 a0_4) ∧ w'.cell? ⟨gb195, 5, none⟩ = some (.int .i64 a0_5) ∧ w'.cell? ⟨gb195, 6, none⟩ = some (.int .i64 a0_6) ∧ w'.cell? ⟨gb195, 7, none⟩ = some (.int .i64 a0_7) ∧ w'.cell? ⟨gb195, 8, none⟩ = some (.int .i64 a0_8) ∧ w'.cell? ⟨gb196, 0, none⟩ = some (.int .i64 a1_0) ∧ w'.cell? ⟨gb196, 1, none⟩ = some (.int .i64 a1_1) ∧ w'.cell? ⟨gb196, 2, none⟩ = some (.bool a1_2)) (ds := []) #[false, false, false, false, false, false, false, false, false, false, false, false, false, false, false, false] (by kernel_rfl) rfl rfl ⟨(blk_cell BK195.out 0).trans rfl, (blk_cell BK195.out 1).trans rfl, (blk_cell BK195.out 2).trans rfl, (blk_cell BK195.out 3).trans rfl, (blk_cell BK195.out 4).trans rfl, (blk_cell BK195.out 5).trans rfl, (blk_cell BK195.out 6).trans rfl, (blk_cell BK195.out 7).trans rfl, (blk_cell BK195.out 8).trans rfl, (blk_cell BK196.out 0).trans rfl, (blk_cell BK196.out 1).trans rfl, (blk_cell BK196.out 2).trans rfl⟩ (fun hHeld => ?_); refine with_tabW moving_Shoot.tab1 moving_Shoot.bits1 (fun HT_ HW_ => ?_)
      generalize w32.drew = w33 at BK195 BK196 BK197 HB hHeld ⊢
      refine pure_ (i := 0) (N := some 8) (v := ?_) (a' := ?_) #[true, false, false, false, false, false, false, false, false, false, false, false, false, false, false, false] rfl rfl (any_of HT_.out (by kernel_rfl)) (fun _ _ _ h => h) (Or.inl ⟨by rfl, ?_⟩) ?_ ?_
      rotate_left
      · intro w'
        go_simp
        with_reducible rfl
      rotate_left
      · simp only [Act.put, List.setIfInBounds_toArray, List.set_cons_zero, List.set_cons_succ, i64_w, i32_w]
        rfl
      refine pure_ (i := 1) (N := some 9) (v := ?_) (a' := ?_) #[true, true, false, false, false, false, false, false, false, false, false, false, false, false, false, false] rfl rfl (any_of HT_.out (by kernel_rfl)) (fun _ _ _ h => h) (Or.inl ⟨by rfl, ?_⟩) ?_ ?_
      rotate_left
      · intro w'
        go_simp
        with_reducible rfl
      rotate_left
      · simp only [Act.put, List.setIfInBounds_toArray, List.set_cons_zero, List.set_cons_succ, i64_w, i32_w]
        rfl
      refine pure_ (i := 3) (N := some 11) (v := ?_) (a' := ?_) #[true, true, false, true, false, false, false, false, false, false, false, false, false, false, false, false] rfl rfl (any_of HT_.out (by kernel_rfl)) (fun _ _ _ h => h) (Or.inl ⟨by rfl, ?_⟩) ?_ ?_
      rotate_left
      · intro w'
        go_simp
        with_reducible rfl
      rotate_left
      · simp only [Act.put, List.setIfInBounds_toArray, List.set_cons_zero, List.set_cons_succ, i64_w, i32_w]
        rfl
      refine pure_ (i := 5) (N := some 13) (v := ?_) (a' := ?_) #[true, true, false, true, false, true, false, false, false, false, false, false, false, false, false, false] rfl rfl (any_of HT_.out (by kernel_rfl)) (fun _ _ _ h => h) (Or.inl ⟨by rfl, ?_⟩) ?_ ?_
      rotate_left
      · intro w'
        go_simp
        with_reducible rfl
      rotate_left
      · simp only [Act.put, List.setIfInBounds_toArray, List.set_cons_zero, List.set_cons_succ, i64_w, i32_w]
        rfl
      refine pure_ (i := 8) (N := some 16) (v := ?_) (a' := ?_) #[true, true, false, true, false, true, false, false, true, false, false, false, false, false, false, false] rfl rfl (any_of HT_.out (by kernel_rfl)) (fun _ _ _ h => h) (Or.inl ⟨by rfl, ?_⟩) ?_ ?_
      rotate_left
      · intro w'
        go_simp
        with_reducible rfl
      rotate_left
      · simp only [Act.put, List.setIfInBounds_toArray, List.set_cons_zero, List.set_cons_succ, i64_w, i32_w]
        rfl
      refine pure_ (i := 11) (N := some 19) (v := ?_) (a' := ?_) #[true, true, false, true, false, true, false, false, true, false, false, true, false, false, false, false] rfl rfl (any_of HT_.out (by kernel_rfl)) (fun _ _ _ h => h) (Or.inl ⟨by rfl, ?_⟩) ?_ ?_
      rotate_left
      · intro w'
        go_simp
        with_reducible rfl
      rotate_left
      · simp only [Act.put, List.setIfInBounds_toArray, List.set_cons_zero, List.set_cons_succ, i64_w, i32_w]
        rfl
      refine take_ (i := 2) (N := some 10) (v := ?_) (a' := ?_) #[true, true, true, true, false, true, false, false, true, false, false, true, false, false, false, false] rfl rfl (take_ofW HT_.out HW_.out (by kernel_rfl)) (fun _ _ _ h => h) (Or.inl ⟨by rfl, ?_⟩) hHeld ?_ ?_
      rotate_left
      · rintro w' ⟨s0, s1, s2, s3, s4, s5, s6, s7, s8, s9, s10, s11⟩
        go_simp
        with_reducible rfl
      rotate_left
      · simp only [Act.put, List.setIfInBounds_toArray, List.set_cons_zero, List.set_cons_succ, i64_w, i32_w]
        rfl
      refine take_ (i := 4) (N := some 12) (v := ?_) (a' := ?_) #[true, true, true, true, true, true, false, false, true, false, false, true, false, false, false, false] rfl rfl (take_ofW HT_.out HW_.out (by kernel_rfl)) (fun _ _ _ h => h) (Or.inl ⟨by rfl, ?_⟩) hHeld ?_ ?_
      rotate_left
      · rintro w' ⟨s0, s1, s2, s3, s4, s5, s6, s7, s8, s9, s10, s11⟩
        go_simp
        with_reducible rfl
      rotate_left
      · simp only [Act.put, List.setIfInBounds_toArray, List.set_cons_zero, List.set_cons_succ, i64_w, i32_w]
        rfl
      refine take_ (i := 6) (N := some 14) (v := ?_) (a' := ?_) #[true, true, true, true, true, true, true, false, true, false, false, true, false, false, false, false] rfl rfl (take_ofW HT_.out HW_.out (by kernel_rfl)) (fun _ _ _ h => h) (Or.inl ⟨by rfl, ?_⟩) hHeld ?_ ?_
      rotate_left
      · rintro w' ⟨s0, s1, s2, s3, s4, s5, s6, s7, s8, s9, s10, s11⟩
        go_simp
        with_reducible rfl
      rotate_left
      · simp only [Act.put, List.setIfInBounds_toArray, List.set_cons_zero, List.set_cons_succ, i64_w, i32_w]
        rfl
      refine take_ (i := 9) (N := some 17) (v := ?_) (a' := ?_) #[true, true, true, true, true, true, true, false, true, true, false, true, false, false, false, false] rfl rfl (take_ofW HT_.out HW_.out (by kernel_rfl)) (fun _ _ _ h => h) (Or.inl ⟨by rfl, ?_⟩) hHeld ?_ ?_
      rotate_left
      · rintro w' ⟨s0, s1, s2, s3, s4, s5, s6, s7, s8, s9, s10, s11⟩
        go_simp
        with_reducible rfl
      rotate_left
      · simp only [Act.put, List.setIfInBounds_toArray, List.set_cons_zero, List.set_cons_succ, i64_w, i32_w]
        rfl
      refine take_ (i := 12) (N := some 20) (v := ?_) (a' := ?_) #[true, true, true, true, true, true, true, false, true, true, false, true, true, false, false, false] rfl rfl (take_ofW HT_.out HW_.out (by kernel_rfl)) (fun _ _ _ h => h) (Or.inl ⟨by rfl, ?_⟩) hHeld ?_ ?_
      rotate_left
      · rintro w' ⟨s0, s1, s2, s3, s4, s5, s6, s7, s8, s9, s10, s11⟩
        go_simp
        with_reducible rfl
      rotate_left
      · simp only [Act.put, List.setIfInBounds_toArray, List.set_cons_zero, List.set_cons_succ, i64_w, i32_w]
        rfl
      refine join_ (σ := Nat) 1 #[true, true, true, true, true, true, true, true, true, true, true, true, true, true, true, false] (fun s_ => [(15, .int .i64 t198), (18, .int .i64 t199), (7, .pointer (some ⟨s_, 0, none⟩)), (21, .agg #[.int .i64 a2, .int .i64 2, .int .i64 a0_2, .int .i64 a0_3, .int .i64 t198, .int .i64 t199, .int .i64 1, .int .i64 0, .int .i64 a0_0])]) (fun s_ w' => (w'.cell? ⟨gb195, 0, none⟩ = some (.int .i64 a0_0) ∧ w'.cell? ⟨gb195, 1, none⟩ = some (.int .i64 a0_1) ∧ w'.cell? ⟨gb195, 2, none⟩ = some (.int .i64 a0_2) ∧ w'.cell? ⟨gb195, 3, none⟩ = some (.int .i64 a0_3) ∧ w'.cell? ⟨gb195, 4, none⟩ = some (.int .i64 a0_4) ∧ w'.cell? ⟨gb195, 5, none⟩ = some (.int .i64 a0_5) ∧ w'.cell? ⟨gb195, 6, none⟩ = some (.int .i64 a0_6) ∧ w'.cell? ⟨gb195, 7, none⟩ = some (.int .i64 a0_7) ∧ w'.cell? ⟨gb195, 8, none⟩ = some (.int .i64 a0_8) ∧ w'.cell? ⟨gb196, 0, none⟩ = some (.int .i64 a1_0) ∧ w'.cell? ⟨gb196, 1, none⟩ = some (.int .i64 a1_1) ∧ w'.cell? ⟨gb196, 2, none⟩ = some (.bool a1_2)) ∧ (w'.heap[gb195]? = some (.cells #[.int .i64 a0_0, .int .i64 a0_1, .int .i64 a0_2, .int .i64 a0_3, .int .i64 a0_4, .int .i64 a0_5, .int .i64 a0_6, .int .i64 a0_7, .int .i64 a0_8] 26 (0, 0))) ∧ (w'.heap[gb196]? = some (.cells #[.int .i64 a1_0, .int .i64 a1_1, .bool a1_2] 28 (0, 0))) ∧ (w'.heap[gb197]? = some (.cells #[.int .i64 0, .int .i64 0, .int .i64 0, .int .i64 0, .int .i64 0, .int .i64 0, .int .i64 0, .int .i64 0, .int .i64 0] 26 (0, 0))) ∧ (w'.heap[s_]? = some (.cells #[.int .i64 0, .int .i64 0, .int .i64 0, .int .i64 0, .int .i64 0, .int .i64 0, .int .i64 0, .int .i64 0, .int .i64 0] 26 (0, 0))) ∧ (w.heap.size ≤ s_) ∧ (w.heap.size ≤ s_) ∧ (gb195 ≠ s_) ∧ (s_ ≠ gb195) ∧ (gb196 ≠ s_) ∧ (s_ ≠ gb196) ∧ (gb197 ≠ s_) ∧ (s_ ≠ gb197) ∧ (Below w.heap.size w w')) ?_ ?_
      rotate_left
      · intro hCont
        refine two_ (i := 7) (j := 14) (Ni := some 15) (Nj := some 7) #[true, true, true, true, true, true, true, true, true, true, false, true, true, false, false, false] #[true, true, true, true, true, true, true, false, true, true, false, true, true, false, true, false] rfl rfl rfl rfl (two_of HT_.out (by kernel_rfl)) (by decide) (by decide) (fun K hK => ?_) (fun K hK => ?_)
        · skip
          refine goes_ Try.func32 (by kernel_rfl) rfl #[.int .i64 a1_0] (by rfl) rfl rfl au12_7 ?_
          with_reducible refine (moving_pace.calls a1_0 t198 _ A4.out).mono ?_
          rintro e w' ⟨rfl, ⟨nd, rfl⟩⟩
          refine ⟨_, rfl, ?_⟩
          refine hK.out _ _ ⟨(blk_cell BK195.out 0).trans rfl, (blk_cell BK195.out 1).trans rfl, (blk_cell BK195.out 2).trans rfl, (blk_cell BK195.out 3).trans rfl, (blk_cell BK195.out 4).trans rfl, (blk_cell BK195.out 5).trans rfl, (blk_cell BK195.out 6).trans rfl, (blk_cell BK195.out 7).trans rfl, (blk_cell BK195.out 8).trans rfl, (blk_cell BK196.out 0).trans rfl, (blk_cell BK196.out 1).trans rfl, (blk_cell BK196.out 2).trans rfl⟩ (fun hHeld => ?_)
          clear hK K
          refine norm_ (a' := ?_) ?_ ?_
          rotate_left
          · show Act.put _ (some 15) _ = _
            simp only [Act.put, List.setIfInBounds_toArray, List.set_cons_zero, List.set_cons_succ, i64_w, i32_w]
            rfl
          refine two_ (i := 10) (j := 14) (Ni := some 18) (Nj := some 7) #[true, true, true, true, true, true, true, true, true, true, true, true, true, false, false, false] #[true, true, true, true, true, true, true, true, true, true, false, true, true, false, true, false] rfl rfl rfl rfl (two_of HT_.out (by kernel_rfl)) (by decide) (by decide) (fun K hK => ?_) (fun K hK => ?_)
          · skip
            refine goes_ Try.func32 (by kernel_rfl) rfl #[.int .i64 a1_1] (by rfl) rfl rfl au12_7 ?_
            with_reducible refine (moving_pace.calls a1_1 t199 _ A5.out).mono ?_
            rintro e w' ⟨rfl, ⟨nd, rfl⟩⟩
            refine ⟨_, rfl, ?_⟩
            refine hK.out _ _ ⟨(blk_cell BK195.out 0).trans rfl, (blk_cell BK195.out 1).trans rfl, (blk_cell BK195.out 2).trans rfl, (blk_cell BK195.out 3).trans rfl, (blk_cell BK195.out 4).trans rfl, (blk_cell BK195.out 5).trans rfl, (blk_cell BK195.out 6).trans rfl, (blk_cell BK195.out 7).trans rfl, (blk_cell BK195.out 8).trans rfl, (blk_cell BK196.out 0).trans rfl, (blk_cell BK196.out 1).trans rfl, (blk_cell BK196.out 2).trans rfl⟩ (fun hHeld => ?_)
            clear hK K
            refine norm_ (a' := ?_) ?_ ?_
            rotate_left
            · show Act.put _ (some 18) _ = _
              simp only [Act.put, List.setIfInBounds_toArray, List.set_cons_zero, List.set_cons_succ, i64_w, i32_w]
              rfl
            refine pure_ (i := 13) (N := some 21) (v := ?_) (a' := ?_) #[true, true, true, true, true, true, true, true, true, true, true, true, true, true, false, false] rfl rfl (any_of HT_.out (by kernel_rfl)) (fun _ _ _ h => h) (Or.inl ⟨by rfl, ?_⟩) ?_ ?_
            rotate_left
            · intro w'
              go_simp
              with_reducible rfl
            rotate_left
            · simp only [Act.put, List.setIfInBounds_toArray, List.set_cons_zero, List.set_cons_succ, i64_w, i32_w]
              rfl
            refine one_ (i := 14) (N := some 7) #[true, true, true, true, true, true, true, true, true, true, true, true, true, true, true, false] rfl rfl (one_of HT_.out (by kernel_rfl)) (by decide) (fun K hK => ?_)
            refine box_step ?hg (N := 7) ?hd (cs := #[.int .i64 0, .int .i64 0, .int .i64 0, .int .i64 0, .int .i64 0, .int .i64 0, .int .i64 0, .int .i64 0, .int .i64 0]) (t := 26) ?hr ?_; (case hd => rfl); (case hg => rfl); (case hr => first | (go_simp; done) | (go_simp; rfl))
            intro gb200 hg w34 hbox hb
            have n0_ := Aside0.mk (blk_below (g := gb195) (o := .cells #[.int .i64 a0_0, .int .i64 a0_1, .int .i64 a0_2, .int .i64 a0_3, .int .i64 a0_4, .int .i64 a0_5, .int .i64 a0_6, .int .i64 a0_7, .int .i64 a0_8] 26 (0, 0)) au12_0 hb)
            have n1_ := Aside0.mk (blk_below (g := gb196) (o := .cells #[.int .i64 a1_0, .int .i64 a1_1, .bool a1_2] 28 (0, 0)) au12_2 hb)
            have n2_ := Aside0.mk (blk_below (g := gb197) (o := .cells #[.int .i64 0, .int .i64 0, .int .i64 0, .int .i64 0, .int .i64 0, .int .i64 0, .int .i64 0, .int .i64 0, .int .i64 0] 26 (0, 0)) au12_3 hb)
            have n3_ := Aside0.mk (below_step au12_1 hb)
            have n4_ := Aside0.mk (hbox)
            have n5_ := Aside0.mk ((au12_17 : w.heap.size ≤ gb200))
            have n6_ := Aside0.mk ((au12_17 : w.heap.size ≤ gb200))
            have n7_ := Aside0.mk ((au12_4 : gb195 ≠ gb200))
            have n8_ := Aside0.mk ((au12_5 : gb200 ≠ gb195))
            have n9_ := Aside0.mk ((au12_11 : gb196 ≠ gb200))
            have n10_ := Aside0.mk ((au12_12 : gb200 ≠ gb196))
            have n11_ := Aside0.mk ((au12_8 : gb197 ≠ gb200))
            have n12_ := Aside0.mk ((au12_9 : gb200 ≠ gb197))
            clear BK195
            clear BK196
            clear BK197
            clear HB
            have BK195 := n0_
            have BK196 := n1_
            have BK197 := n2_
            have HB := n3_
            have BK200 := n4_
            have GW200 := n5_
            have GE200 := n6_
            have NB195_200 := n7_
            have NB200_195 := n8_
            have NB196_200 := n9_
            have NB200_196 := n10_
            have NB197_200 := n11_
            have NB200_197 := n12_
            clear n0_ n1_ n2_ n3_ n4_ n5_ n6_ n7_ n8_ n9_ n10_ n11_ n12_
            clear hb hbox hg
            refine hK.out _ _ ⟨(blk_cell BK195.out 0).trans rfl, (blk_cell BK195.out 1).trans rfl, (blk_cell BK195.out 2).trans rfl, (blk_cell BK195.out 3).trans rfl, (blk_cell BK195.out 4).trans rfl, (blk_cell BK195.out 5).trans rfl, (blk_cell BK195.out 6).trans rfl, (blk_cell BK195.out 7).trans rfl, (blk_cell BK195.out 8).trans rfl, (blk_cell BK196.out 0).trans rfl, (blk_cell BK196.out 1).trans rfl, (blk_cell BK196.out 2).trans rfl⟩ (fun hHeld => ?_)
            clear hK K
            refine norm_ (a' := ?_) ?_ ?_
            rotate_left
            · show Act.put _ (some 7) _ = _
              simp only [Act.put, List.setIfInBounds_toArray, List.set_cons_zero, List.set_cons_succ, i64_w, i32_w]
              rfl
            exact norm_ au12_16 (hCont (gb200) _ ⟨hHeld, au12_0, au12_2, au12_3, au12_15, GW200.out, GE200.out, NB195_200.out, NB200_195.out, NB196_200.out, NB200_196.out, NB197_200.out, NB200_197.out, au12_6⟩)
          · skip
            refine box_step ?hg (N := 7) ?hd (cs := #[.int .i64 0, .int .i64 0, .int .i64 0, .int .i64 0, .int .i64 0, .int .i64 0, .int .i64 0, .int .i64 0, .int .i64 0]) (t := 26) ?hr ?_; (case hd => rfl); (case hg => rfl); (case hr => first | (go_simp; done) | (go_simp; rfl))
            intro gb200 hg w34 hbox hb
            have n0_ := Aside0.mk (blk_below (g := gb195) (o := .cells #[.int .i64 a0_0, .int .i64 a0_1, .int .i64 a0_2, .int .i64 a0_3, .int .i64 a0_4, .int .i64 a0_5, .int .i64 a0_6, .int .i64 a0_7, .int .i64 a0_8] 26 (0, 0)) au12_0 hb)
            have n1_ := Aside0.mk (blk_below (g := gb196) (o := .cells #[.int .i64 a1_0, .int .i64 a1_1, .bool a1_2] 28 (0, 0)) au12_2 hb)
            have n2_ := Aside0.mk (blk_below (g := gb197) (o := .cells #[.int .i64 0, .int .i64 0, .int .i64 0, .int .i64 0, .int .i64 0, .int .i64 0, .int .i64 0, .int .i64 0, .int .i64 0] 26 (0, 0)) au12_3 hb)
            have n3_ := Aside0.mk (below_step au12_1 hb)
            have n4_ := Aside0.mk (hbox)
            have n5_ := Aside0.mk ((au12_17 : w.heap.size ≤ gb200))
            have n6_ := Aside0.mk ((au12_17 : w.heap.size ≤ gb200))
            have n7_ := Aside0.mk ((au12_4 : gb195 ≠ gb200))
            have n8_ := Aside0.mk ((au12_5 : gb200 ≠ gb195))
            have n9_ := Aside0.mk ((au12_11 : gb196 ≠ gb200))
            have n10_ := Aside0.mk ((au12_12 : gb200 ≠ gb196))
            have n11_ := Aside0.mk ((au12_8 : gb197 ≠ gb200))
            have n12_ := Aside0.mk ((au12_9 : gb200 ≠ gb197))
            clear BK195
            clear BK196
            clear BK197
            clear HB
            have BK195 := n0_
            have BK196 := n1_
            have BK197 := n2_
            have HB := n3_
            have BK200 := n4_
            have GW200 := n5_
            have GE200 := n6_
            have NB195_200 := n7_
            have NB200_195 := n8_
            have NB196_200 := n9_
            have NB200_196 := n10_
            have NB197_200 := n11_
            have NB200_197 := n12_
            clear n0_ n1_ n2_ n3_ n4_ n5_ n6_ n7_ n8_ n9_ n10_ n11_ n12_
            clear hb hbox hg
            refine hK.out _ _ ⟨(blk_cell BK195.out 0).trans rfl, (blk_cell BK195.out 1).trans rfl, (blk_cell BK195.out 2).trans rfl, (blk_cell BK195.out 3).trans rfl, (blk_cell BK195.out 4).trans rfl, (blk_cell BK195.out 5).trans rfl, (blk_cell BK195.out 6).trans rfl, (blk_cell BK195.out 7).trans rfl, (blk_cell BK195.out 8).trans rfl, (blk_cell BK196.out 0).trans rfl, (blk_cell BK196.out 1).trans rfl, (blk_cell BK196.out 2).trans rfl⟩ (fun hHeld => ?_)
            clear hK K
            refine norm_ (a' := ?_) ?_ ?_
            rotate_left
            · show Act.put _ (some 7) _ = _
              simp only [Act.put, List.setIfInBounds_toArray, List.set_cons_zero, List.set_cons_succ, i64_w, i32_w]
              rfl
            refine one_ (i := 10) (N := some 18) #[true, true, true, true, true, true, true, true, true, true, true, true, true, false, true, false] rfl rfl (one_of HT_.out (by kernel_rfl)) (by decide) (fun K hK => ?_)
            refine goes_ Try.func32 (by kernel_rfl) rfl #[.int .i64 a1_1] (by rfl) rfl rfl au12_7 ?_
            with_reducible refine (moving_pace.calls a1_1 t199 _ A5.out).mono ?_
            rintro e w' ⟨rfl, ⟨nd, rfl⟩⟩
            refine ⟨_, rfl, ?_⟩
            refine hK.out _ _ ⟨(blk_cell BK195.out 0).trans rfl, (blk_cell BK195.out 1).trans rfl, (blk_cell BK195.out 2).trans rfl, (blk_cell BK195.out 3).trans rfl, (blk_cell BK195.out 4).trans rfl, (blk_cell BK195.out 5).trans rfl, (blk_cell BK195.out 6).trans rfl, (blk_cell BK195.out 7).trans rfl, (blk_cell BK195.out 8).trans rfl, (blk_cell BK196.out 0).trans rfl, (blk_cell BK196.out 1).trans rfl, (blk_cell BK196.out 2).trans rfl⟩ (fun hHeld => ?_)
            clear hK K
            refine norm_ (a' := ?_) ?_ ?_
            rotate_left
            · show Act.put _ (some 18) _ = _
              simp only [Act.put, List.setIfInBounds_toArray, List.set_cons_zero, List.set_cons_succ, i64_w, i32_w]
              rfl
            refine pure_ (i := 13) (N := some 21) (v := ?_) (a' := ?_) #[true, true, true, true, true, true, true, true, true, true, true, true, true, true, true, false] rfl rfl (any_of HT_.out (by kernel_rfl)) (fun _ _ _ h => h) (Or.inl ⟨by rfl, ?_⟩) ?_ ?_
            rotate_left
            · intro w'
              go_simp
              with_reducible rfl
            rotate_left
            · simp only [Act.put, List.setIfInBounds_toArray, List.set_cons_zero, List.set_cons_succ, i64_w, i32_w]
              rfl
            exact norm_ au12_16 (hCont (gb200) _ ⟨hHeld, au12_0, au12_2, au12_3, au12_15, GW200.out, GE200.out, NB195_200.out, NB200_195.out, NB196_200.out, NB200_196.out, NB197_200.out, NB200_197.out, au12_6⟩)
        · skip
          refine box_step ?hg (N := 7) ?hd (cs := #[.int .i64 0, .int .i64 0, .int .i64 0, .int .i64 0, .int .i64 0, .int .i64 0, .int .i64 0, .int .i64 0, .int .i64 0]) (t := 26) ?hr ?_; (case hd => rfl); (case hg => rfl); (case hr => first | (go_simp; done) | (go_simp; rfl))
          intro gb200 hg w34 hbox hb
          have n0_ := Aside0.mk (blk_below (g := gb195) (o := .cells #[.int .i64 a0_0, .int .i64 a0_1, .int .i64 a0_2, .int .i64 a0_3, .int .i64 a0_4, .int .i64 a0_5, .int .i64 a0_6, .int .i64 a0_7, .int .i64 a0_8] 26 (0, 0)) au12_0 hb)
          have n1_ := Aside0.mk (blk_below (g := gb196) (o := .cells #[.int .i64 a1_0, .int .i64 a1_1, .bool a1_2] 28 (0, 0)) au12_2 hb)
          have n2_ := Aside0.mk (blk_below (g := gb197) (o := .cells #[.int .i64 0, .int .i64 0, .int .i64 0, .int .i64 0, .int .i64 0, .int .i64 0, .int .i64 0, .int .i64 0, .int .i64 0] 26 (0, 0)) au12_3 hb)
          have n3_ := Aside0.mk (below_step au12_1 hb)
          have n4_ := Aside0.mk (hbox)
          have n5_ := Aside0.mk ((au12_17 : w.heap.size ≤ gb200))
          have n6_ := Aside0.mk ((au12_17 : w.heap.size ≤ gb200))
          have n7_ := Aside0.mk ((au12_4 : gb195 ≠ gb200))
          have n8_ := Aside0.mk ((au12_5 : gb200 ≠ gb195))
          have n9_ := Aside0.mk ((au12_11 : gb196 ≠ gb200))
          have n10_ := Aside0.mk ((au12_12 : gb200 ≠ gb196))
          have n11_ := Aside0.mk ((au12_8 : gb197 ≠ gb200))
          have n12_ := Aside0.mk ((au12_9 : gb200 ≠ gb197))
          clear BK195
          clear BK196
          clear BK197
          clear HB
          have BK195 := n0_
          have BK196 := n1_
          have BK197 := n2_
          have HB := n3_
          have BK200 := n4_
          have GW200 := n5_
          have GE200 := n6_
          have NB195_200 := n7_
          have NB200_195 := n8_
          have NB196_200 := n9_
          have NB200_196 := n10_
          have NB197_200 := n11_
          have NB200_197 := n12_
          clear n0_ n1_ n2_ n3_ n4_ n5_ n6_ n7_ n8_ n9_ n10_ n11_ n12_
          clear hb hbox hg
          refine hK.out _ _ ⟨(blk_cell BK195.out 0).trans rfl, (blk_cell BK195.out 1).trans rfl, (blk_cell BK195.out 2).trans rfl, (blk_cell BK195.out 3).trans rfl, (blk_cell BK195.out 4).trans rfl, (blk_cell BK195.out 5).trans rfl, (blk_cell BK195.out 6).trans rfl, (blk_cell BK195.out 7).trans rfl, (blk_cell BK195.out 8).trans rfl, (blk_cell BK196.out 0).trans rfl, (blk_cell BK196.out 1).trans rfl, (blk_cell BK196.out 2).trans rfl⟩ (fun hHeld => ?_)
          clear hK K
          refine norm_ (a' := ?_) ?_ ?_
          rotate_left
          · show Act.put _ (some 7) _ = _
            simp only [Act.put, List.setIfInBounds_toArray, List.set_cons_zero, List.set_cons_succ, i64_w, i32_w]
            rfl
          refine one_ (i := 7) (N := some 15) #[true, true, true, true, true, true, true, true, true, true, false, true, true, false, true, false] rfl rfl (one_of HT_.out (by kernel_rfl)) (by decide) (fun K hK => ?_)
          refine goes_ Try.func32 (by kernel_rfl) rfl #[.int .i64 a1_0] (by rfl) rfl rfl au12_7 ?_
          with_reducible refine (moving_pace.calls a1_0 t198 _ A4.out).mono ?_
          rintro e w' ⟨rfl, ⟨nd, rfl⟩⟩
          refine ⟨_, rfl, ?_⟩
          refine hK.out _ _ ⟨(blk_cell BK195.out 0).trans rfl, (blk_cell BK195.out 1).trans rfl, (blk_cell BK195.out 2).trans rfl, (blk_cell BK195.out 3).trans rfl, (blk_cell BK195.out 4).trans rfl, (blk_cell BK195.out 5).trans rfl, (blk_cell BK195.out 6).trans rfl, (blk_cell BK195.out 7).trans rfl, (blk_cell BK195.out 8).trans rfl, (blk_cell BK196.out 0).trans rfl, (blk_cell BK196.out 1).trans rfl, (blk_cell BK196.out 2).trans rfl⟩ (fun hHeld => ?_)
          clear hK K
          refine norm_ (a' := ?_) ?_ ?_
          rotate_left
          · show Act.put _ (some 15) _ = _
            simp only [Act.put, List.setIfInBounds_toArray, List.set_cons_zero, List.set_cons_succ, i64_w, i32_w]
            rfl
          refine one_ (i := 10) (N := some 18) #[true, true, true, true, true, true, true, true, true, true, true, true, true, false, true, false] rfl rfl (one_of HT_.out (by kernel_rfl)) (by decide) (fun K hK => ?_)
          refine goes_ Try.func32 (by kernel_rfl) rfl #[.int .i64 a1_1] (by rfl) rfl rfl au12_7 ?_
          with_reducible refine (moving_pace.calls a1_1 t199 _ A5.out).mono ?_
          rintro e w' ⟨rfl, ⟨nd, rfl⟩⟩
          refine ⟨_, rfl, ?_⟩
          refine hK.out _ _ ⟨(blk_cell BK195.out 0).trans rfl, (blk_cell BK195.out 1).trans rfl, (blk_cell BK195.out 2).trans rfl, (blk_cell BK195.out 3).trans rfl, (blk_cell BK195.out 4).trans rfl, (blk_cell BK195.out 5).trans rfl, (blk_cell BK195.out 6).trans rfl, (blk_cell BK195.out 7).trans rfl, (blk_cell BK195.out 8).trans rfl, (blk_cell BK196.out 0).trans rfl, (blk_cell BK196.out 1).trans rfl, (blk_cell BK196.out 2).trans rfl⟩ (fun hHeld => ?_)
          clear hK K
          refine norm_ (a' := ?_) ?_ ?_
          rotate_left
          · show Act.put _ (some 18) _ = _
            simp only [Act.put, List.setIfInBounds_toArray, List.set_cons_zero, List.set_cons_succ, i64_w, i32_w]
            rfl
          refine pure_ (i := 13) (N := some 21) (v := ?_) (a' := ?_) #[true, true, true, true, true, true, true, true, true, true, true, true, true, true, true, false] rfl rfl (any_of HT_.out (by kernel_rfl)) (fun _ _ _ h => h) (Or.inl ⟨by rfl, ?_⟩) ?_ ?_
          rotate_left
          · intro w'
            go_simp
            with_reducible rfl
          rotate_left
          · simp only [Act.put, List.setIfInBounds_toArray, List.set_cons_zero, List.set_cons_succ, i64_w, i32_w]
            rfl
          exact norm_ au12_16 (hCont (gb200) _ ⟨hHeld, au12_0, au12_2, au12_3, au12_15, GW200.out, GE200.out, NB195_200.out, NB200_195.out, NB196_200.out, NB200_196.out, NB197_200.out, NB200_197.out, au12_6⟩)
      rintro gb200 w35 ⟨hS_, h0_, h1_, h2_, h3_, h4_, h5_, h6_, h7_, h8_, h9_, h10_, h11_, h12_⟩
      have n0_ : Aside0 (w35.heap[gb195]? = some (.cells #[.int .i64 a0_0, .int .i64 a0_1, .int .i64 a0_2, .int .i64 a0_3, .int .i64 a0_4, .int .i64 a0_5, .int .i64 a0_6, .int .i64 a0_7, .int .i64 a0_8] 26 (0, 0))) := ⟨h0_⟩
      have n1_ : Aside0 (w35.heap[gb196]? = some (.cells #[.int .i64 a1_0, .int .i64 a1_1, .bool a1_2] 28 (0, 0))) := ⟨h1_⟩
      have n2_ : Aside0 (w35.heap[gb197]? = some (.cells #[.int .i64 0, .int .i64 0, .int .i64 0, .int .i64 0, .int .i64 0, .int .i64 0, .int .i64 0, .int .i64 0, .int .i64 0] 26 (0, 0))) := ⟨h2_⟩
      have n3_ : Aside0 (w35.heap[gb200]? = some (.cells #[.int .i64 0, .int .i64 0, .int .i64 0, .int .i64 0, .int .i64 0, .int .i64 0, .int .i64 0, .int .i64 0, .int .i64 0] 26 (0, 0))) := ⟨h3_⟩
      have n4_ : Aside0 (w.heap.size ≤ gb200) := ⟨h4_⟩
      have n5_ : Aside0 (w.heap.size ≤ gb200) := ⟨h5_⟩
      have n6_ : Aside0 (gb195 ≠ gb200) := ⟨h6_⟩
      have n7_ : Aside0 (gb200 ≠ gb195) := ⟨h7_⟩
      have n8_ : Aside0 (gb196 ≠ gb200) := ⟨h8_⟩
      have n9_ : Aside0 (gb200 ≠ gb196) := ⟨h9_⟩
      have n10_ : Aside0 (gb197 ≠ gb200) := ⟨h10_⟩
      have n11_ : Aside0 (gb200 ≠ gb197) := ⟨h11_⟩
      have n12_ : Aside0 (Below w.heap.size w w35) := ⟨h12_⟩
      clear BK195
      clear BK196
      clear BK197
      clear HB
      clear h0_ h1_ h2_ h3_ h4_ h5_ h6_ h7_ h8_ h9_ h10_ h11_ h12_
      have BK195 := n0_
      have BK196 := n1_
      have BK197 := n2_
      have BK200 := n3_
      have GW200 := n4_
      have GE200 := n5_
      have NB195_200 := n6_
      have NB200_195 := n7_
      have NB196_200 := n8_
      have NB200_196 := n9_
      have NB197_200 := n10_
      have NB200_197 := n11_
      have HB := n12_
      clear n0_ n1_ n2_ n3_ n4_ n5_ n6_ n7_ n8_ n9_ n10_ n11_ n12_
      have hHeld : w35.cell? ⟨gb195, 0, none⟩ = some (.int .i64 a0_0) ∧ w35.cell? ⟨gb195, 1, none⟩ = some (.int .i64 a0_1) ∧ w35.cell? ⟨gb195, 2, none⟩ = some (.int .i64 a0_2) ∧ w35.cell? ⟨gb195, 3, none⟩ = some (.int .i64 a0_3) ∧ w35.cell? ⟨gb195, 4, none⟩ = some (.int .i64 a0_4) ∧ w35.cell? ⟨gb195, 5, none⟩ = some (.int .i64 a0_5) ∧ w35.cell? ⟨gb195, 6, none⟩ = some (.int .i64 a0_6) ∧ w35.cell? ⟨gb195, 7, none⟩ = some (.int .i64 a0_7) ∧ w35.cell? ⟨gb195, 8, none⟩ = some (.int .i64 a0_8) ∧ w35.cell? ⟨gb196, 0, none⟩ = some (.int .i64 a1_0) ∧ w35.cell? ⟨gb196, 1, none⟩ = some (.int .i64 a1_1) ∧ w35.cell? ⟨gb196, 2, none⟩ = some (.bool a1_2) := hS_
      refine norm_ (a' := ?_) ?_ ?_
      rotate_left
      · simp only [putAll, Act.put, List.setIfInBounds_toArray, List.set_cons_zero, List.set_cons_succ]
        rfl
      refine one_ (i := 15) (N := none) #[true, true, true, true, true, true, true, true, true, true, true, true, true, true, true, true] rfl rfl (one_of HT_.out (by kernel_rfl)) (by decide) (fun K hK => ?_)
      have hs36 : w35.cell? ⟨gb200, 0, none⟩ = some (.int .i64 0) := (blk_cell BK200.out 0).trans rfl
      have hfs36 := blk_frozen BK200.out 0
      have hns36_0 := NB195_200.out
      have hns36_1 := NB196_200.out
      have hns36_2 := NB197_200.out
      have hms36_0 := NB200_195.out
      have hms36_1 := NB200_196.out
      have hms36_2 := NB200_197.out
      have hs37 : w35.cell? ⟨gb200, 1, none⟩ = some (.int .i64 0) := (blk_cell BK200.out 1).trans rfl
      have hfs37 := blk_frozen BK200.out 1
      have hns37_0 := NB195_200.out
      have hns37_1 := NB196_200.out
      have hns37_2 := NB197_200.out
      have hms37_0 := NB200_195.out
      have hms37_1 := NB200_196.out
      have hms37_2 := NB200_197.out
      have hs38 : w35.cell? ⟨gb200, 2, none⟩ = some (.int .i64 0) := (blk_cell BK200.out 2).trans rfl
      have hfs38 := blk_frozen BK200.out 2
      have hns38_0 := NB195_200.out
      have hns38_1 := NB196_200.out
      have hns38_2 := NB197_200.out
      have hms38_0 := NB200_195.out
      have hms38_1 := NB200_196.out
      have hms38_2 := NB200_197.out
      have hs39 : w35.cell? ⟨gb200, 3, none⟩ = some (.int .i64 0) := (blk_cell BK200.out 3).trans rfl
      have hfs39 := blk_frozen BK200.out 3
      have hns39_0 := NB195_200.out
      have hns39_1 := NB196_200.out
      have hns39_2 := NB197_200.out
      have hms39_0 := NB200_195.out
      have hms39_1 := NB200_196.out
      have hms39_2 := NB200_197.out
      have hs40 : w35.cell? ⟨gb200, 4, none⟩ = some (.int .i64 0) := (blk_cell BK200.out 4).trans rfl
      have hfs40 := blk_frozen BK200.out 4
      have hns40_0 := NB195_200.out
      have hns40_1 := NB196_200.out
      have hns40_2 := NB197_200.out
      have hms40_0 := NB200_195.out
      have hms40_1 := NB200_196.out
      have hms40_2 := NB200_197.out
      have hs41 : w35.cell? ⟨gb200, 5, none⟩ = some (.int .i64 0) := (blk_cell BK200.out 5).trans rfl
      have hfs41 := blk_frozen BK200.out 5
      have hns41_0 := NB195_200.out
      have hns41_1 := NB196_200.out
      have hns41_2 := NB197_200.out
      have hms41_0 := NB200_195.out
      have hms41_1 := NB200_196.out
      have hms41_2 := NB200_197.out
      have hs42 : w35.cell? ⟨gb200, 6, none⟩ = some (.int .i64 0) := (blk_cell BK200.out 6).trans rfl
      have hfs42 := blk_frozen BK200.out 6
      have hns42_0 := NB195_200.out
      have hns42_1 := NB196_200.out
      have hns42_2 := NB197_200.out
      have hms42_0 := NB200_195.out
      have hms42_1 := NB200_196.out
      have hms42_2 := NB200_197.out
      have hs43 : w35.cell? ⟨gb200, 7, none⟩ = some (.int .i64 0) := (blk_cell BK200.out 7).trans rfl
      have hfs43 := blk_frozen BK200.out 7
      have hns43_0 := NB195_200.out
      have hns43_1 := NB196_200.out
      have hns43_2 := NB197_200.out
      have hms43_0 := NB200_195.out
      have hms43_1 := NB200_196.out
      have hms43_2 := NB200_197.out
      have hs44 : w35.cell? ⟨gb200, 8, none⟩ = some (.int .i64 0) := (blk_cell BK200.out 8).trans rfl
      have hfs44 := blk_frozen BK200.out 8
      have hns44_0 := NB195_200.out
      have hns44_1 := NB196_200.out
      have hns44_2 := NB197_200.out
      have hms44_0 := NB200_195.out
      have hms44_1 := NB200_196.out
      have hms44_2 := NB200_197.out
      refine skip_ (w1 := ?_) (by rfl) rfl ?_ ?_
      rotate_left
      · go_simp
        rfl
      refine hK.out _ _ ⟨((cell_far (p := ⟨gb200, _, none⟩) NB195_200.out _).trans (((cell_far (p := ⟨gb200, _, none⟩) NB195_200.out _).trans (((cell_far (p := ⟨gb200, _, none⟩) NB195_200.out _).trans (((cell_far (p := ⟨gb200, _, none⟩) NB195_200.out _).trans (((cell_far (p := ⟨gb200, _, none⟩) NB195_200.out _).trans (((cell_far (p := ⟨gb200, _, none⟩) NB195_200.out _).trans (((cell_far (p := ⟨gb200, _, none⟩) NB195_200.out _).trans (((cell_far (p := ⟨gb200, _, none⟩) NB195_200.out _).trans (((cell_far (p := ⟨gb200, _, none⟩) NB195_200.out _).trans (hHeld.1)))))))))))))))))), ((cell_far (p := ⟨gb200, _, none⟩) NB195_200.out _).trans (((cell_far (p := ⟨gb200, _, none⟩) NB195_200.out _).trans (((cell_far (p := ⟨gb200, _, none⟩) NB195_200.out _).trans (((cell_far (p := ⟨gb200, _, none⟩) NB195_200.out _).trans (((cell_far (p := ⟨gb200, _, none⟩) NB195_200.out _).trans (((cell_far (p := ⟨gb200, _, none⟩) NB195_200.out _).trans (((cell_far (p := ⟨gb200, _, none⟩) NB195_200.out _).trans (((cell_far (p := ⟨gb200, _, none⟩) NB195_200.out _).trans (((cell_far (p := ⟨gb200, _, none⟩) NB195_200.out _).trans (hHeld.2.1)))))))))))))))))), ((cell_far (p := ⟨gb200, _, none⟩) NB195_200.out _).trans (((cell_far (p := ⟨gb200, _, none⟩) NB195_200.out _).trans (((cell_far (p := ⟨gb200, _, none⟩) NB195_200.out _).trans (((cell_far (p := ⟨gb200, _, none⟩) NB195_200.out _).trans (((cell_far (p := ⟨gb200, _, none⟩) NB195_200.out _).trans (((cell_far (p := ⟨gb200, _, none⟩) NB195_200.out _).trans (((cell_far (p := ⟨gb200, _, none⟩) NB195_200.out _).trans (((cell_far (p := ⟨gb200, _, none⟩) NB195_200.out _).trans (((cell_far (p := ⟨gb200, _, none⟩) NB195_200.out _).trans (hHeld.2.2.1)))))))))))))))))), ((cell_far (p := ⟨gb200, _, none⟩) NB195_200.out _).trans (((cell_far (p := ⟨gb200, _, none⟩) NB195_200.out _).trans (((cell_far (p := ⟨gb200, _, none⟩) NB195_200.out _).trans (((cell_far (p := ⟨gb200, _, none⟩) NB195_200.out _).trans (((cell_far (p := ⟨gb200, _, none⟩) NB195_200.out _).trans (((cell_far (p := ⟨gb200, _, none⟩) NB195_200.out _).trans (((cell_far (p := ⟨gb200, _, none⟩) NB195_200.out _).trans (((cell_far (p := ⟨gb200, _, none⟩) NB195_200.out _).trans (((cell_far (p := ⟨gb200, _, none⟩) NB195_200.out _).trans (hHeld.2.2.2.1)))))))))))))))))), ((cell_far (p := ⟨gb200, _, none⟩) NB195_200.out _).trans (((cell_far (p := ⟨gb200, _, none⟩) NB195_200.out _).trans (((cell_far (p := ⟨gb200, _, none⟩) NB195_200.out _).trans (((cell_far (p := ⟨gb200, _, none⟩) NB195_200.out _).trans (((cell_far (p := ⟨gb200, _, none⟩) NB195_200.out _).trans (((cell_far (p := ⟨gb200, _, none⟩) NB195_200.out _).trans (((cell_far (p := ⟨gb200, _, none⟩) NB195_200.out _).trans (((cell_far (p := ⟨gb200, _, none⟩) NB195_200.out _).trans (((cell_far (p := ⟨gb200, _, none⟩) NB195_200.out _).trans (hHeld.2.2.2.2.1)))))))))))))))))), ((cell_far (p := ⟨gb200, _, none⟩) NB195_200.out _).trans (((cell_far (p := ⟨gb200, _, none⟩) NB195_200.out _).trans (((cell_far (p := ⟨gb200, _, none⟩) NB195_200.out _).trans (((cell_far (p := ⟨gb200, _, none⟩) NB195_200.out _).trans (((cell_far (p := ⟨gb200, _, none⟩) NB195_200.out _).trans (((cell_far (p := ⟨gb200, _, none⟩) NB195_200.out _).trans (((cell_far (p := ⟨gb200, _, none⟩) NB195_200.out _).trans (((cell_far (p := ⟨gb200, _, none⟩) NB195_200.out _).trans (((cell_far (p := ⟨gb200, _, none⟩) NB195_200.out _).trans (hHeld.2.2.2.2.2.1)))))))))))))))))), ((cell_far (p := ⟨gb200, _, none⟩) NB195_200.out _).trans (((cell_far (p := ⟨gb200, _, none⟩) NB195_200.out _).trans (((cell_far (p := ⟨gb200, _, none⟩) NB195_200.out _).trans (((cell_far (p := ⟨gb200, _, none⟩) NB195_200.out _).trans (((cell_far (p := ⟨gb200, _, none⟩) NB195_200.out _).trans (((cell_far (p := ⟨gb200, _, none⟩) NB195_200.out _).trans (((cell_far (p := ⟨gb200, _, none⟩) NB195_200.out _).trans (((cell_far (p := ⟨gb200, _, none⟩) NB195_200.out _).trans (((cell_far (p := ⟨gb200, _, none⟩) NB195_200.out _).trans (hHeld.2.2.2.2.2.2.1)))))))))))))))))), ((cell_far (p := ⟨gb200, _, none⟩) NB195_200.out _).trans (((cell_far (p := ⟨gb200, _, none⟩) NB195_200.out _).trans (((cell_far (p := ⟨gb200, _, none⟩) NB195_200.out _).trans (((cell_far (p := ⟨gb200, _, none⟩) NB195_200.out _).trans (((cell_far (p := ⟨gb200, _, none⟩) NB195_200.out _).trans (((cell_far (p := ⟨gb200, _, none⟩) NB195_200.out _).trans (((cell_far (p := ⟨gb200, _, none⟩) NB195_200.out _).trans (((cell_far (p := ⟨gb200, _, none⟩) NB195_200.out _).trans (((cell_far (p := ⟨gb200, _, none⟩) NB195_200.out _).trans (hHeld.2.2.2.2.2.2.2.1)))))))))))))))))), ((cell_far (p := ⟨gb200, _, none⟩) NB195_200.out _).trans (((cell_far (p := ⟨gb200, _, none⟩) NB195_200.out _).trans (((cell_far (p := ⟨gb200, _, none⟩) NB195_200.out _).trans (((cell_far (p := ⟨gb200, _, none⟩) NB195_200.out _).trans (((cell_far (p := ⟨gb200, _, none⟩) NB195_200.out _).trans (((cell_far (p := ⟨gb200, _, none⟩) NB195_200.out _).trans (((cell_far (p := ⟨gb200, _, none⟩) NB195_200.out _).trans (((cell_far (p := ⟨gb200, _, none⟩) NB195_200.out _).trans (((cell_far (p := ⟨gb200, _, none⟩) NB195_200.out _).trans (hHeld.2.2.2.2.2.2.2.2.1)))))))))))))))))), ((cell_far (p := ⟨gb200, _, none⟩) NB196_200.out _).trans (((cell_far (p := ⟨gb200, _, none⟩) NB196_200.out _).trans (((cell_far (p := ⟨gb200, _, none⟩) NB196_200.out _).trans (((cell_far (p := ⟨gb200, _, none⟩) NB196_200.out _).trans (((cell_far (p := ⟨gb200, _, none⟩) NB196_200.out _).trans (((cell_far (p := ⟨gb200, _, none⟩) NB196_200.out _).trans (((cell_far (p := ⟨gb200, _, none⟩) NB196_200.out _).trans (((cell_far (p := ⟨gb200, _, none⟩) NB196_200.out _).trans (((cell_far (p := ⟨gb200, _, none⟩) NB196_200.out _).trans (hHeld.2.2.2.2.2.2.2.2.2.1)))))))))))))))))), ((cell_far (p := ⟨gb200, _, none⟩) NB196_200.out _).trans (((cell_far (p := ⟨gb200, _, none⟩) NB196_200.out _).trans (((cell_far (p := ⟨gb200, _, none⟩) NB196_200.out _).trans (((cell_far (p := ⟨gb200, _, none⟩) NB196_200.out _).trans (((cell_far (p := ⟨gb200, _, none⟩) NB196_200.out _).trans (((cell_far (p := ⟨gb200, _, none⟩) NB196_200.out _).trans (((cell_far (p := ⟨gb200, _, none⟩) NB196_200.out _).trans (((cell_far (p := ⟨gb200, _, none⟩) NB196_200.out _).trans (((cell_far (p := ⟨gb200, _, none⟩) NB196_200.out _).trans (hHeld.2.2.2.2.2.2.2.2.2.2.1)))))))))))))))))), ((cell_far (p := ⟨gb200, _, none⟩) NB196_200.out _).trans (((cell_far (p := ⟨gb200, _, none⟩) NB196_200.out _).trans (((cell_far (p := ⟨gb200, _, none⟩) NB196_200.out _).trans (((cell_far (p := ⟨gb200, _, none⟩) NB196_200.out _).trans (((cell_far (p := ⟨gb200, _, none⟩) NB196_200.out _).trans (((cell_far (p := ⟨gb200, _, none⟩) NB196_200.out _).trans (((cell_far (p := ⟨gb200, _, none⟩) NB196_200.out _).trans (((cell_far (p := ⟨gb200, _, none⟩) NB196_200.out _).trans (((cell_far (p := ⟨gb200, _, none⟩) NB196_200.out _).trans (hHeld.2.2.2.2.2.2.2.2.2.2.2))))))))))))))))))⟩ (fun hHeld => ?_)
      clear hK K
      refine doneG_ (done_of HT_.out (by kernel_rfl)) (fun w' => Aside0 (w'.heap[gb200]? = some (.cells #[.int .i64 a2, .int .i64 2, .int .i64 a0_2, .int .i64 a0_3, .int .i64 t198, .int .i64 t199, .int .i64 1, .int .i64 0, .int .i64 a0_0] 26 (0, 0))) ∧ Aside0 (w'.heap[gb197]? = some (.cells #[.int .i64 0, .int .i64 0, .int .i64 0, .int .i64 0, .int .i64 0, .int .i64 0, .int .i64 0, .int .i64 0, .int .i64 0] 26 (0, 0))) ∧ Aside0 (Below w.heap.size w w')) ⟨⟨by refine blk_put (cs := #[.int .i64 a2, .int .i64 2, .int .i64 a0_2, .int .i64 a0_3, .int .i64 t198, .int .i64 t199, .int .i64 1, .int .i64 0, .int .i64 0]) ?_ 8 _ rfl; refine blk_put (cs := #[.int .i64 a2, .int .i64 2, .int .i64 a0_2, .int .i64 a0_3, .int .i64 t198, .int .i64 t199, .int .i64 1, .int .i64 0, .int .i64 0]) ?_ 7 _ rfl; refine blk_put (cs := #[.int .i64 a2, .int .i64 2, .int .i64 a0_2, .int .i64 a0_3, .int .i64 t198, .int .i64 t199, .int .i64 0, .int .i64 0, .int .i64 0]) ?_ 6 _ rfl; refine blk_put (cs := #[.int .i64 a2, .int .i64 2, .int .i64 a0_2, .int .i64 a0_3, .int .i64 t198, .int .i64 0, .int .i64 0, .int .i64 0, .int .i64 0]) ?_ 5 _ rfl; refine blk_put (cs := #[.int .i64 a2, .int .i64 2, .int .i64 a0_2, .int .i64 a0_3, .int .i64 0, .int .i64 0, .int .i64 0, .int .i64 0, .int .i64 0]) ?_ 4 _ rfl; refine blk_put (cs := #[.int .i64 a2, .int .i64 2, .int .i64 a0_2, .int .i64 0, .int .i64 0, .int .i64 0, .int .i64 0, .int .i64 0, .int .i64 0]) ?_ 3 _ rfl; refine blk_put (cs := #[.int .i64 a2, .int .i64 2, .int .i64 0, .int .i64 0, .int .i64 0, .int .i64 0, .int .i64 0, .int .i64 0, .int .i64 0]) ?_ 2 _ rfl; refine blk_put (cs := #[.int .i64 a2, .int .i64 0, .int .i64 0, .int .i64 0, .int .i64 0, .int .i64 0, .int .i64 0, .int .i64 0, .int .i64 0]) ?_ 1 _ rfl; refine blk_put (cs := #[.int .i64 0, .int .i64 0, .int .i64 0, .int .i64 0, .int .i64 0, .int .i64 0, .int .i64 0, .int .i64 0, .int .i64 0]) ?_ 0 _ rfl; (with_reducible repeat (first | refine blk_drewN ?_ _ | refine blk_drew ?_ | refine blk_alloc ?_ _)); exact BK200.out⟩, ⟨by (with_reducible repeat (first | refine blk_drewN ?_ _ | refine blk_drew ?_ | refine blk_alloc ?_ _ | refine blk_far ?_ NB197_200.out _)); exact BK197.out⟩, ⟨by repeat (first | (with_reducible first | exact HB.out | apply below_alloc | apply pw_below_drewN | apply below_drew1 | refine below_set ?_ GE200.out | refine below_set ?_ GE197.out) | exact HB.out)⟩⟩ ?_
      clear HB BK200 BK197
      rintro wG_ ⟨BK200, BK197, HB⟩
      have hnb45 := NB200_195.out
      have hnc45 := NB195_200.out
      have hnb46 := NB200_196.out
      have hnc46 := NB196_200.out
      have hnb47 := NB200_197.out
      have hnc47 := NB197_200.out
      have hcz48_0 : wG_.cell? ⟨gb200, 0, none⟩ = some (.int .i64 a2) := (blk_cell BK200.out 0).trans rfl
      have hcz48_1 : wG_.cell? ⟨gb200, 1, none⟩ = some (.int .i64 2) := (blk_cell BK200.out 1).trans rfl
      have hcz48_2 : wG_.cell? ⟨gb200, 2, none⟩ = some (.int .i64 a0_2) := (blk_cell BK200.out 2).trans rfl
      have hcz48_3 : wG_.cell? ⟨gb200, 3, none⟩ = some (.int .i64 a0_3) := (blk_cell BK200.out 3).trans rfl
      have hcz48_4 : wG_.cell? ⟨gb200, 4, none⟩ = some (.int .i64 t198) := (blk_cell BK200.out 4).trans rfl
      have hcz48_5 : wG_.cell? ⟨gb200, 5, none⟩ = some (.int .i64 t199) := (blk_cell BK200.out 5).trans rfl
      have hcz48_6 : wG_.cell? ⟨gb200, 6, none⟩ = some (.int .i64 1) := (blk_cell BK200.out 6).trans rfl
      have hcz48_7 : wG_.cell? ⟨gb200, 7, none⟩ = some (.int .i64 0) := (blk_cell BK200.out 7).trans rfl
      have hcz48_8 : wG_.cell? ⟨gb200, 8, none⟩ = some (.int .i64 a0_0) := (blk_cell BK200.out 8).trans rfl
      have hfz48_0 := blk_frozen BK200.out 0
      have hfz48_1 := blk_frozen BK200.out 1
      have hfz48_2 := blk_frozen BK200.out 2
      have hfz48_3 := blk_frozen BK200.out 3
      have hfz48_4 := blk_frozen BK200.out 4
      have hfz48_5 := blk_frozen BK200.out 5
      have hfz48_6 := blk_frozen BK200.out 6
      have hfz48_7 := blk_frozen BK200.out 7
      have hfz48_8 := blk_frozen BK200.out 8
      have hnb49 := NB197_195.out
      have hnc49 := NB195_197.out
      have hnb50 := NB197_196.out
      have hnc50 := NB196_197.out
      have hcz51_0 : wG_.cell? ⟨gb197, 0, none⟩ = some (.int .i64 0) := (blk_cell BK197.out 0).trans rfl
      have hcz51_1 : wG_.cell? ⟨gb197, 1, none⟩ = some (.int .i64 0) := (blk_cell BK197.out 1).trans rfl
      have hcz51_2 : wG_.cell? ⟨gb197, 2, none⟩ = some (.int .i64 0) := (blk_cell BK197.out 2).trans rfl
      have hcz51_3 : wG_.cell? ⟨gb197, 3, none⟩ = some (.int .i64 0) := (blk_cell BK197.out 3).trans rfl
      have hcz51_4 : wG_.cell? ⟨gb197, 4, none⟩ = some (.int .i64 0) := (blk_cell BK197.out 4).trans rfl
      have hcz51_5 : wG_.cell? ⟨gb197, 5, none⟩ = some (.int .i64 0) := (blk_cell BK197.out 5).trans rfl
      have hcz51_6 : wG_.cell? ⟨gb197, 6, none⟩ = some (.int .i64 0) := (blk_cell BK197.out 6).trans rfl
      have hcz51_7 : wG_.cell? ⟨gb197, 7, none⟩ = some (.int .i64 0) := (blk_cell BK197.out 7).trans rfl
      have hcz51_8 : wG_.cell? ⟨gb197, 8, none⟩ = some (.int .i64 0) := (blk_cell BK197.out 8).trans rfl
      have hfz51_0 := blk_frozen BK197.out 0
      have hfz51_1 := blk_frozen BK197.out 1
      have hfz51_2 := blk_frozen BK197.out 2
      have hfz51_3 := blk_frozen BK197.out 3
      have hfz51_4 := blk_frozen BK197.out 4
      have hfz51_5 := blk_frozen BK197.out 5
      have hfz51_6 := blk_frozen BK197.out 6
      have hfz51_7 := blk_frozen BK197.out 7
      have hfz51_8 := blk_frozen BK197.out 8
      try go_wp2
      refine bodyPost_ret (results_cell_row rfl _ _ gb197 26 #[.int .i64 a2, .int .i64 2, .int .i64 a0_2, .int .i64 a0_3, .int .i64 t198, .int .i64 t199, .int .i64 1, .int .i64 0, .int .i64 a0_0] (0, 0) _ rfl (by (with_reducible repeat (first | refine blk_drewN ?_ _ | refine blk_drew ?_ | refine blk_alloc ?_ _)); refine blk_put (cs := #[.int .i64 a2, .int .i64 2, .int .i64 a0_2, .int .i64 a0_3, .int .i64 t198, .int .i64 t199, .int .i64 1, .int .i64 0, .int .i64 0]) ?_ 8 _ rfl; (with_reducible repeat (first | refine blk_drewN ?_ _ | refine blk_drew ?_ | refine blk_alloc ?_ _)); refine blk_put (cs := #[.int .i64 a2, .int .i64 2, .int .i64 a0_2, .int .i64 a0_3, .int .i64 t198, .int .i64 t199, .int .i64 1, .int .i64 0, .int .i64 0]) ?_ 7 _ rfl; (with_reducible repeat (first | refine blk_drewN ?_ _ | refine blk_drew ?_ | refine blk_alloc ?_ _)); refine blk_put (cs := #[.int .i64 a2, .int .i64 2, .int .i64 a0_2, .int .i64 a0_3, .int .i64 t198, .int .i64 t199, .int .i64 0, .int .i64 0, .int .i64 0]) ?_ 6 _ rfl; (with_reducible repeat (first | refine blk_drewN ?_ _ | refine blk_drew ?_ | refine blk_alloc ?_ _)); refine blk_put (cs := #[.int .i64 a2, .int .i64 2, .int .i64 a0_2, .int .i64 a0_3, .int .i64 t198, .int .i64 0, .int .i64 0, .int .i64 0, .int .i64 0]) ?_ 5 _ rfl; (with_reducible repeat (first | refine blk_drewN ?_ _ | refine blk_drew ?_ | refine blk_alloc ?_ _)); refine blk_put (cs := #[.int .i64 a2, .int .i64 2, .int .i64 a0_2, .int .i64 a0_3, .int .i64 0, .int .i64 0, .int .i64 0, .int .i64 0, .int .i64 0]) ?_ 4 _ rfl; (with_reducible repeat (first | refine blk_drewN ?_ _ | refine blk_drew ?_ | refine blk_alloc ?_ _)); refine blk_put (cs := #[.int .i64 a2, .int .i64 2, .int .i64 a0_2, .int .i64 0, .int .i64 0, .int .i64 0, .int .i64 0, .int .i64 0, .int .i64 0]) ?_ 3 _ rfl; (with_reducible repeat (first | refine blk_drewN ?_ _ | refine blk_drew ?_ | refine blk_alloc ?_ _)); refine blk_put (cs := #[.int .i64 a2, .int .i64 2, .int .i64 0, .int .i64 0, .int .i64 0, .int .i64 0, .int .i64 0, .int .i64 0, .int .i64 0]) ?_ 2 _ rfl; (with_reducible repeat (first | refine blk_drewN ?_ _ | refine blk_drew ?_ | refine blk_alloc ?_ _)); refine blk_put (cs := #[.int .i64 a2, .int .i64 0, .int .i64 0, .int .i64 0, .int .i64 0, .int .i64 0, .int .i64 0, .int .i64 0, .int .i64 0]) ?_ 1 _ rfl; (with_reducible repeat (first | refine blk_drewN ?_ _ | refine blk_drew ?_ | refine blk_alloc ?_ _)); refine blk_put (cs := #[.int .i64 0, .int .i64 0, .int .i64 0, .int .i64 0, .int .i64 0, .int .i64 0, .int .i64 0, .int .i64 0, .int .i64 0]) ?_ 0 _ rfl; (with_reducible repeat (first | refine blk_far ?_ NB197_200.out _ | refine blk_drewN ?_ _ | refine blk_drew ?_ | refine blk_alloc ?_ _)); exact BK197.out) Try.underlying26 rfl (by kernel_rfl)) rfl ?_
      exact ⟨by first | rfl | (simp [errW_none, errW_some] <;> rfl) | (simp [*, errW_none, errW_some] <;> rfl), au12_6⟩
  · rw [if_neg c6] at H
    have c6b0 : (t198 == 0) = false := beq_eq_false_iff_ne.mpr c6
    have c6b1 : (t198 != 0) = true := bne_iff_ne.mpr c6
    simp only [Option.some.injEq, Prod.mk.injEq] at H
    obtain ⟨rfl, rfl, rfl, rfl, rfl, rfl, rfl, rfl, rfl⟩ := H
    go_enter Try.func14, Try.ntmps14
    try go_wp2_with (first | ((with_reducible refine gate_dst (N := 3) rfl ?_); refine box_event ?hg (N := 3) ?hd (cs := #[.int .i64 a0_0, .int .i64 a0_1, .int .i64 a0_2, .int .i64 a0_3, .int .i64 a0_4, .int .i64 a0_5, .int .i64 a0_6, .int .i64 a0_7, .int .i64 a0_8]) (t := 26) ?hr ?_; (case hd => rfl); (case hg => rfl); (case hr => first | (go_simp; done) | (go_simp; rfl)); intro gb195 hg w52 hbox hb; have n0_ := Aside0.mk (below_step au12_14 hb); have n1_ := Aside0.mk (hbox); have n2_ := Aside0.mk ((by rw [hg]; exact (below_size au12_14) : w.heap.size ≤ gb195)); have n3_ := Aside0.mk ((by rw [hg]; exact (below_size au12_14) : w.heap.size ≤ gb195)); clear HB; have HB := n0_; have BK195 := n1_; have GW195 := n2_; have GE195 := n3_; clear n0_ n1_ n2_ n3_; clear hb hbox hg) | ((with_reducible refine gate_dst (N := 4) rfl ?_); refine box_event ?hg (N := 4) ?hd (cs := #[.int .i64 a1_0, .int .i64 a1_1, .bool a1_2]) (t := 28) ?hr ?_; (case hd => rfl); (case hg => rfl); (case hr => first | (go_simp; done) | (go_simp; rfl)); intro gb196 hg w53 hbox hb; have n0_ := Aside0.mk (blk_below (g := gb195) (o := .cells #[.int .i64 a0_0, .int .i64 a0_1, .int .i64 a0_2, .int .i64 a0_3, .int .i64 a0_4, .int .i64 a0_5, .int .i64 a0_6, .int .i64 a0_7, .int .i64 a0_8] 26 (0, 0)) au12_0 hb); have n1_ := Aside0.mk (below_step au12_13 hb); have n2_ := Aside0.mk (hbox); have n3_ := Aside0.mk ((by rw [hg]; exact (below_size au12_13) : w.heap.size ≤ gb196)); have n4_ := Aside0.mk ((by rw [hg]; exact (below_size au12_13) : w.heap.size ≤ gb196)); have n5_ := Aside0.mk ((au12_4 : gb195 ≠ gb196)); have n6_ := Aside0.mk ((au12_5 : gb196 ≠ gb195)); clear BK195; clear HB; have BK195 := n0_; have HB := n1_; have BK196 := n2_; have GW196 := n3_; have GE196 := n4_; have NB195_196 := n5_; have NB196_195 := n6_; clear n0_ n1_ n2_ n3_ n4_ n5_ n6_; clear hb hbox hg) | ((with_reducible refine gate_dst (N := 6) rfl ?_); refine box_event ?hg (N := 6) ?hd (cs := #[.int .i64 0, .int .i64 0, .int .i64 0, .int .i64 0, .int .i64 0, .int .i64 0, .int .i64 0, .int .i64 0, .int .i64 0]) (t := 26) ?hr ?_; (case hd => rfl); (case hg => rfl); (case hr => first | (go_simp; done) | (go_simp; rfl)); intro gb197 hg w54 hbox hb; have n0_ := Aside0.mk (blk_below (g := gb195) (o := .cells #[.int .i64 a0_0, .int .i64 a0_1, .int .i64 a0_2, .int .i64 a0_3, .int .i64 a0_4, .int .i64 a0_5, .int .i64 a0_6, .int .i64 a0_7, .int .i64 a0_8] 26 (0, 0)) au12_0 hb); have n1_ := Aside0.mk (blk_below (g := gb196) (o := .cells #[.int .i64 a1_0, .int .i64 a1_1, .bool a1_2] 28 (0, 0)) au12_2 hb); have n2_ := Aside0.mk (below_step au12_10 hb); have n3_ := Aside0.mk (hbox); have n4_ := Aside0.mk ((by rw [hg]; exact (below_size au12_10) : w.heap.size ≤ gb197)); have n5_ := Aside0.mk ((by rw [hg]; exact (below_size au12_10) : w.heap.size ≤ gb197)); have n6_ := Aside0.mk ((au12_4 : gb195 ≠ gb197)); have n7_ := Aside0.mk ((au12_5 : gb197 ≠ gb195)); have n8_ := Aside0.mk ((au12_11 : gb196 ≠ gb197)); have n9_ := Aside0.mk ((au12_12 : gb197 ≠ gb196)); clear BK195; clear BK196; clear HB; have BK195 := n0_; have BK196 := n1_; have HB := n2_; have BK197 := n3_; have GW197 := n4_; have GE197 := n5_; have NB195_197 := n6_; have NB197_195 := n7_; have NB196_197 := n8_; have NB197_196 := n9_; clear n0_ n1_ n2_ n3_ n4_ n5_ n6_ n7_ n8_ n9_; clear hb hbox hg))
    have n0_ := Aside0.mk (blk_drew BK195.out)
    have n1_ := Aside0.mk (blk_drew BK196.out)
    have n2_ := Aside0.mk (blk_drew BK197.out)
    have n3_ := Aside0.mk (below_drew1 HB.out)
    clear BK195
    clear BK196
    clear BK197
    clear HB
    have BK195 := n0_
    have BK196 := n1_
    have BK197 := n2_
    have HB := n3_
    clear n0_ n1_ n2_ n3_
    refine start_ (n := 16) (S := fun w' => w'.cell? ⟨gb195, 0, none⟩ = some (.int .i64 a0_0) ∧ w'.cell? ⟨gb195, 1, none⟩ = some (.int .i64 a0_1) ∧ w'.cell? ⟨gb195, 2, none⟩ = some (.int .i64 a0_2) ∧ w'.cell? ⟨gb195, 3, none⟩ = some (.int .i64 a0_3) ∧ w'.cell? ⟨gb195, 4, none⟩ = some (.int .i64 a0_4) ∧ w'.cell? ⟨gb195, 5, none⟩ = some (.int .i64 a0_5) ∧ w'.cell? ⟨gb195, 6, none⟩ = some (.int .i64 a0_6) ∧ w'.cell? ⟨gb195, 7, none⟩ = some (.int .i64 a0_7) ∧ w'.cell? ⟨gb195, 8, none⟩ = some (.int .i64 a0_8) ∧ w'.cell? ⟨gb196, 0, none⟩ = some (.int .i64 a1_0) ∧ w'.cell? ⟨gb196, 1, none⟩ = some (.int .i64 a1_1) ∧ w'.cell? ⟨gb196, 2, none⟩ = some (.bool a1_2)) (ds := []) #[false, false, false, false, false, false, false, false, false, false, false, false, false, false, false, false] (by kernel_rfl) rfl rfl ⟨(blk_cell BK195.out 0).trans rfl, (blk_cell BK195.out 1).trans rfl, (blk_cell BK195.out 2).trans rfl, (blk_cell BK195.out 3).trans rfl, (blk_cell BK195.out 4).trans rfl, (blk_cell BK195.out 5).trans rfl, (blk_cell BK195.out 6).trans rfl, (blk_cell BK195.out 7).trans rfl, (blk_cell BK195.out 8).trans rfl, (blk_cell BK196.out 0).trans rfl, (blk_cell BK196.out 1).trans rfl, (blk_cell BK196.out 2).trans rfl⟩ (fun hHeld => ?_); refine with_tabW moving_Shoot.tab1 moving_Shoot.bits1 (fun HT_ HW_ => ?_)
    generalize w54.drew = w55 at BK195 BK196 BK197 HB hHeld ⊢
    refine pure_ (i := 0) (N := some 8) (v := ?_) (a' := ?_) #[true, false, false, false, false, false, false, false, false, false, false, false, false, false, false, false] rfl rfl (any_of HT_.out (by kernel_rfl)) (fun _ _ _ h => h) (Or.inl ⟨by rfl, ?_⟩) ?_ ?_
    rotate_left
    · intro w'
      go_simp
      with_reducible rfl
    rotate_left
    · simp only [Act.put, List.setIfInBounds_toArray, List.set_cons_zero, List.set_cons_succ, i64_w, i32_w]
      rfl
    refine pure_ (i := 1) (N := some 9) (v := ?_) (a' := ?_) #[true, true, false, false, false, false, false, false, false, false, false, false, false, false, false, false] rfl rfl (any_of HT_.out (by kernel_rfl)) (fun _ _ _ h => h) (Or.inl ⟨by rfl, ?_⟩) ?_ ?_
    rotate_left
    · intro w'
      go_simp
      with_reducible rfl
    rotate_left
    · simp only [Act.put, List.setIfInBounds_toArray, List.set_cons_zero, List.set_cons_succ, i64_w, i32_w]
      rfl
    refine pure_ (i := 3) (N := some 11) (v := ?_) (a' := ?_) #[true, true, false, true, false, false, false, false, false, false, false, false, false, false, false, false] rfl rfl (any_of HT_.out (by kernel_rfl)) (fun _ _ _ h => h) (Or.inl ⟨by rfl, ?_⟩) ?_ ?_
    rotate_left
    · intro w'
      go_simp
      with_reducible rfl
    rotate_left
    · simp only [Act.put, List.setIfInBounds_toArray, List.set_cons_zero, List.set_cons_succ, i64_w, i32_w]
      rfl
    refine pure_ (i := 5) (N := some 13) (v := ?_) (a' := ?_) #[true, true, false, true, false, true, false, false, false, false, false, false, false, false, false, false] rfl rfl (any_of HT_.out (by kernel_rfl)) (fun _ _ _ h => h) (Or.inl ⟨by rfl, ?_⟩) ?_ ?_
    rotate_left
    · intro w'
      go_simp
      with_reducible rfl
    rotate_left
    · simp only [Act.put, List.setIfInBounds_toArray, List.set_cons_zero, List.set_cons_succ, i64_w, i32_w]
      rfl
    refine pure_ (i := 8) (N := some 16) (v := ?_) (a' := ?_) #[true, true, false, true, false, true, false, false, true, false, false, false, false, false, false, false] rfl rfl (any_of HT_.out (by kernel_rfl)) (fun _ _ _ h => h) (Or.inl ⟨by rfl, ?_⟩) ?_ ?_
    rotate_left
    · intro w'
      go_simp
      with_reducible rfl
    rotate_left
    · simp only [Act.put, List.setIfInBounds_toArray, List.set_cons_zero, List.set_cons_succ, i64_w, i32_w]
      rfl
    refine pure_ (i := 11) (N := some 19) (v := ?_) (a' := ?_) #[true, true, false, true, false, true, false, false, true, false, false, true, false, false, false, false] rfl rfl (any_of HT_.out (by kernel_rfl)) (fun _ _ _ h => h) (Or.inl ⟨by rfl, ?_⟩) ?_ ?_
    rotate_left
    · intro w'
      go_simp
      with_reducible rfl
    rotate_left
    · simp only [Act.put, List.setIfInBounds_toArray, List.set_cons_zero, List.set_cons_succ, i64_w, i32_w]
      rfl
    refine take_ (i := 2) (N := some 10) (v := ?_) (a' := ?_) #[true, true, true, true, false, true, false, false, true, false, false, true, false, false, false, false] rfl rfl (take_ofW HT_.out HW_.out (by kernel_rfl)) (fun _ _ _ h => h) (Or.inl ⟨by rfl, ?_⟩) hHeld ?_ ?_
    rotate_left
    · rintro w' ⟨s0, s1, s2, s3, s4, s5, s6, s7, s8, s9, s10, s11⟩
      go_simp
      with_reducible rfl
    rotate_left
    · simp only [Act.put, List.setIfInBounds_toArray, List.set_cons_zero, List.set_cons_succ, i64_w, i32_w]
      rfl
    refine take_ (i := 4) (N := some 12) (v := ?_) (a' := ?_) #[true, true, true, true, true, true, false, false, true, false, false, true, false, false, false, false] rfl rfl (take_ofW HT_.out HW_.out (by kernel_rfl)) (fun _ _ _ h => h) (Or.inl ⟨by rfl, ?_⟩) hHeld ?_ ?_
    rotate_left
    · rintro w' ⟨s0, s1, s2, s3, s4, s5, s6, s7, s8, s9, s10, s11⟩
      go_simp
      with_reducible rfl
    rotate_left
    · simp only [Act.put, List.setIfInBounds_toArray, List.set_cons_zero, List.set_cons_succ, i64_w, i32_w]
      rfl
    refine take_ (i := 6) (N := some 14) (v := ?_) (a' := ?_) #[true, true, true, true, true, true, true, false, true, false, false, true, false, false, false, false] rfl rfl (take_ofW HT_.out HW_.out (by kernel_rfl)) (fun _ _ _ h => h) (Or.inl ⟨by rfl, ?_⟩) hHeld ?_ ?_
    rotate_left
    · rintro w' ⟨s0, s1, s2, s3, s4, s5, s6, s7, s8, s9, s10, s11⟩
      go_simp
      with_reducible rfl
    rotate_left
    · simp only [Act.put, List.setIfInBounds_toArray, List.set_cons_zero, List.set_cons_succ, i64_w, i32_w]
      rfl
    refine take_ (i := 9) (N := some 17) (v := ?_) (a' := ?_) #[true, true, true, true, true, true, true, false, true, true, false, true, false, false, false, false] rfl rfl (take_ofW HT_.out HW_.out (by kernel_rfl)) (fun _ _ _ h => h) (Or.inl ⟨by rfl, ?_⟩) hHeld ?_ ?_
    rotate_left
    · rintro w' ⟨s0, s1, s2, s3, s4, s5, s6, s7, s8, s9, s10, s11⟩
      go_simp
      with_reducible rfl
    rotate_left
    · simp only [Act.put, List.setIfInBounds_toArray, List.set_cons_zero, List.set_cons_succ, i64_w, i32_w]
      rfl
    refine take_ (i := 12) (N := some 20) (v := ?_) (a' := ?_) #[true, true, true, true, true, true, true, false, true, true, false, true, true, false, false, false] rfl rfl (take_ofW HT_.out HW_.out (by kernel_rfl)) (fun _ _ _ h => h) (Or.inl ⟨by rfl, ?_⟩) hHeld ?_ ?_
    rotate_left
    · rintro w' ⟨s0, s1, s2, s3, s4, s5, s6, s7, s8, s9, s10, s11⟩
      go_simp
      with_reducible rfl
    rotate_left
    · simp only [Act.put, List.setIfInBounds_toArray, List.set_cons_zero, List.set_cons_succ, i64_w, i32_w]
      rfl
    refine join_ (σ := Nat) 1 #[true, true, true, true, true, true, true, true, true, true, true, true, true, true, true, false] (fun s_ => [(15, .int .i64 t198), (18, .int .i64 t199), (7, .pointer (some ⟨s_, 0, none⟩)), (21, .agg #[.int .i64 a2, .int .i64 2, .int .i64 a0_2, .int .i64 a0_3, .int .i64 t198, .int .i64 t199, .int .i64 1, .int .i64 0, .int .i64 a0_0])]) (fun s_ w' => (w'.cell? ⟨gb195, 0, none⟩ = some (.int .i64 a0_0) ∧ w'.cell? ⟨gb195, 1, none⟩ = some (.int .i64 a0_1) ∧ w'.cell? ⟨gb195, 2, none⟩ = some (.int .i64 a0_2) ∧ w'.cell? ⟨gb195, 3, none⟩ = some (.int .i64 a0_3) ∧ w'.cell? ⟨gb195, 4, none⟩ = some (.int .i64 a0_4) ∧ w'.cell? ⟨gb195, 5, none⟩ = some (.int .i64 a0_5) ∧ w'.cell? ⟨gb195, 6, none⟩ = some (.int .i64 a0_6) ∧ w'.cell? ⟨gb195, 7, none⟩ = some (.int .i64 a0_7) ∧ w'.cell? ⟨gb195, 8, none⟩ = some (.int .i64 a0_8) ∧ w'.cell? ⟨gb196, 0, none⟩ = some (.int .i64 a1_0) ∧ w'.cell? ⟨gb196, 1, none⟩ = some (.int .i64 a1_1) ∧ w'.cell? ⟨gb196, 2, none⟩ = some (.bool a1_2)) ∧ (w'.heap[gb195]? = some (.cells #[.int .i64 a0_0, .int .i64 a0_1, .int .i64 a0_2, .int .i64 a0_3, .int .i64 a0_4, .int .i64 a0_5, .int .i64 a0_6, .int .i64 a0_7, .int .i64 a0_8] 26 (0, 0))) ∧ (w'.heap[gb196]? = some (.cells #[.int .i64 a1_0, .int .i64 a1_1, .bool a1_2] 28 (0, 0))) ∧ (w'.heap[gb197]? = some (.cells #[.int .i64 0, .int .i64 0, .int .i64 0, .int .i64 0, .int .i64 0, .int .i64 0, .int .i64 0, .int .i64 0, .int .i64 0] 26 (0, 0))) ∧ (w'.heap[s_]? = some (.cells #[.int .i64 0, .int .i64 0, .int .i64 0, .int .i64 0, .int .i64 0, .int .i64 0, .int .i64 0, .int .i64 0, .int .i64 0] 26 (0, 0))) ∧ (w.heap.size ≤ s_) ∧ (w.heap.size ≤ s_) ∧ (gb195 ≠ s_) ∧ (s_ ≠ gb195) ∧ (gb196 ≠ s_) ∧ (s_ ≠ gb196) ∧ (gb197 ≠ s_) ∧ (s_ ≠ gb197) ∧ (Below w.heap.size w w')) ?_ ?_
    rotate_left
    · intro hCont
      refine two_ (i := 7) (j := 14) (Ni := some 15) (Nj := some 7) #[true, true, true, true, true, true, true, true, true, true, false, true, true, false, false, false] #[true, true, true, true, true, true, true, false, true, true, false, true, true, false, true, false] rfl rfl rfl rfl (two_of HT_.out (by kernel_rfl)) (by decide) (by decide) (fun K hK => ?_) (fun K hK => ?_)
      · skip
        refine goes_ Try.func32 (by kernel_rfl) rfl #[.int .i64 a1_0] (by rfl) rfl rfl au12_7 ?_
        with_reducible refine (moving_pace.calls a1_0 t198 _ A4.out).mono ?_
        rintro e w' ⟨rfl, ⟨nd, rfl⟩⟩
        refine ⟨_, rfl, ?_⟩
        refine hK.out _ _ ⟨(blk_cell BK195.out 0).trans rfl, (blk_cell BK195.out 1).trans rfl, (blk_cell BK195.out 2).trans rfl, (blk_cell BK195.out 3).trans rfl, (blk_cell BK195.out 4).trans rfl, (blk_cell BK195.out 5).trans rfl, (blk_cell BK195.out 6).trans rfl, (blk_cell BK195.out 7).trans rfl, (blk_cell BK195.out 8).trans rfl, (blk_cell BK196.out 0).trans rfl, (blk_cell BK196.out 1).trans rfl, (blk_cell BK196.out 2).trans rfl⟩ (fun hHeld => ?_)
        clear hK K
        refine norm_ (a' := ?_) ?_ ?_
        rotate_left
        · show Act.put _ (some 15) _ = _
          simp only [Act.put, List.setIfInBounds_toArray, List.set_cons_zero, List.set_cons_succ, i64_w, i32_w]
          rfl
        refine two_ (i := 10) (j := 14) (Ni := some 18) (Nj := some 7) #[true, true, true, true, true, true, true, true, true, true, true, true, true, false, false, false] #[true, true, true, true, true, true, true, true, true, true, false, true, true, false, true, false] rfl rfl rfl rfl (two_of HT_.out (by kernel_rfl)) (by decide) (by decide) (fun K hK => ?_) (fun K hK => ?_)
        · skip
          refine goes_ Try.func32 (by kernel_rfl) rfl #[.int .i64 a1_1] (by rfl) rfl rfl au12_7 ?_
          with_reducible refine (moving_pace.calls a1_1 t199 _ A5.out).mono ?_
          rintro e w' ⟨rfl, ⟨nd, rfl⟩⟩
          refine ⟨_, rfl, ?_⟩
          refine hK.out _ _ ⟨(blk_cell BK195.out 0).trans rfl, (blk_cell BK195.out 1).trans rfl, (blk_cell BK195.out 2).trans rfl, (blk_cell BK195.out 3).trans rfl, (blk_cell BK195.out 4).trans rfl, (blk_cell BK195.out 5).trans rfl, (blk_cell BK195.out 6).trans rfl, (blk_cell BK195.out 7).trans rfl, (blk_cell BK195.out 8).trans rfl, (blk_cell BK196.out 0).trans rfl, (blk_cell BK196.out 1).trans rfl, (blk_cell BK196.out 2).trans rfl⟩ (fun hHeld => ?_)
          clear hK K
          refine norm_ (a' := ?_) ?_ ?_
          rotate_left
          · show Act.put _ (some 18) _ = _
            simp only [Act.put, List.setIfInBounds_toArray, List.set_cons_zero, List.set_cons_succ, i64_w, i32_w]
            rfl
          refine pure_ (i := 13) (N := some 21) (v := ?_) (a' := ?_) #[true, true, true, true, true, true, true, true, true, true, true, true, true, true, false, false] rfl rfl (any_of HT_.out (by kernel_rfl)) (fun _ _ _ h => h) (Or.inl ⟨by rfl, ?_⟩) ?_ ?_
          rotate_left
          · intro w'
            go_simp
            with_reducible rfl
          rotate_left
          · simp only [Act.put, List.setIfInBounds_toArray, List.set_cons_zero, List.set_cons_succ, i64_w, i32_w]
            rfl
          refine one_ (i := 14) (N := some 7) #[true, true, true, true, true, true, true, true, true, true, true, true, true, true, true, false] rfl rfl (one_of HT_.out (by kernel_rfl)) (by decide) (fun K hK => ?_)
          refine box_step ?hg (N := 7) ?hd (cs := #[.int .i64 0, .int .i64 0, .int .i64 0, .int .i64 0, .int .i64 0, .int .i64 0, .int .i64 0, .int .i64 0, .int .i64 0]) (t := 26) ?hr ?_; (case hd => rfl); (case hg => rfl); (case hr => first | (go_simp; done) | (go_simp; rfl))
          intro gb200 hg w56 hbox hb
          have n0_ := Aside0.mk (blk_below (g := gb195) (o := .cells #[.int .i64 a0_0, .int .i64 a0_1, .int .i64 a0_2, .int .i64 a0_3, .int .i64 a0_4, .int .i64 a0_5, .int .i64 a0_6, .int .i64 a0_7, .int .i64 a0_8] 26 (0, 0)) au12_0 hb)
          have n1_ := Aside0.mk (blk_below (g := gb196) (o := .cells #[.int .i64 a1_0, .int .i64 a1_1, .bool a1_2] 28 (0, 0)) au12_2 hb)
          have n2_ := Aside0.mk (blk_below (g := gb197) (o := .cells #[.int .i64 0, .int .i64 0, .int .i64 0, .int .i64 0, .int .i64 0, .int .i64 0, .int .i64 0, .int .i64 0, .int .i64 0] 26 (0, 0)) au12_3 hb)
          have n3_ := Aside0.mk (below_step au12_1 hb)
          have n4_ := Aside0.mk (hbox)
          have n5_ := Aside0.mk ((au12_17 : w.heap.size ≤ gb200))
          have n6_ := Aside0.mk ((au12_17 : w.heap.size ≤ gb200))
          have n7_ := Aside0.mk ((au12_4 : gb195 ≠ gb200))
          have n8_ := Aside0.mk ((au12_5 : gb200 ≠ gb195))
          have n9_ := Aside0.mk ((au12_11 : gb196 ≠ gb200))
          have n10_ := Aside0.mk ((au12_12 : gb200 ≠ gb196))
          have n11_ := Aside0.mk ((au12_8 : gb197 ≠ gb200))
          have n12_ := Aside0.mk ((au12_9 : gb200 ≠ gb197))
          clear BK195
          clear BK196
          clear BK197
          clear HB
          have BK195 := n0_
          have BK196 := n1_
          have BK197 := n2_
          have HB := n3_
          have BK200 := n4_
          have GW200 := n5_
          have GE200 := n6_
          have NB195_200 := n7_
          have NB200_195 := n8_
          have NB196_200 := n9_
          have NB200_196 := n10_
          have NB197_200 := n11_
          have NB200_197 := n12_
          clear n0_ n1_ n2_ n3_ n4_ n5_ n6_ n7_ n8_ n9_ n10_ n11_ n12_
          clear hb hbox hg
          refine hK.out _ _ ⟨(blk_cell BK195.out 0).trans rfl, (blk_cell BK195.out 1).trans rfl, (blk_cell BK195.out 2).trans rfl, (blk_cell BK195.out 3).trans rfl, (blk_cell BK195.out 4).trans rfl, (blk_cell BK195.out 5).trans rfl, (blk_cell BK195.out 6).trans rfl, (blk_cell BK195.out 7).trans rfl, (blk_cell BK195.out 8).trans rfl, (blk_cell BK196.out 0).trans rfl, (blk_cell BK196.out 1).trans rfl, (blk_cell BK196.out 2).trans rfl⟩ (fun hHeld => ?_)
          clear hK K
          refine norm_ (a' := ?_) ?_ ?_
          rotate_left
          · show Act.put _ (some 7) _ = _
            simp only [Act.put, List.setIfInBounds_toArray, List.set_cons_zero, List.set_cons_succ, i64_w, i32_w]
            rfl
          exact norm_ au12_16 (hCont (gb200) _ ⟨hHeld, au12_0, au12_2, au12_3, au12_15, GW200.out, GE200.out, NB195_200.out, NB200_195.out, NB196_200.out, NB200_196.out, NB197_200.out, NB200_197.out, au12_6⟩)
        · skip
          refine box_step ?hg (N := 7) ?hd (cs := #[.int .i64 0, .int .i64 0, .int .i64 0, .int .i64 0, .int .i64 0, .int .i64 0, .int .i64 0, .int .i64 0, .int .i64 0]) (t := 26) ?hr ?_; (case hd => rfl); (case hg => rfl); (case hr => first | (go_simp; done) | (go_simp; rfl))
          intro gb200 hg w56 hbox hb
          have n0_ := Aside0.mk (blk_below (g := gb195) (o := .cells #[.int .i64 a0_0, .int .i64 a0_1, .int .i64 a0_2, .int .i64 a0_3, .int .i64 a0_4, .int .i64 a0_5, .int .i64 a0_6, .int .i64 a0_7, .int .i64 a0_8] 26 (0, 0)) au12_0 hb)
          have n1_ := Aside0.mk (blk_below (g := gb196) (o := .cells #[.int .i64 a1_0, .int .i64 a1_1, .bool a1_2] 28 (0, 0)) au12_2 hb)
          have n2_ := Aside0.mk (blk_below (g := gb197) (o := .cells #[.int .i64 0, .int .i64 0, .int .i64 0, .int .i64 0, .int .i64 0, .int .i64 0, .int .i64 0, .int .i64 0, .int .i64 0] 26 (0, 0)) au12_3 hb)
          have n3_ := Aside0.mk (below_step au12_1 hb)
          have n4_ := Aside0.mk (hbox)
          have n5_ := Aside0.mk ((au12_17 : w.heap.size ≤ gb200))
          have n6_ := Aside0.mk ((au12_17 : w.heap.size ≤ gb200))
          have n7_ := Aside0.mk ((au12_4 : gb195 ≠ gb200))
          have n8_ := Aside0.mk ((au12_5 : gb200 ≠ gb195))
          have n9_ := Aside0.mk ((au12_11 : gb196 ≠ gb200))
          have n10_ := Aside0.mk ((au12_12 : gb200 ≠ gb196))
          have n11_ := Aside0.mk ((au12_8 : gb197 ≠ gb200))
          have n12_ := Aside0.mk ((au12_9 : gb200 ≠ gb197))
          clear BK195
          clear BK196
          clear BK197
          clear HB
          have BK195 := n0_
          have BK196 := n1_
          have BK197 := n2_
          have HB := n3_
          have BK200 := n4_
          have GW200 := n5_
          have GE200 := n6_
          have NB195_200 := n7_
          have NB200_195 := n8_
          have NB196_200 := n9_
          have NB200_196 := n10_
          have NB197_200 := n11_
          have NB200_197 := n12_
          clear n0_ n1_ n2_ n3_ n4_ n5_ n6_ n7_ n8_ n9_ n10_ n11_ n12_
          clear hb hbox hg
          refine hK.out _ _ ⟨(blk_cell BK195.out 0).trans rfl, (blk_cell BK195.out 1).trans rfl, (blk_cell BK195.out 2).trans rfl, (blk_cell BK195.out 3).trans rfl, (blk_cell BK195.out 4).trans rfl, (blk_cell BK195.out 5).trans rfl, (blk_cell BK195.out 6).trans rfl, (blk_cell BK195.out 7).trans rfl, (blk_cell BK195.out 8).trans rfl, (blk_cell BK196.out 0).trans rfl, (blk_cell BK196.out 1).trans rfl, (blk_cell BK196.out 2).trans rfl⟩ (fun hHeld => ?_)
          clear hK K
          refine norm_ (a' := ?_) ?_ ?_
          rotate_left
          · show Act.put _ (some 7) _ = _
            simp only [Act.put, List.setIfInBounds_toArray, List.set_cons_zero, List.set_cons_succ, i64_w, i32_w]
            rfl
          refine one_ (i := 10) (N := some 18) #[true, true, true, true, true, true, true, true, true, true, true, true, true, false, true, false] rfl rfl (one_of HT_.out (by kernel_rfl)) (by decide) (fun K hK => ?_)
          refine goes_ Try.func32 (by kernel_rfl) rfl #[.int .i64 a1_1] (by rfl) rfl rfl au12_7 ?_
          with_reducible refine (moving_pace.calls a1_1 t199 _ A5.out).mono ?_
          rintro e w' ⟨rfl, ⟨nd, rfl⟩⟩
          refine ⟨_, rfl, ?_⟩
          refine hK.out _ _ ⟨(blk_cell BK195.out 0).trans rfl, (blk_cell BK195.out 1).trans rfl, (blk_cell BK195.out 2).trans rfl, (blk_cell BK195.out 3).trans rfl, (blk_cell BK195.out 4).trans rfl, (blk_cell BK195.out 5).trans rfl, (blk_cell BK195.out 6).trans rfl, (blk_cell BK195.out 7).trans rfl, (blk_cell BK195.out 8).trans rfl, (blk_cell BK196.out 0).trans rfl, (blk_cell BK196.out 1).trans rfl, (blk_cell BK196.out 2).trans rfl⟩ (fun hHeld => ?_)
          clear hK K
          refine norm_ (a' := ?_) ?_ ?_
          rotate_left
          · show Act.put _ (some 18) _ = _
            simp only [Act.put, List.setIfInBounds_toArray, List.set_cons_zero, List.set_cons_succ, i64_w, i32_w]
            rfl
          refine pure_ (i := 13) (N := some 21) (v := ?_) (a' := ?_) #[true, true, true, true, true, true, true, true, true, true, true, true, true, true, true, false] rfl rfl (any_of HT_.out (by kernel_rfl)) (fun _ _ _ h => h) (Or.inl ⟨by rfl, ?_⟩) ?_ ?_
          rotate_left
          · intro w'
            go_simp
            with_reducible rfl
          rotate_left
          · simp only [Act.put, List.setIfInBounds_toArray, List.set_cons_zero, List.set_cons_succ, i64_w, i32_w]
            rfl
          exact norm_ au12_16 (hCont (gb200) _ ⟨hHeld, au12_0, au12_2, au12_3, au12_15, GW200.out, GE200.out, NB195_200.out, NB200_195.out, NB196_200.out, NB200_196.out, NB197_200.out, NB200_197.out, au12_6⟩)
      · skip
        refine box_step ?hg (N := 7) ?hd (cs := #[.int .i64 0, .int .i64 0, .int .i64 0, .int .i64 0, .int .i64 0, .int .i64 0, .int .i64 0, .int .i64 0, .int .i64 0]) (t := 26) ?hr ?_; (case hd => rfl); (case hg => rfl); (case hr => first | (go_simp; done) | (go_simp; rfl))
        intro gb200 hg w56 hbox hb
        have n0_ := Aside0.mk (blk_below (g := gb195) (o := .cells #[.int .i64 a0_0, .int .i64 a0_1, .int .i64 a0_2, .int .i64 a0_3, .int .i64 a0_4, .int .i64 a0_5, .int .i64 a0_6, .int .i64 a0_7, .int .i64 a0_8] 26 (0, 0)) au12_0 hb)
        have n1_ := Aside0.mk (blk_below (g := gb196) (o := .cells #[.int .i64 a1_0, .int .i64 a1_1, .bool a1_2] 28 (0, 0)) au12_2 hb)
        have n2_ := Aside0.mk (blk_below (g := gb197) (o := .cells #[.int .i64 0, .int .i64 0, .int .i64 0, .int .i64 0, .int .i64 0, .int .i64 0, .int .i64 0, .int .i64 0, .int .i64 0] 26 (0, 0)) au12_3 hb)
        have n3_ := Aside0.mk (below_step au12_1 hb)
        have n4_ := Aside0.mk (hbox)
        have n5_ := Aside0.mk ((au12_17 : w.heap.size ≤ gb200))
        have n6_ := Aside0.mk ((au12_17 : w.heap.size ≤ gb200))
        have n7_ := Aside0.mk ((au12_4 : gb195 ≠ gb200))
        have n8_ := Aside0.mk ((au12_5 : gb200 ≠ gb195))
        have n9_ := Aside0.mk ((au12_11 : gb196 ≠ gb200))
        have n10_ := Aside0.mk ((au12_12 : gb200 ≠ gb196))
        have n11_ := Aside0.mk ((au12_8 : gb197 ≠ gb200))
        have n12_ := Aside0.mk ((au12_9 : gb200 ≠ gb197))
        clear BK195
        clear BK196
        clear BK197
        clear HB
        have BK195 := n0_
        have BK196 := n1_
        have BK197 := n2_
        have HB := n3_
        have BK200 := n4_
        have GW200 := n5_
        have GE200 := n6_
        have NB195_200 := n7_
        have NB200_195 := n8_
        have NB196_200 := n9_
        have NB200_196 := n10_
        have NB197_200 := n11_
        have NB200_197 := n12_
        clear n0_ n1_ n2_ n3_ n4_ n5_ n6_ n7_ n8_ n9_ n10_ n11_ n12_
        clear hb hbox hg
        refine hK.out _ _ ⟨(blk_cell BK195.out 0).trans rfl, (blk_cell BK195.out 1).trans rfl, (blk_cell BK195.out 2).trans rfl, (blk_cell BK195.out 3).trans rfl, (blk_cell BK195.out 4).trans rfl, (blk_cell BK195.out 5).trans rfl, (blk_cell BK195.out 6).trans rfl, (blk_cell BK195.out 7).trans rfl, (blk_cell BK195.out 8).trans rfl, (blk_cell BK196.out 0).trans rfl, (blk_cell BK196.out 1).trans rfl, (blk_cell BK196.out 2).trans rfl⟩ (fun hHeld => ?_)
        clear hK K
        refine norm_ (a' := ?_) ?_ ?_
        rotate_left
        · show Act.put _ (some 7) _ = _
          simp only [Act.put, List.setIfInBounds_toArray, List.set_cons_zero, List.set_cons_succ, i64_w, i32_w]
          rfl
        refine one_ (i := 7) (N := some 15) #[true, true, true, true, true, true, true, true, true, true, false, true, true, false, true, false] rfl rfl (one_of HT_.out (by kernel_rfl)) (by decide) (fun K hK => ?_)
        refine goes_ Try.func32 (by kernel_rfl) rfl #[.int .i64 a1_0] (by rfl) rfl rfl au12_7 ?_
        with_reducible refine (moving_pace.calls a1_0 t198 _ A4.out).mono ?_
        rintro e w' ⟨rfl, ⟨nd, rfl⟩⟩
        refine ⟨_, rfl, ?_⟩
        refine hK.out _ _ ⟨(blk_cell BK195.out 0).trans rfl, (blk_cell BK195.out 1).trans rfl, (blk_cell BK195.out 2).trans rfl, (blk_cell BK195.out 3).trans rfl, (blk_cell BK195.out 4).trans rfl, (blk_cell BK195.out 5).trans rfl, (blk_cell BK195.out 6).trans rfl, (blk_cell BK195.out 7).trans rfl, (blk_cell BK195.out 8).trans rfl, (blk_cell BK196.out 0).trans rfl, (blk_cell BK196.out 1).trans rfl, (blk_cell BK196.out 2).trans rfl⟩ (fun hHeld => ?_)
        clear hK K
        refine norm_ (a' := ?_) ?_ ?_
        rotate_left
        · show Act.put _ (some 15) _ = _
          simp only [Act.put, List.setIfInBounds_toArray, List.set_cons_zero, List.set_cons_succ, i64_w, i32_w]
          rfl
        refine one_ (i := 10) (N := some 18) #[true, true, true, true, true, true, true, true, true, true, true, true, true, false, true, false] rfl rfl (one_of HT_.out (by kernel_rfl)) (by decide) (fun K hK => ?_)
        refine goes_ Try.func32 (by kernel_rfl) rfl #[.int .i64 a1_1] (by rfl) rfl rfl au12_7 ?_
        with_reducible refine (moving_pace.calls a1_1 t199 _ A5.out).mono ?_
        rintro e w' ⟨rfl, ⟨nd, rfl⟩⟩
        refine ⟨_, rfl, ?_⟩
        refine hK.out _ _ ⟨(blk_cell BK195.out 0).trans rfl, (blk_cell BK195.out 1).trans rfl, (blk_cell BK195.out 2).trans rfl, (blk_cell BK195.out 3).trans rfl, (blk_cell BK195.out 4).trans rfl, (blk_cell BK195.out 5).trans rfl, (blk_cell BK195.out 6).trans rfl, (blk_cell BK195.out 7).trans rfl, (blk_cell BK195.out 8).trans rfl, (blk_cell BK196.out 0).trans rfl, (blk_cell BK196.out 1).trans rfl, (blk_cell BK196.out 2).trans rfl⟩ (fun hHeld => ?_)
        clear hK K
        refine norm_ (a' := ?_) ?_ ?_
        rotate_left
        · show Act.put _ (some 18) _ = _
          simp only [Act.put, List.setIfInBounds_toArray, List.set_cons_zero, List.set_cons_succ, i64_w, i32_w]
          rfl
        refine pure_ (i := 13) (N := some 21) (v := ?_) (a' := ?_) #[true, true, true, true, true, true, true, true, true, true, true, true, true, true, true, false] rfl rfl (any_of HT_.out (by kernel_rfl)) (fun _ _ _ h => h) (Or.inl ⟨by rfl, ?_⟩) ?_ ?_
        rotate_left
        · intro w'
          go_simp
          with_reducible rfl
        rotate_left
        · simp only [Act.put, List.setIfInBounds_toArray, List.set_cons_zero, List.set_cons_succ, i64_w, i32_w]
          rfl
        exact norm_ au12_16 (hCont (gb200) _ ⟨hHeld, au12_0, au12_2, au12_3, au12_15, GW200.out, GE200.out, NB195_200.out, NB200_195.out, NB196_200.out, NB200_196.out, NB197_200.out, NB200_197.out, au12_6⟩)
    rintro gb200 w57 ⟨hS_, h0_, h1_, h2_, h3_, h4_, h5_, h6_, h7_, h8_, h9_, h10_, h11_, h12_⟩
    have n0_ : Aside0 (w57.heap[gb195]? = some (.cells #[.int .i64 a0_0, .int .i64 a0_1, .int .i64 a0_2, .int .i64 a0_3, .int .i64 a0_4, .int .i64 a0_5, .int .i64 a0_6, .int .i64 a0_7, .int .i64 a0_8] 26 (0, 0))) := ⟨h0_⟩
    have n1_ : Aside0 (w57.heap[gb196]? = some (.cells #[.int .i64 a1_0, .int .i64 a1_1, .bool a1_2] 28 (0, 0))) := ⟨h1_⟩
    have n2_ : Aside0 (w57.heap[gb197]? = some (.cells #[.int .i64 0, .int .i64 0, .int .i64 0, .int .i64 0, .int .i64 0, .int .i64 0, .int .i64 0, .int .i64 0, .int .i64 0] 26 (0, 0))) := ⟨h2_⟩
    have n3_ : Aside0 (w57.heap[gb200]? = some (.cells #[.int .i64 0, .int .i64 0, .int .i64 0, .int .i64 0, .int .i64 0, .int .i64 0, .int .i64 0, .int .i64 0, .int .i64 0] 26 (0, 0))) := ⟨h3_⟩
    have n4_ : Aside0 (w.heap.size ≤ gb200) := ⟨h4_⟩
    have n5_ : Aside0 (w.heap.size ≤ gb200) := ⟨h5_⟩
    have n6_ : Aside0 (gb195 ≠ gb200) := ⟨h6_⟩
    have n7_ : Aside0 (gb200 ≠ gb195) := ⟨h7_⟩
    have n8_ : Aside0 (gb196 ≠ gb200) := ⟨h8_⟩
    have n9_ : Aside0 (gb200 ≠ gb196) := ⟨h9_⟩
    have n10_ : Aside0 (gb197 ≠ gb200) := ⟨h10_⟩
    have n11_ : Aside0 (gb200 ≠ gb197) := ⟨h11_⟩
    have n12_ : Aside0 (Below w.heap.size w w57) := ⟨h12_⟩
    clear BK195
    clear BK196
    clear BK197
    clear HB
    clear h0_ h1_ h2_ h3_ h4_ h5_ h6_ h7_ h8_ h9_ h10_ h11_ h12_
    have BK195 := n0_
    have BK196 := n1_
    have BK197 := n2_
    have BK200 := n3_
    have GW200 := n4_
    have GE200 := n5_
    have NB195_200 := n6_
    have NB200_195 := n7_
    have NB196_200 := n8_
    have NB200_196 := n9_
    have NB197_200 := n10_
    have NB200_197 := n11_
    have HB := n12_
    clear n0_ n1_ n2_ n3_ n4_ n5_ n6_ n7_ n8_ n9_ n10_ n11_ n12_
    have hHeld : w57.cell? ⟨gb195, 0, none⟩ = some (.int .i64 a0_0) ∧ w57.cell? ⟨gb195, 1, none⟩ = some (.int .i64 a0_1) ∧ w57.cell? ⟨gb195, 2, none⟩ = some (.int .i64 a0_2) ∧ w57.cell? ⟨gb195, 3, none⟩ = some (.int .i64 a0_3) ∧ w57.cell? ⟨gb195, 4, none⟩ = some (.int .i64 a0_4) ∧ w57.cell? ⟨gb195, 5, none⟩ = some (.int .i64 a0_5) ∧ w57.cell? ⟨gb195, 6, none⟩ = some (.int .i64 a0_6) ∧ w57.cell? ⟨gb195, 7, none⟩ = some (.int .i64 a0_7) ∧ w57.cell? ⟨gb195, 8, none⟩ = some (.int .i64 a0_8) ∧ w57.cell? ⟨gb196, 0, none⟩ = some (.int .i64 a1_0) ∧ w57.cell? ⟨gb196, 1, none⟩ = some (.int .i64 a1_1) ∧ w57.cell? ⟨gb196, 2, none⟩ = some (.bool a1_2) := hS_
    refine norm_ (a' := ?_) ?_ ?_
    rotate_left
    · simp only [putAll, Act.put, List.setIfInBounds_toArray, List.set_cons_zero, List.set_cons_succ]
      rfl
    refine one_ (i := 15) (N := none) #[true, true, true, true, true, true, true, true, true, true, true, true, true, true, true, true] rfl rfl (one_of HT_.out (by kernel_rfl)) (by decide) (fun K hK => ?_)
    have hs58 : w57.cell? ⟨gb200, 0, none⟩ = some (.int .i64 0) := (blk_cell BK200.out 0).trans rfl
    have hfs58 := blk_frozen BK200.out 0
    have hns58_0 := NB195_200.out
    have hns58_1 := NB196_200.out
    have hns58_2 := NB197_200.out
    have hms58_0 := NB200_195.out
    have hms58_1 := NB200_196.out
    have hms58_2 := NB200_197.out
    have hs59 : w57.cell? ⟨gb200, 1, none⟩ = some (.int .i64 0) := (blk_cell BK200.out 1).trans rfl
    have hfs59 := blk_frozen BK200.out 1
    have hns59_0 := NB195_200.out
    have hns59_1 := NB196_200.out
    have hns59_2 := NB197_200.out
    have hms59_0 := NB200_195.out
    have hms59_1 := NB200_196.out
    have hms59_2 := NB200_197.out
    have hs60 : w57.cell? ⟨gb200, 2, none⟩ = some (.int .i64 0) := (blk_cell BK200.out 2).trans rfl
    have hfs60 := blk_frozen BK200.out 2
    have hns60_0 := NB195_200.out
    have hns60_1 := NB196_200.out
    have hns60_2 := NB197_200.out
    have hms60_0 := NB200_195.out
    have hms60_1 := NB200_196.out
    have hms60_2 := NB200_197.out
    have hs61 : w57.cell? ⟨gb200, 3, none⟩ = some (.int .i64 0) := (blk_cell BK200.out 3).trans rfl
    have hfs61 := blk_frozen BK200.out 3
    have hns61_0 := NB195_200.out
    have hns61_1 := NB196_200.out
    have hns61_2 := NB197_200.out
    have hms61_0 := NB200_195.out
    have hms61_1 := NB200_196.out
    have hms61_2 := NB200_197.out
    have hs62 : w57.cell? ⟨gb200, 4, none⟩ = some (.int .i64 0) := (blk_cell BK200.out 4).trans rfl
    have hfs62 := blk_frozen BK200.out 4
    have hns62_0 := NB195_200.out
    have hns62_1 := NB196_200.out
    have hns62_2 := NB197_200.out
    have hms62_0 := NB200_195.out
    have hms62_1 := NB200_196.out
    have hms62_2 := NB200_197.out
    have hs63 : w57.cell? ⟨gb200, 5, none⟩ = some (.int .i64 0) := (blk_cell BK200.out 5).trans rfl
    have hfs63 := blk_frozen BK200.out 5
    have hns63_0 := NB195_200.out
    have hns63_1 := NB196_200.out
    have hns63_2 := NB197_200.out
    have hms63_0 := NB200_195.out
    have hms63_1 := NB200_196.out
    have hms63_2 := NB200_197.out
    have hs64 : w57.cell? ⟨gb200, 6, none⟩ = some (.int .i64 0) := (blk_cell BK200.out 6).trans rfl
    have hfs64 := blk_frozen BK200.out 6
    have hns64_0 := NB195_200.out
    have hns64_1 := NB196_200.out
    have hns64_2 := NB197_200.out
    have hms64_0 := NB200_195.out
    have hms64_1 := NB200_196.out
    have hms64_2 := NB200_197.out
    have hs65 : w57.cell? ⟨gb200, 7, none⟩ = some (.int .i64 0) := (blk_cell BK200.out 7).trans rfl
    have hfs65 := blk_frozen BK200.out 7
    have hns65_0 := NB195_200.out
    have hns65_1 := NB196_200.out
    have hns65_2 := NB197_200.out
    have hms65_0 := NB200_195.out
    have hms65_1 := NB200_196.out
    have hms65_2 := NB200_197.out
    have hs66 : w57.cell? ⟨gb200, 8, none⟩ = some (.int .i64 0) := (blk_cell BK200.out 8).trans rfl
    have hfs66 := blk_frozen BK200.out 8
    have hns66_0 := NB195_200.out
    have hns66_1 := NB196_200.out
    have hns66_2 := NB197_200.out
    have hms66_0 := NB200_195.out
    have hms66_1 := NB200_196.out
    have hms66_2 := NB200_197.out
    refine skip_ (w1 := ?_) (by rfl) rfl ?_ ?_
    rotate_left
    · go_simp
      rfl
    refine hK.out _ _ ⟨((cell_far (p := ⟨gb200, _, none⟩) NB195_200.out _).trans (((cell_far (p := ⟨gb200, _, none⟩) NB195_200.out _).trans (((cell_far (p := ⟨gb200, _, none⟩) NB195_200.out _).trans (((cell_far (p := ⟨gb200, _, none⟩) NB195_200.out _).trans (((cell_far (p := ⟨gb200, _, none⟩) NB195_200.out _).trans (((cell_far (p := ⟨gb200, _, none⟩) NB195_200.out _).trans (((cell_far (p := ⟨gb200, _, none⟩) NB195_200.out _).trans (((cell_far (p := ⟨gb200, _, none⟩) NB195_200.out _).trans (((cell_far (p := ⟨gb200, _, none⟩) NB195_200.out _).trans (hHeld.1)))))))))))))))))), ((cell_far (p := ⟨gb200, _, none⟩) NB195_200.out _).trans (((cell_far (p := ⟨gb200, _, none⟩) NB195_200.out _).trans (((cell_far (p := ⟨gb200, _, none⟩) NB195_200.out _).trans (((cell_far (p := ⟨gb200, _, none⟩) NB195_200.out _).trans (((cell_far (p := ⟨gb200, _, none⟩) NB195_200.out _).trans (((cell_far (p := ⟨gb200, _, none⟩) NB195_200.out _).trans (((cell_far (p := ⟨gb200, _, none⟩) NB195_200.out _).trans (((cell_far (p := ⟨gb200, _, none⟩) NB195_200.out _).trans (((cell_far (p := ⟨gb200, _, none⟩) NB195_200.out _).trans (hHeld.2.1)))))))))))))))))), ((cell_far (p := ⟨gb200, _, none⟩) NB195_200.out _).trans (((cell_far (p := ⟨gb200, _, none⟩) NB195_200.out _).trans (((cell_far (p := ⟨gb200, _, none⟩) NB195_200.out _).trans (((cell_far (p := ⟨gb200, _, none⟩) NB195_200.out _).trans (((cell_far (p := ⟨gb200, _, none⟩) NB195_200.out _).trans (((cell_far (p := ⟨gb200, _, none⟩) NB195_200.out _).trans (((cell_far (p := ⟨gb200, _, none⟩) NB195_200.out _).trans (((cell_far (p := ⟨gb200, _, none⟩) NB195_200.out _).trans (((cell_far (p := ⟨gb200, _, none⟩) NB195_200.out _).trans (hHeld.2.2.1)))))))))))))))))), ((cell_far (p := ⟨gb200, _, none⟩) NB195_200.out _).trans (((cell_far (p := ⟨gb200, _, none⟩) NB195_200.out _).trans (((cell_far (p := ⟨gb200, _, none⟩) NB195_200.out _).trans (((cell_far (p := ⟨gb200, _, none⟩) NB195_200.out _).trans (((cell_far (p := ⟨gb200, _, none⟩) NB195_200.out _).trans (((cell_far (p := ⟨gb200, _, none⟩) NB195_200.out _).trans (((cell_far (p := ⟨gb200, _, none⟩) NB195_200.out _).trans (((cell_far (p := ⟨gb200, _, none⟩) NB195_200.out _).trans (((cell_far (p := ⟨gb200, _, none⟩) NB195_200.out _).trans (hHeld.2.2.2.1)))))))))))))))))), ((cell_far (p := ⟨gb200, _, none⟩) NB195_200.out _).trans (((cell_far (p := ⟨gb200, _, none⟩) NB195_200.out _).trans (((cell_far (p := ⟨gb200, _, none⟩) NB195_200.out _).trans (((cell_far (p := ⟨gb200, _, none⟩) NB195_200.out _).trans (((cell_far (p := ⟨gb200, _, none⟩) NB195_200.out _).trans (((cell_far (p := ⟨gb200, _, none⟩) NB195_200.out _).trans (((cell_far (p := ⟨gb200, _, none⟩) NB195_200.out _).trans (((cell_far (p := ⟨gb200, _, none⟩) NB195_200.out _).trans (((cell_far (p := ⟨gb200, _, none⟩) NB195_200.out _).trans (hHeld.2.2.2.2.1)))))))))))))))))), ((cell_far (p := ⟨gb200, _, none⟩) NB195_200.out _).trans (((cell_far (p := ⟨gb200, _, none⟩) NB195_200.out _).trans (((cell_far (p := ⟨gb200, _, none⟩) NB195_200.out _).trans (((cell_far (p := ⟨gb200, _, none⟩) NB195_200.out _).trans (((cell_far (p := ⟨gb200, _, none⟩) NB195_200.out _).trans (((cell_far (p := ⟨gb200, _, none⟩) NB195_200.out _).trans (((cell_far (p := ⟨gb200, _, none⟩) NB195_200.out _).trans (((cell_far (p := ⟨gb200, _, none⟩) NB195_200.out _).trans (((cell_far (p := ⟨gb200, _, none⟩) NB195_200.out _).trans (hHeld.2.2.2.2.2.1)))))))))))))))))), ((cell_far (p := ⟨gb200, _, none⟩) NB195_200.out _).trans (((cell_far (p := ⟨gb200, _, none⟩) NB195_200.out _).trans (((cell_far (p := ⟨gb200, _, none⟩) NB195_200.out _).trans (((cell_far (p := ⟨gb200, _, none⟩) NB195_200.out _).trans (((cell_far (p := ⟨gb200, _, none⟩) NB195_200.out _).trans (((cell_far (p := ⟨gb200, _, none⟩) NB195_200.out _).trans (((cell_far (p := ⟨gb200, _, none⟩) NB195_200.out _).trans (((cell_far (p := ⟨gb200, _, none⟩) NB195_200.out _).trans (((cell_far (p := ⟨gb200, _, none⟩) NB195_200.out _).trans (hHeld.2.2.2.2.2.2.1)))))))))))))))))), ((cell_far (p := ⟨gb200, _, none⟩) NB195_200.out _).trans (((cell_far (p := ⟨gb200, _, none⟩) NB195_200.out _).trans (((cell_far (p := ⟨gb200, _, none⟩) NB195_200.out _).trans (((cell_far (p := ⟨gb200, _, none⟩) NB195_200.out _).trans (((cell_far (p := ⟨gb200, _, none⟩) NB195_200.out _).trans (((cell_far (p := ⟨gb200, _, none⟩) NB195_200.out _).trans (((cell_far (p := ⟨gb200, _, none⟩) NB195_200.out _).trans (((cell_far (p := ⟨gb200, _, none⟩) NB195_200.out _).trans (((cell_far (p := ⟨gb200, _, none⟩) NB195_200.out _).trans (hHeld.2.2.2.2.2.2.2.1)))))))))))))))))), ((cell_far (p := ⟨gb200, _, none⟩) NB195_200.out _).trans (((cell_far (p := ⟨gb200, _, none⟩) NB195_200.out _).trans (((cell_far (p := ⟨gb200, _, none⟩) NB195_200.out _).trans (((cell_far (p := ⟨gb200, _, none⟩) NB195_200.out _).trans (((cell_far (p := ⟨gb200, _, none⟩) NB195_200.out _).trans (((cell_far (p := ⟨gb200, _, none⟩) NB195_200.out _).trans (((cell_far (p := ⟨gb200, _, none⟩) NB195_200.out _).trans (((cell_far (p := ⟨gb200, _, none⟩) NB195_200.out _).trans (((cell_far (p := ⟨gb200, _, none⟩) NB195_200.out _).trans (hHeld.2.2.2.2.2.2.2.2.1)))))))))))))))))), ((cell_far (p := ⟨gb200, _, none⟩) NB196_200.out _).trans (((cell_far (p := ⟨gb200, _, none⟩) NB196_200.out _).trans (((cell_far (p := ⟨gb200, _, none⟩) NB196_200.out _).trans (((cell_far (p := ⟨gb200, _, none⟩) NB196_200.out _).trans (((cell_far (p := ⟨gb200, _, none⟩) NB196_200.out _).trans (((cell_far (p := ⟨gb200, _, none⟩) NB196_200.out _).trans (((cell_far (p := ⟨gb200, _, none⟩) NB196_200.out _).trans (((cell_far (p := ⟨gb200, _, none⟩) NB196_200.out _).trans (((cell_far (p := ⟨gb200, _, none⟩) NB196_200.out _).trans (hHeld.2.2.2.2.2.2.2.2.2.1)))))))))))))))))), ((cell_far (p := ⟨gb200, _, none⟩) NB196_200.out _).trans (((cell_far (p := ⟨gb200, _, none⟩) NB196_200.out _).trans (((cell_far (p := ⟨gb200, _, none⟩) NB196_200.out _).trans (((cell_far (p := ⟨gb200, _, none⟩) NB196_200.out _).trans (((cell_far (p := ⟨gb200, _, none⟩) NB196_200.out _).trans (((cell_far (p := ⟨gb200, _, none⟩) NB196_200.out _).trans (((cell_far (p := ⟨gb200, _, none⟩) NB196_200.out _).trans (((cell_far (p := ⟨gb200, _, none⟩) NB196_200.out _).trans (((cell_far (p := ⟨gb200, _, none⟩) NB196_200.out _).trans (hHeld.2.2.2.2.2.2.2.2.2.2.1)))))))))))))))))), ((cell_far (p := ⟨gb200, _, none⟩) NB196_200.out _).trans (((cell_far (p := ⟨gb200, _, none⟩) NB196_200.out _).trans (((cell_far (p := ⟨gb200, _, none⟩) NB196_200.out _).trans (((cell_far (p := ⟨gb200, _, none⟩) NB196_200.out _).trans (((cell_far (p := ⟨gb200, _, none⟩) NB196_200.out _).trans (((cell_far (p := ⟨gb200, _, none⟩) NB196_200.out _).trans (((cell_far (p := ⟨gb200, _, none⟩) NB196_200.out _).trans (((cell_far (p := ⟨gb200, _, none⟩) NB196_200.out _).trans (((cell_far (p := ⟨gb200, _, none⟩) NB196_200.out _).trans (hHeld.2.2.2.2.2.2.2.2.2.2.2))))))))))))))))))⟩ (fun hHeld => ?_)
    clear hK K
    refine doneG_ (done_of HT_.out (by kernel_rfl)) (fun w' => Aside0 (w'.heap[gb200]? = some (.cells #[.int .i64 a2, .int .i64 2, .int .i64 a0_2, .int .i64 a0_3, .int .i64 t198, .int .i64 t199, .int .i64 1, .int .i64 0, .int .i64 a0_0] 26 (0, 0))) ∧ Aside0 (w'.heap[gb197]? = some (.cells #[.int .i64 0, .int .i64 0, .int .i64 0, .int .i64 0, .int .i64 0, .int .i64 0, .int .i64 0, .int .i64 0, .int .i64 0] 26 (0, 0))) ∧ Aside0 (Below w.heap.size w w')) ⟨⟨by refine blk_put (cs := #[.int .i64 a2, .int .i64 2, .int .i64 a0_2, .int .i64 a0_3, .int .i64 t198, .int .i64 t199, .int .i64 1, .int .i64 0, .int .i64 0]) ?_ 8 _ rfl; refine blk_put (cs := #[.int .i64 a2, .int .i64 2, .int .i64 a0_2, .int .i64 a0_3, .int .i64 t198, .int .i64 t199, .int .i64 1, .int .i64 0, .int .i64 0]) ?_ 7 _ rfl; refine blk_put (cs := #[.int .i64 a2, .int .i64 2, .int .i64 a0_2, .int .i64 a0_3, .int .i64 t198, .int .i64 t199, .int .i64 0, .int .i64 0, .int .i64 0]) ?_ 6 _ rfl; refine blk_put (cs := #[.int .i64 a2, .int .i64 2, .int .i64 a0_2, .int .i64 a0_3, .int .i64 t198, .int .i64 0, .int .i64 0, .int .i64 0, .int .i64 0]) ?_ 5 _ rfl; refine blk_put (cs := #[.int .i64 a2, .int .i64 2, .int .i64 a0_2, .int .i64 a0_3, .int .i64 0, .int .i64 0, .int .i64 0, .int .i64 0, .int .i64 0]) ?_ 4 _ rfl; refine blk_put (cs := #[.int .i64 a2, .int .i64 2, .int .i64 a0_2, .int .i64 0, .int .i64 0, .int .i64 0, .int .i64 0, .int .i64 0, .int .i64 0]) ?_ 3 _ rfl; refine blk_put (cs := #[.int .i64 a2, .int .i64 2, .int .i64 0, .int .i64 0, .int .i64 0, .int .i64 0, .int .i64 0, .int .i64 0, .int .i64 0]) ?_ 2 _ rfl; refine blk_put (cs := #[.int .i64 a2, .int .i64 0, .int .i64 0, .int .i64 0, .int .i64 0, .int .i64 0, .int .i64 0, .int .i64 0, .int .i64 0]) ?_ 1 _ rfl; refine blk_put (cs := #[.int .i64 0, .int .i64 0, .int .i64 0, .int .i64 0, .int .i64 0, .int .i64 0, .int .i64 0, .int .i64 0, .int .i64 0]) ?_ 0 _ rfl; (with_reducible repeat (first | refine blk_drewN ?_ _ | refine blk_drew ?_ | refine blk_alloc ?_ _)); exact BK200.out⟩, ⟨by (with_reducible repeat (first | refine blk_drewN ?_ _ | refine blk_drew ?_ | refine blk_alloc ?_ _ | refine blk_far ?_ NB197_200.out _)); exact BK197.out⟩, ⟨by repeat (first | (with_reducible first | exact HB.out | apply below_alloc | apply pw_below_drewN | apply below_drew1 | refine below_set ?_ GE200.out | refine below_set ?_ GE197.out) | exact HB.out)⟩⟩ ?_
    clear HB BK200 BK197
    rintro wG_ ⟨BK200, BK197, HB⟩
    have hnb67 := NB200_195.out
    have hnc67 := NB195_200.out
    have hnb68 := NB200_196.out
    have hnc68 := NB196_200.out
    have hnb69 := NB200_197.out
    have hnc69 := NB197_200.out
    have hcz70_0 : wG_.cell? ⟨gb200, 0, none⟩ = some (.int .i64 a2) := (blk_cell BK200.out 0).trans rfl
    have hcz70_1 : wG_.cell? ⟨gb200, 1, none⟩ = some (.int .i64 2) := (blk_cell BK200.out 1).trans rfl
    have hcz70_2 : wG_.cell? ⟨gb200, 2, none⟩ = some (.int .i64 a0_2) := (blk_cell BK200.out 2).trans rfl
    have hcz70_3 : wG_.cell? ⟨gb200, 3, none⟩ = some (.int .i64 a0_3) := (blk_cell BK200.out 3).trans rfl
    have hcz70_4 : wG_.cell? ⟨gb200, 4, none⟩ = some (.int .i64 t198) := (blk_cell BK200.out 4).trans rfl
    have hcz70_5 : wG_.cell? ⟨gb200, 5, none⟩ = some (.int .i64 t199) := (blk_cell BK200.out 5).trans rfl
    have hcz70_6 : wG_.cell? ⟨gb200, 6, none⟩ = some (.int .i64 1) := (blk_cell BK200.out 6).trans rfl
    have hcz70_7 : wG_.cell? ⟨gb200, 7, none⟩ = some (.int .i64 0) := (blk_cell BK200.out 7).trans rfl
    have hcz70_8 : wG_.cell? ⟨gb200, 8, none⟩ = some (.int .i64 a0_0) := (blk_cell BK200.out 8).trans rfl
    have hfz70_0 := blk_frozen BK200.out 0
    have hfz70_1 := blk_frozen BK200.out 1
    have hfz70_2 := blk_frozen BK200.out 2
    have hfz70_3 := blk_frozen BK200.out 3
    have hfz70_4 := blk_frozen BK200.out 4
    have hfz70_5 := blk_frozen BK200.out 5
    have hfz70_6 := blk_frozen BK200.out 6
    have hfz70_7 := blk_frozen BK200.out 7
    have hfz70_8 := blk_frozen BK200.out 8
    have hnb71 := NB197_195.out
    have hnc71 := NB195_197.out
    have hnb72 := NB197_196.out
    have hnc72 := NB196_197.out
    have hcz73_0 : wG_.cell? ⟨gb197, 0, none⟩ = some (.int .i64 0) := (blk_cell BK197.out 0).trans rfl
    have hcz73_1 : wG_.cell? ⟨gb197, 1, none⟩ = some (.int .i64 0) := (blk_cell BK197.out 1).trans rfl
    have hcz73_2 : wG_.cell? ⟨gb197, 2, none⟩ = some (.int .i64 0) := (blk_cell BK197.out 2).trans rfl
    have hcz73_3 : wG_.cell? ⟨gb197, 3, none⟩ = some (.int .i64 0) := (blk_cell BK197.out 3).trans rfl
    have hcz73_4 : wG_.cell? ⟨gb197, 4, none⟩ = some (.int .i64 0) := (blk_cell BK197.out 4).trans rfl
    have hcz73_5 : wG_.cell? ⟨gb197, 5, none⟩ = some (.int .i64 0) := (blk_cell BK197.out 5).trans rfl
    have hcz73_6 : wG_.cell? ⟨gb197, 6, none⟩ = some (.int .i64 0) := (blk_cell BK197.out 6).trans rfl
    have hcz73_7 : wG_.cell? ⟨gb197, 7, none⟩ = some (.int .i64 0) := (blk_cell BK197.out 7).trans rfl
    have hcz73_8 : wG_.cell? ⟨gb197, 8, none⟩ = some (.int .i64 0) := (blk_cell BK197.out 8).trans rfl
    have hfz73_0 := blk_frozen BK197.out 0
    have hfz73_1 := blk_frozen BK197.out 1
    have hfz73_2 := blk_frozen BK197.out 2
    have hfz73_3 := blk_frozen BK197.out 3
    have hfz73_4 := blk_frozen BK197.out 4
    have hfz73_5 := blk_frozen BK197.out 5
    have hfz73_6 := blk_frozen BK197.out 6
    have hfz73_7 := blk_frozen BK197.out 7
    have hfz73_8 := blk_frozen BK197.out 8
    try go_wp2
    refine bodyPost_ret (results_cell_row rfl _ _ gb197 26 #[.int .i64 a2, .int .i64 2, .int .i64 a0_2, .int .i64 a0_3, .int .i64 t198, .int .i64 t199, .int .i64 1, .int .i64 0, .int .i64 a0_0] (0, 0) _ rfl (by (with_reducible repeat (first | refine blk_drewN ?_ _ | refine blk_drew ?_ | refine blk_alloc ?_ _)); refine blk_put (cs := #[.int .i64 a2, .int .i64 2, .int .i64 a0_2, .int .i64 a0_3, .int .i64 t198, .int .i64 t199, .int .i64 1, .int .i64 0, .int .i64 0]) ?_ 8 _ rfl; (with_reducible repeat (first | refine blk_drewN ?_ _ | refine blk_drew ?_ | refine blk_alloc ?_ _)); refine blk_put (cs := #[.int .i64 a2, .int .i64 2, .int .i64 a0_2, .int .i64 a0_3, .int .i64 t198, .int .i64 t199, .int .i64 1, .int .i64 0, .int .i64 0]) ?_ 7 _ rfl; (with_reducible repeat (first | refine blk_drewN ?_ _ | refine blk_drew ?_ | refine blk_alloc ?_ _)); refine blk_put (cs := #[.int .i64 a2, .int .i64 2, .int .i64 a0_2, .int .i64 a0_3, .int .i64 t198, .int .i64 t199, .int .i64 0, .int .i64 0, .int .i64 0]) ?_ 6 _ rfl; (with_reducible repeat (first | refine blk_drewN ?_ _ | refine blk_drew ?_ | refine blk_alloc ?_ _)); refine blk_put (cs := #[.int .i64 a2, .int .i64 2, .int .i64 a0_2, .int .i64 a0_3, .int .i64 t198, .int .i64 0, .int .i64 0, .int .i64 0, .int .i64 0]) ?_ 5 _ rfl; (with_reducible repeat (first | refine blk_drewN ?_ _ | refine blk_drew ?_ | refine blk_alloc ?_ _)); refine blk_put (cs := #[.int .i64 a2, .int .i64 2, .int .i64 a0_2, .int .i64 a0_3, .int .i64 0, .int .i64 0, .int .i64 0, .int .i64 0, .int .i64 0]) ?_ 4 _ rfl; (with_reducible repeat (first | refine blk_drewN ?_ _ | refine blk_drew ?_ | refine blk_alloc ?_ _)); refine blk_put (cs := #[.int .i64 a2, .int .i64 2, .int .i64 a0_2, .int .i64 0, .int .i64 0, .int .i64 0, .int .i64 0, .int .i64 0, .int .i64 0]) ?_ 3 _ rfl; (with_reducible repeat (first | refine blk_drewN ?_ _ | refine blk_drew ?_ | refine blk_alloc ?_ _)); refine blk_put (cs := #[.int .i64 a2, .int .i64 2, .int .i64 0, .int .i64 0, .int .i64 0, .int .i64 0, .int .i64 0, .int .i64 0, .int .i64 0]) ?_ 2 _ rfl; (with_reducible repeat (first | refine blk_drewN ?_ _ | refine blk_drew ?_ | refine blk_alloc ?_ _)); refine blk_put (cs := #[.int .i64 a2, .int .i64 0, .int .i64 0, .int .i64 0, .int .i64 0, .int .i64 0, .int .i64 0, .int .i64 0, .int .i64 0]) ?_ 1 _ rfl; (with_reducible repeat (first | refine blk_drewN ?_ _ | refine blk_drew ?_ | refine blk_alloc ?_ _)); refine blk_put (cs := #[.int .i64 0, .int .i64 0, .int .i64 0, .int .i64 0, .int .i64 0, .int .i64 0, .int .i64 0, .int .i64 0, .int .i64 0]) ?_ 0 _ rfl; (with_reducible repeat (first | refine blk_far ?_ NB197_200.out _ | refine blk_drewN ?_ _ | refine blk_drew ?_ | refine blk_alloc ?_ _)); exact BK197.out) Try.underlying26 rfl (by kernel_rfl)) rfl ?_
    exact ⟨by first | rfl | (simp [errW_none, errW_some] <;> rfl) | (simp [*, errW_none, errW_some] <;> rfl), au12_6⟩

end Go.Proofs.Ytjnjcdaecdnkoaa.PMovingTells
