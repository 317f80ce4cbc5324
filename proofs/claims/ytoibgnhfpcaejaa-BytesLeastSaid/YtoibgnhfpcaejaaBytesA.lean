/- What joustlaw11's awake answers. No condition. -/
import Derived.Test.YtoibgnhfpcaejaaBytesW
import Derived.Lib.SliceRun
namespace Go.Proofs.Ytoibgnhfpcaejaa.BytesW
open Go.RowKit Go.Proofs.YtoibgnhfpcaejaaW.PrintWords Go.Proofs.YtoibgnhfpcaejaaW.PrintLast Go.Proofs.YtoibgnhfpcaejaaW.PrintMore
attribute [local go_sem] max2_int min2_int max_two min_two max_three min_three max_four min_four   -- for this text's walks alone
set_option linter.unusedVariables false
set_option linter.unusedSimpArgs false
theorem cau1_0 {p : Prop} (h : p := by repeat (first | (with_reducible first | exact HB.out | apply below_alloc | apply pw_below_drewN | apply below_drew1) | exact HB.out)) : p := h
theorem cau1_8 {p : Prop} (h : p := by first | rfl | (simp [errW_none, errW_some] <;> rfl) | (simp [*, errW_none, errW_some] <;> rfl)) : p := h
def clone.f (l0 : List Int) : Option (List Int) := (some (([] : List Int) : List Int)).bind fun y114 => (if y114.length + l0.length < 140737488355328 then (some (y114 ++ l0)) else (none))
set_option maxHeartbeats 8000000 in
set_option maxRecDepth 100000 in
theorem clone.calls (A0 : Option Addr) (c0 : Nat) (l0 : List Int) (r : List Int) (w : World) (hr0 : Kd.C (Kd.int .u8) w A0 l0.length l0) (hc0 : l0.length ≤ c0) (h : clone.f l0 = some r) :
    Calls Try.prog 27 #[.slice A0 l0.length c0] w fun e w' => ∃ v0_ : Value, e = .returned (v0_) ∧ Kd.R (Kd.int .u8) 5 w' w.heap.size (fun _ => True) v0_ r ∧ Below w.heap.size w w' := by
  rcases A0 with _ | ad0_
  · have hl0 : l0 = [] := by
      cases l0 with
      | nil => rfl
      | cons x xs => obtain ⟨_, e, _⟩ := hr0.2.2 (by simp); cases e
    subst hl0
    have hr : r = [] := (Option.some.inj (show some ([] : List Int) = some r from h)).symm
    subst hr
    have hEq_ : ∀ w : World, Sem.run Try.prog (binOp .eql 22 (.slice none 0 c0) (.slice none 0 0)) w = .ok (.bool true) w := fun w => Lib.run_eql_slice_nil w 22 5 none 0 c0 0 0 Try.underlying22
    go_enter Try.func27, Try.ntmps27
    go_wp2
    go_ret
    exact ⟨_, rfl, Kd.R_nil _ _ _ _ _, Below.refl _ _⟩
  have hEq_ : ∀ w : World, Sem.run Try.prog (binOp .eql 22 (.slice (some ad0_) l0.length c0) (.slice none 0 0)) w = .ok (.bool false) w := fun w => Lib.run_eql_slice_nil w 22 5 (some ad0_) l0.length c0 0 0 Try.underlying22
  have HR0 := Aside0.mk hr0
  have HC0 := Aside0.mk hc0
  clear hr0 hc0
  have HB := Aside0.mk (Below.refl w.heap.size w)
  have H : ((some (([] : List Int) : List Int)).bind fun y114 => (if y114.length + l0.length < 140737488355328 then (some (y114 ++ l0)) else (none))) = some r := h
  clear h
  obtain ⟨y114, hy114⟩ : ∃ y_ : List Int, y_ = (([] : List Int)) := ⟨_, rfl⟩
  replace H : (if y114.length + l0.length < 140737488355328 then (some (y114 ++ l0)) else (none)) = some r := by first | (rw [hy114]; with_reducible exact H) | (have H2_ := (Option.bind_some _ _).symm.trans H; rw [hy114]; with_reducible exact H2_) | (have H2_ := (Option.bind_some _ _).symm.trans H; with_reducible exact H2_) | with_reducible exact H | (rw [hy114]; exact H) | exact H
  have Ny114 := Aside0.mk hy114
  clear hy114
  by_cases c2 : y114.length + l0.length < 140737488355328
  · rw [if_pos c2] at H
    have LMc2 := Aside0.mk c2
    clear c2
    obtain ⟨y117, hy117⟩ : ∃ y_ : List Int, y_ = (y114 ++ l0) := ⟨_, rfl⟩
    replace H : (some y117) = some r := by first | (rw [hy117]; with_reducible exact H) | (have H2_ := (Option.bind_some _ _).symm.trans H; rw [hy117]; with_reducible exact H2_) | (have H2_ := (Option.bind_some _ _).symm.trans H; with_reducible exact H2_) | with_reducible exact H | (rw [hy117]; exact H) | exact H
    have Ny117 := Aside0.mk hy117
    clear hy117
    obtain rfl := Option.some.inj H
    go_enter Try.func27, Try.ntmps27
    go_wp2_with (first | ((with_reducible refine gate_dst (N := 5) rfl ?_); refine Kd.R_lit (Kd.int .u8) _ 5 ?hg (N := 5) ?hd (xs := ([] : List Int)) (inner := []) (ok := fun _ => True) (okp := fun _ => True) ?hr ?hp (fun _ hk => hk) trivial (Below.refl _ _) (Nat.le_refl _) (by simp) ?_; (case hd => rfl); (case hg => rfl); (case hr => first | (go_simp; done) | (go_simp; rfl)); (case hp => exact (Reps.none _ _)); intro v115 w3 ho4 hb hg_ hnew_; clear hg_ hnew_; (first | rw [← Ny114.out] at ho4 | (simp only [Int.reduceToNat] at ho4; rw [← Ny114.out] at ho4)); have n0_ := Aside0.mk (Kd.R_lower ho4 (below_size cau1_0)); have n1_ := Aside0.mk (below_step cau1_0 hb); clear HB; have HO116 := n0_; have HB := n1_; clear n0_ n1_; clear hb ho4) | ((with_reducible refine gate_builtin (b := .append) (xs := #[.tmp 5, .tmp 6]) rfl ?_); at_builtin; refine Kd.R_append_rows (Kd.int .u8) (w0 := w) w.heap.size rfl (.tmp 5) (.tmp 6) 22 5 (.int .u8 0) 1 rfl Try.underlying22 info5 rfl (by decide) (by omega) v115 y114 l0 _ _ _ (fun _ => True) (fun _ => False) rfl rfl ?aO ?aR (fun _ _ h => h) (fun _ h => h.elim) ?aF ?aB ?aS ?aL ?_; (case aR => repeat (first | exact (Kd.C_below HR0.out HB.out) | (with_reducible refine Kd.C_alloc ?_ _) | (with_reducible refine Kd.C_drewN ?_ _) | (with_reducible refine Kd.C_drew ?_))); (case aB => exact cau1_0); (case aF => exact (fun _ _ => trivial)); (case aO => exact (by (with_reducible repeat (first | apply Kd.R_alloc | apply Kd.R_drewN | apply Kd.R_drew)); exact HO116.out)); (case aS => exact (below_size cau1_0)); (case aL => have := LMc2.out; omega); intro v118 w5 ho hb hg hat; rw [← Ny117.out] at ho; have n0_ := Aside0.mk (hb); have n1_ := Aside0.mk (ho); clear HB; clear HO116; have HB := n0_; have HO119 := n1_; clear n0_ n1_; clear ho hb hg hat))
    go_ret
    exact ⟨_, cau1_8, by (with_reducible repeat (first | apply Kd.R_alloc | apply Kd.R_drewN | apply Kd.R_drew)); exact HO119.out, cau1_0⟩
  · rw [if_neg c2] at H
    exact absurd H (by simp)

theorem sau1_11 {p : Prop} (h : p := by first | rfl | (simp; done) | (simp [*]; done)) : p := h
theorem sau1_13 {p : Prop} (h : p := by repeat (first | exact Drawn0.refl _ | apply Drawn0.step)) : p := h
def sameB.f (l0 : List Int) (l1 : List Int) : Option (Bool) := some ((strOfNums l0).toList == (strOfNums l1).toList)
set_option maxHeartbeats 8000000 in
set_option maxRecDepth 100000 in
theorem sameB.calls (A0 : Option Addr) (c0 : Nat) (l0 : List Int) (A1 : Option Addr) (c1 : Nat) (l1 : List Int) (r : Bool) (w : World) (hr0 : Kd.C (Kd.int .u8) w A0 l0.length l0) (hc0 : l0.length ≤ c0) (hr1 : Kd.C (Kd.int .u8) w A1 l1.length l1) (hc1 : l1.length ≤ c1) (h : sameB.f l0 l1 = some r) :
    Calls Try.prog 16 #[.slice A0 l0.length c0, .slice A1 l1.length c1] w fun e w' => e = .returned (.bool r) ∧ Drawn0 w w' := by
  have HR0 := Aside0.mk hr0
  have HC0 := Aside0.mk hc0
  clear hr0 hc0
  have HR1 := Aside0.mk hr1
  have HC1 := Aside0.mk hc1
  clear hr1 hc1
  have H : (some ((strOfNums l0).toList == (strOfNums l1).toList)) = some r := h
  clear h
  obtain rfl := Option.some.inj H
  have hcv3 := Kd.C_string (P := Try.prog) (A := A0) (c := c0) Try.underlying22 Try.underlying5 Try.underlying9 HR0.out
  have hcv4 := Kd.C_string (P := Try.prog) (A := A1) (c := c1) Try.underlying22 Try.underlying5 Try.underlying9 HR1.out
  go_enter Try.func16, Try.ntmps16
  go_wp2
  go_ret
  exact ⟨sau1_11, sau1_13⟩

theorem lit_C {W : World} {q : Nat} {l : List Int} (hl : l.length ≤ 1000) (h : W.heap[q]? = some (.cells (l.map (Value.int .u8)).toArray 5 (0, 0))) : Kd.C (Kd.int .u8) W (some ⟨q, 0, none⟩) l.length l := by
  refine ⟨rfl, by omega, fun _ => ⟨_, rfl, fun j p hj => ⟨[.int .u8 p], rfl, rfl, fun i u hi => ?_⟩⟩⟩
  have hi0 : i = 0 := by
    have := (List.getElem?_eq_some_iff.1 hi).1
    simp at this
    exact this
  subst hi0
  have hadd : (⟨q, 0, none⟩ : Addr).add (j * 1 + 0) = ⟨q, j, none⟩ := by unfold Addr.add; split <;> simp_all
  have e : j * (Kd.int .u8).sz + 0 = j * 1 + 0 := rfl
  rw [e, hadd, cell_of_row W q j _ 5 (0, 0) h]
  have hu : u = .int .u8 p := by simpa using hi.symm
  rw [hu]
  simp [hj]
theorem num_0 : numB 0 = [0] := by
  have : zig (heldV 0) = 0 := by decide
  unfold numB; rw [this, digs]; rfl
theorem num_m1 : numB (-1) = [1] := by
  have : zig (heldV (-1)) = 1 := by decide
  unfold numB; rw [this, digs]; rfl
theorem num_64 : numB 64 = [128, 1] := by
  have : zig (heldV 64) = 128 := by decide
  unfold numB; rw [this, digs, dif_neg (by decide), digs]; rfl
theorem lit_step {W w1 : World} {g q : Nat} {v v1 : Value} {o : Obj} (F : Fr W w1 g v v1) (hq : q < W.heap.size) (hqg : q ≠ g) (hv : ∀ b, v.ownBlock = some b → q < b) (hl : W.heap[q]? = some o) : w1.heap[q]? = some o ∧ ∀ b, v1.ownBlock = some b → q < b := by
  refine ⟨?_, fun b e => ?_⟩
  · rw [F.block q hq hqg (fun e => Nat.lt_irrefl _ (hv q e.symm))]; exact hl
  · rcases F.own with h | ⟨z, h, hz⟩
    · exact hv b (h ▸ e)
    · rw [h] at e; have := Option.some.inj e; omega
theorem clone_eq {l : List Int} (h : l.length < 140737488355328) : clone.f l = some l := by
  unfold clone.f
  rw [Option.bind_some, if_pos (by simpa using h)]
  rfl
set_option maxHeartbeats 8000000 in
set_option maxRecDepth 100000 in
theorem read.calls (A : Option Addr) (c : Nat) (l : List Int) (w : World) (hC : Kd.C (Kd.int .u8) w A l.length l) (hc : l.length ≤ c) (hl : l.length < 140737488355328) :
    Calls Try.prog 9 #[.slice A l.length c] w fun e w' => ∃ g A1 c1, e = .returned (.pointer (some ⟨g, 0, none⟩)) ∧ w.heap.size ≤ g ∧ w'.heap[g]? = some (.cells #[.slice A1 l.length c1, .int .i64 0] 56 (0, 0)) ∧ Kd.R (Kd.int .u8) 5 w' w.heap.size (fun k => k ≠ g) (.slice A1 l.length c1) l ∧ Below w.heap.size w w' := by
  go_enter Try.func9, Try.ntmps9
  go_wp2_with (first | (go_at_call 27; (refine (clone.calls _ _ l l _ hC hc (clone_eq hl)).mono ?_); rintro e w1 ⟨v1, rfl, ho1, hb1⟩; obtain ⟨A1, c1, e1_⟩ := Kd.R_slice ho1; subst e1_))
  go_ret
  exact ⟨w1.heap.size, A1, c1, rfl, hb1.size, heap_alloc_new w1 _, Kd.R_alloc (Kd.R_mono (Kd.R_bound ho1) (fun k hk => Nat.ne_of_lt hk.2.2.1)) _, below_alloc hb1 _⟩
set_option maxHeartbeats 8000000 in
set_option maxRecDepth 100000 in
theorem wbytes.calls (g base : Nat) (v : Value) (l : List Int) (w : World) (bk : w.heap[g]? = some (.cells #[v] 28 (0, 0))) (ho : Kd.R (Kd.int .u8) 5 w base (fun k => k ≠ g) v l) (hl : l.length < 140737488355328) :
    Calls Try.prog 14 #[.pointer (some ⟨g, 0, none⟩)] w fun e w' => ∃ v1, e = .returned v1 ∧ Kd.R (Kd.int .u8) 5 w' w.heap.size (fun _ => True) v1 l ∧ Below w.heap.size w w' := by
  obtain ⟨A0, c0, e0_⟩ := Kd.R_slice ho
  subst e0_
  have hc0 : w.cell? ⟨g, 0, none⟩ = some (.slice A0 l.length c0) := (blk_cell bk 0).trans rfl
  have hf0 := blk_frozen bk 0
  go_enter Try.func14, Try.ntmps14
  go_wp2_with (first | (go_at_call 27; (refine (clone.calls _ _ l l _ (Kd.R_reads' ho).2.2 (Kd.R_reads' ho).2.1 (clone_eq hl)).mono ?_); rintro e w1 ⟨v1, rfl, ho1, hb1⟩))
  go_ret
  exact ⟨v1, rfl, ho1, hb1⟩
set_option maxHeartbeats 8000000 in
set_option maxRecDepth 100000 in
theorem int64.calls (g base : Nat) (A1 : Option Addr) (c1 : Nat) (w0 w : World) (bk : w.heap[g]? = some (.cells #[.slice A1 2 c1, .int .i64 0] 56 (0, 0))) (ho : Kd.R (Kd.int .u8) 5 w base (fun k => k ≠ g) (.slice A1 2 c1) [128, 1]) (hg : base ≤ g) (hB : Below base w0 w) :
    Calls Try.prog 10 #[.pointer (some ⟨g, 0, none⟩)] w fun e w' => e = .returned (.int .i64 64) ∧ Below base w0 w' := by
  obtain ⟨q, cc, e0, hqb, hql, cells, hcells⟩ := Kd.R_form ho (by decide)
  have hq : A1 = some ⟨q, 0, none⟩ := by injection e0
  subst hq
  have hqg : q ≠ g := ho.1 q rfl
  have hcap : 2 ≤ c1 := (Kd.R_reads' ho).2.1
  have x0 := Kd.R_celln 0 ho 0 (by decide) (by decide)
  have x1 := Kd.R_celln 0 ho 1 (by decide) (by decide)
  have y0 : w.cell? ⟨q, 0, none⟩ = some (.int .u8 128) := x0.1
  have y1 : w.cell? ⟨q, 1, none⟩ = some (.int .u8 1) := x1.1
  have hc0 : w.cell? ⟨g, 0, none⟩ = some (.slice (some ⟨q, 0, none⟩) 2 c1) := (blk_cell bk 0).trans rfl
  have hc1 : w.cell? ⟨g, 1, none⟩ = some (.int .i64 0) := (blk_cell bk 1).trans rfl
  have hf0 := blk_frozen bk 0
  have hf1 := blk_frozen bk 1
  clear x0 x1 e0
  have a1 : Go.bits .and .u8 128 127 = 0 := by decide +kernel
  have a2 : Go.bits .and .u8 1 127 = 1 := by decide +kernel
  have a3 : Go.bits .or .u64 0 0 = 0 := by decide +kernel
  have a4 : Go.bits .or .u64 0 128 = 128 := by decide +kernel
  have a5 : Go.bits .and .u64 128 1 = 0 := by decide +kernel
  have a6 : IntKind.u64.wrap 0 = 0 := by decide +kernel
  have a7 : IntKind.u64.wrap 1 = 1 := by decide +kernel
  have a8 : IntKind.u64.wrap 128 = 128 := by decide +kernel
  have a9 : wrap64 64 = 64 := by decide +kernel
  go_enter Try.func10, Try.ntmps10
  go_wp2
  refine wp_loop_rounds 3 ?_
  rw [rounds_succ]
  go_wp2
  rw [rounds_succ]
  go_wp2
  refine wp_loop_rounds 3 ?_
  rw [rounds_succ]
  go_wp2
  rw [rounds_succ]
  go_wp2
  rw [rounds_succ]
  go_wp2
  all_goals go_ret
  all_goals exact ⟨rfl, hB.setCell hg _⟩
theorem sameB_t : sameB.f [0, 1, 128, 1] [0, 1, 128, 1] = some true := by unfold sameB.f; simp
set_option maxHeartbeats 8000000 in
set_option maxRecDepth 100000 in
theorem awake.calls (w : World) : Calls Try.prog 12 #[] w fun e w' => e = .returned (.bool true) ∧ Below w.heap.size w w' := by
  have BL0 : ((w.alloc (.cells #[.slice none 0 0] 28)).alloc (.cells #[.int .i64 0, .int .i64 (-1), .int .i64 64] 3)).heap[w.heap.size + 1]? = some (.cells #[.int .i64 0, .int .i64 (-1), .int .i64 64] 3 (0, 0)) := by
    have := heap_alloc_new (w.alloc (.cells #[.slice none 0 0] 28)) (.cells #[.int .i64 0, .int .i64 (-1), .int .i64 64] 3)
    simpa using this
  have BK0 : ((w.alloc (.cells #[.slice none 0 0] 28)).alloc (.cells #[.int .i64 0, .int .i64 (-1), .int .i64 64] 3)).heap[w.heap.size]? = some (.cells #[.slice none 0 0] 28 (0, 0)) := blk_alloc (heap_alloc_new w _) _
  have HB0 : Below w.heap.size w ((w.alloc (.cells #[.slice none 0 0] 28)).alloc (.cells #[.int .i64 0, .int .i64 (-1), .int .i64 64] 3)) := below_alloc (below_alloc (Below.refl _ _) _) _
  have SZ0 : w.heap.size + 2 ≤ ((w.alloc (.cells #[.slice none 0 0] 28)).alloc (.cells #[.int .i64 0, .int .i64 (-1), .int .i64 64] 3)).heap.size := by simp
  have HV0 : ∀ b, (Value.slice none 0 0).ownBlock = some b → w.heap.size + 1 < b := fun b e => by cases e
  have hL : [] ++ numB 0 ++ numB (-1) ++ numB 64 = [0, 1, 128, 1] := by simp [num_0, num_m1, num_64]
  have cl0_0 : ((w.alloc (.cells #[.slice none 0 0] 28)).alloc (.cells #[.int .i64 0, .int .i64 (-1), .int .i64 64] 3)).cell? ⟨w.heap.size + 1, 0, none⟩ = some (.int .i64 0) := (blk_cell BL0 0).trans rfl
  go_enter Try.func12, Try.ntmps12
  go_wp2
  refine wp_loop_rounds 4 ?_
  rw [rounds_succ]
  go_wp2_with (first | (go_at_call 32; (refine (number.calls w.heap.size w.heap.size (.slice none 0 0) [] (0) w _ (by decide) (by simp [num_0, num_m1]) (Nat.le_refl _) (by simp; omega) BK0 (Kd.R_nil _ _ _ _ _) HB0).mono ?_); rintro e w1 ⟨rfl, v1, bk_, ho_, hb_, hf_⟩; have BK1 := Aside0.mk bk_; have HO1 := Aside0.mk ho_; have HB1 := Aside0.mk hb_; have LS_ := lit_step hf_ (q := w.heap.size + 1) (Nat.lt_of_lt_of_le (Nat.lt_succ_self _) SZ0) (Nat.succ_ne_self _) HV0 BL0; have BL1 := Aside0.mk LS_.1; have HV1 := LS_.2; have SZ1 : w.heap.size + 2 ≤ w1.heap.size := Nat.le_trans SZ0 hf_.size; clear bk_ ho_ hb_ hf_ LS_; have cw1 : w1.cell? ⟨w.heap.size, 0, none⟩ = some v1 := (blk_cell BK1.out 0).trans rfl; have fw1 := blk_frozen BK1.out 0; have cl1_0 : w1.cell? ⟨w.heap.size + 1, 0, none⟩ = some (.int .i64 0) := (blk_cell BL1.out 0).trans rfl; have cl1_1 : w1.cell? ⟨w.heap.size + 1, 1, none⟩ = some (.int .i64 (-1)) := (blk_cell BL1.out 1).trans rfl; have cl1_2 : w1.cell? ⟨w.heap.size + 1, 2, none⟩ = some (.int .i64 64) := (blk_cell BL1.out 2).trans rfl))
  rw [rounds_succ]
  go_wp2_with (first | (go_at_call 32; (refine (number.calls w.heap.size w.heap.size v1 ([] ++ numB 0) (-1) w _ (by decide) (by simp [num_0, num_m1]) (Nat.le_refl _) (by omega) BK1.out HO1.out HB1.out).mono ?_); rintro e w2 ⟨rfl, v2, bk_, ho_, hb_, hf_⟩; have BK2 := Aside0.mk bk_; have HO2 := Aside0.mk ho_; have HB2 := Aside0.mk hb_; have LS_ := lit_step hf_ (q := w.heap.size + 1) (Nat.lt_of_lt_of_le (Nat.lt_succ_self _) SZ1) (Nat.succ_ne_self _) HV1 BL1.out; have BL2 := Aside0.mk LS_.1; have HV2 := LS_.2; have SZ2 : w.heap.size + 2 ≤ w2.heap.size := Nat.le_trans SZ1 hf_.size; clear bk_ ho_ hb_ hf_ LS_; have cw2 : w2.cell? ⟨w.heap.size, 0, none⟩ = some v2 := (blk_cell BK2.out 0).trans rfl; have fw2 := blk_frozen BK2.out 0; have cl2_0 : w2.cell? ⟨w.heap.size + 1, 0, none⟩ = some (.int .i64 0) := (blk_cell BL2.out 0).trans rfl; have cl2_1 : w2.cell? ⟨w.heap.size + 1, 1, none⟩ = some (.int .i64 (-1)) := (blk_cell BL2.out 1).trans rfl; have cl2_2 : w2.cell? ⟨w.heap.size + 1, 2, none⟩ = some (.int .i64 64) := (blk_cell BL2.out 2).trans rfl))
  rw [rounds_succ]
  go_wp2_with (first | (go_at_call 32; (refine (number.calls w.heap.size w.heap.size v2 ([] ++ numB 0 ++ numB (-1)) (64) w _ (by decide) (by simp [num_0, num_m1]) (Nat.le_refl _) (by omega) BK2.out HO2.out HB2.out).mono ?_); rintro e w3 ⟨rfl, v3, bk_, ho_, hb_, hf_⟩; have BK3 := Aside0.mk bk_; have HO3 := Aside0.mk ho_; have HB3 := Aside0.mk hb_; have LS_ := lit_step hf_ (q := w.heap.size + 1) (Nat.lt_of_lt_of_le (Nat.lt_succ_self _) SZ2) (Nat.succ_ne_self _) HV2 BL2.out; have BL3 := Aside0.mk LS_.1; have HV3 := LS_.2; have SZ3 : w.heap.size + 2 ≤ w3.heap.size := Nat.le_trans SZ2 hf_.size; clear bk_ ho_ hb_ hf_ LS_; have cw3 : w3.cell? ⟨w.heap.size, 0, none⟩ = some v3 := (blk_cell BK3.out 0).trans rfl; have fw3 := blk_frozen BK3.out 0; have cl3_0 : w3.cell? ⟨w.heap.size + 1, 0, none⟩ = some (.int .i64 0) := (blk_cell BL3.out 0).trans rfl; have cl3_1 : w3.cell? ⟨w.heap.size + 1, 1, none⟩ = some (.int .i64 (-1)) := (blk_cell BL3.out 1).trans rfl; have cl3_2 : w3.cell? ⟨w.heap.size + 1, 2, none⟩ = some (.int .i64 64) := (blk_cell BL3.out 2).trans rfl))
  rw [rounds_succ]
  go_wp2
  go_end0
  go_wp2_with (first | (go_at_call 9; (refine (read.calls (some ⟨w3.heap.size, 0, none⟩) 2 [128, 1] _ (lit_C (by decide) (heap_alloc_new w3 _)) (by decide) (by decide)).mono ?_); rintro e w4 ⟨gr, Ar, cr, rfl, hgr, bkr, hor, hbr⟩; have BKW := Aside0.mk ((hbr.block w.heap.size (Nat.lt_of_lt_of_le (own_in BK3.out) (World.grownBy_alloc w3 _ none).size)).trans (blk_alloc BK3.out _)); have HOW := Aside0.mk (Kd.R_below (Kd.R_alloc HO3.out _) hbr); have HBR := Aside0.mk (Below.trans (below_alloc HB3.out _) (Below.mono hbr (Nat.le_trans HB3.out.size (World.grownBy_alloc w3 _ none).size))); have HOR := Aside0.mk hor; have BKR := Aside0.mk bkr; clear bkr hor hbr) | (go_at_call 14; (refine (wbytes.calls w.heap.size w.heap.size v3 _ _ BKW.out HOW.out (by simp [num_0, num_m1, num_64])).mono ?_); rintro e w5 ⟨v5, rfl, ho5, hb5⟩; rw [hL] at ho5; obtain ⟨A5, c5, e5_⟩ := Kd.R_slice ho5; subst e5_; have HO5 := Aside0.mk ho5; have BK5 := Aside0.mk ((hb5.block gr (own_in BKR.out)).trans BKR.out); have HR5 := Aside0.mk (Kd.R_below HOR.out hb5); have HB5 := Aside0.mk (Below.trans HBR.out (Below.mono hb5 HBR.out.size)); have GR := Aside0.mk (Nat.le_trans (Nat.le_trans HB3.out.size (World.grownBy_alloc w3 (.cells #[.int .u8 128, .int .u8 1] 5) none).size) hgr); have GB := Aside0.mk (Nat.le_trans HB3.out.size (World.grownBy_alloc w3 (.cells #[.int .u8 128, .int .u8 1] 5) none).size); clear ho5 hb5 BKW HOW HOR BKR) | (go_at_call 16; (refine (sameB.calls A5 c5 [0, 1, 128, 1] (some ⟨w5.heap.size, 0, none⟩) 4 [0, 1, 128, 1] true _ (Kd.R_reads' (Kd.R_alloc HO5.out _)).2.2 (Kd.R_reads' HO5.out).2.1 (lit_C (by decide) (heap_alloc_new w5 _)) (by decide) sameB_t).mono ?_); rintro e w6 ⟨rfl, ⟨nd, rfl⟩⟩) | (go_at_call 10; (refine (int64.calls gr w.heap.size Ar cr w _ (blk_drewN (blk_alloc BK5.out _) _) (Kd.R_lower (Kd.R_drewN (Kd.R_alloc HR5.out _) _) GB.out) GR.out (pw_below_drewN (below_alloc HB5.out _) _)).mono ?_); rintro e w7 ⟨rfl, hb7⟩))
  go_ret
  exact ⟨rfl, hb7⟩
end Go.Proofs.Ytoibgnhfpcaejaa.BytesW
