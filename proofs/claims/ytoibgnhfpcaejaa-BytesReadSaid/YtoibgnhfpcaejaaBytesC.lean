/- Slices are cloned; a reader is made; a writer's bytes; what numbers' bytes are. No condition. -/
import Derived.Test.YtoibgnhfpcaejaaBytesW
import Derived.Lib.SliceRun
namespace Go.Proofs.Ytoibgnhfpcaejaa.BytesW
open Go.RowKit Go.Proofs.YtoibgnhfpcaejaaW.PrintWords Go.Proofs.YtoibgnhfpcaejaaW.PrintLast Go.Proofs.YtoibgnhfpcaejaaW.PrintMore
attribute [local go_sem] max2_int min2_int max_two min_two max_three min_three max_four min_four   -- for this text's walks alone
set_option linter.unusedVariables false
set_option linter.unusedSimpArgs false
theorem cau1_0 {p : Prop} (h : p := by repeat (first | (with_reducible first | exact HB.out | apply below_alloc | apply pw_below_drewN | apply below_drew1) | exact HB.out)) : p := h
theorem cau1_8 {p : Prop} (h : p := by first | rfl | (simp [errW_none, errW_some] <;> rfl) | (simp [*, errW_none, errW_some] <;> rfl)) : p := h
def clone.f (l0 : List Int) : Option (List Int) := (some (([] : List Int) : List Int)).bind fun y114 => (if y114.length + l0.length < 140737488355328 then (some (y114 ++ l0)) else (none))
set_option maxHeartbeats 8000000 in
set_option maxRecDepth 100000 in
theorem clone.calls (A0 : Option Addr) (c0 : Nat) (l0 : List Int) (r : List Int) (w : World) (hr0 : Kd.C (Kd.int .u8) w A0 l0.length l0) (hc0 : l0.length ≤ c0) (h : clone.f l0 = some r) :
    Calls Try.prog 27 #[.slice A0 l0.length c0] w fun e w' => ∃ v0_ : Value, e = .returned (v0_) ∧ Kd.R (Kd.int .u8) 5 w' w.heap.size (fun _ => True) v0_ r ∧ Below w.heap.size w w' := by
  rcases A0 with _ | ad0_
  · have hl0 : l0 = [] := by
      cases l0 with
      | nil => rfl
      | cons x xs => obtain ⟨_, e, _⟩ := hr0.2.2 (by simp); cases e
    subst hl0
    have hr : r = [] := (Option.some.inj (show some ([] : List Int) = some r from h)).symm
    subst hr
    have hEq_ : ∀ w : World, Sem.run Try.prog (binOp .eql 22 (.slice none 0 c0) (.slice none 0 0)) w = .ok (.bool true) w := fun w => Lib.run_eql_slice_nil w 22 5 none 0 c0 0 0 Try.underlying22
    go_enter Try.func27, Try.ntmps27
    go_wp2
    go_ret
    exact ⟨_, rfl, Kd.R_nil _ _ _ _ _, Below.refl _ _⟩
  have hEq_ : ∀ w : World, Sem.run Try.prog (binOp .eql 22 (.slice (some ad0_) l0.length c0) (.slice none 0 0)) w = .ok (.bool false) w := fun w => Lib.run_eql_slice_nil w 22 5 (some ad0_) l0.length c0 0 0 Try.underlying22
  have HR0 := Aside0.mk hr0
  have HC0 := Aside0.mk hc0
  clear hr0 hc0
  have HB := Aside0.mk (Below.refl w.heap.size w)
  have H : ((some (([] : List Int) : List Int)).bind fun y114 => (if y114.length + l0.length < 140737488355328 then (some (y114 ++ l0)) else (none))) = some r := h
  clear h
  obtain ⟨y114, hy114⟩ : ∃ y_ : List Int, y_ = (([] : List Int)) := ⟨_, rfl⟩
  replace H : (if y114.length + l0.length < 140737488355328 then (some (y114 ++ l0)) else (none)) = some r := by first | (rw [hy114]; with_reducible exact H) | (have H2_ := (Option.bind_some _ _).symm.trans H; rw [hy114]; with_reducible exact H2_) | (have H2_ := (Option.bind_some _ _).symm.trans H; with_reducible exact H2_) | with_reducible exact H | (rw [hy114]; exact H) | exact H
  have Ny114 := Aside0.mk hy114
  clear hy114
  by_cases c2 : y114.length + l0.length < 140737488355328
  · rw [if_pos c2] at H
    have LMc2 := Aside0.mk c2
    clear c2
    obtain ⟨y117, hy117⟩ : ∃ y_ : List Int, y_ = (y114 ++ l0) := ⟨_, rfl⟩
    replace H : (some y117) = some r := by first | (rw [hy117]; with_reducible exact H) | (have H2_ := (Option.bind_some _ _).symm.trans H; rw [hy117]; with_reducible exact H2_) | (have H2_ := (Option.bind_some _ _).symm.trans H; with_reducible exact H2_) | with_reducible exact H | (rw [hy117]; exact H) | exact H
    have Ny117 := Aside0.mk hy117
    clear hy117
    obtain rfl := Option.some.inj H
    go_enter Try.func27, Try.ntmps27
    go_wp2_with (first | ((with_reducible refine gate_dst (N := 5) rfl ?_); refine Kd.R_lit (Kd.int .u8) _ 5 ?hg (N := 5) ?hd (xs := ([] : List Int)) (inner := []) (ok := fun _ => True) (okp := fun _ => True) ?hr ?hp (fun _ hk => hk) trivial (Below.refl _ _) (Nat.le_refl _) (by simp) ?_; (case hd => rfl); (case hg => rfl); (case hr => first | (go_simp; done) | (go_simp; rfl)); (case hp => exact (Reps.none _ _)); intro v115 w3 ho4 hb hg_ hnew_; clear hg_ hnew_; (first | rw [← Ny114.out] at ho4 | (simp only [Int.reduceToNat] at ho4; rw [← Ny114.out] at ho4)); have n0_ := Aside0.mk (Kd.R_lower ho4 (below_size cau1_0)); have n1_ := Aside0.mk (below_step cau1_0 hb); clear HB; have HO116 := n0_; have HB := n1_; clear n0_ n1_; clear hb ho4) | ((with_reducible refine gate_builtin (b := .append) (xs := #[.tmp 5, .tmp 6]) rfl ?_); at_builtin; refine Kd.R_append_rows (Kd.int .u8) (w0 := w) w.heap.size rfl (.tmp 5) (.tmp 6) 22 5 (.int .u8 0) 1 rfl Try.underlying22 info5 rfl (by decide) (by omega) v115 y114 l0 _ _ _ (fun _ => True) (fun _ => False) rfl rfl ?aO ?aR (fun _ _ h => h) (fun _ h => h.elim) ?aF ?aB ?aS ?aL ?_; (case aR => repeat (first | exact (Kd.C_below HR0.out HB.out) | (with_reducible refine Kd.C_alloc ?_ _) | (with_reducible refine Kd.C_drewN ?_ _) | (with_reducible refine Kd.C_drew ?_))); (case aB => exact cau1_0); (case aF => exact (fun _ _ => trivial)); (case aO => exact (by (with_reducible repeat (first | apply Kd.R_alloc | apply Kd.R_drewN | apply Kd.R_drew)); exact HO116.out)); (case aS => exact (below_size cau1_0)); (case aL => have := LMc2.out; omega); intro v118 w5 ho hb hg hat; rw [← Ny117.out] at ho; have n0_ := Aside0.mk (hb); have n1_ := Aside0.mk (ho); clear HB; clear HO116; have HB := n0_; have HO119 := n1_; clear n0_ n1_; clear ho hb hg hat))
    go_ret
    exact ⟨_, cau1_8, by (with_reducible repeat (first | apply Kd.R_alloc | apply Kd.R_drewN | apply Kd.R_drew)); exact HO119.out, cau1_0⟩
  · rw [if_neg c2] at H
    exact absurd H (by simp)

theorem num_0 : numB 0 = [0] := by
  have : zig (heldV 0) = 0 := by decide
  unfold numB; rw [this, digs]; rfl
theorem num_m1 : numB (-1) = [1] := by
  have : zig (heldV (-1)) = 1 := by decide
  unfold numB; rw [this, digs]; rfl
theorem num_64 : numB 64 = [128, 1] := by
  have : zig (heldV 64) = 128 := by decide
  unfold numB; rw [this, digs, dif_neg (by decide), digs]; rfl
theorem clone_eq {l : List Int} (h : l.length < 140737488355328) : clone.f l = some l := by
  unfold clone.f
  rw [Option.bind_some, if_pos (by simpa using h)]
  rfl
set_option maxHeartbeats 8000000 in
set_option maxRecDepth 100000 in
theorem read.calls (A : Option Addr) (c : Nat) (l : List Int) (w : World) (hC : Kd.C (Kd.int .u8) w A l.length l) (hc : l.length ≤ c) (hl : l.length < 140737488355328) :
    Calls Try.prog 9 #[.slice A l.length c] w fun e w' => ∃ g A1 c1, e = .returned (.pointer (some ⟨g, 0, none⟩)) ∧ w.heap.size ≤ g ∧ w'.heap[g]? = some (.cells #[.slice A1 l.length c1, .int .i64 0] 56 (0, 0)) ∧ Kd.R (Kd.int .u8) 5 w' w.heap.size (fun k => k ≠ g) (.slice A1 l.length c1) l ∧ Below w.heap.size w w' := by
  go_enter Try.func9, Try.ntmps9
  go_wp2_with (first | (go_at_call 27; (refine (clone.calls _ _ l l _ hC hc (clone_eq hl)).mono ?_); rintro e w1 ⟨v1, rfl, ho1, hb1⟩; obtain ⟨A1, c1, e1_⟩ := Kd.R_slice ho1; subst e1_))
  go_ret
  exact ⟨w1.heap.size, A1, c1, rfl, hb1.size, heap_alloc_new w1 _, Kd.R_alloc (Kd.R_mono (Kd.R_bound ho1) (fun k hk => Nat.ne_of_lt hk.2.2.1)) _, below_alloc hb1 _⟩
set_option maxHeartbeats 8000000 in
set_option maxRecDepth 100000 in
theorem wbytes.calls {T : Nat} (g base : Nat) (v : Value) (l : List Int) (w : World) (bk : w.heap[g]? = some (.cells #[v] T (0, 0))) (ho : Kd.R (Kd.int .u8) 5 w base (fun k => k ≠ g) v l) (hl : l.length < 140737488355328) :
    Calls Try.prog 14 #[.pointer (some ⟨g, 0, none⟩)] w fun e w' => ∃ v1, e = .returned v1 ∧ Kd.R (Kd.int .u8) 5 w' w.heap.size (fun _ => True) v1 l ∧ Below w.heap.size w w' := by
  obtain ⟨A0, c0, e0_⟩ := Kd.R_slice ho
  subst e0_
  have hc0 : w.cell? ⟨g, 0, none⟩ = some (.slice A0 l.length c0) := (blk_cell bk 0).trans rfl
  have hf0 := blk_frozen bk 0
  go_enter Try.func14, Try.ntmps14
  go_wp2_with (first | (go_at_call 27; (refine (clone.calls _ _ l l _ (Kd.R_reads' ho).2.2 (Kd.R_reads' ho).2.1 (clone_eq hl)).mono ?_); rintro e w1 ⟨v1, rfl, ho1, hb1⟩))
  go_ret
  exact ⟨v1, rfl, ho1, hb1⟩
theorem digs_lt {u : Nat} (h : u < 128) : digs u = [(u : Int)] := by rw [digs, dif_pos h]
theorem digs_ge {u : Nat} (h : 128 ≤ u) : digs u = ((u % 128 + 128 : Nat) : Int) :: digs (u / 128) := by rw [digs, dif_neg (by omega)]
theorem digs_len : ∀ (n u : Nat), u < 128 ^ (n + 1) → (digs u).length ≤ n + 1 := by
  intro n
  induction n with
  | zero => intro u h; rw [digs_lt (by simpa using h)]; exact Nat.le_refl _
  | succ n ih =>
    intro u h
    by_cases hu : u < 128
    · rw [digs_lt hu]; simp
    · rw [digs_ge (by omega), List.length_cons]
      rw [Nat.pow_succ] at h
      have := ih (u / 128) (Nat.div_lt_of_lt_mul (by rw [Nat.mul_comm]; exact h))
      omega
theorem digs_pos (u : Nat) : 0 < (digs u).length := by
  by_cases hu : u < 128
  · rw [digs_lt hu]; simp
  · rw [digs_ge (by omega)]; simp
theorem digs_mono : ∀ (n u u' : Nat), u' < n → u ≤ u' → (digs u).length ≤ (digs u').length := by
  intro n
  induction n with
  | zero => intro u u' h; omega
  | succ n ih =>
    intro u u' h hle
    by_cases hu : u < 128
    · rw [digs_lt hu]; exact digs_pos u'
    · rw [digs_ge (show 128 ≤ u by omega), digs_ge (show 128 ≤ u' by omega), List.length_cons, List.length_cons]
      have := ih (u / 128) (u' / 128) (by omega) (by omega)
      omega
/-- all but the last one have the eighth bit; the last one has not -/
theorem digs_form : ∀ (n u : Nat), u < n → (∀ j (h : j < (digs u).length), j + 1 < (digs u).length → 128 ≤ (digs u)[j] ∧ (digs u)[j] < 256) ∧ (∀ j (h : j < (digs u).length), j + 1 = (digs u).length → 0 ≤ (digs u)[j] ∧ (digs u)[j] < 128) := by
  intro n
  induction n with
  | zero => intro u h; omega
  | succ n ih =>
    intro u h
    by_cases hu : u < 128
    · have e := digs_lt hu
      refine ⟨fun j hj hj2 => ?_, fun j hj hj2 => ?_⟩
      · rw [e] at hj2; simp at hj2
      · have : j = 0 := by rw [e] at hj2; simpa using hj2
        subst this
        simp only [e, List.getElem_cons_zero]
        omega
    · have e := digs_ge (show 128 ≤ u by omega)
      obtain ⟨h1, h2⟩ := ih (u / 128) (by omega)
      refine ⟨fun j hj hj2 => ?_, fun j hj hj2 => ?_⟩
      · cases j with
        | zero => simp only [e, List.getElem_cons_zero]; omega
        | succ j =>
          simp only [e, List.getElem_cons_succ]
          simp only [e, List.length_cons] at hj hj2
          exact h1 j (by omega) (by omega)
      · cases j with
        | zero => have := digs_pos (u / 128); simp only [e, List.length_cons] at hj2; omega
        | succ j =>
          simp only [e, List.getElem_cons_succ]
          simp only [e, List.length_cons] at hj hj2
          exact h2 j (by omega) (by omega)
theorem zig_half {x : Int} (hx : -9223372036854775808 ≤ x ∧ x ≤ 9223372036854775807) : zig (heldV (Int.tdiv x 2)) ≤ zig (heldV x) := by
  rw [Int.tdiv_eq_ediv]
  have hs : Int.sign 2 = 1 := rfl
  rw [hs]
  by_cases h : 0 ≤ x ∨ (2 : Int) ∣ x
  · rw [if_pos h]
    unfold heldV mn mx zig
    repeat' split
    all_goals omega
  · rw [if_neg h]
    have hn : x < 0 := by omega
    unfold heldV mn mx zig
    repeat' split
    all_goals omega
end Go.Proofs.Ytoibgnhfpcaejaa.BytesW
