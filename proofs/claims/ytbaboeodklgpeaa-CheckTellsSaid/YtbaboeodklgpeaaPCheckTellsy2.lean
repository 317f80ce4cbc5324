/- Functions that the law CheckTells reaches, and what their Go code computes. No condition. (Lines of a printed text, turned by this session.) -/
import Derived.Lib.SliceRun
import Derived.Test.YtbaboeodklgpeaaPCheckTellsz0
import Derived.Test.YtbaboeodklgpeaaPCheckTellsy1
namespace Go.Proofs.Ytbaboeodklgpeaa.PCheckTells
open Go.RowKit Go.Proofs.YtbaboeodklgpeaaW.PrintWords Go.Proofs.YtbaboeodklgpeaaW.PrintLast Go.Proofs.YtbaboeodklgpeaaW.PrintMore
attribute [local go_sem] max2_int min2_int max_two min_two max_three min_three max_four min_four   -- for this text's walks alone
set_option linter.unusedVariables false
set_option linter.unusedSimpArgs false
theorem au2_0 {p : Prop} (h : p := by repeat (first | (with_reducible first | exact HB.out | apply below_alloc | apply pw_below_drewN | apply below_drew1) | exact HB.out)) : p := h
theorem au2_1 {p : Prop} (h : p := by (with_reducible repeat (first | apply Kd.R_alloc | apply Kd.R_drewN | apply Kd.R_drew)); exact HO168.out) : p := h
theorem au2_2 {p : Prop} (h : p := by (try simp only [List.map_toArray, List.map_cons, List.map_nil]); first | done | rfl | (simp only [List.length_drop, List.length_take]; rfl)) : p := h
theorem au2_3 {p : Prop} (h : p := by (with_reducible repeat (first | apply Kd.R_alloc | apply Kd.R_drewN | apply Kd.R_drew)); exact HO183.out) : p := h
theorem au2_4 {p : Prop} (h : p := by (with_reducible repeat (first | apply Kd.V_alloc | apply Kd.V_drewN | apply Kd.V_drew)); exact HO_1.out) : p := h
theorem au2_5 {p : Prop} (h : p := by (with_reducible repeat (first | apply Kd.V_alloc | apply Kd.V_drewN | apply Kd.V_drew)); exact HO_0.out) : p := h
theorem au2_6 {p : Prop} (h : p := by (with_reducible repeat (first | apply Kd.R_alloc | apply Kd.R_drewN | apply Kd.R_drew)); exact HO187.out) : p := h
theorem au2_7 {p : Prop} (h : p := by (with_reducible repeat (first | apply Kd.V_alloc | apply Kd.V_drewN | apply Kd.V_drew)); exact HO173.out) : p := h
theorem au2_8 {p : Prop} (h : p := by (with_reducible repeat (first | apply Kd.R_alloc | apply Kd.R_drewN | apply Kd.R_drew)); exact HO179.out) : p := h
theorem au2_9 {p : Prop} (h : p := by first | (with_reducible assumption) | assumption) : p := h
theorem au2_10 {p : Prop} (h : p := by first | rfl | (simp [errW_none, errW_some] <;> rfl) | (simp [*, errW_none, errW_some] <;> rfl)) : p := h
theorem au2_11 {p : Prop} (h : p := by (with_reducible repeat (first | apply Kd.N_alloc | apply Kd.N_drewN | apply Kd.N_drew)); exact HO191.out) : p := h
theorem au2_12 {p : Prop} (h : p := by first | rfl | (simp; done) | (simp [*]; done)) : p := h
theorem au2_13 {p : Prop} (h : p := by first | exact Kd.R_nil _ _ _ _ _ | exact Kd.N_nil _ _ _ _ _ | exact Kd.V_nil _ _ _ _ _ | exact Kd.Q_nil _ _ _ _ _ | exact Kd.S_nil _ _ _ _ _) : p := h

/-! ### joustref12_Seal: function 15 -/
def joustref12_Seal.l0 : Nat → List Int → Int → List Int → Int → Option (List Int)
  | 0, _, _, _, _ => none
  | k + 1, x0, x3, x4, x5 => if x5 ≥ 0 then (if 0 ≤ (IntKind.u64.wrap (wrap64 (8 * x5))) then (if x4.length < 140737488355328 then (joustref12_Seal.l0 k x0 x3 (x4 ++ [(shr .u64 x3 (IntKind.u64.wrap (wrap64 (8 * x5)))) % 256]) (wrap64 (x5 - 1))) else (none)) else (none)) else (if x4.length + x0.length < 140737488355328 then (some (x4 ++ x0)) else (none))
def joustref12_Seal.f (k : Nat) (l0 : List Int) : Option (List Int) := (joustref12_Sum.f k l0).bind fun t145 => (joustref12_Seal.l0 k l0 t145 ([] : List Int) 7)
theorem joustref12_Seal.mono_l : ∀ k, (∀ y0 y1 y2 y3, LeO (joustref12_Seal.l0 k y0 y1 y2 y3) (joustref12_Seal.l0 (k + 1) y0 y1 y2 y3))
  | 0 => fun _ _ _ _ r h => by simp [joustref12_Seal.l0] at h
  | k + 1 => by
    have ih0 := joustref12_Seal.mono_l k
    · intro y0 y1 y2 y3
      unfold joustref12_Seal.l0
      repeat' first
      | (with_reducible exact ih0 _ _ _ _)
      | (with_reducible exact joustref12_Sum.mono _ _)
      | (with_reducible exact LeO.refl _)
      | (with_reducible exact LeO.none _)
      | (with_reducible refine LeO.ite ?_ ?_)
      | (with_reducible refine LeO.bind ?_ (fun _ => ?_))
      | exact ih0 _ _ _ _
      | exact joustref12_Sum.mono _ _
      | exact LeO.none _
      | refine LeO.ite ?_ ?_
      | refine LeO.bind ?_ (fun _ => ?_)
theorem joustref12_Seal.mono : ∀ a0 k, LeO (joustref12_Seal.f k a0) (joustref12_Seal.f (k + 1) a0) := by
  intro a0 k
  have ih0 := joustref12_Seal.mono_l k
  unfold joustref12_Seal.f
  repeat' first
      | (with_reducible exact ih0 _ _ _ _)
      | (with_reducible exact joustref12_Sum.mono _ _)
      | (with_reducible exact LeO.refl _)
      | (with_reducible exact LeO.none _)
      | (with_reducible refine LeO.ite ?_ ?_)
      | (with_reducible refine LeO.bind ?_ (fun _ => ?_))
      | exact ih0 _ _ _ _
      | exact joustref12_Sum.mono _ _
      | exact LeO.none _
      | refine LeO.ite ?_ ?_
      | refine LeO.bind ?_ (fun _ => ?_)
set_option maxHeartbeats 8000000 in
set_option maxRecDepth 100000 in
theorem joustref12_Seal.calls (k : Nat) (A0 : Option Addr) (c0 : Nat) (l0 : List Int) (r : List Int) (w : World) (hr0 : Kd.C (Kd.int .u8) w A0 l0.length l0) (hc0 : l0.length ≤ c0) (h : joustref12_Seal.f k l0 = some r) :
    Calls Try.prog 15 #[.slice A0 l0.length c0] w fun e w' => ∃ v0_ : Value, e = .returned (v0_) ∧ Kd.R (Kd.int .u8) 5 w' w.heap.size (fun _ => True) v0_ r ∧ Below w.heap.size w w' := by
  have HR0 := Aside0.mk hr0
  have HC0 := Aside0.mk hc0
  clear hr0 hc0
  have HB := Aside0.mk (Below.refl w.heap.size w)
  have H : ((joustref12_Sum.f k l0).bind fun t145 => (joustref12_Seal.l0 k l0 t145 ([] : List Int) 7)) = some r := h
  clear h
  replace H := Option.bind_eq_some_iff.mp H
  obtain ⟨t145, A20, H⟩ := H
  (try dsimp -simprocs only at H)
  have A2 := Aside0.mk A20
  clear A20
  have H' := Aside0.mk H
  clear H
  go_enter Try.func15, Try.ntmps15
  go_wp2_with (first | ((with_reducible refine gate_callee (f := 12) rfl ?_); refine goesL_ (some 7) rfl rfl Try.func12 (by kernel_rfl) rfl #[.slice A0 l0.length c0] rfl au2_2 ?_; (with_reducible refine (joustref12_Sum.calls k _ _ l0 t145 _ ?side1 ?side2 A2.out).mono ?_); (case side1 => repeat (first | exact HR0.out | (with_reducible refine Kd.C_alloc ?_ _) | (with_reducible refine Kd.C_drewN ?_ _) | (with_reducible refine Kd.C_drew ?_))); (case side2 => exact HC0.out); rintro e w' ⟨rfl, ⟨nd, rfl⟩⟩; refine ⟨_, rfl, ?_⟩))
  go_loopg [4, 5] k (fun kq v4 v5 w' => ∃ (x4_1 : List Int) (x5_1 : Int), v5 = .int .i64 x5_1 ∧ Aside0 (joustref12_Seal.l0 kq l0 t145 x4_1 x5_1 = some r) ∧ Aside0 (kq ≤ k) ∧ Aside0 (Kd.R (Kd.int .u8) 5 w' w.heap.size (fun _ => True) v4 x4_1) ∧ Aside0 (Below w.heap.size w w'))
  case atStart => exact ⟨(([] : List Int)), (7), au2_12, H', ⟨Nat.le_refl _⟩, ⟨au2_13⟩, ⟨au2_0⟩⟩
  case round =>
    clear H'
    try clear c1
    try clear p2
    obtain ⟨x4_1, x5_1, rfl, HA, HK1, HO_4, HB⟩ := hrel
    cases gk with
    | zero => exact absurd HA.out (by simp [joustref12_Seal.l0])
    | succ k1 =>
      have H := HA.out
      clear HA
      simp only [joustref12_Seal.l0] at H
      by_cases c3 : x5_1 ≥ 0
      · rw [if_pos c3] at H
        have c3b0 : decide (0 ≤ x5_1) = true := decide_eq_true c3
        clear c3
        obtain ⟨ji4, hji4⟩ : ∃ j_ : Int, (IntKind.u64.wrap (wrap64 (8 * x5_1))) = j_ := ⟨_, rfl⟩
        replace H : (if 0 ≤ (ji4) then (if x4_1.length < 140737488355328 then (joustref12_Seal.l0 k1 l0 t145 (x4_1 ++ [(shr .u64 t145 (ji4)) % 256]) (wrap64 (x5_1 - 1))) else (none)) else (none)) = some r := by first | (rw [hji4] at H; exact H) | (simp only [hji4] at H ⊢; exact H)
        by_cases c5 : 0 ≤ (ji4)
        · rw [if_pos c5] at H
          have c5b0 := eq_true c5
          have c5b1 : decide (0 ≤ (ji4)) = true := decide_eq_true c5
          clear c5
          obtain ⟨ji6, hji6⟩ : ∃ j_ : Int, (shr .u64 t145 (ji4)) = j_ := ⟨_, rfl⟩
          replace H : (if x4_1.length < 140737488355328 then (joustref12_Seal.l0 k1 l0 t145 (x4_1 ++ [(ji6) % 256]) (wrap64 (x5_1 - 1))) else (none)) = some r := by first | (rw [hji6] at H; exact H) | (simp only [hji6] at H ⊢; exact H)
          have hji6_ : (t145 / 2 ^ min (ji4).toNat 64) = ji6 := hji6
          have hji6z : (ji4) ≤ 64 → (t145 / 2 ^ (ji4).toNat) = ji6 := shr_small hji6
          by_cases c7 : x4_1.length < 140737488355328
          · rw [if_pos c7] at H
            have LMc7 := Aside0.mk c7
            clear c7
            obtain ⟨y146, hy146⟩ : ∃ y_ : List Int, y_ = (x4_1 ++ [(ji6) % 256]) := ⟨_, rfl⟩
            replace H : (joustref12_Seal.l0 k1 l0 t145 y146 (wrap64 (x5_1 - 1))) = some r := by first | (rw [hy146]; with_reducible exact H) | (have H2_ := (Option.bind_some _ _).symm.trans H; rw [hy146]; with_reducible exact H2_) | (have H2_ := (Option.bind_some _ _).symm.trans H; with_reducible exact H2_) | with_reducible exact H | (rw [hy146]; exact H) | exact H
            have Ny146 := Aside0.mk hy146
            clear hy146
            have H' := Aside0.mk H
            clear H
            go_wp2_with (first | ((with_reducible refine gate_builtin (b := .append) (xs := #[.tmp 12, .tmp 19]) rfl ?_); at_builtin; refine Kd.R_append (Kd.int .u8) (w0 := w) w.heap.size rfl (.tmp 12) (.tmp 19) 22 5 (.int .u8 0) 1 rfl Try.underlying22 info5 rfl (by decide) (by omega) u4 x4_1 ((ji6) % 256) [.int .u8 ((ji6) % 256)] (fun _ => True) (fun _ => False) rfl rfl ?aP (fun _ hk => hk.elim) ?aF ?aO ?aB ?aS ?aL ?_; (case aP => exact rfl); (case aB => exact au2_0); (case aF => exact (fun _ _ => trivial)); (case aO => exact (by (with_reducible repeat (first | apply Kd.R_alloc | apply Kd.R_drewN | apply Kd.R_drew)); exact HO_4.out)); (case aS => exact (below_size au2_0)); (case aL => have := LMc7.out; omega); intro v147 w8 ho hb hg hat; rw [← Ny146.out] at ho; have n0_ := Aside0.mk (hb); have n1_ := Aside0.mk (ho); clear HB; clear HO_4; have HB := n0_; have HO148 := n1_; clear n0_ n1_; clear ho hb hg hat))
            go_roundg k1
            case measure => have := HK1.out; omega
            case rel => exact ⟨(y146), (wrap64 (x5_1 - 1)), au2_12, H', ⟨by have := HK1.out; omega⟩, ⟨by (with_reducible repeat (first | apply Kd.R_alloc | apply Kd.R_drewN | apply Kd.R_drew)); exact HO148.out⟩, ⟨au2_0⟩⟩
          · rw [if_neg c7] at H
            exact absurd H (by simp)
        · rw [if_neg c5] at H
          exact absurd H (by simp)
      · rw [if_neg c3] at H
        have c3b0 : decide (0 ≤ x5_1) = false := decide_eq_false c3
        clear c3
        by_cases c9 : x4_1.length + l0.length < 140737488355328
        · rw [if_pos c9] at H
          have LMc9 := Aside0.mk c9
          clear c9
          obtain ⟨y149, hy149⟩ : ∃ y_ : List Int, y_ = (x4_1 ++ l0) := ⟨_, rfl⟩
          replace H : (some y149) = some r := by first | (rw [hy149]; with_reducible exact H) | (have H2_ := (Option.bind_some _ _).symm.trans H; rw [hy149]; with_reducible exact H2_) | (have H2_ := (Option.bind_some _ _).symm.trans H; with_reducible exact H2_) | with_reducible exact H | (rw [hy149]; exact H) | exact H
          have Ny149 := Aside0.mk hy149
          clear hy149
          obtain rfl := Option.some.inj H
          (try (have hq1_ := beq_iff_eq.mp hr_.out; have hq0_ := hr_.out; have hq2_ := bne_eq_false_iff_eq.mpr hq1_))
          (try (have hq3_ := hr_.out))
          go_wp2_with (first | ((with_reducible refine gate_builtin (b := .append) (xs := #[.tmp 21, .tmp 22]) rfl ?_); at_builtin; refine Kd.R_append_rows (Kd.int .u8) (w0 := w) w.heap.size rfl (.tmp 21) (.tmp 22) 22 5 (.int .u8 0) 1 rfl Try.underlying22 info5 rfl (by decide) (by omega) u4 x4_1 l0 _ _ _ (fun _ => True) (fun _ => False) rfl rfl ?aO ?aR (fun _ _ h => h) (fun _ h => h.elim) ?aF ?aB ?aS ?aL ?_; (case aR => repeat (first | exact (Kd.C_below HR0.out HB.out) | (with_reducible refine Kd.C_alloc ?_ _) | (with_reducible refine Kd.C_drewN ?_ _) | (with_reducible refine Kd.C_drew ?_))); (case aB => exact au2_0); (case aF => exact (fun _ _ => trivial)); (case aO => exact (by (with_reducible repeat (first | apply Kd.R_alloc | apply Kd.R_drewN | apply Kd.R_drew)); exact HO_4.out)); (case aS => exact (below_size au2_0)); (case aL => have := LMc9.out; omega); intro v150 w10 ho hb hg hat; rw [← Ny149.out] at ho; have n0_ := Aside0.mk (hb); have n1_ := Aside0.mk (ho); clear HB; clear HO_4; have HB := n0_; have HO151 := n1_; clear n0_ n1_; clear ho hb hg hat))
          go_ret
          exact ⟨_, au2_10, by (with_reducible repeat (first | apply Kd.R_alloc | apply Kd.R_drewN | apply Kd.R_drew)); exact HO151.out, au2_0⟩
        · rw [if_neg c9] at H
          exact absurd H (by simp)

/-! ### joustref12_Open: function 10 -/
def joustref12_Open.f (k : Nat) (l0 : List Int) : Option (List Int × Int) := if (l0.length : Int) < 8 then (some (([] : List Int), 5)) else (if 8 ≤ (l0.length : Int) then ((joustref12_Seal.f k (l0.drop 8)).bind fun t153 => ((jousthelp_Bytes.f t153 l0).bind fun t156 => (if t156 = true then (if ([] : List Int).length + (l0.drop 8).length < 140737488355328 then (some ((([] : List Int) ++ (l0.drop 8)), 0)) else (none)) else (some (([] : List Int), 9))))) else (none))
theorem joustref12_Open.mono : ∀ a0 k, LeO (joustref12_Open.f k a0) (joustref12_Open.f (k + 1) a0) := by
  intro a0 k
  unfold joustref12_Open.f
  repeat' first
      | (with_reducible exact joustref12_Seal.mono _ _)
      | (with_reducible exact LeO.refl _)
      | (with_reducible exact LeO.none _)
      | (with_reducible refine LeO.ite ?_ ?_)
      | (with_reducible refine LeO.bind ?_ (fun _ => ?_))
      | exact joustref12_Seal.mono _ _
      | exact LeO.none _
      | refine LeO.ite ?_ ?_
      | refine LeO.bind ?_ (fun _ => ?_)
set_option maxHeartbeats 8000000 in
set_option maxRecDepth 100000 in
theorem joustref12_Open.calls (k : Nat) (A0 : Option Addr) (c0 : Nat) (l0 : List Int) (r1 : List Int) (r2 : Int) (w : World) (hr0 : Kd.C (Kd.int .u8) w A0 l0.length l0) (hc0 : l0.length ≤ c0) (h : joustref12_Open.f k l0 = some (r1, r2)) :
    Calls Try.prog 10 #[.slice A0 l0.length c0] w fun e w' => ∃ v0_ : Value, e = .returned (.tuple #[v0_, .int .i64 r2]) ∧ Kd.R (Kd.int .u8) 5 w' w.heap.size (fun _ => True) v0_ r1 ∧ Below w.heap.size w w' := by
  have HR0 := Aside0.mk hr0
  have HC0 := Aside0.mk hc0
  clear hr0 hc0
  have HB := Aside0.mk (Below.refl w.heap.size w)
  have H : (if (l0.length : Int) < 8 then (some (([] : List Int), 5)) else (if 8 ≤ (l0.length : Int) then ((joustref12_Seal.f k (l0.drop 8)).bind fun t153 => ((jousthelp_Bytes.f t153 l0).bind fun t156 => (if t156 = true then (if ([] : List Int).length + (l0.drop 8).length < 140737488355328 then (some ((([] : List Int) ++ (l0.drop 8)), 0)) else (none)) else (some (([] : List Int), 9))))) else (none))) = some (r1, r2) := h
  clear h
  by_cases c2 : (l0.length : Int) < 8
  · rw [if_pos c2] at H
    have c2b0 : decide ((l0.length : Int) < 8) = true := decide_eq_true c2
    have c2b1 : decide (l0.length < 8) = true := decide_eq_true (by omega)
    clear c2
    simp only [Option.some.injEq, Prod.mk.injEq] at H
    obtain ⟨rfl, rfl⟩ := H
    go_enter Try.func10, Try.ntmps10
    go_wp2
    go_ret2
    exact ⟨_, au2_10, au2_13, au2_0⟩
  · rw [if_neg c2] at H
    have c2b0 : decide ((l0.length : Int) < 8) = false := decide_eq_false c2
    have c2b1 : decide (l0.length < 8) = false := decide_eq_false (by omega)
    clear c2
    by_cases c3 : 8 ≤ (l0.length : Int)
    · rw [if_pos c3] at H
      have c3b0 := eq_true c3
      have c3b1 : decide (8 ≤ (l0.length : Int)) = true := decide_eq_true c3
      clear c3
      replace H := Option.bind_eq_some_iff.mp H
      obtain ⟨t153, A40, H⟩ := H
      (try dsimp -simprocs only at H)
      have A4 := Aside0.mk A40
      clear A40
      replace H := Option.bind_eq_some_iff.mp H
      obtain ⟨t156, A50, H⟩ := H
      (try dsimp -simprocs only at H)
      have A5 := Aside0.mk A50
      clear A50
      by_cases c6 : t156 = true
      · subst c6
        have H1 : (if ([] : List Int).length + (l0.drop 8).length < 140737488355328 then (some ((([] : List Int) ++ (l0.drop 8)), 0)) else (none)) = some (r1, r2) := by rw [if_pos rfl] at H; exact H
        clear H
        have H := H1
        clear H1
        have c7b0 := eq_true (of_decide_eq_true au2_9 : 8 ≤ (l0.length : Int))
        by_cases c8 : ([] : List Int).length + (l0.drop 8).length < 140737488355328
        · rw [if_pos c8] at H
          have LMc8 := Aside0.mk c8
          clear c8
          obtain ⟨y158, hy158⟩ : ∃ y_ : List Int, y_ = (([] : List Int) ++ (l0.drop 8)) := ⟨_, rfl⟩
          replace H : (some (y158, 0)) = some (r1, r2) := by first | (rw [hy158]; with_reducible exact H) | (have H2_ := (Option.bind_some _ _).symm.trans H; rw [hy158]; with_reducible exact H2_) | (have H2_ := (Option.bind_some _ _).symm.trans H; with_reducible exact H2_) | with_reducible exact H | (rw [hy158]; exact H) | exact H
          have Ny158 := Aside0.mk hy158
          clear hy158
          simp only [Option.some.injEq, Prod.mk.injEq] at H
          obtain ⟨rfl, rfl⟩ := H
          obtain ⟨i09, hi09, _, hsz9, _⟩ := info_parts info5
          obtain ⟨A9, hcut9, hA9, hC9⟩ := print_drop_of (P := Try.prog) (Value.int .u8) 0 22 5 .i64 Try.underlying22 hi09 hsz9 A0 c0 l0 8 (by omega) (of_decide_eq_true au2_9) HC0.out
          have HR152 := Aside0.mk (Kd.C_of_reads (h1 := fun _ => rfl) (hA9 _ (Kd.reads_of_C HR0.out)))
          have HC152 := Aside0.mk hC9
          clear hA9 hC9 hi09 hsz9
          go_enter Try.func10, Try.ntmps10
          go_wp2_with (first | ((with_reducible refine gate_callee (f := 15) rfl ?_); refine goesL_ (some 9) rfl rfl Try.func15 (by kernel_rfl) rfl #[.slice A9 (l0.drop 8).length (c0 - 8)] rfl (by (try simp only [List.map_toArray, List.map_cons, List.map_nil]); first | done | (rw [show (l0.drop 8).length = (l0.length - 8) from List.length_drop] <;> rfl) | rfl | (simp only [List.length_drop, List.length_take]; rfl)) ?_; (with_reducible refine (joustref12_Seal.calls k _ _ (l0.drop 8) t153 _ ?side1 ?side2 A4.out).mono ?_); (case side1 => repeat (first | exact HR152.out | (with_reducible refine Kd.C_alloc ?_ _) | (with_reducible refine Kd.C_drewN ?_ _) | (with_reducible refine Kd.C_drew ?_))); (case side2 => exact HC152.out); rintro e w10 ⟨v154, rfl, ho0, hb⟩; refine ⟨_, rfl, ?_⟩; have n0_ := Aside0.mk (Kd.R_lower ho0 (below_size au2_0)); have n1_ := Aside0.mk (below_step au2_0 hb); clear HB; have HO155 := n0_; have HB := n1_; clear n0_ n1_; (try clear hb); (try clear hb2); (try clear hk); (try clear hi); (try clear ho0); obtain ⟨Ao11, co11, eo11⟩ := Kd.R_slice HO155.out; subst eo11) | ((with_reducible refine gate_callee (f := 13) rfl ?_); refine goesL_ (some 11) rfl rfl Try.func13 (by kernel_rfl) rfl #[.slice Ao11 t153.length co11, .slice A0 l0.length c0] rfl au2_2 ?_; (with_reducible refine (jousthelp_Bytes.calls _ _ t153 _ _ l0 true _ ?side1 ?side2 ?side3 ?side4 A5.out).mono ?_); (case side1 => repeat (first | exact (Kd.R_reads' HO155.out).2.2 | (with_reducible refine Kd.C_alloc ?_ _) | (with_reducible refine Kd.C_drewN ?_ _) | (with_reducible refine Kd.C_drew ?_))); (case side2 => exact (Kd.R_reads' HO155.out).2.1); (case side3 => repeat (first | exact (Kd.C_below HR0.out HB.out) | (with_reducible refine Kd.C_alloc ?_ _) | (with_reducible refine Kd.C_drewN ?_ _) | (with_reducible refine Kd.C_drew ?_))); (case side4 => exact HC0.out); rintro e w' ⟨rfl, ⟨nd, rfl⟩⟩; refine ⟨_, rfl, ?_⟩; obtain ⟨i012, hi012, _, hsz12, _⟩ := info_parts info5; obtain ⟨A12, hcut12, hA12, hC12⟩ := print_drop_of (P := Try.prog) (Value.int .u8) 0 22 5 .i64 Try.underlying22 hi012 hsz12 A0 c0 l0 8 (by omega) (of_decide_eq_true au2_9) HC0.out; have HR157 := Aside0.mk (Kd.C_of_reads (h1 := fun _ => rfl) (hA12 _ (Kd.reads_of_C HR0.out))); have HC157 := Aside0.mk hC12; clear hA12 hC12 hi012 hsz12) | ((with_reducible refine gate_builtin (b := .append) (xs := #[.const (.slice none 0 0), .tmp 14]) rfl ?_); at_builtin; refine Kd.R_append_rows (Kd.int .u8) (w0 := w) w.heap.size rfl (.const (.slice none 0 0)) (.tmp 14) 22 5 (.int .u8 0) 1 rfl Try.underlying22 info5 rfl (by decide) (by omega) (.slice none 0 0) ([] : List Int) (l0.drop 8) _ _ _ (fun k_ => some k_ ≠ (.slice Ao11 t153.length co11 : Value).ownBlock) (fun _ => False) rfl rfl ?aO ?aR (fun _ _ h => h) (fun _ h => h.elim) ?aF ?aB ?aS ?aL ?_; (case aR => first | (rw [← show (l0.drop 8).length = (l0.length - 8) from List.length_drop]; repeat (first | exact (Kd.C_below HR152.out au2_0) | (with_reducible refine Kd.C_alloc ?_ _) | (with_reducible refine Kd.C_drewN ?_ _) | (with_reducible refine Kd.C_drew ?_))) | (repeat (first | exact (Kd.C_below HR152.out au2_0) | (with_reducible refine Kd.C_alloc ?_ _) | (with_reducible refine Kd.C_drewN ?_ _) | (with_reducible refine Kd.C_drew ?_)))); (case aB => exact au2_0); (case aF => exact (fun k_ hk => Kd.fresh' (Kd.R_lt (by (with_reducible repeat (first | apply Kd.R_alloc | apply Kd.R_drewN | apply Kd.R_drew)); exact HO155.out)) k_ hk)); (case aO => exact ((Kd.R_nil _ _ _ _ (fun k_ => some k_ ≠ (.slice Ao11 t153.length co11 : Value).ownBlock)))); (case aS => exact (below_size au2_0)); (case aL => have := LMc8.out; have hlx_ := (show (l0.drop 8).length = (l0.length - 8) from List.length_drop); omega); intro v159 w13 ho hb hg hat; rw [← Ny158.out] at ho; have n0_ := Aside0.mk (Kd.R_after (Kd.R_apart_nil (by (with_reducible repeat (first | apply Kd.R_alloc | apply Kd.R_drewN | apply Kd.R_drew)); exact HO155.out)) hg hat); have n1_ := Aside0.mk (hb); have n2_ := Aside0.mk (ho); clear HO155; clear HB; have HO155 := n0_; have HB := n1_; have HO160 := n2_; clear n0_ n1_ n2_; clear ho hb hg hat))
          go_ret2
          exact ⟨_, au2_10, by (with_reducible repeat (first | apply Kd.R_alloc | apply Kd.R_drewN | apply Kd.R_drew)); exact Kd.R_mono HO160.out (fun _ hk => trivial), au2_0⟩
        · rw [if_neg c8] at H
          exact absurd H (by simp)
      · replace c6 := Bool.eq_false_iff.mpr c6
        subst c6
        have H1 : (some (([] : List Int), 9)) = some (r1, r2) := by rw [if_neg (show ¬ (false = true) by decide)] at H; exact H
        clear H
        have H := H1
        clear H1
        simp only [Option.some.injEq, Prod.mk.injEq] at H
        obtain ⟨rfl, rfl⟩ := H
        obtain ⟨i014, hi014, _, hsz14, _⟩ := info_parts info5
        obtain ⟨A14, hcut14, hA14, hC14⟩ := print_drop_of (P := Try.prog) (Value.int .u8) 0 22 5 .i64 Try.underlying22 hi014 hsz14 A0 c0 l0 8 (by omega) (of_decide_eq_true au2_9) HC0.out
        have HR152 := Aside0.mk (Kd.C_of_reads (h1 := fun _ => rfl) (hA14 _ (Kd.reads_of_C HR0.out)))
        have HC152 := Aside0.mk hC14
        clear hA14 hC14 hi014 hsz14
        go_enter Try.func10, Try.ntmps10
        go_wp2_with (first | ((with_reducible refine gate_callee (f := 15) rfl ?_); refine goesL_ (some 9) rfl rfl Try.func15 (by kernel_rfl) rfl #[.slice A14 (l0.drop 8).length (c0 - 8)] rfl (by (try simp only [List.map_toArray, List.map_cons, List.map_nil]); first | done | (rw [show (l0.drop 8).length = (l0.length - 8) from List.length_drop] <;> rfl) | rfl | (simp only [List.length_drop, List.length_take]; rfl)) ?_; (with_reducible refine (joustref12_Seal.calls k _ _ (l0.drop 8) t153 _ ?side1 ?side2 A4.out).mono ?_); (case side1 => repeat (first | exact HR152.out | (with_reducible refine Kd.C_alloc ?_ _) | (with_reducible refine Kd.C_drewN ?_ _) | (with_reducible refine Kd.C_drew ?_))); (case side2 => exact HC152.out); rintro e w15 ⟨v154, rfl, ho0, hb⟩; refine ⟨_, rfl, ?_⟩; have n0_ := Aside0.mk (Kd.R_lower ho0 (below_size au2_0)); have n1_ := Aside0.mk (below_step au2_0 hb); clear HB; have HO155 := n0_; have HB := n1_; clear n0_ n1_; (try clear hb); (try clear hb2); (try clear hk); (try clear hi); (try clear ho0); obtain ⟨Ao16, co16, eo16⟩ := Kd.R_slice HO155.out; subst eo16) | ((with_reducible refine gate_callee (f := 13) rfl ?_); refine goesL_ (some 11) rfl rfl Try.func13 (by kernel_rfl) rfl #[.slice Ao16 t153.length co16, .slice A0 l0.length c0] rfl au2_2 ?_; (with_reducible refine (jousthelp_Bytes.calls _ _ t153 _ _ l0 false _ ?side1 ?side2 ?side3 ?side4 A5.out).mono ?_); (case side1 => repeat (first | exact (Kd.R_reads' HO155.out).2.2 | (with_reducible refine Kd.C_alloc ?_ _) | (with_reducible refine Kd.C_drewN ?_ _) | (with_reducible refine Kd.C_drew ?_))); (case side2 => exact (Kd.R_reads' HO155.out).2.1); (case side3 => repeat (first | exact (Kd.C_below HR0.out HB.out) | (with_reducible refine Kd.C_alloc ?_ _) | (with_reducible refine Kd.C_drewN ?_ _) | (with_reducible refine Kd.C_drew ?_))); (case side4 => exact HC0.out); rintro e w' ⟨rfl, ⟨nd, rfl⟩⟩; refine ⟨_, rfl, ?_⟩))
        go_ret2
        exact ⟨_, au2_10, au2_13, au2_0⟩
    · rw [if_neg c3] at H
      exact absurd H (by simp)

/-! ### jousthelp_Plain_byte_1: function 22 -/
def jousthelp_Plain_byte_1.f (a0 : Int) (a1 : Int) : Option (Bool) := some (a0 == a1)
set_option maxHeartbeats 8000000 in
set_option maxRecDepth 100000 in
theorem jousthelp_Plain_byte_1.calls (a0 : Int) (a1 : Int) (r : Bool) (w : World) (h : jousthelp_Plain_byte_1.f a0 a1 = some r) :
    Calls Try.prog 22 #[.int .u8 a0, .int .u8 a1] w fun e w' => e = .returned (.bool r) ∧ Drawn0 w w' := by
  have H : (some (a0 == a1)) = some r := h
  clear h
  obtain rfl := Option.some.inj H
  (try (have hq1_ := beq_iff_eq.mp hr_.out; have hq0_ := hr_.out; have hq2_ := bne_eq_false_iff_eq.mpr hq1_))
  (try (have hq3_ := hr_.out))
  go_enter Try.func22, Try.ntmps22
  go_wp2
  go_ret
  exact ⟨au2_12, by repeat (first | exact Drawn0.refl _ | apply Drawn0.step)⟩

/-! ### jousthelp_Same_byte: function 21 -/
def jousthelp_Same_byte.l0 : Nat → List Int → List Int → Int → Option (Bool)
  | 0, _, _, _ => none
  | k + 1, x0, x1, x7 => if x7 < (x0.length : Int) then (if 0 ≤ x7 then (if x7 < (x1.length : Int) then ((jousthelp_Plain_byte_1.f (rd x0 x7) (rd x1 x7)).bind fun t163 => (if t163 = true then (jousthelp_Same_byte.l0 k x0 x1 (wrap64 (x7 + 1))) else (some false))) else (none)) else (none)) else (some true)
def jousthelp_Same_byte.f (k : Nat) (l0 : List Int) (l1 : List Int) (a2 : Unit) : Option (Bool) := if (l0.length : Int) = (l1.length : Int) then (jousthelp_Same_byte.l0 k l0 l1 0) else (some false)
theorem jousthelp_Same_byte.mono_l : ∀ k, (∀ y0 y1 y2, LeO (jousthelp_Same_byte.l0 k y0 y1 y2) (jousthelp_Same_byte.l0 (k + 1) y0 y1 y2))
  | 0 => fun _ _ _ r h => by simp [jousthelp_Same_byte.l0] at h
  | k + 1 => by
    have ih0 := jousthelp_Same_byte.mono_l k
    · intro y0 y1 y2
      unfold jousthelp_Same_byte.l0
      repeat' first
      | (with_reducible exact ih0 _ _ _)
      | (with_reducible exact LeO.refl _)
      | (with_reducible exact LeO.none _)
      | (with_reducible refine LeO.ite ?_ ?_)
      | (with_reducible refine LeO.bind ?_ (fun _ => ?_))
      | exact ih0 _ _ _
      | exact LeO.none _
      | refine LeO.ite ?_ ?_
      | refine LeO.bind ?_ (fun _ => ?_)
theorem jousthelp_Same_byte.mono : ∀ a0 a1 a2 k, LeO (jousthelp_Same_byte.f k a0 a1 a2) (jousthelp_Same_byte.f (k + 1) a0 a1 a2) := by
  intro a0 a1 a2 k
  have ih0 := jousthelp_Same_byte.mono_l k
  unfold jousthelp_Same_byte.f
  repeat' first
      | (with_reducible exact ih0 _ _ _)
      | (with_reducible exact LeO.refl _)
      | (with_reducible exact LeO.none _)
      | (with_reducible refine LeO.ite ?_ ?_)
      | (with_reducible refine LeO.bind ?_ (fun _ => ?_))
      | exact ih0 _ _ _
      | exact LeO.none _
      | refine LeO.ite ?_ ?_
      | refine LeO.bind ?_ (fun _ => ?_)
set_option maxHeartbeats 8000000 in
set_option maxRecDepth 100000 in
theorem jousthelp_Same_byte.calls (k : Nat) (A0 : Option Addr) (c0 : Nat) (l0 : List Int) (A1 : Option Addr) (c1 : Nat) (l1 : List Int) (a2 : Unit) (r : Bool) (w : World) (hr0 : Kd.C (Kd.int .u8) w A0 l0.length l0) (hc0 : l0.length ≤ c0) (hr1 : Kd.C (Kd.int .u8) w A1 l1.length l1) (hc1 : l1.length ≤ c1) (h : jousthelp_Same_byte.f k l0 l1 a2 = some r) :
    Calls Try.prog 21 #[.slice A0 l0.length c0, .slice A1 l1.length c1, .func (.func 22) #[] #[]] w fun e w' => e = .returned (.bool r) ∧ Drawn0 w w' := by
  have HR0 := Aside0.mk hr0
  have HC0 := Aside0.mk hc0
  clear hr0 hc0
  have HR1 := Aside0.mk hr1
  have HC1 := Aside0.mk hc1
  clear hr1 hc1
  have H : (if (l0.length : Int) = (l1.length : Int) then (jousthelp_Same_byte.l0 k l0 l1 0) else (some false)) = some r := h
  clear h
  by_cases c4 : (l0.length : Int) = (l1.length : Int)
  · rw [if_pos c4] at H
    have c4b0 : ((l0.length : Int) == (l1.length : Int)) = true := beq_iff_eq.mpr c4
    have c4b1 : ((l0.length : Int) != (l1.length : Int)) = false := bne_eq_false_iff_eq.mpr c4
    have c4b2 : (l0.length == l1.length) = true := by first | simpa using c4 | (simp at c4 ⊢; omega)
    clear c4
    have H' := Aside0.mk H
    clear H
    go_enter Try.func21, Try.ntmps21
    go_wp2
    repeat (go_quiet (fail); try go_wp2)
    go_loopg [7] k (fun kq v7 w' => ∃ (x7_1 : Int), v7 = .int .i64 x7_1 ∧ Aside0 (jousthelp_Same_byte.l0 kq l0 l1 x7_1 = some r) ∧ Aside0 (kq ≤ k) ∧ Drawn0 w w')
    case atStart => exact ⟨(0), au2_12, H', ⟨Nat.le_refl _⟩, by repeat (first | exact Drawn0.refl _ | apply Drawn0.step)⟩
    case round =>
      clear H'
      try clear c1
      try clear c2
      try clear p2
      try clear c4
      try clear c4b0
      try clear c4b1
      try clear c4b2
      obtain ⟨x7_1, rfl, HA, HK1, ⟨m1, rfl⟩⟩ := hrel
      cases gk with
      | zero => exact absurd HA.out (by simp [jousthelp_Same_byte.l0])
      | succ k1 =>
        have H := HA.out
        clear HA
        simp only [jousthelp_Same_byte.l0] at H
        by_cases c5 : x7_1 < (l0.length : Int)
        · rw [if_pos c5] at H
          have c5b0 : decide (x7_1 < (l0.length : Int)) = true := decide_eq_true c5
          clear c5
          by_cases c6 : 0 ≤ x7_1
          · rw [if_pos c6] at H
            have c6b0 : decide (0 ≤ x7_1) = true := decide_eq_true c6
            clear c6
            by_cases c7 : x7_1 < (l1.length : Int)
            · rw [if_pos c7] at H
              have c7b0 : decide (x7_1 < (l1.length : Int)) = true := decide_eq_true c7
              clear c7
              replace H := Option.bind_eq_some_iff.mp H
              obtain ⟨t163, A80, H⟩ := H
              (try dsimp -simprocs only at H)
              have A8 := Aside0.mk A80
              clear A80
              by_cases c9 : t163 = true
              · subst c9
                have H1 : (jousthelp_Same_byte.l0 k1 l0 l1 (wrap64 (x7_1 + 1))) = some r := by rw [if_pos rfl] at H; exact H
                clear H
                have H := H1
                clear H1
                have H' := Aside0.mk H
                clear H
                have p161 : 0 ≤ (x7_1 : Int) := of_decide_eq_true au2_9
                have q161 : x7_1 < (l0.length : Int) := of_decide_eq_true au2_9
                obtain ⟨ad161, e161, hx161_0⟩ := Kd.at_int HR0.out x7_1 p161 q161
                cases e161
                replace p161 := eq_true p161
                replace q161 := eq_true q161
                have p162 : 0 ≤ (x7_1 : Int) := of_decide_eq_true au2_9
                have q162 : x7_1 < (l1.length : Int) := of_decide_eq_true au2_9
                obtain ⟨ad162, e162, hx162_0⟩ := Kd.at_int HR1.out x7_1 p162 q162
                cases e162
                replace p162 := eq_true p162
                replace q162 := eq_true q162
                go_wp2_with (first | (go_at_call 22; (with_reducible refine (jousthelp_Plain_byte_1.calls (rd l0 x7_1) (rd l1 x7_1) true _ A8.out).mono ?_); rintro e w' ⟨rfl, ⟨nd, rfl⟩⟩; (try first | exact ⟨rfl, _, World.drewN_drewN _ _ _⟩ | exact ⟨rfl, _, Eq.trans (World.drewN_drewN _ _ _) (congrArg (World.drewN _) (Nat.add_assoc _ _ _))⟩)))
                repeat (go_quiet (first | (go_at_call 22; (with_reducible refine (jousthelp_Plain_byte_1.calls (rd l0 x7_1) (rd l1 x7_1) true _ A8.out).mono ?_); rintro e w' ⟨rfl, ⟨nd, rfl⟩⟩; (try first | exact ⟨rfl, _, World.drewN_drewN _ _ _⟩ | exact ⟨rfl, _, Eq.trans (World.drewN_drewN _ _ _) (congrArg (World.drewN _) (Nat.add_assoc _ _ _))⟩))); try go_wp2_with (first | (go_at_call 22; (with_reducible refine (jousthelp_Plain_byte_1.calls (rd l0 x7_1) (rd l1 x7_1) true _ A8.out).mono ?_); rintro e w' ⟨rfl, ⟨nd, rfl⟩⟩; (try first | exact ⟨rfl, _, World.drewN_drewN _ _ _⟩ | exact ⟨rfl, _, Eq.trans (World.drewN_drewN _ _ _) (congrArg (World.drewN _) (Nat.add_assoc _ _ _))⟩))))
                go_roundg k1
                case measure => have := HK1.out; omega
                case rel => exact ⟨(wrap64 (x7_1 + 1)), au2_12, H', ⟨by have := HK1.out; omega⟩, by repeat (first | exact Drawn0.refl _ | apply Drawn0.step)⟩
              · replace c9 := Bool.eq_false_iff.mpr c9
                subst c9
                have H1 : (some false) = some r := by rw [if_neg (show ¬ (false = true) by decide)] at H; exact H
                clear H
                have H := H1
                clear H1
                obtain rfl := Option.some.inj H
                (try (have hq1_ := beq_iff_eq.mp hr_.out; have hq0_ := hr_.out; have hq2_ := bne_eq_false_iff_eq.mpr hq1_))
                (try (have hq3_ := hr_.out))
                have p161 : 0 ≤ (x7_1 : Int) := of_decide_eq_true au2_9
                have q161 : x7_1 < (l0.length : Int) := of_decide_eq_true au2_9
                obtain ⟨ad161, e161, hx161_0⟩ := Kd.at_int HR0.out x7_1 p161 q161
                cases e161
                replace p161 := eq_true p161
                replace q161 := eq_true q161
                have p162 : 0 ≤ (x7_1 : Int) := of_decide_eq_true au2_9
                have q162 : x7_1 < (l1.length : Int) := of_decide_eq_true au2_9
                obtain ⟨ad162, e162, hx162_0⟩ := Kd.at_int HR1.out x7_1 p162 q162
                cases e162
                replace p162 := eq_true p162
                replace q162 := eq_true q162
                go_wp2_with (first | (go_at_call 22; (with_reducible refine (jousthelp_Plain_byte_1.calls (rd l0 x7_1) (rd l1 x7_1) false _ A8.out).mono ?_); rintro e w' ⟨rfl, ⟨nd, rfl⟩⟩; (try first | exact ⟨rfl, _, World.drewN_drewN _ _ _⟩ | exact ⟨rfl, _, Eq.trans (World.drewN_drewN _ _ _) (congrArg (World.drewN _) (Nat.add_assoc _ _ _))⟩)))
                repeat (go_quiet (first | (go_at_call 22; (with_reducible refine (jousthelp_Plain_byte_1.calls (rd l0 x7_1) (rd l1 x7_1) false _ A8.out).mono ?_); rintro e w' ⟨rfl, ⟨nd, rfl⟩⟩; (try first | exact ⟨rfl, _, World.drewN_drewN _ _ _⟩ | exact ⟨rfl, _, Eq.trans (World.drewN_drewN _ _ _) (congrArg (World.drewN _) (Nat.add_assoc _ _ _))⟩))); try go_wp2_with (first | (go_at_call 22; (with_reducible refine (jousthelp_Plain_byte_1.calls (rd l0 x7_1) (rd l1 x7_1) false _ A8.out).mono ?_); rintro e w' ⟨rfl, ⟨nd, rfl⟩⟩; (try first | exact ⟨rfl, _, World.drewN_drewN _ _ _⟩ | exact ⟨rfl, _, Eq.trans (World.drewN_drewN _ _ _) (congrArg (World.drewN _) (Nat.add_assoc _ _ _))⟩))))
                go_ret
                exact ⟨au2_12, by repeat (first | exact Drawn0.refl _ | apply Drawn0.step)⟩
            · rw [if_neg c7] at H
              exact absurd H (by simp)
          · rw [if_neg c6] at H
            exact absurd H (by simp)
        · rw [if_neg c5] at H
          have c5b0 : decide (x7_1 < (l0.length : Int)) = false := decide_eq_false c5
          clear c5
          obtain rfl := Option.some.inj H
          (try (have hq1_ := beq_iff_eq.mp hr_.out; have hq0_ := hr_.out; have hq2_ := bne_eq_false_iff_eq.mpr hq1_))
          (try (have hq3_ := hr_.out))
          go_wp2
          repeat (go_quiet (fail); try go_wp2)
          go_ret
          exact ⟨au2_12, by repeat (first | exact Drawn0.refl _ | apply Drawn0.step)⟩
  · rw [if_neg c4] at H
    have c4b0 : ((l0.length : Int) == (l1.length : Int)) = false := beq_eq_false_iff_ne.mpr c4
    have c4b1 : ((l0.length : Int) != (l1.length : Int)) = true := bne_iff_ne.mpr c4
    have c4b2 : (l0.length == l1.length) = false := by first | simpa using c4 | (simp at c4 ⊢; omega)
    obtain rfl := Option.some.inj H
    (try (have hq1_ := beq_iff_eq.mp hr_.out; have hq0_ := hr_.out; have hq2_ := bne_eq_false_iff_eq.mpr hq1_))
    (try (have hq3_ := hr_.out))
    go_enter Try.func21, Try.ntmps21
    go_wp2
    repeat (go_quiet (fail); try go_wp2)
    go_ret
    exact ⟨au2_12, by repeat (first | exact Drawn0.refl _ | apply Drawn0.step)⟩

/-! ### jousthelp_Plain_byte: function 20 -/
def jousthelp_Plain_byte.f (k : Nat) (l0 : List Int) (l1 : List Int) : Option (Bool) := (jousthelp_Same_byte.f k l0 l1 ()).bind fun t164 => (some t164)
theorem jousthelp_Plain_byte.mono : ∀ a0 a1 k, LeO (jousthelp_Plain_byte.f k a0 a1) (jousthelp_Plain_byte.f (k + 1) a0 a1) := by
  intro a0 a1 k
  unfold jousthelp_Plain_byte.f
  repeat' first
      | (with_reducible exact jousthelp_Same_byte.mono _ _ _ _)
      | (with_reducible exact LeO.refl _)
      | (with_reducible exact LeO.none _)
      | (with_reducible refine LeO.ite ?_ ?_)
      | (with_reducible refine LeO.bind ?_ (fun _ => ?_))
      | exact jousthelp_Same_byte.mono _ _ _ _
      | exact LeO.none _
      | refine LeO.ite ?_ ?_
      | refine LeO.bind ?_ (fun _ => ?_)
set_option maxHeartbeats 8000000 in
set_option maxRecDepth 100000 in
theorem jousthelp_Plain_byte.calls (k : Nat) (A0 : Option Addr) (c0 : Nat) (l0 : List Int) (A1 : Option Addr) (c1 : Nat) (l1 : List Int) (r : Bool) (w : World) (hr0 : Kd.C (Kd.int .u8) w A0 l0.length l0) (hc0 : l0.length ≤ c0) (hr1 : Kd.C (Kd.int .u8) w A1 l1.length l1) (hc1 : l1.length ≤ c1) (h : jousthelp_Plain_byte.f k l0 l1 = some r) :
    Calls Try.prog 20 #[.slice A0 l0.length c0, .slice A1 l1.length c1] w fun e w' => e = .returned (.bool r) ∧ Drawn0 w w' := by
  have HR0 := Aside0.mk hr0
  have HC0 := Aside0.mk hc0
  clear hr0 hc0
  have HR1 := Aside0.mk hr1
  have HC1 := Aside0.mk hc1
  clear hr1 hc1
  have H : ((jousthelp_Same_byte.f k l0 l1 ()).bind fun t164 => (some t164)) = some r := h
  clear h
  replace H := Option.bind_eq_some_iff.mp H
  obtain ⟨t164, A30, H⟩ := H
  (try dsimp -simprocs only at H)
  have A3 := Aside0.mk A30
  clear A30
  obtain rfl := Option.some.inj H
  (try (have hq1_ := beq_iff_eq.mp hr_.out; have hq0_ := hr_.out; have hq2_ := bne_eq_false_iff_eq.mpr hq1_))
  (try (have hq3_ := hr_.out))
  go_enter Try.func20, Try.ntmps20
  go_wp2_with (first | ((with_reducible refine gate_callee (f := 21) rfl ?_); refine goesL_ (some 7) rfl rfl Try.func21 (by kernel_rfl) rfl #[.slice A0 l0.length c0, .slice A1 l1.length c1, .func (.func 22) #[] #[]] rfl au2_2 ?_; (with_reducible refine (jousthelp_Same_byte.calls k _ _ l0 _ _ l1 () t164 _ ?side1 ?side2 ?side3 ?side4 A3.out).mono ?_); (case side1 => repeat (first | exact HR0.out | (with_reducible refine Kd.C_alloc ?_ _) | (with_reducible refine Kd.C_drewN ?_ _) | (with_reducible refine Kd.C_drew ?_))); (case side2 => exact HC0.out); (case side3 => repeat (first | exact HR1.out | (with_reducible refine Kd.C_alloc ?_ _) | (with_reducible refine Kd.C_drewN ?_ _) | (with_reducible refine Kd.C_drew ?_))); (case side4 => exact HC1.out); rintro e w' ⟨rfl, ⟨nd, rfl⟩⟩; refine ⟨_, rfl, ?_⟩))
  go_ret
  exact ⟨au2_12, by repeat (first | exact Drawn0.refl _ | apply Drawn0.step)⟩

/-! ### jousthelp_Kept_byte: function 16 -/
theorem jousthelp_Kept_byte.cut (W : World) (A : Option Addr) (n c : Nat) (j : Int) (h0 : 0 ≤ j) (hm : j ≤ c) : (Instr.slice 22 (.slice A n c) none (some (.int .i64 j)) none).run Try.prog W = .ok (.slice A j.toNat c) W := by
  obtain ⟨i, hi, hz, hsz, hby⟩ := info_parts info5
  have hel : Try.prog.elem 22 = 5 := by simp [Program.elem, Try.underlying22]
  have hu : Try.prog.underlying 22 = some (.slice (Try.prog.elem 22)) := by rw [hel]; exact Try.underlying22
  have ha : (A.map fun x => x.add 0) = A := by cases A <;> simp [Addr.add]
  rw [run_slice_h W 22 A n c hu .i64 j h0 hm, hel]
  simp [sizeOf, typeInfo, hi, sliced, Result.andThen, ha]
def jousthelp_Kept_byte.f (l l0 l1 : List Int) (a2 : Int) : Option Bool := if l.length ≤ 1000003 ∧ l = l1 ++ [a2, a2, a2] ∧ l0 = l1 then some true else none
theorem jousthelp_Kept_byte.same (xs : List Int) (hb : xs.length ≤ 1000000) : ∀ (d k i : Nat), i + d = xs.length → d < k → jousthelp_Same_byte.l0 k xs xs (i : Int) = some true := by
  intro d
  induction d with
  | zero =>
    intro k i hi hk
    obtain ⟨k, rfl⟩ : ∃ m, k = m + 1 := ⟨k - 1, by omega⟩
    simp only [jousthelp_Same_byte.l0]
    rw [if_neg (by omega)]
  | succ d ih =>
    intro k i hi hk
    obtain ⟨k, rfl⟩ : ∃ m, k = m + 1 := ⟨k - 1, by omega⟩
    simp only [jousthelp_Same_byte.l0, jousthelp_Plain_byte_1.f]
    rw [if_pos (by omega), if_pos (by omega), if_pos (by omega), Option.bind_some, beq_self_eq_true, if_pos rfl, show wrap64 ((i : Int) + 1) = ((i + 1 : Nat) : Int) from by unfold wrap64; omega]
    exact ih k (i + 1) (by omega) (by omega)
theorem jousthelp_Kept_byte.plain (xs : List Int) (hb : xs.length ≤ 1000000) : jousthelp_Plain_byte.f (xs.length + 1) xs xs = some true := by
  have h := jousthelp_Kept_byte.same xs hb xs.length (xs.length + 1) 0 (by omega) (by omega)
  have e : jousthelp_Same_byte.f (xs.length + 1) xs xs () = some true := by
    unfold jousthelp_Same_byte.f
    rw [if_pos rfl]
    exact h
  unfold jousthelp_Plain_byte.f
  rw [e]
  rfl
set_option maxHeartbeats 8000000 in
set_option maxRecDepth 100000 in
theorem jousthelp_Kept_byte.calls (A0 : Option Addr) (c0 : Nat) (l : List Int) (l0 : List Int) (A1 : Option Addr) (c1 : Nat) (l1 : List Int) (a2 : Int) (r : Bool) (w : World) (hr : Kd.C (Kd.int .u8) w A0 l.length l) (hc : l.length ≤ c0) (hr0 : Kd.C (Kd.int .u8) w A0 l0.length l0) (hc0 : l0.length ≤ c0) (hr1 : Kd.C (Kd.int .u8) w A1 l1.length l1) (hc1 : l1.length ≤ c1) (h : jousthelp_Kept_byte.f l l0 l1 a2 = some r) :
    Calls Try.prog 16 #[.slice A0 l0.length c0, .slice A1 l1.length c1, .int .u8 a2] w fun e w' => e = .returned (.bool r) ∧ Below w.heap.size w w' := by
  unfold jousthelp_Kept_byte.f at h
  by_cases hlim : l.length ≤ 1000003 ∧ l = l1 ++ [a2, a2, a2] ∧ l0 = l1
  · rw [if_pos hlim] at h
    obtain rfl := Option.some.inj h
    clear h
    obtain ⟨hl, hll, rfl⟩ := hlim
    have hlen : l.length = l0.length + 3 := by rw [hll]; simp
    have hp := jousthelp_Kept_byte.plain l0 (by omega)
    have hcut := fun W : World => jousthelp_Kept_byte.cut W A0 l0.length c0 ((l0.length : Int) + 3) (by omega) (by omega)
    rw [show ((l0.length : Int) + 3).toNat = l0.length + 3 from by omega] at hcut
    have hcap : decide ((c0 : Int) < (l0.length : Int) + 3) = false := decide_eq_false (by omega)
    have rdl : ∀ m : Nat, m < 3 → rd l ((l0.length + m : Nat) : Int) = a2 := by
      intro m hm
      rw [hll]
      simp only [rd, Int.toNat_natCast, List.getD_eq_getElem?_getD]
      rw [List.getElem?_append_right (by omega), show l0.length + m - l0.length = m from by omega]
      have : m = 0 ∨ m = 1 ∨ m = 2 := by omega
      rcases this with rfl | rfl | rfl <;> rfl
    go_enter Try.func16, Try.ntmps16
    go_wp2_with (first | (go_at_call 20; (refine (jousthelp_Plain_byte.calls (l0.length + 1) _ _ l0 _ _ l0 true _ (by first | exact hr0 | exact Kd.C_drewN hr0 _) hc0 (by first | exact hr1 | exact Kd.C_drewN hr1 _) hc1 hp).mono ?_); rintro e w1 ⟨rfl, hd⟩; have HB := Aside0.mk (show Below w.heap.size w w1 by (first | exact hd | exact hd.below)); clear hd; have hC := Kd.C_below hr HB.out; obtain ⟨ad, rfl, x0⟩ := Kd.at_int hC ((l0.length + 0 : Nat) : Int) (by omega) (by omega); obtain ⟨ad1, e1, x1⟩ := Kd.at_int hC ((l0.length + 1 : Nat) : Int) (by omega) (by omega); obtain ⟨ad2, e2, x2⟩ := Kd.at_int hC ((l0.length + 2 : Nat) : Int) (by omega) (by omega); cases e1; cases e2; rw [rdl 0 (by omega), Int.toNat_natCast, Nat.add_zero] at x0; rw [rdl 1 (by omega), Int.toNat_natCast] at x1; rw [rdl 2 (by omega), Int.toNat_natCast] at x2; have x1b : w1.cell? { block := ad.block, off := ad.off + (l0.length + 1), spot := none } = some (.int .u8 a2) := (by simpa [Addr.add] using x1); have x2b : w1.cell? { block := ad.block, off := ad.off + (l0.length + 1 + 1), spot := none } = some (.int .u8 a2) := (by simpa [Addr.add] using x2); have x2c : w1.cell? { block := ad.block, off := ad.off + (l0.length + 2), spot := none } = some (.int .u8 a2) := x2b))
    refine wp_loop_rounds 4 ?_
    rw [rounds_succ]
    go_wp2
    rw [rounds_succ]
    go_wp2
    rw [rounds_succ]
    go_wp2
    rw [rounds_succ]
    go_wp2
    go_ret
    exact ⟨rfl, HB.out⟩
  · rw [if_neg hlim] at h; cases h


/-! ### joustlaw13_CheckTells: function 3 -/
def joustlaw13_CheckTells.j0 : Nat → List Int → List Int → List Int → Bool → Option (Bool)
  | 0, _, _, _, _ => none
  | k + 1, x0, x1, x2, x25 => if x25 = true then ((joustlaw13_awake.f k).bind fun t165 => (some t165)) else ((jousthelp_Own_byte.f x2 71).bind fun t166 => (if 0 ≤ (x2.length : Int) then (if (x2.length : Int) ≤ (t166.length : Int) then ((some (t166.take ((x2.length : Int) : Int).toNat : List Int)).bind fun y169 => (if ([] : List Int).length + x0.length < 140737488355328 then ((some (([] : List Int) ++ x0 : List Int)).bind fun y174 => (if y174.length + x1.length < 140737488355328 then ((some (y174 ++ x1 : List Int)).bind fun y177 => ((check_Open.f k y169).bind fun bt180 => ((joustref12_Open.f k x2).bind fun bt184 => ((joustlaw13_awake.f k).bind fun t188 => (if t188 = true then ((check_Sum.f k (([x0, x1] : List (List Int)))).bind fun t192 => ((joustref12_Sum.f k y177).bind fun t193 => (if t192 = t193 then ((check_Sum.f k (([y177] : List (List Int)))).bind fun t197 => ((joustref12_Sum.f k y177).bind fun t198 => (if t197 = t198 then ((check_Seal.f k y169).bind fun t199 => ((joustref12_Seal.f k x2).bind fun t202 => ((jousthelp_Bytes.f t199 t202).bind fun t205 => (if t205 = true then ((jousthelp_Bytes.f bt180.1 bt184.1).bind fun t206 => (if t206 = true then (if bt180.2 = bt184.2 then ((jousthelp_Kept_byte.f t166 y169 x2 71).bind fun t207 => (some t207)) else (some false)) else (some false))) else (some false))))) else (some false)))) else (some false)))) else (some false)))))) else (none))) else (none))) else (none)) else (none)))
def joustlaw13_CheckTells.f (k : Nat) (l0 : List Int) (l1 : List Int) (l2 : List Int) : Option (Bool) := if (l0.length : Int) > 2000 then (joustlaw13_CheckTells.j0 k l0 l1 l2 true) else (if (l1.length : Int) > 2000 then (joustlaw13_CheckTells.j0 k l0 l1 l2 true) else (joustlaw13_CheckTells.j0 k l0 l1 l2 (decide ((l2.length : Int) > 2000))))
theorem joustlaw13_CheckTells.mono_l : ∀ k, (∀ y0 y1 y2 y3, LeO (joustlaw13_CheckTells.j0 k y0 y1 y2 y3) (joustlaw13_CheckTells.j0 (k + 1) y0 y1 y2 y3))
  | 0 => fun _ _ _ _ r h => by simp [joustlaw13_CheckTells.j0] at h
  | k + 1 => by
    have ih0 := joustlaw13_CheckTells.mono_l k
    · intro y0 y1 y2 y3
      unfold joustlaw13_CheckTells.j0
      repeat' first
      | (with_reducible exact ih0 _ _ _ _)
      | (with_reducible exact check_Open.mono _ _)
      | (with_reducible exact check_Seal.mono _ _)
      | (with_reducible exact check_Sum.mono _ _)
      | (with_reducible exact joustlaw13_awake.mono _)
      | (with_reducible exact joustref12_Open.mono _ _)
      | (with_reducible exact joustref12_Seal.mono _ _)
      | (with_reducible exact joustref12_Sum.mono _ _)
      | (with_reducible exact LeO.refl _)
      | (with_reducible exact LeO.none _)
      | (with_reducible refine LeO.ite ?_ ?_)
      | (with_reducible refine LeO.bind ?_ (fun _ => ?_))
      | exact ih0 _ _ _ _
      | exact check_Open.mono _ _
      | exact check_Seal.mono _ _
      | exact check_Sum.mono _ _
      | exact joustlaw13_awake.mono _
      | exact joustref12_Open.mono _ _
      | exact joustref12_Seal.mono _ _
      | exact joustref12_Sum.mono _ _
      | exact LeO.none _
      | refine LeO.ite ?_ ?_
      | refine LeO.bind ?_ (fun _ => ?_)
theorem joustlaw13_CheckTells.mono : ∀ a0 a1 a2 k, LeO (joustlaw13_CheckTells.f k a0 a1 a2) (joustlaw13_CheckTells.f (k + 1) a0 a1 a2) := by
  intro a0 a1 a2 k
  have ih0 := joustlaw13_CheckTells.mono_l k
  unfold joustlaw13_CheckTells.f
  repeat' first
      | (with_reducible exact ih0 _ _ _ _)
      | (with_reducible exact check_Open.mono _ _)
      | (with_reducible exact check_Seal.mono _ _)
      | (with_reducible exact check_Sum.mono _ _)
      | (with_reducible exact joustlaw13_awake.mono _)
      | (with_reducible exact joustref12_Open.mono _ _)
      | (with_reducible exact joustref12_Seal.mono _ _)
      | (with_reducible exact joustref12_Sum.mono _ _)
      | (with_reducible exact LeO.refl _)
      | (with_reducible exact LeO.none _)
      | (with_reducible refine LeO.ite ?_ ?_)
      | (with_reducible refine LeO.bind ?_ (fun _ => ?_))
      | exact ih0 _ _ _ _
      | exact check_Open.mono _ _
      | exact check_Seal.mono _ _
      | exact check_Sum.mono _ _
      | exact joustlaw13_awake.mono _
      | exact joustref12_Open.mono _ _
      | exact joustref12_Seal.mono _ _
      | exact joustref12_Sum.mono _ _
      | exact LeO.none _
      | refine LeO.ite ?_ ?_
      | refine LeO.bind ?_ (fun _ => ?_)
set_option maxHeartbeats 8000000 in
set_option maxRecDepth 100000 in
theorem joustlaw13_CheckTells.calls (k : Nat) (P0_ : Nat → Prop) (A0 : Option Addr) (c0 : Nat) (l0 : List Int) (P1_ : Nat → Prop) (A1 : Option Addr) (c1 : Nat) (l1 : List Int) (A2 : Option Addr) (c2 : Nat) (l2 : List Int) (r : Bool) (w : World) (hs0 : Kd.V (Kd.int .u8) 5 w w.heap.size (fun k_ => P0_ k_) (.slice A0 l0.length c0) l0) (hs1 : Kd.V (Kd.int .u8) 5 w w.heap.size (fun k_ => P1_ k_) (.slice A1 l1.length c1) l1) (hr2 : Kd.C (Kd.int .u8) w A2 l2.length l2) (hc2 : l2.length ≤ c2) (hr_ : Aside0 (r = true)) (h : joustlaw13_CheckTells.f k l0 l1 l2 = some r) :
    Calls Try.prog 3 #[.slice A0 l0.length c0, .slice A1 l1.length c1, .slice A2 l2.length c2] w fun e w' => e = .returned (.bool r) ∧ Below w.heap.size w w' := by
  have HO0 := Aside0.mk (show Kd.V (Kd.int .u8) 5 w w.heap.size (fun k_ => ((P0_ k_ ∨ P1_ k_) ∨ w.heap.size ≤ k_)) (.slice A0 l0.length c0) l0 from Kd.V_mono hs0 (fun k_ hk => .inl (.inl hk)))
  have HO1 := Aside0.mk (show Kd.V (Kd.int .u8) 5 w w.heap.size (fun k_ => ((P0_ k_ ∨ P1_ k_) ∨ w.heap.size ≤ k_)) (.slice A1 l1.length c1) l1 from Kd.V_mono hs1 (fun k_ hk => .inl (.inr hk)))
  have HR2 := Aside0.mk hr2
  have HC2 := Aside0.mk hc2
  clear hr2 hc2
  have HB := Aside0.mk (Below.refl w.heap.size w)
  have H : (if (l0.length : Int) > 2000 then (joustlaw13_CheckTells.j0 k l0 l1 l2 true) else (if (l1.length : Int) > 2000 then (joustlaw13_CheckTells.j0 k l0 l1 l2 true) else (joustlaw13_CheckTells.j0 k l0 l1 l2 (decide ((l2.length : Int) > 2000))))) = some r := h
  clear h
  have HC4 := Aside0.mk H
  clear H
  go_enter Try.func3, Try.ntmps3
  go_upto_region 1 with (fail)
  go_cut [25] (fun v25 wc => ∃ (kq : Nat) (x25_3 : Bool), v25 = .bool x25_3 ∧ Aside0 (joustlaw13_CheckTells.j0 kq l0 l1 l2 x25_3 = some r) ∧ Aside0 (kq ≤ k) ∧ Aside0 (Kd.V (Kd.int .u8) 5 wc w.heap.size (fun k_ => ((P0_ k_ ∨ P1_ k_) ∨ w.heap.size ≤ k_)) (.slice A0 l0.length c0) l0) ∧ Aside0 (Kd.V (Kd.int .u8) 5 wc w.heap.size (fun k_ => ((P0_ k_ ∨ P1_ k_) ∨ w.heap.size ≤ k_)) (.slice A1 l1.length c1) l1) ∧ Aside0 (Below w.heap.size w wc))
  case first =>
    have H := HC4.out
    clear HC4
    by_cases c5 : (l0.length : Int) > 2000
    · rw [if_pos c5] at H
      have c5b0 : decide (2000 < (l0.length : Int)) = true := decide_eq_true c5
      have c5b1 : decide (2000 < l0.length) = true := decide_eq_true (by omega)
      clear c5
      (first | rw [c5b0] | (simp only [i64_w, i32_w]; rw [c5b0]) | skip)
      have H' := Aside0.mk H
      clear H
      go_wp2
      go_meet
      case rel => exact ⟨_, (true), au2_12, H', ⟨by first | omega | exact Nat.le_refl _⟩, ⟨by (with_reducible repeat (first | apply Kd.V_alloc | apply Kd.V_drewN | apply Kd.V_drew)); exact HO0.out⟩, ⟨by (with_reducible repeat (first | apply Kd.V_alloc | apply Kd.V_drewN | apply Kd.V_drew)); exact HO1.out⟩, ⟨au2_0⟩⟩
    · rw [if_neg c5] at H
      have c5b0 : decide (2000 < (l0.length : Int)) = false := decide_eq_false c5
      have c5b1 : decide (2000 < l0.length) = false := decide_eq_false (by omega)
      clear c5
      (first | rw [c5b0] | (simp only [i64_w, i32_w]; rw [c5b0]) | skip)
      by_cases c6 : (l1.length : Int) > 2000
      · rw [if_pos c6] at H
        have c6b0 : decide (2000 < (l1.length : Int)) = true := decide_eq_true c6
        have c6b1 : decide (2000 < l1.length) = true := decide_eq_true (by omega)
        clear c6
        have H' := Aside0.mk H
        clear H
        go_wp2
        go_meet
        case rel => exact ⟨_, (true), au2_12, H', ⟨by first | omega | exact Nat.le_refl _⟩, ⟨by (with_reducible repeat (first | apply Kd.V_alloc | apply Kd.V_drewN | apply Kd.V_drew)); exact HO0.out⟩, ⟨by (with_reducible repeat (first | apply Kd.V_alloc | apply Kd.V_drewN | apply Kd.V_drew)); exact HO1.out⟩, ⟨au2_0⟩⟩
      · rw [if_neg c6] at H
        have c6b0 : decide (2000 < (l1.length : Int)) = false := decide_eq_false c6
        have c6b1 : decide (2000 < l1.length) = false := decide_eq_false (by omega)
        clear c6
        have H' := Aside0.mk H
        clear H
        go_wp2
        go_meet
        case rel => exact ⟨_, (decide ((l2.length : Int) > 2000)), au2_12, H', ⟨by first | omega | exact Nat.le_refl _⟩, ⟨by (with_reducible repeat (first | apply Kd.V_alloc | apply Kd.V_drewN | apply Kd.V_drew)); exact HO0.out⟩, ⟨by (with_reducible repeat (first | apply Kd.V_alloc | apply Kd.V_drewN | apply Kd.V_drew)); exact HO1.out⟩, ⟨au2_0⟩⟩
  case rest =>
    clear HC4
    try clear c1
    try clear c2
    try clear p2
    try clear c3
    try clear c5
    try clear c5b0
    try clear c5b1
    try clear c6
    try clear c6b0
    try clear c6b1
    obtain ⟨kq, x25_3, rfl, HA, HJ3, HO_0, HO_1, HB⟩ := hcut
    cases kq with
    | zero => exact absurd HA.out (by simp [joustlaw13_CheckTells.j0])
    | succ kj3 =>
      have H := HA.out
      clear HA
      simp only [joustlaw13_CheckTells.j0] at H
      by_cases c7 : x25_3 = true
      · subst c7
        have H1 : ((joustlaw13_awake.f kj3).bind fun t165 => (some t165)) = some r := by rw [if_pos rfl] at H; exact H
        clear H
        have H := H1
        clear H1
        replace H := Option.bind_eq_some_iff.mp H
        obtain ⟨t165, A80, H⟩ := H
        (try dsimp -simprocs only at H)
        have A8 := Aside0.mk A80
        clear A80
        obtain rfl := Option.some.inj H
        (try (have hq1_ := beq_iff_eq.mp hr_.out; have hq0_ := hr_.out; have hq2_ := bne_eq_false_iff_eq.mpr hq1_))
        (try (have hq3_ := hr_.out))
        go_wp2_with (first | ((with_reducible refine gate_callee (f := 7) rfl ?_); refine goesL_ (some 26) rfl rfl Try.func7 (by kernel_rfl) rfl #[] rfl au2_2 ?_; (with_reducible refine (joustlaw13_awake.calls kj3  t165 _ A8.out).mono ?_); rintro e w9 ⟨rfl, hb⟩; refine ⟨_, rfl, ?_⟩; have n0_ := Aside0.mk (Kd.V_below au2_5 hb); have n1_ := Aside0.mk (Kd.V_below au2_4 hb); have n2_ := Aside0.mk (below_step au2_0 hb); clear HO_0; clear HO_1; clear HB; have HO_0 := n0_; have HO_1 := n1_; have HB := n2_; clear n0_ n1_ n2_; (try clear hb); (try clear hb2); (try clear hk); (try clear hi)))
        go_ret
        exact ⟨au2_10, au2_0⟩
      · replace c7 := Bool.eq_false_iff.mpr c7
        subst c7
        have H1 : ((jousthelp_Own_byte.f l2 71).bind fun t166 => (if 0 ≤ (l2.length : Int) then (if (l2.length : Int) ≤ (t166.length : Int) then ((some (t166.take ((l2.length : Int) : Int).toNat : List Int)).bind fun y169 => (if ([] : List Int).length + l0.length < 140737488355328 then ((some (([] : List Int) ++ l0 : List Int)).bind fun y174 => (if y174.length + l1.length < 140737488355328 then ((some (y174 ++ l1 : List Int)).bind fun y177 => ((check_Open.f kj3 y169).bind fun bt180 => ((joustref12_Open.f kj3 l2).bind fun bt184 => ((joustlaw13_awake.f kj3).bind fun t188 => (if t188 = true then ((check_Sum.f kj3 (([l0, l1] : List (List Int)))).bind fun t192 => ((joustref12_Sum.f kj3 y177).bind fun t193 => (if t192 = t193 then ((check_Sum.f kj3 (([y177] : List (List Int)))).bind fun t197 => ((joustref12_Sum.f kj3 y177).bind fun t198 => (if t197 = t198 then ((check_Seal.f kj3 y169).bind fun t199 => ((joustref12_Seal.f kj3 l2).bind fun t202 => ((jousthelp_Bytes.f t199 t202).bind fun t205 => (if t205 = true then ((jousthelp_Bytes.f bt180.1 bt184.1).bind fun t206 => (if t206 = true then (if bt180.2 = bt184.2 then ((jousthelp_Kept_byte.f t166 y169 l2 71).bind fun t207 => (some t207)) else (some false)) else (some false))) else (some false))))) else (some false)))) else (some false)))) else (some false)))))) else (none))) else (none))) else (none)) else (none))) = some r := by rw [if_neg (show ¬ (false = true) by decide)] at H; exact H
        clear H
        have H := H1
        clear H1
        replace H := Option.bind_eq_some_iff.mp H
        obtain ⟨t166, A100, H⟩ := H
        (try dsimp -simprocs only at H)
        have A10 := Aside0.mk A100
        clear A100
        by_cases c11 : 0 ≤ (l2.length : Int)
        · rw [if_pos c11] at H
          have c11b0 := eq_true c11
          have c11b1 : decide (0 ≤ (l2.length : Int)) = true := decide_eq_true c11
          clear c11
          by_cases c12 : (l2.length : Int) ≤ (t166.length : Int)
          · rw [if_pos c12] at H
            have c12b0 := eq_true c12
            have c12b1 : decide ((l2.length : Int) ≤ (t166.length : Int)) = true := decide_eq_true c12
            clear c12
            obtain ⟨y169, hy169⟩ : ∃ y_ : List Int, y_ = (t166.take ((l2.length : Int) : Int).toNat) := ⟨_, rfl⟩
            replace H : (if ([] : List Int).length + l0.length < 140737488355328 then ((some (([] : List Int) ++ l0 : List Int)).bind fun y174 => (if y174.length + l1.length < 140737488355328 then ((some (y174 ++ l1 : List Int)).bind fun y177 => ((check_Open.f kj3 y169).bind fun bt180 => ((joustref12_Open.f kj3 l2).bind fun bt184 => ((joustlaw13_awake.f kj3).bind fun t188 => (if t188 = true then ((check_Sum.f kj3 (([l0, l1] : List (List Int)))).bind fun t192 => ((joustref12_Sum.f kj3 y177).bind fun t193 => (if t192 = t193 then ((check_Sum.f kj3 (([y177] : List (List Int)))).bind fun t197 => ((joustref12_Sum.f kj3 y177).bind fun t198 => (if t197 = t198 then ((check_Seal.f kj3 y169).bind fun t199 => ((joustref12_Seal.f kj3 l2).bind fun t202 => ((jousthelp_Bytes.f t199 t202).bind fun t205 => (if t205 = true then ((jousthelp_Bytes.f bt180.1 bt184.1).bind fun t206 => (if t206 = true then (if bt180.2 = bt184.2 then ((jousthelp_Kept_byte.f t166 y169 l2 71).bind fun t207 => (some t207)) else (some false)) else (some false))) else (some false))))) else (some false)))) else (some false)))) else (some false)))))) else (none))) else (none)) = some r := by first | (rw [hy169]; with_reducible exact H) | (have H2_ := (Option.bind_some _ _).symm.trans H; rw [hy169]; with_reducible exact H2_) | (have H2_ := (Option.bind_some _ _).symm.trans H; with_reducible exact H2_) | with_reducible exact H | (rw [hy169]; exact H) | exact H
            have Ny169 := Aside0.mk hy169
            clear hy169
            by_cases c13 : ([] : List Int).length + l0.length < 140737488355328
            · rw [if_pos c13] at H
              have LMc13 := Aside0.mk c13
              clear c13
              obtain ⟨y174, hy174⟩ : ∃ y_ : List Int, y_ = (([] : List Int) ++ l0) := ⟨_, rfl⟩
              replace H : (if y174.length + l1.length < 140737488355328 then ((some (y174 ++ l1 : List Int)).bind fun y177 => ((check_Open.f kj3 y169).bind fun bt180 => ((joustref12_Open.f kj3 l2).bind fun bt184 => ((joustlaw13_awake.f kj3).bind fun t188 => (if t188 = true then ((check_Sum.f kj3 (([l0, l1] : List (List Int)))).bind fun t192 => ((joustref12_Sum.f kj3 y177).bind fun t193 => (if t192 = t193 then ((check_Sum.f kj3 (([y177] : List (List Int)))).bind fun t197 => ((joustref12_Sum.f kj3 y177).bind fun t198 => (if t197 = t198 then ((check_Seal.f kj3 y169).bind fun t199 => ((joustref12_Seal.f kj3 l2).bind fun t202 => ((jousthelp_Bytes.f t199 t202).bind fun t205 => (if t205 = true then ((jousthelp_Bytes.f bt180.1 bt184.1).bind fun t206 => (if t206 = true then (if bt180.2 = bt184.2 then ((jousthelp_Kept_byte.f t166 y169 l2 71).bind fun t207 => (some t207)) else (some false)) else (some false))) else (some false))))) else (some false)))) else (some false)))) else (some false)))))) else (none)) = some r := by first | (rw [hy174]; with_reducible exact H) | (have H2_ := (Option.bind_some _ _).symm.trans H; rw [hy174]; with_reducible exact H2_) | (have H2_ := (Option.bind_some _ _).symm.trans H; with_reducible exact H2_) | with_reducible exact H | (rw [hy174]; exact H) | exact H
              have Ny174 := Aside0.mk hy174
              clear hy174
              by_cases c14 : y174.length + l1.length < 140737488355328
              · rw [if_pos c14] at H
                have LMc14 := Aside0.mk c14
                clear c14
                obtain ⟨y177, hy177⟩ : ∃ y_ : List Int, y_ = (y174 ++ l1) := ⟨_, rfl⟩
                replace H : ((check_Open.f kj3 y169).bind fun bt180 => ((joustref12_Open.f kj3 l2).bind fun bt184 => ((joustlaw13_awake.f kj3).bind fun t188 => (if t188 = true then ((check_Sum.f kj3 (([l0, l1] : List (List Int)))).bind fun t192 => ((joustref12_Sum.f kj3 y177).bind fun t193 => (if t192 = t193 then ((check_Sum.f kj3 (([y177] : List (List Int)))).bind fun t197 => ((joustref12_Sum.f kj3 y177).bind fun t198 => (if t197 = t198 then ((check_Seal.f kj3 y169).bind fun t199 => ((joustref12_Seal.f kj3 l2).bind fun t202 => ((jousthelp_Bytes.f t199 t202).bind fun t205 => (if t205 = true then ((jousthelp_Bytes.f bt180.1 bt184.1).bind fun t206 => (if t206 = true then (if bt180.2 = bt184.2 then ((jousthelp_Kept_byte.f t166 y169 l2 71).bind fun t207 => (some t207)) else (some false)) else (some false))) else (some false))))) else (some false)))) else (some false)))) else (some false))))) = some r := by first | (rw [hy177]; with_reducible exact H) | (have H2_ := (Option.bind_some _ _).symm.trans H; rw [hy177]; with_reducible exact H2_) | (have H2_ := (Option.bind_some _ _).symm.trans H; with_reducible exact H2_) | with_reducible exact H | (rw [hy177]; exact H) | exact H
                have Ny177 := Aside0.mk hy177
                clear hy177
                replace H := Option.bind_eq_some_iff.mp H
                obtain ⟨⟨t180, t181⟩, A150, H⟩ := H
                replace H : ((joustref12_Open.f kj3 l2).bind fun bt184 => ((joustlaw13_awake.f kj3).bind fun t188 => (if t188 = true then ((check_Sum.f kj3 (([l0, l1] : List (List Int)))).bind fun t192 => ((joustref12_Sum.f kj3 y177).bind fun t193 => (if t192 = t193 then ((check_Sum.f kj3 (([y177] : List (List Int)))).bind fun t197 => ((joustref12_Sum.f kj3 y177).bind fun t198 => (if t197 = t198 then ((check_Seal.f kj3 y169).bind fun t199 => ((joustref12_Seal.f kj3 l2).bind fun t202 => ((jousthelp_Bytes.f t199 t202).bind fun t205 => (if t205 = true then ((jousthelp_Bytes.f t180 bt184.1).bind fun t206 => (if t206 = true then (if t181 = bt184.2 then ((jousthelp_Kept_byte.f t166 y169 l2 71).bind fun t207 => (some t207)) else (some false)) else (some false))) else (some false))))) else (some false)))) else (some false)))) else (some false)))) = some r := H
                have A15 := Aside0.mk A150
                clear A150
                replace H := Option.bind_eq_some_iff.mp H
                obtain ⟨⟨t184, t185⟩, A160, H⟩ := H
                replace H : ((joustlaw13_awake.f kj3).bind fun t188 => (if t188 = true then ((check_Sum.f kj3 (([l0, l1] : List (List Int)))).bind fun t192 => ((joustref12_Sum.f kj3 y177).bind fun t193 => (if t192 = t193 then ((check_Sum.f kj3 (([y177] : List (List Int)))).bind fun t197 => ((joustref12_Sum.f kj3 y177).bind fun t198 => (if t197 = t198 then ((check_Seal.f kj3 y169).bind fun t199 => ((joustref12_Seal.f kj3 l2).bind fun t202 => ((jousthelp_Bytes.f t199 t202).bind fun t205 => (if t205 = true then ((jousthelp_Bytes.f t180 t184).bind fun t206 => (if t206 = true then (if t181 = t185 then ((jousthelp_Kept_byte.f t166 y169 l2 71).bind fun t207 => (some t207)) else (some false)) else (some false))) else (some false))))) else (some false)))) else (some false)))) else (some false))) = some r := H
                have A16 := Aside0.mk A160
                clear A160
                replace H := Option.bind_eq_some_iff.mp H
                obtain ⟨t188, A170, H⟩ := H
                (try dsimp -simprocs only at H)
                have A17 := Aside0.mk A170
                clear A170
                by_cases c18 : t188 = true
                · subst c18
                  have H1 : ((check_Sum.f kj3 (([l0, l1] : List (List Int)))).bind fun t192 => ((joustref12_Sum.f kj3 y177).bind fun t193 => (if t192 = t193 then ((check_Sum.f kj3 (([y177] : List (List Int)))).bind fun t197 => ((joustref12_Sum.f kj3 y177).bind fun t198 => (if t197 = t198 then ((check_Seal.f kj3 y169).bind fun t199 => ((joustref12_Seal.f kj3 l2).bind fun t202 => ((jousthelp_Bytes.f t199 t202).bind fun t205 => (if t205 = true then ((jousthelp_Bytes.f t180 t184).bind fun t206 => (if t206 = true then (if t181 = t185 then ((jousthelp_Kept_byte.f t166 y169 l2 71).bind fun t207 => (some t207)) else (some false)) else (some false))) else (some false))))) else (some false)))) else (some false)))) = some r := by rw [if_pos rfl] at H; exact H
                  clear H
                  have H := H1
                  clear H1
                  obtain ⟨y189, hy189⟩ : ∃ y_ : List (List Int), y_ = (([l0, l1] : List (List Int))) := ⟨_, rfl⟩
                  replace H : ((check_Sum.f kj3 y189).bind fun t192 => ((joustref12_Sum.f kj3 y177).bind fun t193 => (if t192 = t193 then ((check_Sum.f kj3 (([y177] : List (List Int)))).bind fun t197 => ((joustref12_Sum.f kj3 y177).bind fun t198 => (if t197 = t198 then ((check_Seal.f kj3 y169).bind fun t199 => ((joustref12_Seal.f kj3 l2).bind fun t202 => ((jousthelp_Bytes.f t199 t202).bind fun t205 => (if t205 = true then ((jousthelp_Bytes.f t180 t184).bind fun t206 => (if t206 = true then (if t181 = t185 then ((jousthelp_Kept_byte.f t166 y169 l2 71).bind fun t207 => (some t207)) else (some false)) else (some false))) else (some false))))) else (some false)))) else (some false)))) = some r := by first | (rw [hy189]; with_reducible exact H) | (have H2_ := (Option.bind_some _ _).symm.trans H; rw [hy189]; with_reducible exact H2_) | (have H2_ := (Option.bind_some _ _).symm.trans H; with_reducible exact H2_) | with_reducible exact H | (rw [hy189]; exact H) | exact H
                  have Ny189 := Aside0.mk hy189
                  clear hy189
                  replace H := Option.bind_eq_some_iff.mp H
                  obtain ⟨t192, A190, H⟩ := H
                  (try dsimp -simprocs only at H)
                  have A19 := Aside0.mk A190
                  clear A190
                  replace H := Option.bind_eq_some_iff.mp H
                  obtain ⟨t193, A200, H⟩ := H
                  (try dsimp -simprocs only at H)
                  have A20 := Aside0.mk A200
                  clear A200
                  by_cases c21 : t192 = t193
                  · rw [if_pos c21] at H
                    have c21b0 : (t192 == t193) = true := beq_iff_eq.mpr c21
                    have c21b1 : (t192 != t193) = false := bne_eq_false_iff_eq.mpr c21
                    clear c21
                    obtain ⟨y194, hy194⟩ : ∃ y_ : List (List Int), y_ = (([y177] : List (List Int))) := ⟨_, rfl⟩
                    replace H : ((check_Sum.f kj3 y194).bind fun t197 => ((joustref12_Sum.f kj3 y177).bind fun t198 => (if t197 = t198 then ((check_Seal.f kj3 y169).bind fun t199 => ((joustref12_Seal.f kj3 l2).bind fun t202 => ((jousthelp_Bytes.f t199 t202).bind fun t205 => (if t205 = true then ((jousthelp_Bytes.f t180 t184).bind fun t206 => (if t206 = true then (if t181 = t185 then ((jousthelp_Kept_byte.f t166 y169 l2 71).bind fun t207 => (some t207)) else (some false)) else (some false))) else (some false))))) else (some false)))) = some r := by first | (rw [hy194]; with_reducible exact H) | (have H2_ := (Option.bind_some _ _).symm.trans H; rw [hy194]; with_reducible exact H2_) | (have H2_ := (Option.bind_some _ _).symm.trans H; with_reducible exact H2_) | with_reducible exact H | (rw [hy194]; exact H) | exact H
                    have Ny194 := Aside0.mk hy194
                    clear hy194
                    replace H := Option.bind_eq_some_iff.mp H
                    obtain ⟨t197, A220, H⟩ := H
                    (try dsimp -simprocs only at H)
                    have A22 := Aside0.mk A220
                    clear A220
                    replace H := Option.bind_eq_some_iff.mp H
                    obtain ⟨t198, A230, H⟩ := H
                    (try dsimp -simprocs only at H)
                    have A23 := Aside0.mk A230
                    clear A230
                    by_cases c24 : t197 = t198
                    · rw [if_pos c24] at H
                      have c24b0 : (t197 == t198) = true := beq_iff_eq.mpr c24
                      have c24b1 : (t197 != t198) = false := bne_eq_false_iff_eq.mpr c24
                      clear c24
                      replace H := Option.bind_eq_some_iff.mp H
                      obtain ⟨t199, A250, H⟩ := H
                      (try dsimp -simprocs only at H)
                      have A25 := Aside0.mk A250
                      clear A250
                      replace H := Option.bind_eq_some_iff.mp H
                      obtain ⟨t202, A260, H⟩ := H
                      (try dsimp -simprocs only at H)
                      have A26 := Aside0.mk A260
                      clear A260
                      replace H := Option.bind_eq_some_iff.mp H
                      obtain ⟨t205, A270, H⟩ := H
                      (try dsimp -simprocs only at H)
                      have A27 := Aside0.mk A270
                      clear A270
                      by_cases c28 : t205 = true
                      · subst c28
                        have H1 : ((jousthelp_Bytes.f t180 t184).bind fun t206 => (if t206 = true then (if t181 = t185 then ((jousthelp_Kept_byte.f t166 y169 l2 71).bind fun t207 => (some t207)) else (some false)) else (some false))) = some r := by rw [if_pos rfl] at H; exact H
                        clear H
                        have H := H1
                        clear H1
                        replace H := Option.bind_eq_some_iff.mp H
                        obtain ⟨t206, A290, H⟩ := H
                        (try dsimp -simprocs only at H)
                        have A29 := Aside0.mk A290
                        clear A290
                        by_cases c30 : t206 = true
                        · subst c30
                          have H1 : (if t181 = t185 then ((jousthelp_Kept_byte.f t166 y169 l2 71).bind fun t207 => (some t207)) else (some false)) = some r := by rw [if_pos rfl] at H; exact H
                          clear H
                          have H := H1
                          clear H1
                          by_cases c31 : t181 = t185
                          · rw [if_pos c31] at H
                            have c31b0 : (t181 == t185) = true := beq_iff_eq.mpr c31
                            have c31b1 : (t181 != t185) = false := bne_eq_false_iff_eq.mpr c31
                            clear c31
                            replace H := Option.bind_eq_some_iff.mp H
                            obtain ⟨t207, A320, H⟩ := H
                            (try dsimp -simprocs only at H)
                            have A32 := Aside0.mk A320
                            clear A320
                            obtain rfl := Option.some.inj H
                            (try (have hq1_ := beq_iff_eq.mp hr_.out; have hq0_ := hr_.out; have hq2_ := bne_eq_false_iff_eq.mpr hq1_))
                            (try (have hq3_ := hr_.out))
                            have hqe_ := Option.some.inj (A20.out.symm.trans A23.out)
                            have hqf_ : (t197 == t193) = true := (by rw [hqe_]; exact c24b0)
                            have hqg_ : (t197 != t193) = false := (by rw [hqe_]; exact c24b1)
                            have hqh_ : (t192 == t198) = true := (by rw [← hqe_]; exact c21b0)
                            have hqi_ : (t192 != t198) = false := (by rw [← hqe_]; exact c21b1)
                            clear hqe_
                            go_wp2_with (first | ((with_reducible refine gate_callee (f := 8) rfl ?_); refine goesL_ (some 28) rfl rfl Try.func8 (by kernel_rfl) rfl #[.slice A2 l2.length c2, .int .u8 71] rfl au2_2 ?_; (with_reducible refine (jousthelp_Own_byte.calls _ _ l2 71 t166 _ ?side1 ?side2 A10.out).mono ?_); (case side1 => repeat (first | exact (Kd.C_below HR2.out HB.out) | (with_reducible refine Kd.C_alloc ?_ _) | (with_reducible refine Kd.C_drewN ?_ _) | (with_reducible refine Kd.C_drew ?_))); (case side2 => exact HC2.out); rintro e w33 ⟨v167, rOwn_v167, rfl, hOwn_v167, ho0, hb⟩; refine ⟨_, rfl, ?_⟩; have n0_ := Aside0.mk (Kd.V_elder' au2_5 (Kd.R_base ho0) hb); have n1_ := Aside0.mk (Kd.V_elder' au2_4 (Kd.R_base ho0) hb); have n2_ := Aside0.mk (Kd.R_lower (Kd.R_newM (M := fun k_ => (w.heap.size ≤ k_)) ho0 (below_size au2_0) (fun k_ h_ => h_)) (below_size au2_0)); have n3_ := Aside0.mk (below_step au2_0 hb); clear HO_0; clear HO_1; clear HB; have HO_0 := n0_; have HO_1 := n1_; have HO168 := n2_; have HB := n3_; clear n0_ n1_ n2_ n3_; (try clear hb); (try clear hb2); (try clear hk); (try clear hi); (try clear ho0); obtain ⟨Ao35, co35, eo35⟩ := Kd.R_slice HO168.out; subst eo35; have q34 : ((l2.length : Int) : Int) ≤ ((t166.length : Int) : Int) := of_decide_eq_true au2_9; obtain ⟨i034, hi034, _, hsz34, _⟩ := info_parts info5; have hroom34 : t166.length ≤ co35 := (Kd.R_reads' HO168.out).2.1; have hC34 : Kd.F (Kd.int .u8) _ _ Ao35 t166.length t166 := (Kd.V_at (base := w.heap.size) (Kd.V_mono (ok' := (fun k_ => (((P0_ k_ ∨ P1_ k_) ∨ w.heap.size ≤ k_) ∧ True))) (Kd.R_V HO168.out) (fun k_ hk => ⟨(.inr (hk.1)), trivial⟩))).2.2; have hcut34 := cut_to (P := Try.prog) 22 5 .i64 Try.underlying22 hi034 Ao35 t166.length co35 (l2.length : Int) (of_decide_eq_true au2_9) q34 hroom34; have hr34 := Kd.F_take (m := ((l2.length : Int) : Int).toNat) hC34 (by omega); have hy34 : y169.length = ((l2.length : Int) : Int).toNat := (by rw [Ny169.out, List.length_take]; omega); rw [← Ny169.out] at hr34; rw [← hy34] at hcut34; have HO173 := Aside0.mk (show Kd.V (Kd.int .u8) 5 _ w.heap.size _ (.slice Ao35 y169.length co35) y169 from Kd.V_mk (by omega) hr34); have HC173 := Aside0.mk (show y169.length ≤ co35 from by omega); clear hr34 hC34 hroom34 hi034 hsz34; have KY34 := Aside0.mk hy34; clear hy34; obtain rfl : rOwn_v167 = .slice Ao35 y169.length co35 := (hOwn_v167 _ _ _ rfl).trans (by rw [KY34.out, Int.toNat_natCast]); replace q34 := eq_true q34) | ((with_reducible refine gate_builtin (b := .append) (xs := #[.const (.slice none 0 0), .tmp 29]) rfl ?_); (try (refine gate_guard (by rfl) ?_; dsimp only)); at_builtin; refine Kd.R_append_rows (Kd.int .u8) (w0 := w) w.heap.size rfl (.const (.slice none 0 0)) (.tmp 29) 22 5 (.int .u8 0) 1 rfl Try.underlying22 info5 rfl (by decide) (by omega) (.slice none 0 0) ([] : List Int) l0 _ _ _ (fun k_ => (w.heap.size ≤ k_) ∧ some k_ ≠ (.slice Ao35 t166.length co35 : Value).ownBlock) (fun _ => False) rfl rfl ?aO ?aR (fun _ _ h => h) (fun _ h => h.elim) ?aF ?aB ?aS ?aL ?_; (case aR => repeat (first | exact (Kd.V_reads' HO_0.out).2.2 | (with_reducible refine Kd.C_alloc ?_ _) | (with_reducible refine Kd.C_drewN ?_ _) | (with_reducible refine Kd.C_drew ?_))); (case aB => exact au2_0); (case aF => exact (fun k_ hk => ⟨(Nat.le_trans (below_size au2_0) hk), Kd.fresh' (Kd.R_lt au2_1) k_ hk⟩)); (case aO => exact ((Kd.R_nil _ _ _ _ (fun k_ => (w.heap.size ≤ k_) ∧ some k_ ≠ (.slice Ao35 t166.length co35 : Value).ownBlock)))); (case aS => exact (below_size au2_0)); (case aL => have := LMc13.out; omega); intro v175 w36 ho hb hg hat; rw [← Ny174.out] at ho; have n0_ := Aside0.mk (Kd.V_afterv (Kd.V_apart_nil au2_5) hg hat); have n1_ := Aside0.mk (Kd.V_afterv (Kd.V_apart_nil au2_4) hg hat); have n2_ := Aside0.mk (Kd.R_after (Kd.R_apart_nil au2_1) hg hat); have n3_ := Aside0.mk (Kd.V_afterv (Kd.V_apart_nil au2_7) hg hat); have n4_ := Aside0.mk (hb); have n5_ := Aside0.mk (ho); clear HO_0; clear HO_1; clear HO168; clear HO173; clear HB; have HO_0 := n0_; have HO_1 := n1_; have HO168 := n2_; have HO173 := n3_; have HB := n4_; have HO176 := n5_; clear n0_ n1_ n2_ n3_ n4_ n5_; clear ho hb hg hat) | ((with_reducible refine gate_builtin (b := .append) (xs := #[.tmp 30, .tmp 31]) rfl ?_); (try (refine gate_guard (by rfl) ?_; dsimp only)); at_builtin; refine Kd.R_append_rows (Kd.int .u8) (w0 := w) w.heap.size rfl (.tmp 30) (.tmp 31) 22 5 (.int .u8 0) 1 rfl Try.underlying22 info5 rfl (by decide) (by omega) v175 y174 l1 _ _ _ (fun k_ => (w.heap.size ≤ k_) ∧ some k_ ≠ (.slice Ao35 t166.length co35 : Value).ownBlock) (fun _ => False) rfl rfl ?aO ?aR (fun _ _ h => h) (fun _ h => h.elim) ?aF ?aB ?aS ?aL ?_; (case aR => repeat (first | exact (Kd.V_reads' HO_1.out).2.2 | (with_reducible refine Kd.C_alloc ?_ _) | (with_reducible refine Kd.C_drewN ?_ _) | (with_reducible refine Kd.C_drew ?_))); (case aB => exact au2_0); (case aF => exact (fun k_ hk => ⟨(Nat.le_trans (below_size au2_0) hk), Kd.fresh' (Kd.R_lt au2_1) k_ hk⟩)); (case aO => exact (by (with_reducible repeat (first | apply Kd.R_alloc | apply Kd.R_drewN | apply Kd.R_drew)); exact HO176.out)); (case aS => exact (below_size au2_0)); (case aL => have := LMc14.out; omega); intro v178 w37 ho hb hg hat; rw [← Ny177.out] at ho; have n0_ := Aside0.mk (Kd.V_afterv (ok := (fun k_ => ((P0_ k_ ∨ P1_ k_) ∨ w.heap.size ≤ k_) ∧ some k_ ≠ (.slice Ao35 t166.length co35 : Value).ownBlock)) au2_5 hg hat); have n1_ := Aside0.mk (Kd.V_afterv (ok := (fun k_ => ((P0_ k_ ∨ P1_ k_) ∨ w.heap.size ≤ k_) ∧ some k_ ≠ (.slice Ao35 t166.length co35 : Value).ownBlock)) au2_4 hg hat); have n2_ := Aside0.mk (Kd.R_after (ok := (fun k_ => (w.heap.size ≤ k_))) (by (with_reducible repeat (first | apply Kd.R_alloc | apply Kd.R_drewN | apply Kd.R_drew)); exact Kd.R_mono HO168.out (fun _ hk => ⟨hk.1.1, hk.2⟩)) hg hat); have n3_ := Aside0.mk (Kd.V_afterv (ok := (fun k_ => ((P0_ k_ ∨ P1_ k_) ∨ w.heap.size ≤ k_))) (by (with_reducible repeat (first | apply Kd.V_alloc | apply Kd.V_drewN | apply Kd.V_drew)); exact Kd.V_mono HO173.out (fun _ hk => ⟨hk.1.1, hk.2⟩)) hg hat); have n4_ := Aside0.mk (hb); have n5_ := Aside0.mk (ho); clear HO_0; clear HO_1; clear HO168; clear HO173; clear HB; clear HO176; have HO_0 := n0_; have HO_1 := n1_; have HO168 := n2_; have HO173 := n3_; have HB := n4_; have HO179 := n5_; clear n0_ n1_ n2_ n3_ n4_ n5_; clear ho hb hg hat) | ((with_reducible refine gate_callee (f := 9) rfl ?_); refine goesL_ (some 35) rfl rfl Try.func9 (by kernel_rfl) rfl #[.slice Ao35 y169.length co35] rfl au2_2 ?_; (with_reducible refine (check_Open.calls kj3 _ _ y169 t180 t181 _ ?side1 ?side2 A15.out).mono ?_); (case side1 => repeat (first | exact (Kd.V_reads' HO173.out).2.2 | (with_reducible refine Kd.C_alloc ?_ _) | (with_reducible refine Kd.C_drewN ?_ _) | (with_reducible refine Kd.C_drew ?_))); (case side2 => exact (Kd.V_reads' HO173.out).2.1); rintro e w38 ⟨v182, rfl, ho0, hb⟩; refine ⟨_, rfl, ?_⟩; have n0_ := Aside0.mk (Kd.V_elder' au2_5 (Kd.R_base ho0) hb); have n1_ := Aside0.mk (Kd.V_elder' au2_4 (Kd.R_base ho0) hb); have n2_ := Aside0.mk (Kd.R_elder' au2_1 (Kd.R_base ho0) hb); have n3_ := Aside0.mk (Kd.V_elder' au2_7 (Kd.R_base ho0) hb); have n4_ := Aside0.mk (Kd.R_elder' au2_8 (Kd.R_base ho0) hb); have n5_ := Aside0.mk (Kd.R_lower (Kd.R_new' (Kd.R_new' (Kd.R_newM (M := fun k_ => (w.heap.size ≤ k_)) ho0 (below_size au2_0) (fun k_ h_ => h_)) (Kd.R_lt au2_1)) (Kd.R_lt au2_8)) (below_size au2_0)); have n6_ := Aside0.mk (below_step au2_0 hb); clear HO_0; clear HO_1; clear HO168; clear HO173; clear HO179; clear HB; have HO_0 := n0_; have HO_1 := n1_; have HO168 := n2_; have HO173 := n3_; have HO179 := n4_; have HO183 := n5_; have HB := n6_; clear n0_ n1_ n2_ n3_ n4_ n5_ n6_; (try clear hb); (try clear hb2); (try clear hk); (try clear hi); (try clear ho0)) | ((with_reducible refine gate_callee (f := 10) rfl ?_); refine goesL_ (some 40) rfl rfl Try.func10 (by kernel_rfl) rfl #[.slice A2 l2.length c2] rfl au2_2 ?_; (with_reducible refine (joustref12_Open.calls kj3 _ _ l2 t184 t185 _ ?side1 ?side2 A16.out).mono ?_); (case side1 => repeat (first | exact (Kd.C_below HR2.out HB.out) | (with_reducible refine Kd.C_alloc ?_ _) | (with_reducible refine Kd.C_drewN ?_ _) | (with_reducible refine Kd.C_drew ?_))); (case side2 => exact HC2.out); rintro e w39 ⟨v186, rfl, ho0, hb⟩; refine ⟨_, rfl, ?_⟩; have n0_ := Aside0.mk (Kd.V_elder' au2_5 (Kd.R_base ho0) hb); have n1_ := Aside0.mk (Kd.V_elder' au2_4 (Kd.R_base ho0) hb); have n2_ := Aside0.mk (Kd.R_elder' au2_1 (Kd.R_base ho0) hb); have n3_ := Aside0.mk (Kd.V_elder' au2_7 (Kd.R_base ho0) hb); have n4_ := Aside0.mk (Kd.R_elder' au2_8 (Kd.R_base ho0) hb); have n5_ := Aside0.mk (Kd.R_elder' au2_3 (Kd.R_base ho0) hb); have n6_ := Aside0.mk (Kd.R_lower (Kd.R_new' (Kd.R_new' (Kd.R_new' (Kd.R_newM (M := fun k_ => (w.heap.size ≤ k_)) ho0 (below_size au2_0) (fun k_ h_ => h_)) (Kd.R_lt au2_1)) (Kd.R_lt au2_8)) (Kd.R_lt au2_3)) (below_size au2_0)); have n7_ := Aside0.mk (below_step au2_0 hb); clear HO_0; clear HO_1; clear HO168; clear HO173; clear HO179; clear HO183; clear HB; have HO_0 := n0_; have HO_1 := n1_; have HO168 := n2_; have HO173 := n3_; have HO179 := n4_; have HO183 := n5_; have HO187 := n6_; have HB := n7_; clear n0_ n1_ n2_ n3_ n4_ n5_ n6_ n7_; (try clear hb); (try clear hb2); (try clear hk); (try clear hi); (try clear ho0)) | ((with_reducible refine gate_callee (f := 7) rfl ?_); refine goesL_ (some 43) rfl rfl Try.func7 (by kernel_rfl) rfl #[] rfl au2_2 ?_; (with_reducible refine (joustlaw13_awake.calls kj3  true _ A17.out).mono ?_); rintro e w40 ⟨rfl, hb⟩; refine ⟨_, rfl, ?_⟩; have n0_ := Aside0.mk (Kd.V_below au2_5 hb); have n1_ := Aside0.mk (Kd.V_below au2_4 hb); have n2_ := Aside0.mk (Kd.R_below au2_1 hb); have n3_ := Aside0.mk (Kd.V_below au2_7 hb); have n4_ := Aside0.mk (Kd.R_below au2_8 hb); have n5_ := Aside0.mk (Kd.R_below au2_3 hb); have n6_ := Aside0.mk (Kd.R_below au2_6 hb); have n7_ := Aside0.mk (below_step au2_0 hb); clear HO_0; clear HO_1; clear HO168; clear HO173; clear HO179; clear HO183; clear HO187; clear HB; have HO_0 := n0_; have HO_1 := n1_; have HO168 := n2_; have HO173 := n3_; have HO179 := n4_; have HO183 := n5_; have HO187 := n6_; have HB := n7_; clear n0_ n1_ n2_ n3_ n4_ n5_ n6_ n7_; (try clear hb); (try clear hb2); (try clear hk); (try clear hi)) | ((with_reducible refine gate_dst (N := 47) rfl ?_); (try (refine gate_guard (by rfl) ?_; dsimp only)); refine Kd.N_lit (Kd.slice 5 (Kd.int .u8)) _ 22 ?hg (N' := 47) ?hd (xs := ([l0, l1] : List (List Int))) (inner := [.slice A0 l0.length c0, .slice A1 l1.length c1]) (ok := (fun k_ => ((P0_ k_ ∨ P1_ k_) ∨ w.heap.size ≤ k_) ∧ some k_ ≠ (.slice Ao35 t166.length co35 : Value).ownBlock ∧ some k_ ≠ (v178 : Value).ownBlock ∧ some k_ ≠ (v182 : Value).ownBlock ∧ some k_ ≠ (v186 : Value).ownBlock)) (okp := (fun k_ => ((P0_ k_ ∨ P1_ k_) ∨ w.heap.size ≤ k_) ∧ some k_ ≠ (.slice Ao35 t166.length co35 : Value).ownBlock ∧ some k_ ≠ (v178 : Value).ownBlock ∧ some k_ ≠ (v182 : Value).ownBlock ∧ some k_ ≠ (v186 : Value).ownBlock)) ?hr ?hp (fun _ hk => hk) ((show ∀ k_, w40.heap.size ≤ k_ → (fun k_ => ((P0_ k_ ∨ P1_ k_) ∨ w.heap.size ≤ k_) ∧ some k_ ≠ (.slice Ao35 t166.length co35 : Value).ownBlock ∧ some k_ ≠ (v178 : Value).ownBlock ∧ some k_ ≠ (v182 : Value).ownBlock ∧ some k_ ≠ (v186 : Value).ownBlock) k_ from fun k_ hk => ⟨(.inr (Nat.le_trans (below_size au2_0) hk)), Kd.fresh' (Kd.R_lt au2_1) k_ hk, Kd.fresh' (Kd.R_lt au2_8) k_ hk, Kd.fresh' (Kd.R_lt au2_3) k_ hk, Kd.fresh' (Kd.R_lt au2_6) k_ hk⟩) _ (Nat.le_refl _)) (Below.refl _ _) (Nat.le_refl _) (by simp) ?_; (case hd => rfl); (case hg => rfl); (case hr => first | (go_simp; done) | (go_simp; rfl)); (case hp => exact (Reps.one (show Kd.FK (Kd.slice 5 (Kd.int .u8)) _ _ l0 [.slice A0 l0.length c0] from (Kd.FK_slice_mk (Kd.V_reads' (Kd.V_mono (ok' := (fun k_ => ((P0_ k_ ∨ P1_ k_) ∨ w.heap.size ≤ k_) ∧ some k_ ≠ (.slice Ao35 t166.length co35 : Value).ownBlock ∧ some k_ ≠ (v178 : Value).ownBlock ∧ some k_ ≠ (v182 : Value).ownBlock ∧ some k_ ≠ (v186 : Value).ownBlock)) (HO_0.out) (fun k_ hk => ⟨hk.1.1.1.1, ⟨hk.1.1.1.2, ⟨hk.1.1.2, ⟨hk.1.2, hk.2⟩⟩⟩⟩))).2.1 (Kd.V_F (Kd.V_mono (ok' := (fun k_ => ((P0_ k_ ∨ P1_ k_) ∨ w.heap.size ≤ k_) ∧ some k_ ≠ (.slice Ao35 t166.length co35 : Value).ownBlock ∧ some k_ ≠ (v178 : Value).ownBlock ∧ some k_ ≠ (v182 : Value).ownBlock ∧ some k_ ≠ (v186 : Value).ownBlock)) (HO_0.out) (fun k_ hk => ⟨hk.1.1.1.1, ⟨hk.1.1.1.2, ⟨hk.1.1.2, ⟨hk.1.2, hk.2⟩⟩⟩⟩))))) (Reps.one (show Kd.FK (Kd.slice 5 (Kd.int .u8)) _ _ l1 [.slice A1 l1.length c1] from (Kd.FK_slice_mk (Kd.V_reads' (Kd.V_mono (ok' := (fun k_ => ((P0_ k_ ∨ P1_ k_) ∨ w.heap.size ≤ k_) ∧ some k_ ≠ (.slice Ao35 t166.length co35 : Value).ownBlock ∧ some k_ ≠ (v178 : Value).ownBlock ∧ some k_ ≠ (v182 : Value).ownBlock ∧ some k_ ≠ (v186 : Value).ownBlock)) (HO_1.out) (fun k_ hk => ⟨hk.1.1.1.1, ⟨hk.1.1.1.2, ⟨hk.1.1.2, ⟨hk.1.2, hk.2⟩⟩⟩⟩))).2.1 (Kd.V_F (Kd.V_mono (ok' := (fun k_ => ((P0_ k_ ∨ P1_ k_) ∨ w.heap.size ≤ k_) ∧ some k_ ≠ (.slice Ao35 t166.length co35 : Value).ownBlock ∧ some k_ ≠ (v178 : Value).ownBlock ∧ some k_ ≠ (v182 : Value).ownBlock ∧ some k_ ≠ (v186 : Value).ownBlock)) (HO_1.out) (fun k_ hk => ⟨hk.1.1.1.1, ⟨hk.1.1.1.2, ⟨hk.1.1.2, ⟨hk.1.2, hk.2⟩⟩⟩⟩))))) (Reps.none _ _)))); intro v190 w41 ho42 hb hg_ hnew_; clear hg_ hnew_; (first | rw [← Ny189.out] at ho42 | (simp only [Int.reduceToNat] at ho42; rw [← Ny189.out] at ho42)); have n0_ := Aside0.mk (Kd.V_elder' au2_5 (Kd.N_base ho42) hb); have n1_ := Aside0.mk (Kd.V_elder' au2_4 (Kd.N_base ho42) hb); have n2_ := Aside0.mk (Kd.R_below au2_1 hb); have n3_ := Aside0.mk (Kd.V_elder' au2_7 (Kd.N_base ho42) hb); have n4_ := Aside0.mk (Kd.R_below au2_8 hb); have n5_ := Aside0.mk (Kd.R_below au2_3 hb); have n6_ := Aside0.mk (Kd.R_below au2_6 hb); have n7_ := Aside0.mk (Kd.N_lower ho42 (below_size au2_0)); have n8_ := Aside0.mk (below_step au2_0 hb); clear HO_0; clear HO_1; clear HO168; clear HO173; clear HO179; clear HO183; clear HO187; clear HB; have HO_0 := n0_; have HO_1 := n1_; have HO168 := n2_; have HO173 := n3_; have HO179 := n4_; have HO183 := n5_; have HO187 := n6_; have HO191 := n7_; have HB := n8_; clear n0_ n1_ n2_ n3_ n4_ n5_ n6_ n7_ n8_; clear hb ho42; obtain ⟨Ao43, co43, eo43⟩ := Kd.N_slice HO191.out; subst eo43) | (go_at_call 11; (with_reducible refine (check_Sum.calls kj3 _ _ y189 t192 _ ?side1 ?side2 A19.out).mono ?_); (case side1 => repeat (first | exact (Kd.N_reads' HO191.out).2.2 | (with_reducible refine Kd.C_alloc ?_ _) | (with_reducible refine Kd.C_drewN ?_ _) | (with_reducible refine Kd.C_drew ?_))); (case side2 => exact (Kd.N_reads' HO191.out).2.1); rintro e w' ⟨rfl, ⟨nd, rfl⟩⟩; obtain ⟨Ao44, co44, eo44⟩ := Kd.R_slice HO179.out; subst eo44) | (go_at_call 12; (with_reducible refine (joustref12_Sum.calls kj3 _ _ y177 t193 _ ?side1 ?side2 A20.out).mono ?_); (case side1 => repeat (first | exact (Kd.R_reads' HO179.out).2.2 | (with_reducible refine Kd.C_alloc ?_ _) | (with_reducible refine Kd.C_drewN ?_ _) | (with_reducible refine Kd.C_drew ?_))); (case side2 => exact (Kd.R_reads' HO179.out).2.1); rintro e w' ⟨rfl, ⟨nd, rfl⟩⟩) | ((with_reducible refine gate_dst (N := 55) rfl ?_); (try (refine gate_guard (by rfl) ?_; dsimp only)); refine Kd.N_lit (Kd.slice 5 (Kd.int .u8)) _ 22 ?hg (N' := 55) ?hd (xs := ([y177] : List (List Int))) (inner := [.slice Ao44 y177.length co44]) (ok := (fun k_ => ((P0_ k_ ∨ P1_ k_) ∨ w.heap.size ≤ k_) ∧ some k_ ≠ (.slice Ao35 t166.length co35 : Value).ownBlock ∧ some k_ ≠ (v182 : Value).ownBlock ∧ some k_ ≠ (v186 : Value).ownBlock ∧ some k_ ≠ (.slice Ao43 y189.length co43 : Value).ownBlock)) (okp := (fun k_ => ((P0_ k_ ∨ P1_ k_) ∨ w.heap.size ≤ k_) ∧ some k_ ≠ (.slice Ao35 t166.length co35 : Value).ownBlock ∧ some k_ ≠ (v182 : Value).ownBlock ∧ some k_ ≠ (v186 : Value).ownBlock ∧ some k_ ≠ (.slice Ao43 y189.length co43 : Value).ownBlock)) ?hr ?hp (fun _ hk => hk) ((show ∀ k_, w41.heap.size ≤ k_ → (fun k_ => ((P0_ k_ ∨ P1_ k_) ∨ w.heap.size ≤ k_) ∧ some k_ ≠ (.slice Ao35 t166.length co35 : Value).ownBlock ∧ some k_ ≠ (v182 : Value).ownBlock ∧ some k_ ≠ (v186 : Value).ownBlock ∧ some k_ ≠ (.slice Ao43 y189.length co43 : Value).ownBlock) k_ from fun k_ hk => ⟨(.inr (Nat.le_trans (below_size au2_0) hk)), Kd.fresh' (Kd.R_lt au2_1) k_ hk, Kd.fresh' (Kd.R_lt au2_3) k_ hk, Kd.fresh' (Kd.R_lt au2_6) k_ hk, Kd.fresh' (Kd.N_lt au2_11) k_ hk⟩) _ (Nat.le_refl _)) (Below.refl _ _) (Nat.le_refl _) (by simp) ?_; (case hd => rfl); (case hg => rfl); (case hr => first | (go_simp; done) | (go_simp; rfl)); (case hp => exact (Reps.one (show Kd.FK (Kd.slice 5 (Kd.int .u8)) _ _ y177 [.slice Ao44 y177.length co44] from (Kd.FK_slice_mk (Kd.R_reads' (Kd.R_mono (ok' := (fun k_ => ((P0_ k_ ∨ P1_ k_) ∨ w.heap.size ≤ k_) ∧ some k_ ≠ (.slice Ao35 t166.length co35 : Value).ownBlock ∧ some k_ ≠ (v182 : Value).ownBlock ∧ some k_ ≠ (v186 : Value).ownBlock ∧ some k_ ≠ (.slice Ao43 y189.length co43 : Value).ownBlock)) (Kd.R_apart' (HO179.out) (Kd.N_typed HO191.out) (by decide)) (fun k_ hk => ⟨(.inr (hk.1.1.1.1)), ⟨hk.1.1.1.2, ⟨hk.1.1.2, ⟨hk.1.2, hk.2⟩⟩⟩⟩))).2.1 (Kd.R_F (Kd.R_mono (ok' := (fun k_ => ((P0_ k_ ∨ P1_ k_) ∨ w.heap.size ≤ k_) ∧ some k_ ≠ (.slice Ao35 t166.length co35 : Value).ownBlock ∧ some k_ ≠ (v182 : Value).ownBlock ∧ some k_ ≠ (v186 : Value).ownBlock ∧ some k_ ≠ (.slice Ao43 y189.length co43 : Value).ownBlock)) (Kd.R_apart' (HO179.out) (Kd.N_typed HO191.out) (by decide)) (fun k_ hk => ⟨(.inr (hk.1.1.1.1)), ⟨hk.1.1.1.2, ⟨hk.1.1.2, ⟨hk.1.2, hk.2⟩⟩⟩⟩))))) (Reps.none _ _))); intro v195 w45 ho46 hb hg_ hnew_; clear hg_ hnew_; (first | rw [← Ny194.out] at ho46 | (simp only [Int.reduceToNat] at ho46; rw [← Ny194.out] at ho46)); have n0_ := Aside0.mk (Kd.V_elder' au2_5 (Kd.N_base ho46) hb); have n1_ := Aside0.mk (Kd.V_elder' au2_4 (Kd.N_base ho46) hb); have n2_ := Aside0.mk (Kd.R_below au2_1 hb); have n3_ := Aside0.mk (Kd.V_elder' au2_7 (Kd.N_base ho46) hb); have n4_ := Aside0.mk (Kd.R_below au2_3 hb); have n5_ := Aside0.mk (Kd.R_below au2_6 hb); have n6_ := Aside0.mk (Kd.N_elder' au2_11 (Kd.N_base ho46) hb); have n7_ := Aside0.mk (Kd.N_lower ho46 (below_size au2_0)); have n8_ := Aside0.mk (below_step au2_0 hb); clear HO_0; clear HO_1; clear HO168; clear HO173; clear HO183; clear HO187; clear HO191; have nK0_ := Aside0.mk (Kd.R_below (by (with_reducible repeat (first | apply Kd.R_alloc | apply Kd.R_drewN | apply Kd.R_drew)); exact HO179.out) hb); clear HB; clear HO179; have HO179 := nK0_; clear nK0_; have HO_0 := n0_; have HO_1 := n1_; have HO168 := n2_; have HO173 := n3_; have HO183 := n4_; have HO187 := n5_; have HO191 := n6_; have HO196 := n7_; have HB := n8_; clear n0_ n1_ n2_ n3_ n4_ n5_ n6_ n7_ n8_; clear hb ho46; obtain ⟨Ao47, co47, eo47⟩ := Kd.N_slice HO196.out; subst eo47) | (go_at_call 11; (with_reducible refine (check_Sum.calls kj3 _ _ y194 t197 _ ?side1 ?side2 A22.out).mono ?_); (case side1 => repeat (first | exact (Kd.N_reads' HO196.out).2.2 | (with_reducible refine Kd.C_alloc ?_ _) | (with_reducible refine Kd.C_drewN ?_ _) | (with_reducible refine Kd.C_drew ?_))); (case side2 => exact (Kd.N_reads' HO196.out).2.1); rintro e w' ⟨rfl, ⟨nd, rfl⟩⟩) | (go_at_call 12; (with_reducible refine (joustref12_Sum.calls kj3 _ _ y177 t198 _ ?side1 ?side2 A23.out).mono ?_); (case side1 => repeat (first | exact (Kd.R_reads' HO179.out).2.2 | (with_reducible refine Kd.C_alloc ?_ _) | (with_reducible refine Kd.C_drewN ?_ _) | (with_reducible refine Kd.C_drew ?_))); (case side2 => exact (Kd.R_reads' HO179.out).2.1); rintro e w' ⟨rfl, ⟨nd, rfl⟩⟩) | (go_at_call 14; (with_reducible refine (check_Seal.calls kj3 (fun k_ => (((((((P0_ k_ ∨ P1_ k_) ∨ w.heap.size ≤ k_) ∧ some k_ ≠ (.slice Ao44 y177.length co44 : Value).ownBlock) ∧ some k_ ≠ (v182 : Value).ownBlock) ∧ some k_ ≠ (v186 : Value).ownBlock) ∧ some k_ ≠ (.slice Ao43 y189.length co43 : Value).ownBlock) ∧ some k_ ≠ (.slice Ao47 y194.length co47 : Value).ownBlock)) _ _ y169 t199 _ ?side1 A25.out).mono ?_); (case side1 => exact HO173.out); rintro e w48 ⟨v200, rfl, ho0, hb⟩; have n0_ := Aside0.mk (Kd.V_elder' au2_5 (Kd.R_base ho0) hb); have n1_ := Aside0.mk (Kd.V_elder' au2_4 (Kd.R_base ho0) hb); have n2_ := Aside0.mk (Kd.R_elder' au2_1 (Kd.R_base ho0) hb); have n3_ := Aside0.mk (Kd.V_elder' au2_7 (Kd.R_base ho0) hb); have n4_ := Aside0.mk (Kd.R_elder' au2_3 (Kd.R_base ho0) hb); have n5_ := Aside0.mk (Kd.R_elder' au2_6 (Kd.R_base ho0) hb); have n6_ := Aside0.mk (Kd.N_elder' au2_11 (Kd.R_base ho0) hb); have n7_ := Aside0.mk (Kd.N_elder' (by (with_reducible repeat (first | apply Kd.N_alloc | apply Kd.N_drewN | apply Kd.N_drew)); exact HO196.out) (Kd.R_base ho0) hb); have n8_ := Aside0.mk (Kd.R_lower (Kd.R_new' (Kd.R_new' (Kd.R_new' (Kd.R_newM (M := fun k_ => (w.heap.size ≤ k_)) (Kd.R_mono (ok' := fun k_ => True) ho0 (fun _ hk_ => trivial)) (below_size au2_0) (fun k_ h_ => h_)) (Kd.R_lt au2_1)) (Kd.R_lt au2_3)) (Kd.R_lt au2_6)) (below_size au2_0)); have n9_ := Aside0.mk (below_step au2_0 hb); clear HO_0; clear HO_1; clear HO168; clear HO173; clear HO183; clear HO187; clear HO191; clear HO196; clear HB; have HO_0 := n0_; have HO_1 := n1_; have HO168 := n2_; have HO173 := n3_; have HO183 := n4_; have HO187 := n5_; have HO191 := n6_; have HO196 := n7_; have HO201 := n8_; have HB := n9_; clear n0_ n1_ n2_ n3_ n4_ n5_ n6_ n7_ n8_ n9_; (try clear hb); (try clear hb2); (try clear hk); (try clear hi); (try clear ho0)) | (go_at_call 15; (with_reducible refine (joustref12_Seal.calls kj3 _ _ l2 t202 _ ?side1 ?side2 A26.out).mono ?_); (case side1 => repeat (first | exact (Kd.C_below HR2.out HB.out) | (with_reducible refine Kd.C_alloc ?_ _) | (with_reducible refine Kd.C_drewN ?_ _) | (with_reducible refine Kd.C_drew ?_))); (case side2 => exact HC2.out); rintro e w49 ⟨v203, rfl, ho0, hb⟩; have n0_ := Aside0.mk (Kd.V_elder' au2_5 (Kd.R_base ho0) hb); have n1_ := Aside0.mk (Kd.V_elder' au2_4 (Kd.R_base ho0) hb); have n2_ := Aside0.mk (Kd.R_elder' au2_1 (Kd.R_base ho0) hb); have n3_ := Aside0.mk (Kd.V_elder' au2_7 (Kd.R_base ho0) hb); have n4_ := Aside0.mk (Kd.R_elder' au2_3 (Kd.R_base ho0) hb); have n5_ := Aside0.mk (Kd.R_elder' au2_6 (Kd.R_base ho0) hb); have n6_ := Aside0.mk (Kd.N_elder' au2_11 (Kd.R_base ho0) hb); have n7_ := Aside0.mk (Kd.N_elder' (by (with_reducible repeat (first | apply Kd.N_alloc | apply Kd.N_drewN | apply Kd.N_drew)); exact HO196.out) (Kd.R_base ho0) hb); have n8_ := Aside0.mk (Kd.R_elder' (by (with_reducible repeat (first | apply Kd.R_alloc | apply Kd.R_drewN | apply Kd.R_drew)); exact HO201.out) (Kd.R_base ho0) hb); have n9_ := Aside0.mk (Kd.R_lower (Kd.R_new' (Kd.R_new' (Kd.R_new' (Kd.R_new' (Kd.R_newM (M := fun k_ => (w.heap.size ≤ k_)) ho0 (below_size au2_0) (fun k_ h_ => h_)) (Kd.R_lt au2_1)) (Kd.R_lt au2_3)) (Kd.R_lt au2_6)) (Kd.R_lt (by (with_reducible repeat (first | apply Kd.R_alloc | apply Kd.R_drewN | apply Kd.R_drew)); exact HO201.out))) (below_size au2_0)); have n10_ := Aside0.mk (below_step au2_0 hb); clear HO_0; clear HO_1; clear HO168; clear HO173; clear HO183; clear HO187; clear HO191; clear HO196; clear HO201; clear HB; have HO_0 := n0_; have HO_1 := n1_; have HO168 := n2_; have HO173 := n3_; have HO183 := n4_; have HO187 := n5_; have HO191 := n6_; have HO196 := n7_; have HO201 := n8_; have HO204 := n9_; have HB := n10_; clear n0_ n1_ n2_ n3_ n4_ n5_ n6_ n7_ n8_ n9_ n10_; (try clear hb); (try clear hb2); (try clear hk); (try clear hi); (try clear ho0); obtain ⟨Ao50, co50, eo50⟩ := Kd.R_slice HO201.out; subst eo50; obtain ⟨Ao51, co51, eo51⟩ := Kd.R_slice HO204.out; subst eo51) | (go_at_call 13; (with_reducible refine (jousthelp_Bytes.calls _ _ t199 _ _ t202 true _ ?side1 ?side2 ?side3 ?side4 A27.out).mono ?_); (case side1 => repeat (first | exact (Kd.R_reads' HO201.out).2.2 | (with_reducible refine Kd.C_alloc ?_ _) | (with_reducible refine Kd.C_drewN ?_ _) | (with_reducible refine Kd.C_drew ?_))); (case side2 => exact (Kd.R_reads' HO201.out).2.1); (case side3 => repeat (first | exact (Kd.R_reads' HO204.out).2.2 | (with_reducible refine Kd.C_alloc ?_ _) | (with_reducible refine Kd.C_drewN ?_ _) | (with_reducible refine Kd.C_drew ?_))); (case side4 => exact (Kd.R_reads' HO204.out).2.1); rintro e w' ⟨rfl, ⟨nd, rfl⟩⟩; obtain ⟨Ao52, co52, eo52⟩ := Kd.R_slice HO183.out; subst eo52; obtain ⟨Ao53, co53, eo53⟩ := Kd.R_slice HO187.out; subst eo53) | (go_at_call 13; (with_reducible refine (jousthelp_Bytes.calls _ _ t180 _ _ t184 true _ ?side1 ?side2 ?side3 ?side4 A29.out).mono ?_); (case side1 => repeat (first | exact (Kd.R_reads' HO183.out).2.2 | (with_reducible refine Kd.C_alloc ?_ _) | (with_reducible refine Kd.C_drewN ?_ _) | (with_reducible refine Kd.C_drew ?_))); (case side2 => exact (Kd.R_reads' HO183.out).2.1); (case side3 => repeat (first | exact (Kd.R_reads' HO187.out).2.2 | (with_reducible refine Kd.C_alloc ?_ _) | (with_reducible refine Kd.C_drewN ?_ _) | (with_reducible refine Kd.C_drew ?_))); (case side4 => exact (Kd.R_reads' HO187.out).2.1); rintro e w' ⟨rfl, ⟨nd, rfl⟩⟩) | (go_at_call 16; (with_reducible refine (jousthelp_Kept_byte.calls Ao35 co35 t166 y169 _ _ l2 71 t207 _ ?side1 ?side2 ?side3 ?side4 ?side5 ?side6 A32.out).mono ?_); (case side1 => repeat (first | exact (Kd.R_reads' HO168.out).2.2 | (with_reducible refine Kd.C_alloc ?_ _) | (with_reducible refine Kd.C_drewN ?_ _) | (with_reducible refine Kd.C_drew ?_))); (case side2 => exact (Kd.R_reads' HO168.out).2.1); (case side3 => repeat (first | exact (Kd.V_reads' HO173.out).2.2 | (with_reducible refine Kd.C_alloc ?_ _) | (with_reducible refine Kd.C_drewN ?_ _) | (with_reducible refine Kd.C_drew ?_))); (case side4 => exact (Kd.V_reads' HO173.out).2.1); (case side5 => repeat (first | exact (Kd.C_below HR2.out au2_0) | (with_reducible refine Kd.C_alloc ?_ _) | (with_reducible refine Kd.C_drewN ?_ _) | (with_reducible refine Kd.C_drew ?_))); (case side6 => exact HC2.out); rintro e w54 ⟨rfl, hb⟩; have n0_ := Aside0.mk (Kd.V_below au2_5 hb); have n1_ := Aside0.mk (Kd.V_below au2_4 hb); have n2_ := Aside0.mk (Kd.R_below au2_1 hb); have n3_ := Aside0.mk (Kd.V_below au2_7 hb); have n4_ := Aside0.mk (Kd.R_below au2_3 hb); have n5_ := Aside0.mk (Kd.R_below au2_6 hb); have n6_ := Aside0.mk (Kd.N_below au2_11 hb); have n7_ := Aside0.mk (Kd.N_below (by (with_reducible repeat (first | apply Kd.N_alloc | apply Kd.N_drewN | apply Kd.N_drew)); exact HO196.out) hb); have n8_ := Aside0.mk (Kd.R_below (by (with_reducible repeat (first | apply Kd.R_alloc | apply Kd.R_drewN | apply Kd.R_drew)); exact HO201.out) hb); have n9_ := Aside0.mk (Kd.R_below (by (with_reducible repeat (first | apply Kd.R_alloc | apply Kd.R_drewN | apply Kd.R_drew)); exact HO204.out) hb); have n10_ := Aside0.mk (below_step au2_0 hb); clear HO_0; clear HO_1; clear HO168; clear HO173; clear HO183; clear HO187; clear HO191; clear HO196; clear HO201; clear HO204; clear HB; have HO_0 := n0_; have HO_1 := n1_; have HO168 := n2_; have HO173 := n3_; have HO183 := n4_; have HO187 := n5_; have HO191 := n6_; have HO196 := n7_; have HO201 := n8_; have HO204 := n9_; have HB := n10_; clear n0_ n1_ n2_ n3_ n4_ n5_ n6_ n7_ n8_ n9_ n10_; (try clear hb); (try clear hb2); (try clear hk); (try clear hi)))
                            go_ret
                            exact ⟨au2_10, au2_0⟩
                          · rw [if_neg c31] at H
                            have c31b0 : (t181 == t185) = false := beq_eq_false_iff_ne.mpr c31
                            have c31b1 : (t181 != t185) = true := bne_iff_ne.mpr c31
                            exact absurd (H.trans (congrArg some hr_.out)) (by decide)
                        · replace c30 := Bool.eq_false_iff.mpr c30
                          subst c30
                          have H1 : (some false) = some r := by rw [if_neg (show ¬ (false = true) by decide)] at H; exact H
                          clear H
                          have H := H1
                          clear H1
                          exact absurd (H.trans (congrArg some hr_.out)) (by decide)
                      · replace c28 := Bool.eq_false_iff.mpr c28
                        subst c28
                        have H1 : (some false) = some r := by rw [if_neg (show ¬ (false = true) by decide)] at H; exact H
                        clear H
                        have H := H1
                        clear H1
                        exact absurd (H.trans (congrArg some hr_.out)) (by decide)
                    · rw [if_neg c24] at H
                      have c24b0 : (t197 == t198) = false := beq_eq_false_iff_ne.mpr c24
                      have c24b1 : (t197 != t198) = true := bne_iff_ne.mpr c24
                      exact absurd (H.trans (congrArg some hr_.out)) (by decide)
                  · rw [if_neg c21] at H
                    have c21b0 : (t192 == t193) = false := beq_eq_false_iff_ne.mpr c21
                    have c21b1 : (t192 != t193) = true := bne_iff_ne.mpr c21
                    exact absurd (H.trans (congrArg some hr_.out)) (by decide)
                · replace c18 := Bool.eq_false_iff.mpr c18
                  subst c18
                  have H1 : (some false) = some r := by rw [if_neg (show ¬ (false = true) by decide)] at H; exact H
                  clear H
                  have H := H1
                  clear H1
                  exact absurd (H.trans (congrArg some hr_.out)) (by decide)
              · rw [if_neg c14] at H
                exact absurd H (by simp)
            · rw [if_neg c13] at H
              exact absurd H (by simp)
          · rw [if_neg c12] at H
            exact absurd H (by simp)
        · rw [if_neg c11] at H
          exact absurd H (by simp)

end Go.Proofs.Ytbaboeodklgpeaa.PCheckTells
