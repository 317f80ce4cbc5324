/- Functions that the law CheckTurned reaches, and what their Go code computes. No condition. (Lines of a printed text, turned by this session.) -/
import Derived.Test.YtbaboeodklgpeaaPCheckTurnedz0
import Derived.Test.YtbaboeodklgpeaaPCheckTurnedy1
namespace Go.Proofs.Ytbaboeodklgpeaa.PCheckTurned
open Go.RowKit Go.Proofs.YtbaboeodklgpeaaW.PrintWords Go.Proofs.YtbaboeodklgpeaaW.PrintLast Go.Proofs.YtbaboeodklgpeaaW.PrintMore
attribute [local go_sem] max2_int min2_int max_two min_two max_three min_three max_four min_four   -- for this text's walks alone
set_option linter.unusedVariables false
set_option linter.unusedSimpArgs false
theorem au2_0 {p : Prop} (h : p := by repeat (first | (with_reducible first | exact HB.out | apply below_alloc | apply pw_below_drewN | apply below_drew1) | exact HB.out)) : p := h
theorem au2_1 {p : Prop} (h : p := by (with_reducible repeat (first | apply Kd.R_alloc | apply Kd.R_drewN | apply Kd.R_drew)); exact HO_11.out) : p := h
theorem au2_2 {p : Prop} (h : p := by (with_reducible repeat (first | apply Kd.R_alloc | apply Kd.R_drewN | apply Kd.R_drew)); exact HO168.out) : p := h
theorem au2_3 {p : Prop} (h : p := by repeat (first | (with_reducible exact HR178.out) | (with_reducible refine Kd.C_alloc ?_ _) | (with_reducible refine Kd.C_drewN ?_ _) | (with_reducible refine Kd.C_drew ?_) | exact HR178.out)) : p := h
theorem au2_4 {p : Prop} (h : p := by (with_reducible repeat (first | apply Kd.R_alloc | apply Kd.R_drewN | apply Kd.R_drew)); exact HO174.out) : p := h
theorem au2_5 {p : Prop} (h : p := by (try simp only [List.map_toArray, List.map_cons, List.map_nil]); first | done | rfl | (simp only [List.length_drop, List.length_take]; rfl)) : p := h
theorem au2_6 {p : Prop} (h : p := by (with_reducible repeat (first | apply Kd.R_alloc | apply Kd.R_drewN | apply Kd.R_drew)); exact HO182.out) : p := h
theorem au2_7 {p : Prop} (h : p := by (with_reducible repeat (first | apply Kd.R_alloc | apply Kd.R_drewN | apply Kd.R_drew)); exact HO186.out) : p := h
theorem au2_8 {p : Prop} (h : p := by first | (with_reducible assumption) | assumption) : p := h
theorem au2_9 {p : Prop} (h : p := by (with_reducible repeat (first | apply Kd.R_alloc | apply Kd.R_drewN | apply Kd.R_drew)); exact HO192.out) : p := h
theorem au2_10 {p : Prop} (h : p := by (with_reducible repeat (first | apply Kd.R_alloc | apply Kd.R_drewN | apply Kd.R_drew)); exact Kd.R_mono HO_11.out (fun _ hk => ⟨⟨hk.1.1.1.1.2, ⟨hk.1.1.1.2, ⟨hk.1.1.2, hk.1.2⟩⟩⟩, hk.2⟩)) : p := h

/-! ### joustref12_Open: function 10 -/
def joustref12_Open.f (k : Nat) (l0 : List Int) : Option (List Int × Int) := if (l0.length : Int) < 8 then (some (([] : List Int), 5)) else (if 8 ≤ (l0.length : Int) then ((joustref12_Seal.f k (l0.drop 8)).bind fun t153 => ((jousthelp_Bytes.f t153 l0).bind fun t156 => (if t156 = true then (if ([] : List Int).length + (l0.drop 8).length < 140737488355328 then (some ((([] : List Int) ++ (l0.drop 8)), 0)) else (none)) else (some (([] : List Int), 9))))) else (none))
theorem joustref12_Open.mono : ∀ a0 k, LeO (joustref12_Open.f k a0) (joustref12_Open.f (k + 1) a0) := by
  intro a0 k
  unfold joustref12_Open.f
  repeat' first
      | (with_reducible exact joustref12_Seal.mono _ _)
      | (with_reducible exact LeO.refl _)
      | (with_reducible exact LeO.none _)
      | (with_reducible refine LeO.ite ?_ ?_)
      | (with_reducible refine LeO.bind ?_ (fun _ => ?_))
      | exact joustref12_Seal.mono _ _
      | exact LeO.none _
      | refine LeO.ite ?_ ?_
      | refine LeO.bind ?_ (fun _ => ?_)
set_option maxHeartbeats 8000000 in
set_option maxRecDepth 100000 in
theorem joustref12_Open.calls (k : Nat) (A0 : Option Addr) (c0 : Nat) (l0 : List Int) (r1 : List Int) (r2 : Int) (w : World) (hr0 : Kd.C (Kd.int .u8) w A0 l0.length l0) (hc0 : l0.length ≤ c0) (h : joustref12_Open.f k l0 = some (r1, r2)) :
    Calls Try.prog 10 #[.slice A0 l0.length c0] w fun e w' => ∃ v0_ : Value, e = .returned (.tuple #[v0_, .int .i64 r2]) ∧ Kd.R (Kd.int .u8) 5 w' w.heap.size (fun _ => True) v0_ r1 ∧ Below w.heap.size w w' := by
  have HR0 := Aside0.mk hr0
  have HC0 := Aside0.mk hc0
  clear hr0 hc0
  have HB := Aside0.mk (Below.refl w.heap.size w)
  have H : (if (l0.length : Int) < 8 then (some (([] : List Int), 5)) else (if 8 ≤ (l0.length : Int) then ((joustref12_Seal.f k (l0.drop 8)).bind fun t153 => ((jousthelp_Bytes.f t153 l0).bind fun t156 => (if t156 = true then (if ([] : List Int).length + (l0.drop 8).length < 140737488355328 then (some ((([] : List Int) ++ (l0.drop 8)), 0)) else (none)) else (some (([] : List Int), 9))))) else (none))) = some (r1, r2) := h
  clear h
  by_cases c2 : (l0.length : Int) < 8
  · rw [if_pos c2] at H
    have c2b0 : decide ((l0.length : Int) < 8) = true := decide_eq_true c2
    have c2b1 : decide (l0.length < 8) = true := decide_eq_true (by omega)
    clear c2
    simp only [Option.some.injEq, Prod.mk.injEq] at H
    obtain ⟨rfl, rfl⟩ := H
    go_enter Try.func10, Try.ntmps10
    go_wp2
    go_ret2
    exact ⟨_, by first | rfl | (simp [errW_none, errW_some] <;> rfl) | (simp [*, errW_none, errW_some] <;> rfl), by first | exact Kd.R_nil _ _ _ _ _ | exact Kd.N_nil _ _ _ _ _ | exact Kd.V_nil _ _ _ _ _ | exact Kd.Q_nil _ _ _ _ _ | exact Kd.S_nil _ _ _ _ _, au2_0⟩
  · rw [if_neg c2] at H
    have c2b0 : decide ((l0.length : Int) < 8) = false := decide_eq_false c2
    have c2b1 : decide (l0.length < 8) = false := decide_eq_false (by omega)
    clear c2
    by_cases c3 : 8 ≤ (l0.length : Int)
    · rw [if_pos c3] at H
      have c3b0 := eq_true c3
      have c3b1 : decide (8 ≤ (l0.length : Int)) = true := decide_eq_true c3
      clear c3
      replace H := Option.bind_eq_some_iff.mp H
      obtain ⟨t153, A40, H⟩ := H
      (try dsimp -simprocs only at H)
      have A4 := Aside0.mk A40
      clear A40
      replace H := Option.bind_eq_some_iff.mp H
      obtain ⟨t156, A50, H⟩ := H
      (try dsimp -simprocs only at H)
      have A5 := Aside0.mk A50
      clear A50
      by_cases c6 : t156 = true
      · subst c6
        have H1 : (if ([] : List Int).length + (l0.drop 8).length < 140737488355328 then (some ((([] : List Int) ++ (l0.drop 8)), 0)) else (none)) = some (r1, r2) := by rw [if_pos rfl] at H; exact H
        clear H
        have H := H1
        clear H1
        have c7b0 := eq_true (of_decide_eq_true au2_8 : 8 ≤ (l0.length : Int))
        by_cases c8 : ([] : List Int).length + (l0.drop 8).length < 140737488355328
        · rw [if_pos c8] at H
          have LMc8 := Aside0.mk c8
          clear c8
          obtain ⟨y158, hy158⟩ : ∃ y_ : List Int, y_ = (([] : List Int) ++ (l0.drop 8)) := ⟨_, rfl⟩
          replace H : (some (y158, 0)) = some (r1, r2) := by first | (rw [hy158]; with_reducible exact H) | (have H2_ := (Option.bind_some _ _).symm.trans H; rw [hy158]; with_reducible exact H2_) | (have H2_ := (Option.bind_some _ _).symm.trans H; with_reducible exact H2_) | with_reducible exact H | (rw [hy158]; exact H) | exact H
          have Ny158 := Aside0.mk hy158
          clear hy158
          simp only [Option.some.injEq, Prod.mk.injEq] at H
          obtain ⟨rfl, rfl⟩ := H
          obtain ⟨i09, hi09, _, hsz9, _⟩ := info_parts info5
          obtain ⟨A9, hcut9, hA9, hC9⟩ := print_drop_of (P := Try.prog) (Value.int .u8) 0 22 5 .i64 Try.underlying22 hi09 hsz9 A0 c0 l0 8 (by omega) (of_decide_eq_true au2_8) HC0.out
          have HR152 := Aside0.mk (Kd.C_of_reads (h1 := fun _ => rfl) (hA9 _ (Kd.reads_of_C HR0.out)))
          have HC152 := Aside0.mk hC9
          clear hA9 hC9 hi09 hsz9
          go_enter Try.func10, Try.ntmps10
          go_wp2_with (first | ((with_reducible refine gate_callee (f := 15) rfl ?_); refine goesL_ (some 9) rfl rfl Try.func15 (by kernel_rfl) rfl #[.slice A9 (l0.drop 8).length (c0 - 8)] rfl (by (try simp only [List.map_toArray, List.map_cons, List.map_nil]); first | done | (rw [show (l0.drop 8).length = (l0.length - 8) from List.length_drop] <;> rfl) | rfl | (simp only [List.length_drop, List.length_take]; rfl)) ?_; (with_reducible refine (joustref12_Seal.calls k _ _ (l0.drop 8) t153 _ ?side1 ?side2 A4.out).mono ?_); (case side1 => repeat (first | exact HR152.out | (with_reducible refine Kd.C_alloc ?_ _) | (with_reducible refine Kd.C_drewN ?_ _) | (with_reducible refine Kd.C_drew ?_))); (case side2 => exact HC152.out); rintro e w10 ⟨v154, rfl, ho0, hb⟩; refine ⟨_, rfl, ?_⟩; have n0_ := Aside0.mk (Kd.R_lower ho0 (below_size au2_0)); have n1_ := Aside0.mk (below_step au2_0 hb); clear HB; have HO155 := n0_; have HB := n1_; clear n0_ n1_; (try clear hb); (try clear hb2); (try clear hk); (try clear hi); (try clear ho0); obtain ⟨Ao11, co11, eo11⟩ := Kd.R_slice HO155.out; subst eo11) | ((with_reducible refine gate_callee (f := 13) rfl ?_); refine goesL_ (some 11) rfl rfl Try.func13 (by kernel_rfl) rfl #[.slice Ao11 t153.length co11, .slice A0 l0.length c0] rfl au2_5 ?_; (with_reducible refine (jousthelp_Bytes.calls _ _ t153 _ _ l0 true _ ?side1 ?side2 ?side3 ?side4 A5.out).mono ?_); (case side1 => repeat (first | exact (Kd.R_reads' HO155.out).2.2 | (with_reducible refine Kd.C_alloc ?_ _) | (with_reducible refine Kd.C_drewN ?_ _) | (with_reducible refine Kd.C_drew ?_))); (case side2 => exact (Kd.R_reads' HO155.out).2.1); (case side3 => repeat (first | exact (Kd.C_below HR0.out HB.out) | (with_reducible refine Kd.C_alloc ?_ _) | (with_reducible refine Kd.C_drewN ?_ _) | (with_reducible refine Kd.C_drew ?_))); (case side4 => exact HC0.out); rintro e w' ⟨rfl, ⟨nd, rfl⟩⟩; refine ⟨_, rfl, ?_⟩; obtain ⟨i012, hi012, _, hsz12, _⟩ := info_parts info5; obtain ⟨A12, hcut12, hA12, hC12⟩ := print_drop_of (P := Try.prog) (Value.int .u8) 0 22 5 .i64 Try.underlying22 hi012 hsz12 A0 c0 l0 8 (by omega) (of_decide_eq_true au2_8) HC0.out; have HR157 := Aside0.mk (Kd.C_of_reads (h1 := fun _ => rfl) (hA12 _ (Kd.reads_of_C HR0.out))); have HC157 := Aside0.mk hC12; clear hA12 hC12 hi012 hsz12) | ((with_reducible refine gate_builtin (b := .append) (xs := #[.const (.slice none 0 0), .tmp 14]) rfl ?_); at_builtin; refine Kd.R_append_rows (Kd.int .u8) (w0 := w) w.heap.size rfl (.const (.slice none 0 0)) (.tmp 14) 22 5 (.int .u8 0) 1 rfl Try.underlying22 info5 rfl (by decide) (by omega) (.slice none 0 0) ([] : List Int) (l0.drop 8) _ _ _ (fun k_ => some k_ ≠ (.slice Ao11 t153.length co11 : Value).ownBlock) (fun _ => False) rfl rfl ?aO ?aR (fun _ _ h => h) (fun _ h => h.elim) ?aF ?aB ?aS ?aL ?_; (case aR => first | (rw [← show (l0.drop 8).length = (l0.length - 8) from List.length_drop]; repeat (first | exact (Kd.C_below HR152.out au2_0) | (with_reducible refine Kd.C_alloc ?_ _) | (with_reducible refine Kd.C_drewN ?_ _) | (with_reducible refine Kd.C_drew ?_))) | (repeat (first | exact (Kd.C_below HR152.out au2_0) | (with_reducible refine Kd.C_alloc ?_ _) | (with_reducible refine Kd.C_drewN ?_ _) | (with_reducible refine Kd.C_drew ?_)))); (case aB => exact au2_0); (case aF => exact (fun k_ hk => Kd.fresh' (Kd.R_lt (by (with_reducible repeat (first | apply Kd.R_alloc | apply Kd.R_drewN | apply Kd.R_drew)); exact HO155.out)) k_ hk)); (case aO => exact ((Kd.R_nil _ _ _ _ (fun k_ => some k_ ≠ (.slice Ao11 t153.length co11 : Value).ownBlock)))); (case aS => exact (below_size au2_0)); (case aL => have := LMc8.out; have hlx_ := (show (l0.drop 8).length = (l0.length - 8) from List.length_drop); omega); intro v159 w13 ho hb hg hat; rw [← Ny158.out] at ho; have n0_ := Aside0.mk (Kd.R_after (Kd.R_apart_nil (by (with_reducible repeat (first | apply Kd.R_alloc | apply Kd.R_drewN | apply Kd.R_drew)); exact HO155.out)) hg hat); have n1_ := Aside0.mk (hb); have n2_ := Aside0.mk (ho); clear HO155; clear HB; have HO155 := n0_; have HB := n1_; have HO160 := n2_; clear n0_ n1_ n2_; clear ho hb hg hat))
          go_ret2
          exact ⟨_, by first | rfl | (simp [errW_none, errW_some] <;> rfl) | (simp [*, errW_none, errW_some] <;> rfl), by (with_reducible repeat (first | apply Kd.R_alloc | apply Kd.R_drewN | apply Kd.R_drew)); exact Kd.R_mono HO160.out (fun _ hk => trivial), au2_0⟩
        · rw [if_neg c8] at H
          exact absurd H (by simp)
      · replace c6 := Bool.eq_false_iff.mpr c6
        subst c6
        have H1 : (some (([] : List Int), 9)) = some (r1, r2) := by rw [if_neg (show ¬ (false = true) by decide)] at H; exact H
        clear H
        have H := H1
        clear H1
        simp only [Option.some.injEq, Prod.mk.injEq] at H
        obtain ⟨rfl, rfl⟩ := H
        obtain ⟨i014, hi014, _, hsz14, _⟩ := info_parts info5
        obtain ⟨A14, hcut14, hA14, hC14⟩ := print_drop_of (P := Try.prog) (Value.int .u8) 0 22 5 .i64 Try.underlying22 hi014 hsz14 A0 c0 l0 8 (by omega) (of_decide_eq_true au2_8) HC0.out
        have HR152 := Aside0.mk (Kd.C_of_reads (h1 := fun _ => rfl) (hA14 _ (Kd.reads_of_C HR0.out)))
        have HC152 := Aside0.mk hC14
        clear hA14 hC14 hi014 hsz14
        go_enter Try.func10, Try.ntmps10
        go_wp2_with (first | ((with_reducible refine gate_callee (f := 15) rfl ?_); refine goesL_ (some 9) rfl rfl Try.func15 (by kernel_rfl) rfl #[.slice A14 (l0.drop 8).length (c0 - 8)] rfl (by (try simp only [List.map_toArray, List.map_cons, List.map_nil]); first | done | (rw [show (l0.drop 8).length = (l0.length - 8) from List.length_drop] <;> rfl) | rfl | (simp only [List.length_drop, List.length_take]; rfl)) ?_; (with_reducible refine (joustref12_Seal.calls k _ _ (l0.drop 8) t153 _ ?side1 ?side2 A4.out).mono ?_); (case side1 => repeat (first | exact HR152.out | (with_reducible refine Kd.C_alloc ?_ _) | (with_reducible refine Kd.C_drewN ?_ _) | (with_reducible refine Kd.C_drew ?_))); (case side2 => exact HC152.out); rintro e w15 ⟨v154, rfl, ho0, hb⟩; refine ⟨_, rfl, ?_⟩; have n0_ := Aside0.mk (Kd.R_lower ho0 (below_size au2_0)); have n1_ := Aside0.mk (below_step au2_0 hb); clear HB; have HO155 := n0_; have HB := n1_; clear n0_ n1_; (try clear hb); (try clear hb2); (try clear hk); (try clear hi); (try clear ho0); obtain ⟨Ao16, co16, eo16⟩ := Kd.R_slice HO155.out; subst eo16) | ((with_reducible refine gate_callee (f := 13) rfl ?_); refine goesL_ (some 11) rfl rfl Try.func13 (by kernel_rfl) rfl #[.slice Ao16 t153.length co16, .slice A0 l0.length c0] rfl au2_5 ?_; (with_reducible refine (jousthelp_Bytes.calls _ _ t153 _ _ l0 false _ ?side1 ?side2 ?side3 ?side4 A5.out).mono ?_); (case side1 => repeat (first | exact (Kd.R_reads' HO155.out).2.2 | (with_reducible refine Kd.C_alloc ?_ _) | (with_reducible refine Kd.C_drewN ?_ _) | (with_reducible refine Kd.C_drew ?_))); (case side2 => exact (Kd.R_reads' HO155.out).2.1); (case side3 => repeat (first | exact (Kd.C_below HR0.out HB.out) | (with_reducible refine Kd.C_alloc ?_ _) | (with_reducible refine Kd.C_drewN ?_ _) | (with_reducible refine Kd.C_drew ?_))); (case side4 => exact HC0.out); rintro e w' ⟨rfl, ⟨nd, rfl⟩⟩; refine ⟨_, rfl, ?_⟩))
        go_ret2
        exact ⟨_, by first | rfl | (simp [errW_none, errW_some] <;> rfl) | (simp [*, errW_none, errW_some] <;> rfl), by first | exact Kd.R_nil _ _ _ _ _ | exact Kd.N_nil _ _ _ _ _ | exact Kd.V_nil _ _ _ _ _ | exact Kd.Q_nil _ _ _ _ _ | exact Kd.S_nil _ _ _ _ _, au2_0⟩
    · rw [if_neg c3] at H
      exact absurd H (by simp)

/-! ### joustlaw13_CheckTurned: function 4 -/
mutual
def joustlaw13_CheckTurned.j0 : Nat → List Int → Int → Int → Int → List Int → Bool → Option (Bool)
  | 0, _, _, _, _, _, _ => none
  | k + 1, x0, x1, x2, x3, x4, x32 => if x32 = true then ((joustlaw13_awake.f k).bind fun t161 => (some t161)) else ((check_Seal.f k x0).bind fun t162 => ((joustlaw13_awake.f k).bind fun t165 => (if t165 = true then (joustlaw13_CheckTurned.j1 k x1 x2 x3 x4 t162 ((t162.length : Int) != (wrap64 ((x0.length : Int) + 8)))) else (joustlaw13_CheckTurned.j1 k x1 x2 x3 x4 t162 true))))
def joustlaw13_CheckTurned.j1 : Nat → Int → Int → Int → List Int → List Int → Bool → Option (Bool)
  | 0, _, _, _, _, _, _ => none
  | k + 1, x1, x2, x3, x4, x11, x45 => if x45 = true then (some false) else (if ([] : List Int).length + x11.length < 140737488355328 then ((some (([] : List Int) ++ x11 : List Int)).bind fun y166 => (if (IntKind.u64.wrap ((y166.length : Int))) = 0 then (none) else (if 0 ≤ (wrap64 (Int.tmod (IntKind.u64.wrap (x1)) (IntKind.u64.wrap ((y166.length : Int))))) then (if (wrap64 (Int.tmod (IntKind.u64.wrap (x1)) (IntKind.u64.wrap ((y166.length : Int))))) < (y166.length : Int) then ((check_Open.f k (y166.set ((wrap64 (Int.tmod (IntKind.u64.wrap (x1)) (IntKind.u64.wrap ((y166.length : Int))))) : Int).toNat (Go.bits .xor .u8 (rd y166 (wrap64 (Int.tmod (IntKind.u64.wrap (x1)) (IntKind.u64.wrap ((y166.length : Int)))))) x2))).bind fun bt171 => (if (IntKind.u64.wrap ((x11.length : Int))) = 0 then (none) else (if 0 ≤ (wrap64 (Int.tmod (IntKind.u64.wrap (x3)) (IntKind.u64.wrap ((x11.length : Int))))) then (if (wrap64 (Int.tmod (IntKind.u64.wrap (x3)) (IntKind.u64.wrap ((x11.length : Int))))) ≤ (x11.length : Int) then ((some (x11.take ((wrap64 (Int.tmod (IntKind.u64.wrap (x3)) (IntKind.u64.wrap ((x11.length : Int))))) : Int).toNat : List Int)).bind fun y175 => ((check_Open.f k y175).bind fun bt179 => ((joustref12_Open.f k y175).bind fun bt183 => ((some (([] : List Int) ++ x11 : List Int)).bind fun y187 => (if y187.length + x4.length < 140737488355328 then ((some (y187 ++ x4 : List Int)).bind fun y190 => ((check_Open.f k y190).bind fun bt193 => ((joustref12_Open.f k y190).bind fun bt197 => (if ((bt171.2 == 0) == (x2 == 0)) = true then (if x2 = 0 then (if bt179.2 = bt183.2 then (some (bt193.2 == bt197.2)) else (some false)) else (if bt171.2 = 9 then (if bt179.2 = bt183.2 then (some (bt193.2 == bt197.2)) else (some false)) else (some false))) else (some false))))) else (none)))))) else (none)) else (none)))) else (none)) else (none)))) else (none))
end
def joustlaw13_CheckTurned.f (k : Nat) (l0 : List Int) (a1 : Int) (a2 : Int) (a3 : Int) (l4 : List Int) : Option (Bool) := if (l0.length : Int) > 1000 then (joustlaw13_CheckTurned.j0 k l0 a1 a2 a3 l4 true) else (joustlaw13_CheckTurned.j0 k l0 a1 a2 a3 l4 (decide ((l4.length : Int) > 100)))
theorem joustlaw13_CheckTurned.mono_l : ∀ k, (∀ y0 y1 y2 y3 y4 y5, LeO (joustlaw13_CheckTurned.j0 k y0 y1 y2 y3 y4 y5) (joustlaw13_CheckTurned.j0 (k + 1) y0 y1 y2 y3 y4 y5)) ∧ (∀ y0 y1 y2 y3 y4 y5, LeO (joustlaw13_CheckTurned.j1 k y0 y1 y2 y3 y4 y5) (joustlaw13_CheckTurned.j1 (k + 1) y0 y1 y2 y3 y4 y5))
  | 0 => ⟨fun _ _ _ _ _ _ r h => by simp [joustlaw13_CheckTurned.j0] at h, fun _ _ _ _ _ _ r h => by simp [joustlaw13_CheckTurned.j1] at h⟩
  | k + 1 => by
    obtain ⟨ih0, ih1⟩ := joustlaw13_CheckTurned.mono_l k
    refine ⟨?_, ?_⟩
    · intro y0 y1 y2 y3 y4 y5
      unfold joustlaw13_CheckTurned.j0
      repeat' first
      | (with_reducible exact ih0 _ _ _ _ _ _)
      | (with_reducible exact ih1 _ _ _ _ _ _)
      | (with_reducible exact check_Open.mono _ _)
      | (with_reducible exact check_Seal.mono _ _)
      | (with_reducible exact joustlaw13_awake.mono _)
      | (with_reducible exact joustref12_Open.mono _ _)
      | (with_reducible exact LeO.refl _)
      | (with_reducible exact LeO.none _)
      | (with_reducible refine LeO.ite ?_ ?_)
      | (with_reducible refine LeO.bind ?_ (fun _ => ?_))
      | exact ih0 _ _ _ _ _ _
      | exact ih1 _ _ _ _ _ _
      | exact check_Open.mono _ _
      | exact check_Seal.mono _ _
      | exact joustlaw13_awake.mono _
      | exact joustref12_Open.mono _ _
      | exact LeO.none _
      | refine LeO.ite ?_ ?_
      | refine LeO.bind ?_ (fun _ => ?_)
    · intro y0 y1 y2 y3 y4 y5
      unfold joustlaw13_CheckTurned.j1
      repeat' first
      | (with_reducible exact ih0 _ _ _ _ _ _)
      | (with_reducible exact ih1 _ _ _ _ _ _)
      | (with_reducible exact check_Open.mono _ _)
      | (with_reducible exact check_Seal.mono _ _)
      | (with_reducible exact joustlaw13_awake.mono _)
      | (with_reducible exact joustref12_Open.mono _ _)
      | (with_reducible exact LeO.refl _)
      | (with_reducible exact LeO.none _)
      | (with_reducible refine LeO.ite ?_ ?_)
      | (with_reducible refine LeO.bind ?_ (fun _ => ?_))
      | exact ih0 _ _ _ _ _ _
      | exact ih1 _ _ _ _ _ _
      | exact check_Open.mono _ _
      | exact check_Seal.mono _ _
      | exact joustlaw13_awake.mono _
      | exact joustref12_Open.mono _ _
      | exact LeO.none _
      | refine LeO.ite ?_ ?_
      | refine LeO.bind ?_ (fun _ => ?_)
theorem joustlaw13_CheckTurned.mono : ∀ a0 a1 a2 a3 a4 k, LeO (joustlaw13_CheckTurned.f k a0 a1 a2 a3 a4) (joustlaw13_CheckTurned.f (k + 1) a0 a1 a2 a3 a4) := by
  intro a0 a1 a2 a3 a4 k
  obtain ⟨ih0, ih1⟩ := joustlaw13_CheckTurned.mono_l k
  unfold joustlaw13_CheckTurned.f
  repeat' first
      | (with_reducible exact ih0 _ _ _ _ _ _)
      | (with_reducible exact ih1 _ _ _ _ _ _)
      | (with_reducible exact check_Open.mono _ _)
      | (with_reducible exact check_Seal.mono _ _)
      | (with_reducible exact joustlaw13_awake.mono _)
      | (with_reducible exact joustref12_Open.mono _ _)
      | (with_reducible exact LeO.refl _)
      | (with_reducible exact LeO.none _)
      | (with_reducible refine LeO.ite ?_ ?_)
      | (with_reducible refine LeO.bind ?_ (fun _ => ?_))
      | exact ih0 _ _ _ _ _ _
      | exact ih1 _ _ _ _ _ _
      | exact check_Open.mono _ _
      | exact check_Seal.mono _ _
      | exact joustlaw13_awake.mono _
      | exact joustref12_Open.mono _ _
      | exact LeO.none _
      | refine LeO.ite ?_ ?_
      | refine LeO.bind ?_ (fun _ => ?_)
set_option maxHeartbeats 8000000 in
set_option maxRecDepth 100000 in
theorem joustlaw13_CheckTurned.calls (k : Nat) (A0 : Option Addr) (c0 : Nat) (l0 : List Int) (a1 : Int) (a2 : Int) (a3 : Int) (A4 : Option Addr) (c4 : Nat) (l4 : List Int) (r : Bool) (w : World) (hr0 : Kd.C (Kd.int .u8) w A0 l0.length l0) (hc0 : l0.length ≤ c0) (hr4 : Kd.C (Kd.int .u8) w A4 l4.length l4) (hc4 : l4.length ≤ c4) (hr_ : Aside0 (r = true)) (h : joustlaw13_CheckTurned.f k l0 a1 a2 a3 l4 = some r) :
    Calls Try.prog 4 #[.slice A0 l0.length c0, .int .i64 a1, .int .u8 a2, .int .i64 a3, .slice A4 l4.length c4] w fun e w' => e = .returned (.bool r) ∧ Below w.heap.size w w' := by
  have HR0 := Aside0.mk hr0
  have HC0 := Aside0.mk hc0
  clear hr0 hc0
  have HR4 := Aside0.mk hr4
  have HC4 := Aside0.mk hc4
  clear hr4 hc4
  have HB := Aside0.mk (Below.refl w.heap.size w)
  have H : (if (l0.length : Int) > 1000 then (joustlaw13_CheckTurned.j0 k l0 a1 a2 a3 l4 true) else (joustlaw13_CheckTurned.j0 k l0 a1 a2 a3 l4 (decide ((l4.length : Int) > 100)))) = some r := h
  clear h
  have HC6 := Aside0.mk H
  clear H
  go_enter Try.func4, Try.ntmps4
  go_upto_region 1 with (fail)
  go_cut [32] (fun v32 wc => ∃ (kq : Nat) (x32_5 : Bool), v32 = .bool x32_5 ∧ Aside0 (joustlaw13_CheckTurned.j0 kq l0 a1 a2 a3 l4 x32_5 = some r) ∧ Aside0 (kq ≤ k) ∧ Aside0 (Below w.heap.size w wc))
  case first =>
    have H := HC6.out
    clear HC6
    by_cases c7 : (l0.length : Int) > 1000
    · rw [if_pos c7] at H
      have c7b0 : decide (1000 < (l0.length : Int)) = true := decide_eq_true c7
      have c7b1 : decide (1000 < l0.length) = true := decide_eq_true (by omega)
      clear c7
      (first | rw [c7b0] | (simp only [i64_w, i32_w]; rw [c7b0]) | skip)
      have H' := Aside0.mk H
      clear H
      go_wp2
      go_meet
      case rel => exact ⟨_, (true), (by first | rfl | (simp; done) | (simp [*]; done)), H', ⟨by first | omega | exact Nat.le_refl _⟩, ⟨au2_0⟩⟩
    · rw [if_neg c7] at H
      have c7b0 : decide (1000 < (l0.length : Int)) = false := decide_eq_false c7
      have c7b1 : decide (1000 < l0.length) = false := decide_eq_false (by omega)
      clear c7
      (first | rw [c7b0] | (simp only [i64_w, i32_w]; rw [c7b0]) | skip)
      have H' := Aside0.mk H
      clear H
      go_wp2
      go_meet
      case rel => exact ⟨_, (decide ((l4.length : Int) > 100)), (by first | rfl | (simp; done) | (simp [*]; done)), H', ⟨by first | omega | exact Nat.le_refl _⟩, ⟨au2_0⟩⟩
  case rest =>
    clear HC6
    try clear p2
    try clear c4
    try clear c7
    try clear c7b0
    try clear c7b1
    obtain ⟨kq, x32_5, rfl, HA, HJ5, HB⟩ := hcut
    cases kq with
    | zero => exact absurd HA.out (by simp [joustlaw13_CheckTurned.j0])
    | succ kj5 =>
      have H := HA.out
      clear HA
      simp only [joustlaw13_CheckTurned.j0] at H
      by_cases c8 : x32_5 = true
      · subst c8
        have H1 : ((joustlaw13_awake.f kj5).bind fun t161 => (some t161)) = some r := by rw [if_pos rfl] at H; exact H
        clear H
        have H := H1
        clear H1
        replace H := Option.bind_eq_some_iff.mp H
        obtain ⟨t161, A90, H⟩ := H
        (try dsimp -simprocs only at H)
        have A9 := Aside0.mk A90
        clear A90
        obtain rfl := Option.some.inj H
        (try (have hq1_ := beq_iff_eq.mp hr_.out; have hq0_ := hr_.out; have hq2_ := bne_eq_false_iff_eq.mpr hq1_))
        go_wp2_with (first | ((with_reducible refine gate_callee (f := 7) rfl ?_); refine goesL_ (some 33) rfl rfl Try.func7 (by kernel_rfl) rfl #[] rfl au2_5 ?_; (with_reducible refine (joustlaw13_awake.calls kj5  t161 _ A9.out).mono ?_); rintro e w10 ⟨rfl, hb⟩; refine ⟨_, rfl, ?_⟩; have n0_ := Aside0.mk (below_step au2_0 hb); clear HB; have HB := n0_; clear n0_; (try clear hb); (try clear hb2); (try clear hk); (try clear hi)))
        go_ret
        exact ⟨by first | rfl | (simp [errW_none, errW_some] <;> rfl) | (simp [*, errW_none, errW_some] <;> rfl), au2_0⟩
      · replace c8 := Bool.eq_false_iff.mpr c8
        subst c8
        have H1 : ((check_Seal.f kj5 l0).bind fun t162 => ((joustlaw13_awake.f kj5).bind fun t165 => (if t165 = true then (joustlaw13_CheckTurned.j1 kj5 a1 a2 a3 l4 t162 ((t162.length : Int) != (wrap64 ((l0.length : Int) + 8)))) else (joustlaw13_CheckTurned.j1 kj5 a1 a2 a3 l4 t162 true)))) = some r := by rw [if_neg (show ¬ (false = true) by decide)] at H; exact H
        clear H
        have H := H1
        clear H1
        replace H := Option.bind_eq_some_iff.mp H
        obtain ⟨t162, A110, H⟩ := H
        (try dsimp -simprocs only at H)
        have A11 := Aside0.mk A110
        clear A110
        have HC12 := Aside0.mk H
        clear H
        go_upto_region 4 with (first | ((with_reducible refine gate_callee (f := 14) rfl ?_); refine goesL_ (some 35) rfl rfl Try.func14 (by kernel_rfl) rfl #[.slice A0 l0.length c0] rfl au2_5 ?_; (with_reducible refine (check_Seal.calls kj5 (fun k_ => k_ < w.heap.size) _ _ l0 t162 _ ?side1 A11.out).mono ?_); (case side1 => exact Kd.V_mk HC0.out (Kd.F_below (Kd.C_F (Kd.heap_int .u8) HR0.out) au2_0)); rintro e w13 ⟨v163, rfl, ho0, hb⟩; refine ⟨_, rfl, ?_⟩; have n0_ := Aside0.mk (Kd.R_lower (Kd.R_mono (ok' := fun k_ => True) ho0 (fun _ hk_ => trivial)) (below_size au2_0)); have n1_ := Aside0.mk (below_step au2_0 hb); clear HB; have HO164 := n0_; have HB := n1_; clear n0_ n1_; (try clear hb); (try clear hb2); (try clear hk); (try clear hi); (try clear ho0)))
        (try simp only [Act.put, List.setIfInBounds_toArray, List.set_cons_zero, List.set_cons_succ])
        go_cut [45] (fun v45 wc => ∃ (kq : Nat) (x45_11 : Bool), v45 = .bool x45_11 ∧ Aside0 (joustlaw13_CheckTurned.j1 kq a1 a2 a3 l4 t162 x45_11 = some r) ∧ Aside0 (kq ≤ kj5) ∧ Aside0 (Kd.R (Kd.int .u8) 5 wc w.heap.size (fun _ => True) v163 t162) ∧ Aside0 (Below w.heap.size w wc))
        case first =>
          have H := HC12.out
          clear HC12
          replace H := Option.bind_eq_some_iff.mp H
          obtain ⟨t165, A140, H⟩ := H
          (try dsimp -simprocs only at H)
          have A14 := Aside0.mk A140
          clear A140
          by_cases c15 : t165 = true
          · subst c15
            have H1 : (joustlaw13_CheckTurned.j1 kj5 a1 a2 a3 l4 t162 ((t162.length : Int) != (wrap64 ((l0.length : Int) + 8)))) = some r := by rw [if_pos rfl] at H; exact H
            clear H
            have H := H1
            clear H1
            have H' := Aside0.mk H
            clear H
            go_wp2_with (first | ((with_reducible refine gate_callee (f := 7) rfl ?_); refine goesL_ (some 36) rfl rfl Try.func7 (by kernel_rfl) rfl #[] rfl au2_5 ?_; (with_reducible refine (joustlaw13_awake.calls kj5  true _ A14.out).mono ?_); rintro e w16 ⟨rfl, hb⟩; refine ⟨_, rfl, ?_⟩; have n0_ := Aside0.mk (Kd.R_below (by (with_reducible repeat (first | apply Kd.R_alloc | apply Kd.R_drewN | apply Kd.R_drew)); exact HO164.out) hb); have n1_ := Aside0.mk (below_step au2_0 hb); clear HO164; clear HB; have HO164 := n0_; have HB := n1_; clear n0_ n1_; (try clear hb); (try clear hb2); (try clear hk); (try clear hi); obtain ⟨Ao17, co17, eo17⟩ := Kd.R_slice HO164.out; subst eo17))
            go_meet
            case rel => exact ⟨_, (((t162.length : Int) != (wrap64 ((l0.length : Int) + 8)))), (by first | rfl | (simp; done) | (simp [*]; done)), H', ⟨by have := HJ5.out; first | omega | exact Nat.le_refl _⟩, ⟨by (with_reducible repeat (first | apply Kd.R_alloc | apply Kd.R_drewN | apply Kd.R_drew)); exact HO164.out⟩, ⟨au2_0⟩⟩
          · replace c15 := Bool.eq_false_iff.mpr c15
            subst c15
            have H1 : (joustlaw13_CheckTurned.j1 kj5 a1 a2 a3 l4 t162 true) = some r := by rw [if_neg (show ¬ (false = true) by decide)] at H; exact H
            clear H
            have H := H1
            clear H1
            have H' := Aside0.mk H
            clear H
            go_wp2_with (first | ((with_reducible refine gate_callee (f := 7) rfl ?_); refine goesL_ (some 36) rfl rfl Try.func7 (by kernel_rfl) rfl #[] rfl au2_5 ?_; (with_reducible refine (joustlaw13_awake.calls kj5  false _ A14.out).mono ?_); rintro e w18 ⟨rfl, hb⟩; refine ⟨_, rfl, ?_⟩; have n0_ := Aside0.mk (Kd.R_below (by (with_reducible repeat (first | apply Kd.R_alloc | apply Kd.R_drewN | apply Kd.R_drew)); exact HO164.out) hb); have n1_ := Aside0.mk (below_step au2_0 hb); clear HO164; clear HB; have HO164 := n0_; have HB := n1_; clear n0_ n1_; (try clear hb); (try clear hb2); (try clear hk); (try clear hi)))
            go_meet
            case rel => exact ⟨_, (true), (by first | rfl | (simp; done) | (simp [*]; done)), H', ⟨by have := HJ5.out; first | omega | exact Nat.le_refl _⟩, ⟨by (with_reducible repeat (first | apply Kd.R_alloc | apply Kd.R_drewN | apply Kd.R_drew)); exact HO164.out⟩, ⟨au2_0⟩⟩
        case rest =>
          clear HC12
          try clear c1
          try clear p2
          try clear c4
          try clear p6
          try clear c7
          try clear c7b0
          try clear c7b1
          try clear c8
          try clear c14
          try clear c15
          try clear p2
          obtain ⟨kq, x45_11, rfl, HA, HJ11, HO_11, HB⟩ := hcut
          cases kq with
          | zero => exact absurd HA.out (by simp [joustlaw13_CheckTurned.j1])
          | succ kj11 =>
            have H := HA.out
            clear HA
            simp only [joustlaw13_CheckTurned.j1] at H
            by_cases c19 : x45_11 = true
            · subst c19
              have H1 : (some false) = some r := by rw [if_pos rfl] at H; exact H
              clear H
              have H := H1
              clear H1
              exact absurd (H.trans (congrArg some hr_.out)) (by decide)
            · replace c19 := Bool.eq_false_iff.mpr c19
              subst c19
              have H1 : (if ([] : List Int).length + t162.length < 140737488355328 then ((some (([] : List Int) ++ t162 : List Int)).bind fun y166 => (if (IntKind.u64.wrap ((y166.length : Int))) = 0 then (none) else (if 0 ≤ (wrap64 (Int.tmod (IntKind.u64.wrap (a1)) (IntKind.u64.wrap ((y166.length : Int))))) then (if (wrap64 (Int.tmod (IntKind.u64.wrap (a1)) (IntKind.u64.wrap ((y166.length : Int))))) < (y166.length : Int) then ((check_Open.f kj11 (y166.set ((wrap64 (Int.tmod (IntKind.u64.wrap (a1)) (IntKind.u64.wrap ((y166.length : Int))))) : Int).toNat (Go.bits .xor .u8 (rd y166 (wrap64 (Int.tmod (IntKind.u64.wrap (a1)) (IntKind.u64.wrap ((y166.length : Int)))))) a2))).bind fun bt171 => (if (IntKind.u64.wrap ((t162.length : Int))) = 0 then (none) else (if 0 ≤ (wrap64 (Int.tmod (IntKind.u64.wrap (a3)) (IntKind.u64.wrap ((t162.length : Int))))) then (if (wrap64 (Int.tmod (IntKind.u64.wrap (a3)) (IntKind.u64.wrap ((t162.length : Int))))) ≤ (t162.length : Int) then ((some (t162.take ((wrap64 (Int.tmod (IntKind.u64.wrap (a3)) (IntKind.u64.wrap ((t162.length : Int))))) : Int).toNat : List Int)).bind fun y175 => ((check_Open.f kj11 y175).bind fun bt179 => ((joustref12_Open.f kj11 y175).bind fun bt183 => ((some (([] : List Int) ++ t162 : List Int)).bind fun y187 => (if y187.length + l4.length < 140737488355328 then ((some (y187 ++ l4 : List Int)).bind fun y190 => ((check_Open.f kj11 y190).bind fun bt193 => ((joustref12_Open.f kj11 y190).bind fun bt197 => (if ((bt171.2 == 0) == (a2 == 0)) = true then (if a2 = 0 then (if bt179.2 = bt183.2 then (some (bt193.2 == bt197.2)) else (some false)) else (if bt171.2 = 9 then (if bt179.2 = bt183.2 then (some (bt193.2 == bt197.2)) else (some false)) else (some false))) else (some false))))) else (none)))))) else (none)) else (none)))) else (none)) else (none)))) else (none)) = some r := by rw [if_neg (show ¬ (false = true) by decide)] at H; exact H
              clear H
              have H := H1
              clear H1
              by_cases c20 : ([] : List Int).length + t162.length < 140737488355328
              · rw [if_pos c20] at H
                have LMc20 := Aside0.mk c20
                clear c20
                obtain ⟨y166, hy166⟩ : ∃ y_ : List Int, y_ = (([] : List Int) ++ t162) := ⟨_, rfl⟩
                replace H : (if (IntKind.u64.wrap ((y166.length : Int))) = 0 then (none) else (if 0 ≤ (wrap64 (Int.tmod (IntKind.u64.wrap (a1)) (IntKind.u64.wrap ((y166.length : Int))))) then (if (wrap64 (Int.tmod (IntKind.u64.wrap (a1)) (IntKind.u64.wrap ((y166.length : Int))))) < (y166.length : Int) then ((check_Open.f kj11 (y166.set ((wrap64 (Int.tmod (IntKind.u64.wrap (a1)) (IntKind.u64.wrap ((y166.length : Int))))) : Int).toNat (Go.bits .xor .u8 (rd y166 (wrap64 (Int.tmod (IntKind.u64.wrap (a1)) (IntKind.u64.wrap ((y166.length : Int)))))) a2))).bind fun bt171 => (if (IntKind.u64.wrap ((t162.length : Int))) = 0 then (none) else (if 0 ≤ (wrap64 (Int.tmod (IntKind.u64.wrap (a3)) (IntKind.u64.wrap ((t162.length : Int))))) then (if (wrap64 (Int.tmod (IntKind.u64.wrap (a3)) (IntKind.u64.wrap ((t162.length : Int))))) ≤ (t162.length : Int) then ((some (t162.take ((wrap64 (Int.tmod (IntKind.u64.wrap (a3)) (IntKind.u64.wrap ((t162.length : Int))))) : Int).toNat : List Int)).bind fun y175 => ((check_Open.f kj11 y175).bind fun bt179 => ((joustref12_Open.f kj11 y175).bind fun bt183 => ((some (([] : List Int) ++ t162 : List Int)).bind fun y187 => (if y187.length + l4.length < 140737488355328 then ((some (y187 ++ l4 : List Int)).bind fun y190 => ((check_Open.f kj11 y190).bind fun bt193 => ((joustref12_Open.f kj11 y190).bind fun bt197 => (if ((bt171.2 == 0) == (a2 == 0)) = true then (if a2 = 0 then (if bt179.2 = bt183.2 then (some (bt193.2 == bt197.2)) else (some false)) else (if bt171.2 = 9 then (if bt179.2 = bt183.2 then (some (bt193.2 == bt197.2)) else (some false)) else (some false))) else (some false))))) else (none)))))) else (none)) else (none)))) else (none)) else (none))) = some r := by first | (rw [hy166]; with_reducible exact H) | (have H2_ := (Option.bind_some _ _).symm.trans H; rw [hy166]; with_reducible exact H2_) | (have H2_ := (Option.bind_some _ _).symm.trans H; with_reducible exact H2_) | with_reducible exact H | (rw [hy166]; exact H) | exact H
                have Ny166 := Aside0.mk hy166
                clear hy166
                by_cases c21 : (IntKind.u64.wrap ((y166.length : Int))) = 0
                · rw [if_pos c21] at H
                  exact absurd H (by simp)
                · rw [if_neg c21] at H
                  have c21b0 : ((IntKind.u64.wrap ((y166.length : Int))) == 0) = false := beq_eq_false_iff_ne.mpr c21
                  have c21b1 : ((IntKind.u64.wrap ((y166.length : Int))) != 0) = true := bne_iff_ne.mpr c21
                  obtain ⟨ji22, hji22⟩ : ∃ j_ : Int, (wrap64 (Int.tmod (IntKind.u64.wrap (a1)) (IntKind.u64.wrap ((y166.length : Int))))) = j_ := ⟨_, rfl⟩
                  replace H : (if 0 ≤ (ji22) then (if (ji22) < (y166.length : Int) then ((check_Open.f kj11 (y166.set ((ji22) : Int).toNat (Go.bits .xor .u8 (rd y166 (ji22)) a2))).bind fun bt171 => (if (IntKind.u64.wrap ((t162.length : Int))) = 0 then (none) else (if 0 ≤ (wrap64 (Int.tmod (IntKind.u64.wrap (a3)) (IntKind.u64.wrap ((t162.length : Int))))) then (if (wrap64 (Int.tmod (IntKind.u64.wrap (a3)) (IntKind.u64.wrap ((t162.length : Int))))) ≤ (t162.length : Int) then ((some (t162.take ((wrap64 (Int.tmod (IntKind.u64.wrap (a3)) (IntKind.u64.wrap ((t162.length : Int))))) : Int).toNat : List Int)).bind fun y175 => ((check_Open.f kj11 y175).bind fun bt179 => ((joustref12_Open.f kj11 y175).bind fun bt183 => ((some (([] : List Int) ++ t162 : List Int)).bind fun y187 => (if y187.length + l4.length < 140737488355328 then ((some (y187 ++ l4 : List Int)).bind fun y190 => ((check_Open.f kj11 y190).bind fun bt193 => ((joustref12_Open.f kj11 y190).bind fun bt197 => (if ((bt171.2 == 0) == (a2 == 0)) = true then (if a2 = 0 then (if bt179.2 = bt183.2 then (some (bt193.2 == bt197.2)) else (some false)) else (if bt171.2 = 9 then (if bt179.2 = bt183.2 then (some (bt193.2 == bt197.2)) else (some false)) else (some false))) else (some false))))) else (none)))))) else (none)) else (none)))) else (none)) else (none)) = some r := by first | (rw [hji22] at H; exact H) | (simp only [hji22] at H ⊢; exact H)
                  have hji22w : (IntKind.i64.wrap (Int.tmod (IntKind.u64.wrap (a1)) (IntKind.u64.wrap ((y166.length : Int))))) = ji22 := (i64_w _).trans hji22
                  by_cases c23 : 0 ≤ (ji22)
                  · rw [if_pos c23] at H
                    have c23b0 : decide (0 ≤ (ji22)) = true := decide_eq_true c23
                    clear c23
                    by_cases c24 : (ji22) < (y166.length : Int)
                    · rw [if_pos c24] at H
                      have c24b0 : decide ((ji22) < (y166.length : Int)) = true := decide_eq_true c24
                      clear c24
                      obtain ⟨y170, hy170⟩ : ∃ y_ : List Int, y_ = (y166.set ((ji22) : Int).toNat (Go.bits .xor .u8 (rd y166 (ji22)) a2)) := ⟨_, rfl⟩
                      replace H : ((check_Open.f kj11 y170).bind fun bt171 => (if (IntKind.u64.wrap ((t162.length : Int))) = 0 then (none) else (if 0 ≤ (wrap64 (Int.tmod (IntKind.u64.wrap (a3)) (IntKind.u64.wrap ((t162.length : Int))))) then (if (wrap64 (Int.tmod (IntKind.u64.wrap (a3)) (IntKind.u64.wrap ((t162.length : Int))))) ≤ (t162.length : Int) then ((some (t162.take ((wrap64 (Int.tmod (IntKind.u64.wrap (a3)) (IntKind.u64.wrap ((t162.length : Int))))) : Int).toNat : List Int)).bind fun y175 => ((check_Open.f kj11 y175).bind fun bt179 => ((joustref12_Open.f kj11 y175).bind fun bt183 => ((some (([] : List Int) ++ t162 : List Int)).bind fun y187 => (if y187.length + l4.length < 140737488355328 then ((some (y187 ++ l4 : List Int)).bind fun y190 => ((check_Open.f kj11 y190).bind fun bt193 => ((joustref12_Open.f kj11 y190).bind fun bt197 => (if ((bt171.2 == 0) == (a2 == 0)) = true then (if a2 = 0 then (if bt179.2 = bt183.2 then (some (bt193.2 == bt197.2)) else (some false)) else (if bt171.2 = 9 then (if bt179.2 = bt183.2 then (some (bt193.2 == bt197.2)) else (some false)) else (some false))) else (some false))))) else (none)))))) else (none)) else (none)))) = some r := by first | (rw [hy170]; with_reducible exact H) | (have H2_ := (Option.bind_some _ _).symm.trans H; rw [hy170]; with_reducible exact H2_) | (have H2_ := (Option.bind_some _ _).symm.trans H; with_reducible exact H2_) | with_reducible exact H | (rw [hy170]; exact H) | exact H
                      have Ny170 := Aside0.mk hy170
                      clear hy170
                      replace H := Option.bind_eq_some_iff.mp H
                      obtain ⟨⟨t171, t172⟩, A260, H⟩ := H
                      replace H : (if (IntKind.u64.wrap ((t162.length : Int))) = 0 then (none) else (if 0 ≤ (wrap64 (Int.tmod (IntKind.u64.wrap (a3)) (IntKind.u64.wrap ((t162.length : Int))))) then (if (wrap64 (Int.tmod (IntKind.u64.wrap (a3)) (IntKind.u64.wrap ((t162.length : Int))))) ≤ (t162.length : Int) then ((some (t162.take ((wrap64 (Int.tmod (IntKind.u64.wrap (a3)) (IntKind.u64.wrap ((t162.length : Int))))) : Int).toNat : List Int)).bind fun y175 => ((check_Open.f kj11 y175).bind fun bt179 => ((joustref12_Open.f kj11 y175).bind fun bt183 => ((some (([] : List Int) ++ t162 : List Int)).bind fun y187 => (if y187.length + l4.length < 140737488355328 then ((some (y187 ++ l4 : List Int)).bind fun y190 => ((check_Open.f kj11 y190).bind fun bt193 => ((joustref12_Open.f kj11 y190).bind fun bt197 => (if ((t172 == 0) == (a2 == 0)) = true then (if a2 = 0 then (if bt179.2 = bt183.2 then (some (bt193.2 == bt197.2)) else (some false)) else (if t172 = 9 then (if bt179.2 = bt183.2 then (some (bt193.2 == bt197.2)) else (some false)) else (some false))) else (some false))))) else (none)))))) else (none)) else (none))) = some r := H
                      have A26 := Aside0.mk A260
                      clear A260
                      by_cases c27 : (IntKind.u64.wrap ((t162.length : Int))) = 0
                      · rw [if_pos c27] at H
                        exact absurd H (by simp)
                      · rw [if_neg c27] at H
                        have c27b0 : ((IntKind.u64.wrap ((t162.length : Int))) == 0) = false := beq_eq_false_iff_ne.mpr c27
                        have c27b1 : ((IntKind.u64.wrap ((t162.length : Int))) != 0) = true := bne_iff_ne.mpr c27
                        obtain ⟨ji28, hji28⟩ : ∃ j_ : Int, (wrap64 (Int.tmod (IntKind.u64.wrap (a3)) (IntKind.u64.wrap ((t162.length : Int))))) = j_ := ⟨_, rfl⟩
                        replace H : (if 0 ≤ (ji28) then (if (ji28) ≤ (t162.length : Int) then ((some (t162.take ((ji28) : Int).toNat : List Int)).bind fun y175 => ((check_Open.f kj11 y175).bind fun bt179 => ((joustref12_Open.f kj11 y175).bind fun bt183 => ((some (([] : List Int) ++ t162 : List Int)).bind fun y187 => (if y187.length + l4.length < 140737488355328 then ((some (y187 ++ l4 : List Int)).bind fun y190 => ((check_Open.f kj11 y190).bind fun bt193 => ((joustref12_Open.f kj11 y190).bind fun bt197 => (if ((t172 == 0) == (a2 == 0)) = true then (if a2 = 0 then (if bt179.2 = bt183.2 then (some (bt193.2 == bt197.2)) else (some false)) else (if t172 = 9 then (if bt179.2 = bt183.2 then (some (bt193.2 == bt197.2)) else (some false)) else (some false))) else (some false))))) else (none)))))) else (none)) else (none)) = some r := by first | (rw [hji28] at H; exact H) | (simp only [hji28] at H ⊢; exact H)
                        (try rw [hji28] at A26)
                        have hji28w : (IntKind.i64.wrap (Int.tmod (IntKind.u64.wrap (a3)) (IntKind.u64.wrap ((t162.length : Int))))) = ji28 := (i64_w _).trans hji28
                        by_cases c29 : 0 ≤ (ji28)
                        · rw [if_pos c29] at H
                          have c29b0 := eq_true c29
                          have c29b1 : decide (0 ≤ (ji28)) = true := decide_eq_true c29
                          clear c29
                          by_cases c30 : (ji28) ≤ (t162.length : Int)
                          · rw [if_pos c30] at H
                            have c30b0 := eq_true c30
                            have c30b1 : decide ((ji28) ≤ (t162.length : Int)) = true := decide_eq_true c30
                            clear c30
                            obtain ⟨y175, hy175⟩ : ∃ y_ : List Int, y_ = (t162.take ((ji28) : Int).toNat) := ⟨_, rfl⟩
                            replace H : ((check_Open.f kj11 y175).bind fun bt179 => ((joustref12_Open.f kj11 y175).bind fun bt183 => ((some (([] : List Int) ++ t162 : List Int)).bind fun y187 => (if y187.length + l4.length < 140737488355328 then ((some (y187 ++ l4 : List Int)).bind fun y190 => ((check_Open.f kj11 y190).bind fun bt193 => ((joustref12_Open.f kj11 y190).bind fun bt197 => (if ((t172 == 0) == (a2 == 0)) = true then (if a2 = 0 then (if bt179.2 = bt183.2 then (some (bt193.2 == bt197.2)) else (some false)) else (if t172 = 9 then (if bt179.2 = bt183.2 then (some (bt193.2 == bt197.2)) else (some false)) else (some false))) else (some false))))) else (none))))) = some r := by first | (rw [hy175]; with_reducible exact H) | (have H2_ := (Option.bind_some _ _).symm.trans H; rw [hy175]; with_reducible exact H2_) | (have H2_ := (Option.bind_some _ _).symm.trans H; with_reducible exact H2_) | with_reducible exact H | (rw [hy175]; exact H) | exact H
                            have Ny175 := Aside0.mk hy175
                            clear hy175
                            replace H := Option.bind_eq_some_iff.mp H
                            obtain ⟨⟨t179, t180⟩, A310, H⟩ := H
                            replace H : ((joustref12_Open.f kj11 y175).bind fun bt183 => ((some (([] : List Int) ++ t162 : List Int)).bind fun y187 => (if y187.length + l4.length < 140737488355328 then ((some (y187 ++ l4 : List Int)).bind fun y190 => ((check_Open.f kj11 y190).bind fun bt193 => ((joustref12_Open.f kj11 y190).bind fun bt197 => (if ((t172 == 0) == (a2 == 0)) = true then (if a2 = 0 then (if t180 = bt183.2 then (some (bt193.2 == bt197.2)) else (some false)) else (if t172 = 9 then (if t180 = bt183.2 then (some (bt193.2 == bt197.2)) else (some false)) else (some false))) else (some false))))) else (none)))) = some r := H
                            have A31 := Aside0.mk A310
                            clear A310
                            replace H := Option.bind_eq_some_iff.mp H
                            obtain ⟨⟨t183, t184⟩, A320, H⟩ := H
                            replace H : ((some (([] : List Int) ++ t162 : List Int)).bind fun y187 => (if y187.length + l4.length < 140737488355328 then ((some (y187 ++ l4 : List Int)).bind fun y190 => ((check_Open.f kj11 y190).bind fun bt193 => ((joustref12_Open.f kj11 y190).bind fun bt197 => (if ((t172 == 0) == (a2 == 0)) = true then (if a2 = 0 then (if t180 = t184 then (some (bt193.2 == bt197.2)) else (some false)) else (if t172 = 9 then (if t180 = t184 then (some (bt193.2 == bt197.2)) else (some false)) else (some false))) else (some false))))) else (none))) = some r := H
                            have A32 := Aside0.mk A320
                            clear A320
                            obtain ⟨y187, hy187⟩ : ∃ y_ : List Int, y_ = (([] : List Int) ++ t162) := ⟨_, rfl⟩
                            replace H : (if y187.length + l4.length < 140737488355328 then ((some (y187 ++ l4 : List Int)).bind fun y190 => ((check_Open.f kj11 y190).bind fun bt193 => ((joustref12_Open.f kj11 y190).bind fun bt197 => (if ((t172 == 0) == (a2 == 0)) = true then (if a2 = 0 then (if t180 = t184 then (some (bt193.2 == bt197.2)) else (some false)) else (if t172 = 9 then (if t180 = t184 then (some (bt193.2 == bt197.2)) else (some false)) else (some false))) else (some false))))) else (none)) = some r := by first | (rw [hy187]; with_reducible exact H) | (have H2_ := (Option.bind_some _ _).symm.trans H; rw [hy187]; with_reducible exact H2_) | (have H2_ := (Option.bind_some _ _).symm.trans H; with_reducible exact H2_) | with_reducible exact H | (rw [hy187]; exact H) | exact H
                            have Ny187 := Aside0.mk hy187
                            clear hy187
                            by_cases c33 : y187.length + l4.length < 140737488355328
                            · rw [if_pos c33] at H
                              have LMc33 := Aside0.mk c33
                              clear c33
                              obtain ⟨y190, hy190⟩ : ∃ y_ : List Int, y_ = (y187 ++ l4) := ⟨_, rfl⟩
                              replace H : ((check_Open.f kj11 y190).bind fun bt193 => ((joustref12_Open.f kj11 y190).bind fun bt197 => (if ((t172 == 0) == (a2 == 0)) = true then (if a2 = 0 then (if t180 = t184 then (some (bt193.2 == bt197.2)) else (some false)) else (if t172 = 9 then (if t180 = t184 then (some (bt193.2 == bt197.2)) else (some false)) else (some false))) else (some false)))) = some r := by first | (rw [hy190]; with_reducible exact H) | (have H2_ := (Option.bind_some _ _).symm.trans H; rw [hy190]; with_reducible exact H2_) | (have H2_ := (Option.bind_some _ _).symm.trans H; with_reducible exact H2_) | with_reducible exact H | (rw [hy190]; exact H) | exact H
                              have Ny190 := Aside0.mk hy190
                              clear hy190
                              replace H := Option.bind_eq_some_iff.mp H
                              obtain ⟨⟨t193, t194⟩, A340, H⟩ := H
                              replace H : ((joustref12_Open.f kj11 y190).bind fun bt197 => (if ((t172 == 0) == (a2 == 0)) = true then (if a2 = 0 then (if t180 = t184 then (some (t194 == bt197.2)) else (some false)) else (if t172 = 9 then (if t180 = t184 then (some (t194 == bt197.2)) else (some false)) else (some false))) else (some false))) = some r := H
                              have A34 := Aside0.mk A340
                              clear A340
                              replace H := Option.bind_eq_some_iff.mp H
                              obtain ⟨⟨t197, t198⟩, A350, H⟩ := H
                              replace H : (if ((t172 == 0) == (a2 == 0)) = true then (if a2 = 0 then (if t180 = t184 then (some (t194 == t198)) else (some false)) else (if t172 = 9 then (if t180 = t184 then (some (t194 == t198)) else (some false)) else (some false))) else (some false)) = some r := H
                              have A35 := Aside0.mk A350
                              clear A350
                              by_cases c36 : ((t172 == 0) == (a2 == 0)) = true
                              · rw [if_pos c36] at H
                                have c36b0 : ((t172 == 0) == (a2 == 0)) = true := c36
                                (try (have c36b1 : decide ((t172 == 0) = (a2 == 0)) = true := by simpa using c36))
                                (try (have c36b2 : ((t172 == 0) == (a2 == 0)) = true := by simpa using c36))
                                clear c36
                                by_cases c37 : a2 = 0
                                · rw [if_pos c37] at H
                                  have c37b0 : (a2 == 0) = true := beq_iff_eq.mpr c37
                                  have c37y0 : (t172 == 0) = true := by have h_ := c36b0; rw [c37b0] at h_; simpa using h_
                                  have c37y1 : (t172 != 0) = false := by simpa using c37y0
                                  clear c36b0 c36b1 c36b2
                                  have c37b1 : (a2 != 0) = false := bne_eq_false_iff_eq.mpr c37
                                  clear c37
                                  by_cases c38 : t180 = t184
                                  · rw [if_pos c38] at H
                                    have c38b0 : (t180 == t184) = true := beq_iff_eq.mpr c38
                                    have c38b1 : (t180 != t184) = false := bne_eq_false_iff_eq.mpr c38
                                    clear c38
                                    obtain rfl := Option.some.inj H
                                    (try (have hq1_ := beq_iff_eq.mp hr_.out; have hq0_ := hr_.out; have hq2_ := bne_eq_false_iff_eq.mpr hq1_))
                                    obtain ⟨Ao40, co40, eo40⟩ := Kd.R_slice HO_11.out
                                    subst eo40
                                    go_wp2_with (first | ((with_reducible refine gate_builtin (b := .append) (xs := #[.const (.slice none 0 0), .tmp 46]) rfl ?_); (try (refine gate_guard (by rfl) ?_; dsimp only)); at_builtin; refine Kd.R_append_rows (Kd.int .u8) (w0 := w) w.heap.size rfl (.const (.slice none 0 0)) (.tmp 46) 22 5 (.int .u8 0) 1 rfl Try.underlying22 info5 rfl (by decide) (by omega) (.slice none 0 0) ([] : List Int) t162 _ _ _ (fun k_ => some k_ ≠ (.slice Ao40 t162.length co40 : Value).ownBlock) (fun _ => False) rfl rfl ?aO ?aR (fun _ _ h => h) (fun _ h => h.elim) ?aF ?aB ?aS ?aL ?_; (case aR => repeat (first | exact (Kd.R_reads' HO_11.out).2.2 | (with_reducible refine Kd.C_alloc ?_ _) | (with_reducible refine Kd.C_drewN ?_ _) | (with_reducible refine Kd.C_drew ?_))); (case aB => exact au2_0); (case aF => exact (fun k_ hk => Kd.fresh' (Kd.R_lt au2_1) k_ hk)); (case aO => exact ((Kd.R_nil _ _ _ _ (fun k_ => some k_ ≠ (.slice Ao40 t162.length co40 : Value).ownBlock)))); (case aS => exact (below_size au2_0)); (case aL => have := LMc20.out; omega); intro v167 w39 ho hb hg hat; rw [← Ny166.out] at ho; have n0_ := Aside0.mk (Kd.R_after (Kd.R_apart_nil au2_1) hg hat); have n1_ := Aside0.mk (hb); have n2_ := Aside0.mk (ho); clear HO_11; clear HB; have HO_11 := n0_; have HB := n1_; have HO168 := n2_; clear n0_ n1_ n2_; clear ho hb hg hat; obtain ⟨Ao41, co41, eo41⟩ := Kd.R_slice HO168.out; subst eo41; have p169 : 0 ≤ ((ji22) : Int) := of_decide_eq_true au2_8; have q169 : (ji22) < (y166.length : Int) := of_decide_eq_true au2_8; obtain ⟨ad169, e169, hx169_0⟩ := Kd.at_int (Kd.R_reads' HO168.out).2.2 (ji22) p169 q169; cases e169; replace p169 := eq_true p169; replace q169 := eq_true q169; have p25 : 0 ≤ ((ji22) : Int) := of_decide_eq_true au2_8; have q25 : ((ji22) : Int) < ((y166.length : Int) : Int) := of_decide_eq_true au2_8; obtain ⟨go25, co25, eo25, gb25, gl25, cl25, HG25⟩ := Kd.R_form HO168.out (by omega); (first | cases eo25 | (injection eo25 with ea_ en_ ec_; (first | subst ea_ | (injection ea_ with ea_; subst ea_)); subst ec_; clear en_)); have GB25 := Aside0.mk gb25; have GG25 := Aside0.mk HG25; clear gb25 gl25 HG25; (first | simp only [add_plain] at hx169_0 | skip); obtain ⟨hx25_0, hf25_0⟩ := Kd.R_celln 0 HO168.out ((ji22) : Int) p25 q25; replace p25 := eq_true p25; replace q25 := eq_true q25; obtain ⟨hy42_, hz42_⟩ := Kd.R_celln 0 HO168.out ((ji22) : Int) (of_decide_eq_true au2_8) (of_decide_eq_true au2_8); have HP42 := Kd.R_putg HO168.out ((ji22) : Int) (Go.bits .xor .u8 (rd y166 (ji22)) a2)) | ((with_reducible refine gate_store (t := 5) (p := 60) rfl ?_); refine store_event (t := 5) (p := 60) (v := ?vo_w43) (w1 := (w39.setCell ⟨go25, ((ji22) : Int).toNat, none⟩ (.int .u8 (Go.bits .xor .u8 (rd y166 (ji22)) a2)))) ?hg ?ho ?hn ?hr ?_; (case ho => rfl); (case hg => rfl); (case hn => rfl); (case hr => first | (go_simp; done) | (go_simp; rfl)); intro w43 hw; have hg : w39.grownBy w43 (some go25) := (by rw [hw]; exact HP42.2); have hp_ : Kd.R (Kd.int .u8) 5 w43 w.heap.size (fun k_ => some k_ ≠ (.slice Ao40 t162.length co40 : Value).ownBlock) (.slice (some ⟨go25, 0, none⟩) y166.length co41) y170 := (by rw [hw, Ny170.out]; exact HP42.1); clear HP42; have n0_ := Aside0.mk (Kd.R_after (v := (.slice (some ⟨go25, 0, none⟩) y166.length co41)) (v1 := (.slice (some ⟨go25, 0, none⟩) y166.length co41)) (ok := (fun _ => True)) au2_1 hg (.inl rfl)); have n1_ := Aside0.mk (hp_); have n2_ := Aside0.mk ((by rw [hw]; exact below_set (HB.out) GB25.out : Below w.heap.size w w43)); clear HO_11; clear HO168; clear HB; have HO_11 := n0_; have HO168 := n1_; have HB := n2_; clear n0_ n1_ n2_; clear hg hw hp_) | ((with_reducible refine gate_callee (f := 9) rfl ?_); refine goesL_ (some 63) rfl rfl Try.func9 (by kernel_rfl) rfl #[.slice (some ⟨go25, 0, none⟩) y170.length co41] rfl (by (try simp only [List.map_toArray, List.map_cons, List.map_nil]); first | done | (rw [show y170.length = y166.length from (Kd.R_reads' HO168.out).1.symm] <;> rfl) | rfl | (simp only [List.length_drop, List.length_take]; rfl)) ?_; (with_reducible refine (check_Open.calls kj11 _ _ y170 t171 t172 _ ?side1 ?side2 A26.out).mono ?_); (case side1 => repeat (first | exact (Kd.R_reads' HO168.out).2.2 | (with_reducible refine Kd.C_alloc ?_ _) | (with_reducible refine Kd.C_drewN ?_ _) | (with_reducible refine Kd.C_drew ?_))); (case side2 => rw [show y170.length = y166.length from (Kd.R_reads' HO168.out).1.symm]; exact (Kd.R_reads' HO168.out).2.1); rintro e w44 ⟨v173, rfl, ho0, hb⟩; refine ⟨_, rfl, ?_⟩; have n0_ := Aside0.mk (Kd.R_elder' au2_1 (Kd.R_base ho0) hb); have n1_ := Aside0.mk (Kd.R_elder' au2_2 (Kd.R_base ho0) hb); have n2_ := Aside0.mk (Kd.R_lower (Kd.R_new' (Kd.R_new' ho0 (Kd.R_lt au2_1)) (Kd.R_lt au2_2)) (below_size au2_0)); have n3_ := Aside0.mk (below_step au2_0 hb); clear HO_11; clear HO168; clear HB; have HO_11 := n0_; have HO168 := n1_; have HO174 := n2_; have HB := n3_; clear n0_ n1_ n2_ n3_; (try clear hb); (try clear hb2); (try clear hk); (try clear hi); (try clear ho0); have q45 : ((ji28) : Int) ≤ ((t162.length : Int) : Int) := of_decide_eq_true au2_8; obtain ⟨i045, hi045, _, hsz45, _⟩ := info_parts info5; have hroom45 : t162.length ≤ co40 := (Kd.R_reads' HO_11.out).2.1; have hC45 : Kd.C (Kd.int .u8) _ Ao40 t162.length t162 := (Kd.R_reads' HO_11.out).2.2; have hcut45 := cut_to (P := Try.prog) 22 5 .i64 Try.underlying22 hi045 Ao40 t162.length co40 (ji28) (of_decide_eq_true au2_8) q45 hroom45; have hr45 := Kd.C_take (m := ((ji28) : Int).toNat) hC45 (by omega); have hy45 : y175.length = ((ji28) : Int).toNat := (by rw [Ny175.out, List.length_take]; omega); rw [← Ny175.out] at hr45; rw [← hy45] at hcut45; have HR178 := Aside0.mk hr45; have HC178 := Aside0.mk (show y175.length ≤ co40 from by omega); clear hr45 hC45 hroom45 hi045 hsz45; have KY45 := Aside0.mk hy45; clear hy45; have KL45 := Aside0.mk (show ((ji28) : Int).toNat ≤ t162.length from by omega); replace q45 := eq_true q45) | ((with_reducible refine gate_callee (f := 9) rfl ?_); refine goesL_ (some 77) rfl rfl Try.func9 (by kernel_rfl) rfl #[.slice Ao40 y175.length co40] rfl au2_5 ?_; (with_reducible refine (check_Open.calls kj11 _ _ y175 t179 t180 _ ?side1 ?side2 A31.out).mono ?_); (case side1 => repeat (first | exact au2_3 | (with_reducible refine Kd.C_alloc ?_ _) | (with_reducible refine Kd.C_drewN ?_ _) | (with_reducible refine Kd.C_drew ?_))); (case side2 => exact HC178.out); rintro e w46 ⟨v181, rfl, ho0, hb⟩; refine ⟨_, rfl, ?_⟩; have n0_ := Aside0.mk (Kd.R_elder' au2_1 (Kd.R_base ho0) hb); have n1_ := Aside0.mk (Kd.R_elder' au2_2 (Kd.R_base ho0) hb); have n2_ := Aside0.mk (Kd.R_elder' au2_4 (Kd.R_base ho0) hb); have n3_ := Aside0.mk (Kd.R_lower (Kd.R_new' (Kd.R_new' (Kd.R_new' ho0 (Kd.R_lt au2_1)) (Kd.R_lt au2_2)) (Kd.R_lt au2_4)) (below_size au2_0)); have n4_ := Aside0.mk (Kd.C_below au2_3 hb); have n5_ := Aside0.mk (below_step au2_0 hb); clear HO_11; clear HO168; clear HO174; clear HR178; clear HB; have HO_11 := n0_; have HO168 := n1_; have HO174 := n2_; have HO182 := n3_; have HR178 := n4_; have HB := n5_; clear n0_ n1_ n2_ n3_ n4_ n5_; (try clear hb); (try clear hb2); (try clear hk); (try clear hi); (try clear ho0)) | ((with_reducible refine gate_callee (f := 10) rfl ?_); refine goesL_ (some 82) rfl rfl Try.func10 (by kernel_rfl) rfl #[.slice Ao40 y175.length co40] rfl au2_5 ?_; (with_reducible refine (joustref12_Open.calls kj11 _ _ y175 t183 t184 _ ?side1 ?side2 A32.out).mono ?_); (case side1 => repeat (first | exact au2_3 | (with_reducible refine Kd.C_alloc ?_ _) | (with_reducible refine Kd.C_drewN ?_ _) | (with_reducible refine Kd.C_drew ?_))); (case side2 => exact HC178.out); rintro e w47 ⟨v185, rfl, ho0, hb⟩; refine ⟨_, rfl, ?_⟩; have n0_ := Aside0.mk (Kd.R_elder' au2_1 (Kd.R_base ho0) hb); have n1_ := Aside0.mk (Kd.R_elder' au2_2 (Kd.R_base ho0) hb); have n2_ := Aside0.mk (Kd.R_elder' au2_4 (Kd.R_base ho0) hb); have n3_ := Aside0.mk (Kd.R_elder' au2_6 (Kd.R_base ho0) hb); have n4_ := Aside0.mk (Kd.R_lower (Kd.R_new' (Kd.R_new' (Kd.R_new' (Kd.R_new' ho0 (Kd.R_lt au2_1)) (Kd.R_lt au2_2)) (Kd.R_lt au2_4)) (Kd.R_lt au2_6)) (below_size au2_0)); have n5_ := Aside0.mk (Kd.C_below au2_3 hb); have n6_ := Aside0.mk (below_step au2_0 hb); clear HO_11; clear HO168; clear HO174; clear HO182; clear HR178; clear HB; have HO_11 := n0_; have HO168 := n1_; have HO174 := n2_; have HO182 := n3_; have HO186 := n4_; have HR178 := n5_; have HB := n6_; clear n0_ n1_ n2_ n3_ n4_ n5_ n6_; (try clear hb); (try clear hb2); (try clear hk); (try clear hi); (try clear ho0)) | ((with_reducible refine gate_builtin (b := .append) (xs := #[.const (.slice none 0 0), .tmp 85]) rfl ?_); (try (refine gate_guard (by rfl) ?_; dsimp only)); at_builtin; refine Kd.R_append_rows (Kd.int .u8) (w0 := w) w.heap.size rfl (.const (.slice none 0 0)) (.tmp 85) 22 5 (.int .u8 0) 1 rfl Try.underlying22 info5 rfl (by decide) (by omega) (.slice none 0 0) ([] : List Int) t162 _ _ _ (fun k_ => some k_ ≠ (.slice Ao40 t162.length co40 : Value).ownBlock ∧ some k_ ≠ (.slice (some ⟨go25, 0, none⟩) y166.length co41 : Value).ownBlock ∧ some k_ ≠ (v173 : Value).ownBlock ∧ some k_ ≠ (v181 : Value).ownBlock ∧ some k_ ≠ (v185 : Value).ownBlock) (fun _ => False) rfl rfl ?aO ?aR (fun _ _ h => h) (fun _ h => h.elim) ?aF ?aB ?aS ?aL ?_; (case aR => repeat (first | exact (Kd.R_reads' HO_11.out).2.2 | (with_reducible refine Kd.C_alloc ?_ _) | (with_reducible refine Kd.C_drewN ?_ _) | (with_reducible refine Kd.C_drew ?_))); (case aB => exact au2_0); (case aF => exact (fun k_ hk => ⟨Kd.fresh' (Kd.R_lt au2_1) k_ hk, Kd.fresh' (Kd.R_lt au2_2) k_ hk, Kd.fresh' (Kd.R_lt au2_4) k_ hk, Kd.fresh' (Kd.R_lt au2_6) k_ hk, Kd.fresh' (Kd.R_lt au2_7) k_ hk⟩)); (case aO => exact ((Kd.R_nil _ _ _ _ (fun k_ => some k_ ≠ (.slice Ao40 t162.length co40 : Value).ownBlock ∧ some k_ ≠ (.slice (some ⟨go25, 0, none⟩) y166.length co41 : Value).ownBlock ∧ some k_ ≠ (v173 : Value).ownBlock ∧ some k_ ≠ (v181 : Value).ownBlock ∧ some k_ ≠ (v185 : Value).ownBlock)))); (case aS => exact (below_size au2_0)); (case aL => have := LMc20.out; omega); intro v188 w48 ho hb hg hat; rw [← Ny187.out] at ho; have n0_ := Aside0.mk (Kd.R_after (Kd.R_apart_nil au2_1) hg hat); have n1_ := Aside0.mk (Kd.R_after (Kd.R_apart_nil au2_2) hg hat); have n2_ := Aside0.mk (Kd.R_after (Kd.R_apart_nil au2_4) hg hat); have n3_ := Aside0.mk (Kd.R_after (Kd.R_apart_nil au2_6) hg hat); have n4_ := Aside0.mk (Kd.R_after (Kd.R_apart_nil au2_7) hg hat); have n5_ := Aside0.mk (hb); have n6_ := Aside0.mk ((show Kd.C (Kd.int .u8) w48 Ao40 y175.length y175 from by rw [Ny175.out]; exact Kd.C_take (m := ((ji28) : Int).toNat) ((Kd.R_reads' (Kd.R_after (Kd.R_apart_nil au2_1) hg hat)).2.2) KL45.out)); have n7_ := Aside0.mk (ho); clear HO_11; clear HO168; clear HO174; clear HO182; clear HO186; clear HB; clear HR178; have HO_11 := n0_; have HO168 := n1_; have HO174 := n2_; have HO182 := n3_; have HO186 := n4_; have HB := n5_; have HR178 := n6_; have HO189 := n7_; clear n0_ n1_ n2_ n3_ n4_ n5_ n6_ n7_; clear ho hb hg hat) | ((with_reducible refine gate_builtin (b := .append) (xs := #[.tmp 86, .tmp 87]) rfl ?_); (try (refine gate_guard (by rfl) ?_; dsimp only)); at_builtin; refine Kd.R_append_rows (Kd.int .u8) (w0 := w) w.heap.size rfl (.tmp 86) (.tmp 87) 22 5 (.int .u8 0) 1 rfl Try.underlying22 info5 rfl (by decide) (by omega) v188 y187 l4 _ _ _ (fun k_ => some k_ ≠ (.slice Ao40 t162.length co40 : Value).ownBlock ∧ some k_ ≠ (.slice (some ⟨go25, 0, none⟩) y166.length co41 : Value).ownBlock ∧ some k_ ≠ (v173 : Value).ownBlock ∧ some k_ ≠ (v181 : Value).ownBlock ∧ some k_ ≠ (v185 : Value).ownBlock) (fun _ => False) rfl rfl ?aO ?aR (fun _ _ h => h) (fun _ h => h.elim) ?aF ?aB ?aS ?aL ?_; (case aR => repeat (first | exact (Kd.C_below HR4.out HB.out) | (with_reducible refine Kd.C_alloc ?_ _) | (with_reducible refine Kd.C_drewN ?_ _) | (with_reducible refine Kd.C_drew ?_))); (case aB => exact au2_0); (case aF => exact (fun k_ hk => ⟨Kd.fresh' (Kd.R_lt au2_1) k_ hk, Kd.fresh' (Kd.R_lt au2_2) k_ hk, Kd.fresh' (Kd.R_lt au2_4) k_ hk, Kd.fresh' (Kd.R_lt au2_6) k_ hk, Kd.fresh' (Kd.R_lt au2_7) k_ hk⟩)); (case aO => exact (by (with_reducible repeat (first | apply Kd.R_alloc | apply Kd.R_drewN | apply Kd.R_drew)); exact HO189.out)); (case aS => exact (below_size au2_0)); (case aL => have := LMc33.out; omega); intro v191 w49 ho hb hg hat; rw [← Ny190.out] at ho; have n0_ := Aside0.mk (Kd.R_after (ok := (fun k_ => some k_ ≠ (.slice (some ⟨go25, 0, none⟩) y166.length co41 : Value).ownBlock ∧ some k_ ≠ (v173 : Value).ownBlock ∧ some k_ ≠ (v181 : Value).ownBlock ∧ some k_ ≠ (v185 : Value).ownBlock)) au2_10 hg hat); have n1_ := Aside0.mk (Kd.R_after (ok := (fun k_ => some k_ ≠ (.slice Ao40 t162.length co40 : Value).ownBlock ∧ some k_ ≠ (v173 : Value).ownBlock ∧ some k_ ≠ (v181 : Value).ownBlock ∧ some k_ ≠ (v185 : Value).ownBlock)) (by (with_reducible repeat (first | apply Kd.R_alloc | apply Kd.R_drewN | apply Kd.R_drew)); exact Kd.R_mono HO168.out (fun _ hk => ⟨⟨hk.1.1.1.1, ⟨hk.1.1.1.2, ⟨hk.1.1.2, hk.1.2⟩⟩⟩, hk.2⟩)) hg hat); have n2_ := Aside0.mk (Kd.R_after (ok := (fun k_ => some k_ ≠ (.slice Ao40 t162.length co40 : Value).ownBlock ∧ some k_ ≠ (.slice (some ⟨go25, 0, none⟩) y166.length co41 : Value).ownBlock ∧ some k_ ≠ (v181 : Value).ownBlock ∧ some k_ ≠ (v185 : Value).ownBlock)) (by (with_reducible repeat (first | apply Kd.R_alloc | apply Kd.R_drewN | apply Kd.R_drew)); exact Kd.R_mono HO174.out (fun _ hk => ⟨⟨hk.1.1.1.1.2, ⟨hk.1.1.1.2, ⟨hk.1.1.2, hk.1.2⟩⟩⟩, hk.2⟩)) hg hat); have n3_ := Aside0.mk (Kd.R_after (ok := (fun k_ => some k_ ≠ (.slice Ao40 t162.length co40 : Value).ownBlock ∧ some k_ ≠ (.slice (some ⟨go25, 0, none⟩) y166.length co41 : Value).ownBlock ∧ some k_ ≠ (v173 : Value).ownBlock ∧ some k_ ≠ (v185 : Value).ownBlock)) (by (with_reducible repeat (first | apply Kd.R_alloc | apply Kd.R_drewN | apply Kd.R_drew)); exact Kd.R_mono HO182.out (fun _ hk => ⟨⟨hk.1.1.1.1.2, ⟨hk.1.1.1.2, ⟨hk.1.1.2, hk.1.2⟩⟩⟩, hk.2⟩)) hg hat); have n4_ := Aside0.mk (Kd.R_after (ok := (fun k_ => some k_ ≠ (.slice Ao40 t162.length co40 : Value).ownBlock ∧ some k_ ≠ (.slice (some ⟨go25, 0, none⟩) y166.length co41 : Value).ownBlock ∧ some k_ ≠ (v173 : Value).ownBlock ∧ some k_ ≠ (v181 : Value).ownBlock)) (by (with_reducible repeat (first | apply Kd.R_alloc | apply Kd.R_drewN | apply Kd.R_drew)); exact Kd.R_mono HO186.out (fun _ hk => ⟨⟨hk.1.1.1.1.2, ⟨hk.1.1.1.2, ⟨hk.1.1.2, hk.1.2⟩⟩⟩, hk.2⟩)) hg hat); have n5_ := Aside0.mk (hb); have n6_ := Aside0.mk ((show Kd.C (Kd.int .u8) w49 Ao40 y175.length y175 from by rw [Ny175.out]; exact Kd.C_take (m := ((ji28) : Int).toNat) ((Kd.R_reads' (Kd.R_after (ok := (fun k_ => some k_ ≠ (.slice (some ⟨go25, 0, none⟩) y166.length co41 : Value).ownBlock ∧ some k_ ≠ (v173 : Value).ownBlock ∧ some k_ ≠ (v181 : Value).ownBlock ∧ some k_ ≠ (v185 : Value).ownBlock)) au2_10 hg hat)).2.2) KL45.out)); have n7_ := Aside0.mk (ho); clear HO_11; clear HO168; clear HO174; clear HO182; clear HO186; clear HB; clear HR178; clear HO189; have HO_11 := n0_; have HO168 := n1_; have HO174 := n2_; have HO182 := n3_; have HO186 := n4_; have HB := n5_; have HR178 := n6_; have HO192 := n7_; clear n0_ n1_ n2_ n3_ n4_ n5_ n6_ n7_; clear ho hb hg hat; obtain ⟨Ao50, co50, eo50⟩ := Kd.R_slice HO192.out; subst eo50) | ((with_reducible refine gate_callee (f := 9) rfl ?_); refine goesL_ (some 91) rfl rfl Try.func9 (by kernel_rfl) rfl #[.slice Ao50 y190.length co50] rfl au2_5 ?_; (with_reducible refine (check_Open.calls kj11 _ _ y190 t193 t194 _ ?side1 ?side2 A34.out).mono ?_); (case side1 => repeat (first | exact (Kd.R_reads' HO192.out).2.2 | (with_reducible refine Kd.C_alloc ?_ _) | (with_reducible refine Kd.C_drewN ?_ _) | (with_reducible refine Kd.C_drew ?_))); (case side2 => exact (Kd.R_reads' HO192.out).2.1); rintro e w51 ⟨v195, rfl, ho0, hb⟩; refine ⟨_, rfl, ?_⟩; have n0_ := Aside0.mk (Kd.R_elder' au2_1 (Kd.R_base ho0) hb); have n1_ := Aside0.mk (Kd.R_elder' au2_2 (Kd.R_base ho0) hb); have n2_ := Aside0.mk (Kd.R_elder' au2_4 (Kd.R_base ho0) hb); have n3_ := Aside0.mk (Kd.R_elder' au2_6 (Kd.R_base ho0) hb); have n4_ := Aside0.mk (Kd.R_elder' au2_7 (Kd.R_base ho0) hb); have n5_ := Aside0.mk (Kd.R_elder' au2_9 (Kd.R_base ho0) hb); have n6_ := Aside0.mk (Kd.R_lower (Kd.R_new' (Kd.R_new' (Kd.R_new' (Kd.R_new' (Kd.R_new' (Kd.R_new' ho0 (Kd.R_lt au2_1)) (Kd.R_lt au2_2)) (Kd.R_lt au2_4)) (Kd.R_lt au2_6)) (Kd.R_lt au2_7)) (Kd.R_lt au2_9)) (below_size au2_0)); have n7_ := Aside0.mk (Kd.C_below au2_3 hb); have n8_ := Aside0.mk (below_step au2_0 hb); clear HO_11; clear HO168; clear HO174; clear HO182; clear HO186; clear HO192; clear HR178; clear HB; have HO_11 := n0_; have HO168 := n1_; have HO174 := n2_; have HO182 := n3_; have HO186 := n4_; have HO192 := n5_; have HO196 := n6_; have HR178 := n7_; have HB := n8_; clear n0_ n1_ n2_ n3_ n4_ n5_ n6_ n7_ n8_; (try clear hb); (try clear hb2); (try clear hk); (try clear hi); (try clear ho0)) | ((with_reducible refine gate_callee (f := 10) rfl ?_); refine goesL_ (some 96) rfl rfl Try.func10 (by kernel_rfl) rfl #[.slice Ao50 y190.length co50] rfl au2_5 ?_; (with_reducible refine (joustref12_Open.calls kj11 _ _ y190 t197 t198 _ ?side1 ?side2 A35.out).mono ?_); (case side1 => repeat (first | exact (Kd.R_reads' HO192.out).2.2 | (with_reducible refine Kd.C_alloc ?_ _) | (with_reducible refine Kd.C_drewN ?_ _) | (with_reducible refine Kd.C_drew ?_))); (case side2 => exact (Kd.R_reads' HO192.out).2.1); rintro e w52 ⟨v199, rfl, ho0, hb⟩; refine ⟨_, rfl, ?_⟩; have n0_ := Aside0.mk (Kd.R_elder' au2_1 (Kd.R_base ho0) hb); have n1_ := Aside0.mk (Kd.R_elder' au2_2 (Kd.R_base ho0) hb); have n2_ := Aside0.mk (Kd.R_elder' au2_4 (Kd.R_base ho0) hb); have n3_ := Aside0.mk (Kd.R_elder' au2_6 (Kd.R_base ho0) hb); have n4_ := Aside0.mk (Kd.R_elder' au2_7 (Kd.R_base ho0) hb); have n5_ := Aside0.mk (Kd.R_elder' au2_9 (Kd.R_base ho0) hb); have n6_ := Aside0.mk (Kd.R_elder' (by (with_reducible repeat (first | apply Kd.R_alloc | apply Kd.R_drewN | apply Kd.R_drew)); exact HO196.out) (Kd.R_base ho0) hb); have n7_ := Aside0.mk (Kd.R_lower (Kd.R_new' (Kd.R_new' (Kd.R_new' (Kd.R_new' (Kd.R_new' (Kd.R_new' (Kd.R_new' ho0 (Kd.R_lt au2_1)) (Kd.R_lt au2_2)) (Kd.R_lt au2_4)) (Kd.R_lt au2_6)) (Kd.R_lt au2_7)) (Kd.R_lt au2_9)) (Kd.R_lt (by (with_reducible repeat (first | apply Kd.R_alloc | apply Kd.R_drewN | apply Kd.R_drew)); exact HO196.out))) (below_size au2_0)); have n8_ := Aside0.mk (Kd.C_below au2_3 hb); have n9_ := Aside0.mk (below_step au2_0 hb); clear HO_11; clear HO168; clear HO174; clear HO182; clear HO186; clear HO192; clear HO196; clear HR178; clear HB; have HO_11 := n0_; have HO168 := n1_; have HO174 := n2_; have HO182 := n3_; have HO186 := n4_; have HO192 := n5_; have HO196 := n6_; have HO200 := n7_; have HR178 := n8_; have HB := n9_; clear n0_ n1_ n2_ n3_ n4_ n5_ n6_ n7_ n8_ n9_; (try clear hb); (try clear hb2); (try clear hk); (try clear hi); (try clear ho0)))
                                    go_ret
                                    exact ⟨by first | rfl | (simp [errW_none, errW_some] <;> rfl) | (simp only [← hji22, ← hji28]; first | rfl | (simp [errW_none, errW_some] <;> rfl)) | (simp [*, errW_none, errW_some] <;> rfl), au2_0⟩
                                  · rw [if_neg c38] at H
                                    have c38b0 : (t180 == t184) = false := beq_eq_false_iff_ne.mpr c38
                                    have c38b1 : (t180 != t184) = true := bne_iff_ne.mpr c38
                                    exact absurd (H.trans (congrArg some hr_.out)) (by decide)
                                · rw [if_neg c37] at H
                                  have c37b0 : (a2 == 0) = false := beq_eq_false_iff_ne.mpr c37
                                  have c37y0 : (t172 == 0) = false := by have h_ := c36b0; rw [c37b0] at h_; simpa using h_
                                  have c37y1 : (t172 != 0) = true := by simpa using c37y0
                                  clear c36b0 c36b1 c36b2
                                  have c37b1 : (a2 != 0) = true := bne_iff_ne.mpr c37
                                  by_cases c53 : t172 = 9
                                  · rw [if_pos c53] at H
                                    have c53b0 : (t172 == 9) = true := beq_iff_eq.mpr c53
                                    have c53b1 : (t172 != 9) = false := bne_eq_false_iff_eq.mpr c53
                                    clear c53
                                    by_cases c54 : t180 = t184
                                    · rw [if_pos c54] at H
                                      have c54b0 : (t180 == t184) = true := beq_iff_eq.mpr c54
                                      have c54b1 : (t180 != t184) = false := bne_eq_false_iff_eq.mpr c54
                                      clear c54
                                      obtain rfl := Option.some.inj H
                                      (try (have hq1_ := beq_iff_eq.mp hr_.out; have hq0_ := hr_.out; have hq2_ := bne_eq_false_iff_eq.mpr hq1_))
                                      obtain ⟨Ao56, co56, eo56⟩ := Kd.R_slice HO_11.out
                                      subst eo56
                                      go_wp2_with (first | ((with_reducible refine gate_builtin (b := .append) (xs := #[.const (.slice none 0 0), .tmp 46]) rfl ?_); (try (refine gate_guard (by rfl) ?_; dsimp only)); at_builtin; refine Kd.R_append_rows (Kd.int .u8) (w0 := w) w.heap.size rfl (.const (.slice none 0 0)) (.tmp 46) 22 5 (.int .u8 0) 1 rfl Try.underlying22 info5 rfl (by decide) (by omega) (.slice none 0 0) ([] : List Int) t162 _ _ _ (fun k_ => some k_ ≠ (.slice Ao56 t162.length co56 : Value).ownBlock) (fun _ => False) rfl rfl ?aO ?aR (fun _ _ h => h) (fun _ h => h.elim) ?aF ?aB ?aS ?aL ?_; (case aR => repeat (first | exact (Kd.R_reads' HO_11.out).2.2 | (with_reducible refine Kd.C_alloc ?_ _) | (with_reducible refine Kd.C_drewN ?_ _) | (with_reducible refine Kd.C_drew ?_))); (case aB => exact au2_0); (case aF => exact (fun k_ hk => Kd.fresh' (Kd.R_lt au2_1) k_ hk)); (case aO => exact ((Kd.R_nil _ _ _ _ (fun k_ => some k_ ≠ (.slice Ao56 t162.length co56 : Value).ownBlock)))); (case aS => exact (below_size au2_0)); (case aL => have := LMc20.out; omega); intro v167 w55 ho hb hg hat; rw [← Ny166.out] at ho; have n0_ := Aside0.mk (Kd.R_after (Kd.R_apart_nil au2_1) hg hat); have n1_ := Aside0.mk (hb); have n2_ := Aside0.mk (ho); clear HO_11; clear HB; have HO_11 := n0_; have HB := n1_; have HO168 := n2_; clear n0_ n1_ n2_; clear ho hb hg hat; obtain ⟨Ao57, co57, eo57⟩ := Kd.R_slice HO168.out; subst eo57; have p169 : 0 ≤ ((ji22) : Int) := of_decide_eq_true au2_8; have q169 : (ji22) < (y166.length : Int) := of_decide_eq_true au2_8; obtain ⟨ad169, e169, hx169_0⟩ := Kd.at_int (Kd.R_reads' HO168.out).2.2 (ji22) p169 q169; cases e169; replace p169 := eq_true p169; replace q169 := eq_true q169; have p25 : 0 ≤ ((ji22) : Int) := of_decide_eq_true au2_8; have q25 : ((ji22) : Int) < ((y166.length : Int) : Int) := of_decide_eq_true au2_8; obtain ⟨go25, co25, eo25, gb25, gl25, cl25, HG25⟩ := Kd.R_form HO168.out (by omega); (first | cases eo25 | (injection eo25 with ea_ en_ ec_; (first | subst ea_ | (injection ea_ with ea_; subst ea_)); subst ec_; clear en_)); have GB25 := Aside0.mk gb25; have GG25 := Aside0.mk HG25; clear gb25 gl25 HG25; (first | simp only [add_plain] at hx169_0 | skip); obtain ⟨hx25_0, hf25_0⟩ := Kd.R_celln 0 HO168.out ((ji22) : Int) p25 q25; replace p25 := eq_true p25; replace q25 := eq_true q25; obtain ⟨hy58_, hz58_⟩ := Kd.R_celln 0 HO168.out ((ji22) : Int) (of_decide_eq_true au2_8) (of_decide_eq_true au2_8); have HP58 := Kd.R_putg HO168.out ((ji22) : Int) (Go.bits .xor .u8 (rd y166 (ji22)) a2)) | ((with_reducible refine gate_store (t := 5) (p := 60) rfl ?_); refine store_event (t := 5) (p := 60) (v := ?vo_w59) (w1 := (w55.setCell ⟨go25, ((ji22) : Int).toNat, none⟩ (.int .u8 (Go.bits .xor .u8 (rd y166 (ji22)) a2)))) ?hg ?ho ?hn ?hr ?_; (case ho => rfl); (case hg => rfl); (case hn => rfl); (case hr => first | (go_simp; done) | (go_simp; rfl)); intro w59 hw; have hg : w55.grownBy w59 (some go25) := (by rw [hw]; exact HP58.2); have hp_ : Kd.R (Kd.int .u8) 5 w59 w.heap.size (fun k_ => some k_ ≠ (.slice Ao56 t162.length co56 : Value).ownBlock) (.slice (some ⟨go25, 0, none⟩) y166.length co57) y170 := (by rw [hw, Ny170.out]; exact HP58.1); clear HP58; have n0_ := Aside0.mk (Kd.R_after (v := (.slice (some ⟨go25, 0, none⟩) y166.length co57)) (v1 := (.slice (some ⟨go25, 0, none⟩) y166.length co57)) (ok := (fun _ => True)) au2_1 hg (.inl rfl)); have n1_ := Aside0.mk (hp_); have n2_ := Aside0.mk ((by rw [hw]; exact below_set (HB.out) GB25.out : Below w.heap.size w w59)); clear HO_11; clear HO168; clear HB; have HO_11 := n0_; have HO168 := n1_; have HB := n2_; clear n0_ n1_ n2_; clear hg hw hp_) | ((with_reducible refine gate_callee (f := 9) rfl ?_); refine goesL_ (some 63) rfl rfl Try.func9 (by kernel_rfl) rfl #[.slice (some ⟨go25, 0, none⟩) y170.length co57] rfl (by (try simp only [List.map_toArray, List.map_cons, List.map_nil]); first | done | (rw [show y170.length = y166.length from (Kd.R_reads' HO168.out).1.symm] <;> rfl) | rfl | (simp only [List.length_drop, List.length_take]; rfl)) ?_; (with_reducible refine (check_Open.calls kj11 _ _ y170 t171 t172 _ ?side1 ?side2 A26.out).mono ?_); (case side1 => repeat (first | exact (Kd.R_reads' HO168.out).2.2 | (with_reducible refine Kd.C_alloc ?_ _) | (with_reducible refine Kd.C_drewN ?_ _) | (with_reducible refine Kd.C_drew ?_))); (case side2 => rw [show y170.length = y166.length from (Kd.R_reads' HO168.out).1.symm]; exact (Kd.R_reads' HO168.out).2.1); rintro e w60 ⟨v173, rfl, ho0, hb⟩; refine ⟨_, rfl, ?_⟩; have n0_ := Aside0.mk (Kd.R_elder' au2_1 (Kd.R_base ho0) hb); have n1_ := Aside0.mk (Kd.R_elder' au2_2 (Kd.R_base ho0) hb); have n2_ := Aside0.mk (Kd.R_lower (Kd.R_new' (Kd.R_new' ho0 (Kd.R_lt au2_1)) (Kd.R_lt au2_2)) (below_size au2_0)); have n3_ := Aside0.mk (below_step au2_0 hb); clear HO_11; clear HO168; clear HB; have HO_11 := n0_; have HO168 := n1_; have HO174 := n2_; have HB := n3_; clear n0_ n1_ n2_ n3_; (try clear hb); (try clear hb2); (try clear hk); (try clear hi); (try clear ho0); have q61 : ((ji28) : Int) ≤ ((t162.length : Int) : Int) := of_decide_eq_true au2_8; obtain ⟨i061, hi061, _, hsz61, _⟩ := info_parts info5; have hroom61 : t162.length ≤ co56 := (Kd.R_reads' HO_11.out).2.1; have hC61 : Kd.C (Kd.int .u8) _ Ao56 t162.length t162 := (Kd.R_reads' HO_11.out).2.2; have hcut61 := cut_to (P := Try.prog) 22 5 .i64 Try.underlying22 hi061 Ao56 t162.length co56 (ji28) (of_decide_eq_true au2_8) q61 hroom61; have hr61 := Kd.C_take (m := ((ji28) : Int).toNat) hC61 (by omega); have hy61 : y175.length = ((ji28) : Int).toNat := (by rw [Ny175.out, List.length_take]; omega); rw [← Ny175.out] at hr61; rw [← hy61] at hcut61; have HR178 := Aside0.mk hr61; have HC178 := Aside0.mk (show y175.length ≤ co56 from by omega); clear hr61 hC61 hroom61 hi061 hsz61; have KY61 := Aside0.mk hy61; clear hy61; have KL61 := Aside0.mk (show ((ji28) : Int).toNat ≤ t162.length from by omega); replace q61 := eq_true q61) | ((with_reducible refine gate_callee (f := 9) rfl ?_); refine goesL_ (some 77) rfl rfl Try.func9 (by kernel_rfl) rfl #[.slice Ao56 y175.length co56] rfl au2_5 ?_; (with_reducible refine (check_Open.calls kj11 _ _ y175 t179 t180 _ ?side1 ?side2 A31.out).mono ?_); (case side1 => repeat (first | exact au2_3 | (with_reducible refine Kd.C_alloc ?_ _) | (with_reducible refine Kd.C_drewN ?_ _) | (with_reducible refine Kd.C_drew ?_))); (case side2 => exact HC178.out); rintro e w62 ⟨v181, rfl, ho0, hb⟩; refine ⟨_, rfl, ?_⟩; have n0_ := Aside0.mk (Kd.R_elder' au2_1 (Kd.R_base ho0) hb); have n1_ := Aside0.mk (Kd.R_elder' au2_2 (Kd.R_base ho0) hb); have n2_ := Aside0.mk (Kd.R_elder' au2_4 (Kd.R_base ho0) hb); have n3_ := Aside0.mk (Kd.R_lower (Kd.R_new' (Kd.R_new' (Kd.R_new' ho0 (Kd.R_lt au2_1)) (Kd.R_lt au2_2)) (Kd.R_lt au2_4)) (below_size au2_0)); have n4_ := Aside0.mk (Kd.C_below au2_3 hb); have n5_ := Aside0.mk (below_step au2_0 hb); clear HO_11; clear HO168; clear HO174; clear HR178; clear HB; have HO_11 := n0_; have HO168 := n1_; have HO174 := n2_; have HO182 := n3_; have HR178 := n4_; have HB := n5_; clear n0_ n1_ n2_ n3_ n4_ n5_; (try clear hb); (try clear hb2); (try clear hk); (try clear hi); (try clear ho0)) | ((with_reducible refine gate_callee (f := 10) rfl ?_); refine goesL_ (some 82) rfl rfl Try.func10 (by kernel_rfl) rfl #[.slice Ao56 y175.length co56] rfl au2_5 ?_; (with_reducible refine (joustref12_Open.calls kj11 _ _ y175 t183 t184 _ ?side1 ?side2 A32.out).mono ?_); (case side1 => repeat (first | exact au2_3 | (with_reducible refine Kd.C_alloc ?_ _) | (with_reducible refine Kd.C_drewN ?_ _) | (with_reducible refine Kd.C_drew ?_))); (case side2 => exact HC178.out); rintro e w63 ⟨v185, rfl, ho0, hb⟩; refine ⟨_, rfl, ?_⟩; have n0_ := Aside0.mk (Kd.R_elder' au2_1 (Kd.R_base ho0) hb); have n1_ := Aside0.mk (Kd.R_elder' au2_2 (Kd.R_base ho0) hb); have n2_ := Aside0.mk (Kd.R_elder' au2_4 (Kd.R_base ho0) hb); have n3_ := Aside0.mk (Kd.R_elder' au2_6 (Kd.R_base ho0) hb); have n4_ := Aside0.mk (Kd.R_lower (Kd.R_new' (Kd.R_new' (Kd.R_new' (Kd.R_new' ho0 (Kd.R_lt au2_1)) (Kd.R_lt au2_2)) (Kd.R_lt au2_4)) (Kd.R_lt au2_6)) (below_size au2_0)); have n5_ := Aside0.mk (Kd.C_below au2_3 hb); have n6_ := Aside0.mk (below_step au2_0 hb); clear HO_11; clear HO168; clear HO174; clear HO182; clear HR178; clear HB; have HO_11 := n0_; have HO168 := n1_; have HO174 := n2_; have HO182 := n3_; have HO186 := n4_; have HR178 := n5_; have HB := n6_; clear n0_ n1_ n2_ n3_ n4_ n5_ n6_; (try clear hb); (try clear hb2); (try clear hk); (try clear hi); (try clear ho0)) | ((with_reducible refine gate_builtin (b := .append) (xs := #[.const (.slice none 0 0), .tmp 85]) rfl ?_); (try (refine gate_guard (by rfl) ?_; dsimp only)); at_builtin; refine Kd.R_append_rows (Kd.int .u8) (w0 := w) w.heap.size rfl (.const (.slice none 0 0)) (.tmp 85) 22 5 (.int .u8 0) 1 rfl Try.underlying22 info5 rfl (by decide) (by omega) (.slice none 0 0) ([] : List Int) t162 _ _ _ (fun k_ => some k_ ≠ (.slice Ao56 t162.length co56 : Value).ownBlock ∧ some k_ ≠ (.slice (some ⟨go25, 0, none⟩) y166.length co57 : Value).ownBlock ∧ some k_ ≠ (v173 : Value).ownBlock ∧ some k_ ≠ (v181 : Value).ownBlock ∧ some k_ ≠ (v185 : Value).ownBlock) (fun _ => False) rfl rfl ?aO ?aR (fun _ _ h => h) (fun _ h => h.elim) ?aF ?aB ?aS ?aL ?_; (case aR => repeat (first | exact (Kd.R_reads' HO_11.out).2.2 | (with_reducible refine Kd.C_alloc ?_ _) | (with_reducible refine Kd.C_drewN ?_ _) | (with_reducible refine Kd.C_drew ?_))); (case aB => exact au2_0); (case aF => exact (fun k_ hk => ⟨Kd.fresh' (Kd.R_lt au2_1) k_ hk, Kd.fresh' (Kd.R_lt au2_2) k_ hk, Kd.fresh' (Kd.R_lt au2_4) k_ hk, Kd.fresh' (Kd.R_lt au2_6) k_ hk, Kd.fresh' (Kd.R_lt au2_7) k_ hk⟩)); (case aO => exact ((Kd.R_nil _ _ _ _ (fun k_ => some k_ ≠ (.slice Ao56 t162.length co56 : Value).ownBlock ∧ some k_ ≠ (.slice (some ⟨go25, 0, none⟩) y166.length co57 : Value).ownBlock ∧ some k_ ≠ (v173 : Value).ownBlock ∧ some k_ ≠ (v181 : Value).ownBlock ∧ some k_ ≠ (v185 : Value).ownBlock)))); (case aS => exact (below_size au2_0)); (case aL => have := LMc20.out; omega); intro v188 w64 ho hb hg hat; rw [← Ny187.out] at ho; have n0_ := Aside0.mk (Kd.R_after (Kd.R_apart_nil au2_1) hg hat); have n1_ := Aside0.mk (Kd.R_after (Kd.R_apart_nil au2_2) hg hat); have n2_ := Aside0.mk (Kd.R_after (Kd.R_apart_nil au2_4) hg hat); have n3_ := Aside0.mk (Kd.R_after (Kd.R_apart_nil au2_6) hg hat); have n4_ := Aside0.mk (Kd.R_after (Kd.R_apart_nil au2_7) hg hat); have n5_ := Aside0.mk (hb); have n6_ := Aside0.mk ((show Kd.C (Kd.int .u8) w64 Ao56 y175.length y175 from by rw [Ny175.out]; exact Kd.C_take (m := ((ji28) : Int).toNat) ((Kd.R_reads' (Kd.R_after (Kd.R_apart_nil au2_1) hg hat)).2.2) KL61.out)); have n7_ := Aside0.mk (ho); clear HO_11; clear HO168; clear HO174; clear HO182; clear HO186; clear HB; clear HR178; have HO_11 := n0_; have HO168 := n1_; have HO174 := n2_; have HO182 := n3_; have HO186 := n4_; have HB := n5_; have HR178 := n6_; have HO189 := n7_; clear n0_ n1_ n2_ n3_ n4_ n5_ n6_ n7_; clear ho hb hg hat) | ((with_reducible refine gate_builtin (b := .append) (xs := #[.tmp 86, .tmp 87]) rfl ?_); (try (refine gate_guard (by rfl) ?_; dsimp only)); at_builtin; refine Kd.R_append_rows (Kd.int .u8) (w0 := w) w.heap.size rfl (.tmp 86) (.tmp 87) 22 5 (.int .u8 0) 1 rfl Try.underlying22 info5 rfl (by decide) (by omega) v188 y187 l4 _ _ _ (fun k_ => some k_ ≠ (.slice Ao56 t162.length co56 : Value).ownBlock ∧ some k_ ≠ (.slice (some ⟨go25, 0, none⟩) y166.length co57 : Value).ownBlock ∧ some k_ ≠ (v173 : Value).ownBlock ∧ some k_ ≠ (v181 : Value).ownBlock ∧ some k_ ≠ (v185 : Value).ownBlock) (fun _ => False) rfl rfl ?aO ?aR (fun _ _ h => h) (fun _ h => h.elim) ?aF ?aB ?aS ?aL ?_; (case aR => repeat (first | exact (Kd.C_below HR4.out HB.out) | (with_reducible refine Kd.C_alloc ?_ _) | (with_reducible refine Kd.C_drewN ?_ _) | (with_reducible refine Kd.C_drew ?_))); (case aB => exact au2_0); (case aF => exact (fun k_ hk => ⟨Kd.fresh' (Kd.R_lt au2_1) k_ hk, Kd.fresh' (Kd.R_lt au2_2) k_ hk, Kd.fresh' (Kd.R_lt au2_4) k_ hk, Kd.fresh' (Kd.R_lt au2_6) k_ hk, Kd.fresh' (Kd.R_lt au2_7) k_ hk⟩)); (case aO => exact (by (with_reducible repeat (first | apply Kd.R_alloc | apply Kd.R_drewN | apply Kd.R_drew)); exact HO189.out)); (case aS => exact (below_size au2_0)); (case aL => have := LMc33.out; omega); intro v191 w65 ho hb hg hat; rw [← Ny190.out] at ho; have n0_ := Aside0.mk (Kd.R_after (ok := (fun k_ => some k_ ≠ (.slice (some ⟨go25, 0, none⟩) y166.length co57 : Value).ownBlock ∧ some k_ ≠ (v173 : Value).ownBlock ∧ some k_ ≠ (v181 : Value).ownBlock ∧ some k_ ≠ (v185 : Value).ownBlock)) au2_10 hg hat); have n1_ := Aside0.mk (Kd.R_after (ok := (fun k_ => some k_ ≠ (.slice Ao56 t162.length co56 : Value).ownBlock ∧ some k_ ≠ (v173 : Value).ownBlock ∧ some k_ ≠ (v181 : Value).ownBlock ∧ some k_ ≠ (v185 : Value).ownBlock)) (by (with_reducible repeat (first | apply Kd.R_alloc | apply Kd.R_drewN | apply Kd.R_drew)); exact Kd.R_mono HO168.out (fun _ hk => ⟨⟨hk.1.1.1.1, ⟨hk.1.1.1.2, ⟨hk.1.1.2, hk.1.2⟩⟩⟩, hk.2⟩)) hg hat); have n2_ := Aside0.mk (Kd.R_after (ok := (fun k_ => some k_ ≠ (.slice Ao56 t162.length co56 : Value).ownBlock ∧ some k_ ≠ (.slice (some ⟨go25, 0, none⟩) y166.length co57 : Value).ownBlock ∧ some k_ ≠ (v181 : Value).ownBlock ∧ some k_ ≠ (v185 : Value).ownBlock)) (by (with_reducible repeat (first | apply Kd.R_alloc | apply Kd.R_drewN | apply Kd.R_drew)); exact Kd.R_mono HO174.out (fun _ hk => ⟨⟨hk.1.1.1.1.2, ⟨hk.1.1.1.2, ⟨hk.1.1.2, hk.1.2⟩⟩⟩, hk.2⟩)) hg hat); have n3_ := Aside0.mk (Kd.R_after (ok := (fun k_ => some k_ ≠ (.slice Ao56 t162.length co56 : Value).ownBlock ∧ some k_ ≠ (.slice (some ⟨go25, 0, none⟩) y166.length co57 : Value).ownBlock ∧ some k_ ≠ (v173 : Value).ownBlock ∧ some k_ ≠ (v185 : Value).ownBlock)) (by (with_reducible repeat (first | apply Kd.R_alloc | apply Kd.R_drewN | apply Kd.R_drew)); exact Kd.R_mono HO182.out (fun _ hk => ⟨⟨hk.1.1.1.1.2, ⟨hk.1.1.1.2, ⟨hk.1.1.2, hk.1.2⟩⟩⟩, hk.2⟩)) hg hat); have n4_ := Aside0.mk (Kd.R_after (ok := (fun k_ => some k_ ≠ (.slice Ao56 t162.length co56 : Value).ownBlock ∧ some k_ ≠ (.slice (some ⟨go25, 0, none⟩) y166.length co57 : Value).ownBlock ∧ some k_ ≠ (v173 : Value).ownBlock ∧ some k_ ≠ (v181 : Value).ownBlock)) (by (with_reducible repeat (first | apply Kd.R_alloc | apply Kd.R_drewN | apply Kd.R_drew)); exact Kd.R_mono HO186.out (fun _ hk => ⟨⟨hk.1.1.1.1.2, ⟨hk.1.1.1.2, ⟨hk.1.1.2, hk.1.2⟩⟩⟩, hk.2⟩)) hg hat); have n5_ := Aside0.mk (hb); have n6_ := Aside0.mk ((show Kd.C (Kd.int .u8) w65 Ao56 y175.length y175 from by rw [Ny175.out]; exact Kd.C_take (m := ((ji28) : Int).toNat) ((Kd.R_reads' (Kd.R_after (ok := (fun k_ => some k_ ≠ (.slice (some ⟨go25, 0, none⟩) y166.length co57 : Value).ownBlock ∧ some k_ ≠ (v173 : Value).ownBlock ∧ some k_ ≠ (v181 : Value).ownBlock ∧ some k_ ≠ (v185 : Value).ownBlock)) au2_10 hg hat)).2.2) KL61.out)); have n7_ := Aside0.mk (ho); clear HO_11; clear HO168; clear HO174; clear HO182; clear HO186; clear HB; clear HR178; clear HO189; have HO_11 := n0_; have HO168 := n1_; have HO174 := n2_; have HO182 := n3_; have HO186 := n4_; have HB := n5_; have HR178 := n6_; have HO192 := n7_; clear n0_ n1_ n2_ n3_ n4_ n5_ n6_ n7_; clear ho hb hg hat; obtain ⟨Ao66, co66, eo66⟩ := Kd.R_slice HO192.out; subst eo66) | ((with_reducible refine gate_callee (f := 9) rfl ?_); refine goesL_ (some 91) rfl rfl Try.func9 (by kernel_rfl) rfl #[.slice Ao66 y190.length co66] rfl au2_5 ?_; (with_reducible refine (check_Open.calls kj11 _ _ y190 t193 t194 _ ?side1 ?side2 A34.out).mono ?_); (case side1 => repeat (first | exact (Kd.R_reads' HO192.out).2.2 | (with_reducible refine Kd.C_alloc ?_ _) | (with_reducible refine Kd.C_drewN ?_ _) | (with_reducible refine Kd.C_drew ?_))); (case side2 => exact (Kd.R_reads' HO192.out).2.1); rintro e w67 ⟨v195, rfl, ho0, hb⟩; refine ⟨_, rfl, ?_⟩; have n0_ := Aside0.mk (Kd.R_elder' au2_1 (Kd.R_base ho0) hb); have n1_ := Aside0.mk (Kd.R_elder' au2_2 (Kd.R_base ho0) hb); have n2_ := Aside0.mk (Kd.R_elder' au2_4 (Kd.R_base ho0) hb); have n3_ := Aside0.mk (Kd.R_elder' au2_6 (Kd.R_base ho0) hb); have n4_ := Aside0.mk (Kd.R_elder' au2_7 (Kd.R_base ho0) hb); have n5_ := Aside0.mk (Kd.R_elder' au2_9 (Kd.R_base ho0) hb); have n6_ := Aside0.mk (Kd.R_lower (Kd.R_new' (Kd.R_new' (Kd.R_new' (Kd.R_new' (Kd.R_new' (Kd.R_new' ho0 (Kd.R_lt au2_1)) (Kd.R_lt au2_2)) (Kd.R_lt au2_4)) (Kd.R_lt au2_6)) (Kd.R_lt au2_7)) (Kd.R_lt au2_9)) (below_size au2_0)); have n7_ := Aside0.mk (Kd.C_below au2_3 hb); have n8_ := Aside0.mk (below_step au2_0 hb); clear HO_11; clear HO168; clear HO174; clear HO182; clear HO186; clear HO192; clear HR178; clear HB; have HO_11 := n0_; have HO168 := n1_; have HO174 := n2_; have HO182 := n3_; have HO186 := n4_; have HO192 := n5_; have HO196 := n6_; have HR178 := n7_; have HB := n8_; clear n0_ n1_ n2_ n3_ n4_ n5_ n6_ n7_ n8_; (try clear hb); (try clear hb2); (try clear hk); (try clear hi); (try clear ho0)) | ((with_reducible refine gate_callee (f := 10) rfl ?_); refine goesL_ (some 96) rfl rfl Try.func10 (by kernel_rfl) rfl #[.slice Ao66 y190.length co66] rfl au2_5 ?_; (with_reducible refine (joustref12_Open.calls kj11 _ _ y190 t197 t198 _ ?side1 ?side2 A35.out).mono ?_); (case side1 => repeat (first | exact (Kd.R_reads' HO192.out).2.2 | (with_reducible refine Kd.C_alloc ?_ _) | (with_reducible refine Kd.C_drewN ?_ _) | (with_reducible refine Kd.C_drew ?_))); (case side2 => exact (Kd.R_reads' HO192.out).2.1); rintro e w68 ⟨v199, rfl, ho0, hb⟩; refine ⟨_, rfl, ?_⟩; have n0_ := Aside0.mk (Kd.R_elder' au2_1 (Kd.R_base ho0) hb); have n1_ := Aside0.mk (Kd.R_elder' au2_2 (Kd.R_base ho0) hb); have n2_ := Aside0.mk (Kd.R_elder' au2_4 (Kd.R_base ho0) hb); have n3_ := Aside0.mk (Kd.R_elder' au2_6 (Kd.R_base ho0) hb); have n4_ := Aside0.mk (Kd.R_elder' au2_7 (Kd.R_base ho0) hb); have n5_ := Aside0.mk (Kd.R_elder' au2_9 (Kd.R_base ho0) hb); have n6_ := Aside0.mk (Kd.R_elder' (by (with_reducible repeat (first | apply Kd.R_alloc | apply Kd.R_drewN | apply Kd.R_drew)); exact HO196.out) (Kd.R_base ho0) hb); have n7_ := Aside0.mk (Kd.R_lower (Kd.R_new' (Kd.R_new' (Kd.R_new' (Kd.R_new' (Kd.R_new' (Kd.R_new' (Kd.R_new' ho0 (Kd.R_lt au2_1)) (Kd.R_lt au2_2)) (Kd.R_lt au2_4)) (Kd.R_lt au2_6)) (Kd.R_lt au2_7)) (Kd.R_lt au2_9)) (Kd.R_lt (by (with_reducible repeat (first | apply Kd.R_alloc | apply Kd.R_drewN | apply Kd.R_drew)); exact HO196.out))) (below_size au2_0)); have n8_ := Aside0.mk (Kd.C_below au2_3 hb); have n9_ := Aside0.mk (below_step au2_0 hb); clear HO_11; clear HO168; clear HO174; clear HO182; clear HO186; clear HO192; clear HO196; clear HR178; clear HB; have HO_11 := n0_; have HO168 := n1_; have HO174 := n2_; have HO182 := n3_; have HO186 := n4_; have HO192 := n5_; have HO196 := n6_; have HO200 := n7_; have HR178 := n8_; have HB := n9_; clear n0_ n1_ n2_ n3_ n4_ n5_ n6_ n7_ n8_ n9_; (try clear hb); (try clear hb2); (try clear hk); (try clear hi); (try clear ho0)))
                                      go_ret
                                      exact ⟨by first | rfl | (simp [errW_none, errW_some] <;> rfl) | (simp only [← hji22, ← hji28]; first | rfl | (simp [errW_none, errW_some] <;> rfl)) | (simp [*, errW_none, errW_some] <;> rfl), au2_0⟩
                                    · rw [if_neg c54] at H
                                      have c54b0 : (t180 == t184) = false := beq_eq_false_iff_ne.mpr c54
                                      have c54b1 : (t180 != t184) = true := bne_iff_ne.mpr c54
                                      exact absurd (H.trans (congrArg some hr_.out)) (by decide)
                                  · rw [if_neg c53] at H
                                    have c53b0 : (t172 == 9) = false := beq_eq_false_iff_ne.mpr c53
                                    have c53b1 : (t172 != 9) = true := bne_iff_ne.mpr c53
                                    exact absurd (H.trans (congrArg some hr_.out)) (by decide)
                              · rw [if_neg c36] at H
                                have c36b0 : ((t172 == 0) == (a2 == 0)) = false := by simpa using c36
                                (try (have c36b1 : decide ((t172 == 0) = (a2 == 0)) = false := by simpa using c36))
                                (try (have c36b2 : ((t172 == 0) == (a2 == 0)) = false := by simpa using c36))
                                (try (have c36b3 : ¬ ((t172 == 0) = (a2 == 0)) := by simpa using c36))
                                clear c36
                                exact absurd (H.trans (congrArg some hr_.out)) (by decide)
                            · rw [if_neg c33] at H
                              exact absurd H (by simp)
                          · rw [if_neg c30] at H
                            exact absurd H (by simp)
                        · rw [if_neg c29] at H
                          exact absurd H (by simp)
                    · rw [if_neg c24] at H
                      exact absurd H (by simp)
                  · rw [if_neg c23] at H
                    exact absurd H (by simp)
              · rw [if_neg c20] at H
                exact absurd H (by simp)

end Go.Proofs.Ytbaboeodklgpeaa.PCheckTurned
