/- Rows of inputs are cloned; a stream; A stream as a part; A whole row comes to a column. No condition; Windows of one row come to a column, in whatever order. No condition. Conditions: as told at each. -/
import Derived.Test.YtkgjokidfbpnbaaMa
import Derived.Lib.SliceRun
import Derived.Test.YtkgjokidfbpnbaaRules
namespace Go.Proofs.Ytkgjokidfbpnbaa.InW
open Go.RowKit Go.Proofs.YtkgjokidfbpnbaaW.PrintWords Go.Proofs.YtkgjokidfbpnbaaW.PrintLast Go.Proofs.YtkgjokidfbpnbaaW.PrintMore Go.Proofs.Ytkgjokidfbpnbaa.Sep
attribute [local go_sem] max2_int min2_int max_two min_two max_three min_three max_four min_four   -- for this text's walks alone
set_option linter.unusedVariables false
set_option linter.unusedSimpArgs false
theorem jau1_0 {p : Prop} (h : p := by repeat (first | (with_reducible first | exact HB.out | apply below_alloc | apply pw_below_drewN | apply below_drew1) | exact HB.out)) : p := h
theorem jau1_8 {p : Prop} (h : p := by first | rfl | (simp <;> rfl) | (simp [*] <;> rfl)) : p := h
def clone.f (l0 : List In) : Option (List In) := (some (([] : List In) : List In)).bind fun y114 => (if y114.length + l0.length < 1000000 then (some (y114 ++ l0)) else (none))
set_option maxHeartbeats 8000000 in
set_option maxRecDepth 100000 in
theorem clone.calls (A0 : Option Addr) (c0 : Nat) (l0 : List In) (r : List In) (w : World) (hr0 : Kd.C kin w A0 l0.length l0) (hc0 : l0.length ≤ c0) (h : clone.f l0 = some r) :
    Calls Try.prog 36 #[.slice A0 l0.length c0] w fun e w' => ∃ v0_ : Value, e = .returned (v0_) ∧ Kd.R kin 24 w' w.heap.size (fun _ => True) v0_ r ∧ Below w.heap.size w w' := by
  rcases A0 with _ | ad0_
  · have hl0 : l0 = [] := by
      cases l0 with
      | nil => rfl
      | cons x xs => obtain ⟨_, e, _⟩ := hr0.2.2 (by simp); cases e
    subst hl0
    have hr : r = [] := (Option.some.inj (show some ([] : List In) = some r from h)).symm
    subst hr
    have hEq_ : ∀ w : World, Sem.run Try.prog (binOp .eql 22 (.slice none 0 c0) (.slice none 0 0)) w = .ok (.bool true) w := fun w => Lib.run_eql_slice_nil w 22 24 none 0 c0 0 0 Try.underlying22
    go_enter Try.func36, Try.ntmps36
    go_wp2
    go_ret
    exact ⟨_, rfl, Kd.R_nil _ _ _ _ _, Below.refl _ _⟩
  have hEq_ : ∀ w : World, Sem.run Try.prog (binOp .eql 22 (.slice (some ad0_) l0.length c0) (.slice none 0 0)) w = .ok (.bool false) w := fun w => Lib.run_eql_slice_nil w 22 24 (some ad0_) l0.length c0 0 0 Try.underlying22
  have HR0 := Aside0.mk hr0
  have HC0 := Aside0.mk hc0
  clear hr0 hc0
  have HB := Aside0.mk (Below.refl w.heap.size w)
  have H : ((some (([] : List In) : List In)).bind fun y114 => (if y114.length + l0.length < 1000000 then (some (y114 ++ l0)) else (none))) = some r := h
  clear h
  obtain ⟨y114, hy114⟩ : ∃ y_ : List In, y_ = (([] : List In)) := ⟨_, rfl⟩
  replace H : (if y114.length + l0.length < 1000000 then (some (y114 ++ l0)) else (none)) = some r := by first | (rw [hy114]; with_reducible exact H) | (have H2_ := (Option.bind_some _ _).symm.trans H; rw [hy114]; with_reducible exact H2_) | (have H2_ := (Option.bind_some _ _).symm.trans H; with_reducible exact H2_) | with_reducible exact H | (rw [hy114]; exact H) | exact H
  have Ny114 := Aside0.mk hy114
  clear hy114
  by_cases c2 : y114.length + l0.length < 1000000
  · rw [if_pos c2] at H
    have LMc2 := Aside0.mk c2
    clear c2
    obtain ⟨y117, hy117⟩ : ∃ y_ : List In, y_ = (y114 ++ l0) := ⟨_, rfl⟩
    replace H : (some y117) = some r := by first | (rw [hy117]; with_reducible exact H) | (have H2_ := (Option.bind_some _ _).symm.trans H; rw [hy117]; with_reducible exact H2_) | (have H2_ := (Option.bind_some _ _).symm.trans H; with_reducible exact H2_) | with_reducible exact H | (rw [hy117]; exact H) | exact H
    have Ny117 := Aside0.mk hy117
    clear hy117
    obtain rfl := Option.some.inj H
    go_enter Try.func36, Try.ntmps36
    go_wp2_with (first | ((with_reducible refine gate_dst (N := 5) rfl ?_); refine Kd.R_lit kin _ 24 ?hg (N := 5) ?hd (xs := ([] : List In)) (inner := []) (ok := fun _ => True) (okp := fun _ => True) ?hr ?hp (fun _ hk => hk) trivial (Below.refl _ _) (Nat.le_refl _) (by simp) ?_; (case hd => rfl); (case hg => rfl); (case hr => first | (go_simp; done) | (go_simp; rfl)); (case hp => exact (Reps.none _ _)); intro v115 w3 ho4 hb hg_ hnew_; clear hg_ hnew_; (first | rw [← Ny114.out] at ho4 | (simp only [Int.reduceToNat] at ho4; rw [← Ny114.out] at ho4)); have n0_ := Aside0.mk (Kd.R_lower ho4 (below_size jau1_0)); have n1_ := Aside0.mk (below_step jau1_0 hb); clear HB; have HO116 := n0_; have HB := n1_; clear n0_ n1_; clear hb ho4) | ((with_reducible refine gate_builtin (b := .append) (xs := #[.tmp 5, .tmp 6]) rfl ?_); at_builtin; refine Kd.R_append_rows kin (w0 := w) w.heap.size rfl (.tmp 5) (.tmp 6) 22 24 (.agg #[.int .i64 0, .int .i64 0, .bool false]) 24 rfl Try.underlying22 info24_ rfl (by decide) (by omega) v115 y114 l0 _ _ _ (fun _ => True) (fun _ => False) rfl rfl ?aO ?aR (fun _ _ h => h) (fun _ h => h.elim) ?aF ?aB ?aS ?aL ?_; (case aR => repeat (first | exact (Kd.C_below HR0.out HB.out) | (with_reducible refine Kd.C_alloc ?_ _) | (with_reducible refine Kd.C_drewN ?_ _) | (with_reducible refine Kd.C_drew ?_))); (case aB => exact jau1_0); (case aF => exact (fun _ _ => trivial)); (case aO => exact (by (with_reducible repeat (first | apply Kd.R_alloc | apply Kd.R_drewN | apply Kd.R_drew)); exact HO116.out)); (case aS => exact (below_size jau1_0)); (case aL => have := LMc2.out; omega); intro v118 w5 ho hb hg hat; rw [← Ny117.out] at ho; have n0_ := Aside0.mk (hb); have n1_ := Aside0.mk (ho); clear HB; clear HO116; have HB := n0_; have HO119 := n1_; clear n0_ n1_; clear ho hb hg hat))
    go_ret
    exact ⟨_, jau1_8, by (with_reducible repeat (first | apply Kd.R_alloc | apply Kd.R_drewN | apply Kd.R_drew)); exact HO119.out, jau1_0⟩
  · rw [if_neg c2] at H
    exact absurd H (by simp)


theorem clone_eq {l : List In} (h : l.length < 1000000) : clone.f l = some l := by
  unfold clone.f
  rw [Option.bind_some, if_pos (by simpa using h)]
  rfl
def stream_ (cs : List Col) (p fr mo : Int) : List In := if isP cs p ∧ 0 ≤ fr ∧ fr < (cAt cs p).l.length ∧ 1 ≤ mo then ((cAt cs p).l.drop fr.toNat).take (min mo ((cAt cs p).l.length - fr)).toNat else []
theorem stream_no {cs : List Col} {p fr mo : Int} (h : ¬ (isP cs p ∧ 0 ≤ fr ∧ fr < (cAt cs p).l.length ∧ 1 ≤ mo)) : stream_ cs p fr mo = [] := by unfold stream_; rw [if_neg h]
set_option maxHeartbeats 4000000 in
set_option maxRecDepth 100000 in
theorem stream.calls {w : World} {g ga : Nat} {Z : Nat → Prop} {cs : List Col} (h : TabG w g ga Z cs) (hl : g < w.heap.size ∧ ga < w.heap.size) (hz : ∀ k, Z k → k < w.heap.size) (p fr mo : Int) (hp : I64 p) (hfr : I64 fr) (hmo : I64 mo) (hn : cs.length ≤ 1000000) (hm : (cAt cs p).l.length ≤ 10000) :
    Calls Try.prog 18 #[.pointer (some ⟨g, 0, none⟩), .int .i64 p, .int .i64 fr, .int .i64 mo] w fun e w' => ∃ v, e = .returned v ∧ Kd.R kin 24 w' w.heap.size (fun _ => True) v (stream_ cs p fr mo) ∧ Below w.heap.size w w' := by
  by_cases h1 : isP cs p
  · by_cases h2 : fr < 0
    · have d2 : decide (fr < 0) = true := decide_eq_true h2
      go_enter Try.func18, Try.ntmps18
      go_wp2_with (first | (go_at_call 30; (refine (column.calls h p hp hn).mono ?_); rintro e w1 ⟨rfl, hb1⟩; rw [colA_yes h1]; have hT1 := h.below (hb1.block _ hl.1) (hb1.block _ hl.2) (fun k hk => hb1.block _ (hz k hk)); obtain ⟨A, c, c1, c2, c3, hc, hr, hf⟩ := hT1.pl h1))
      go_ret
      rw [stream_no (fun x => by omega)]
      exact ⟨_, rfl, Kd.R_nil _ _ _ _ _, hb1⟩
    · have d2 : decide (fr < 0) = false := decide_eq_false h2
      by_cases h3 : (cAt cs p).l.length ≤ fr
      · have d3 : decide (((cAt cs p).l.length : Int) ≤ fr) = true := decide_eq_true h3
        go_enter Try.func18, Try.ntmps18
        go_wp2_with (first | (go_at_call 30; (refine (column.calls h p hp hn).mono ?_); rintro e w1 ⟨rfl, hb1⟩; rw [colA_yes h1]; have hT1 := h.below (hb1.block _ hl.1) (hb1.block _ hl.2) (fun k hk => hb1.block _ (hz k hk)); obtain ⟨A, c, c1, c2, c3, hc, hr, hf⟩ := hT1.pl h1))
        go_ret
        rw [stream_no (fun x => by omega)]
        exact ⟨_, rfl, Kd.R_nil _ _ _ _ _, hb1⟩
      · have d3 : decide (((cAt cs p).l.length : Int) ≤ fr) = false := decide_eq_false h3
        by_cases h4 : mo < 1
        · have d4 : decide (mo < 1) = true := decide_eq_true h4
          go_enter Try.func18, Try.ntmps18
          go_wp2_with (first | (go_at_call 30; (refine (column.calls h p hp hn).mono ?_); rintro e w1 ⟨rfl, hb1⟩; rw [colA_yes h1]; have hT1 := h.below (hb1.block _ hl.1) (hb1.block _ hl.2) (fun k hk => hb1.block _ (hz k hk)); obtain ⟨A, c, c1, c2, c3, hc, hr, hf⟩ := hT1.pl h1))
          go_ret
          rw [stream_no (fun x => by omega)]
          exact ⟨_, rfl, Kd.R_nil _ _ _ _ _, hb1⟩
        · have d4 : decide (mo < 1) = false := decide_eq_false h4
          obtain ⟨L, hL⟩ : ∃ L, (cAt cs p).l = L := ⟨_, rfl⟩
          rw [hL] at h3 d3 hm
          obtain ⟨f, rfl⟩ : ∃ f : Nat, fr = f := ⟨fr.toNat, by omega⟩
          obtain ⟨n, hn9⟩ : ∃ n : Nat, (n : Int) = min mo ((L.length : Int) - f) := ⟨(min mo ((L.length : Int) - f)).toNat, by omega⟩
          obtain ⟨m1, hm1⟩ : ∃ m1 : Int, (if (L.length : Int) < mo then (L.length : Int) else mo) = m1 := ⟨_, rfl⟩
          have hs1 : IntKind.i64.wrap ((f : Int) + m1) = (f : Int) + m1 := by rw [IntKind.wrap_i64]; split at hm1 <;> omega
          obtain ⟨s1, hs2⟩ : ∃ s1 : Int, (f : Int) + m1 = s1 := ⟨_, rfl⟩
          rw [hs2] at hs1
          have hm2 : (if s1 < (L.length : Int) then s1 else (L.length : Int)) = ((f + n : Nat) : Int) := by split at hm1 <;> split <;> omega
          obtain ⟨e9, he9⟩ : ∃ e9 : Nat, e9 = f + n := ⟨_, rfl⟩
          rw [← he9] at hm2
          have he2 : f ≤ e9 := by omega
          have heL : e9 ≤ L.length := by omega
          have HE := Aside0.mk he9
          clear he9
          have hfn : f + n ≤ L.length := by omega
          have HN := Aside0.mk hn9
          clear hn9
          go_enter Try.func18, Try.ntmps18
          go_wp2_with (first | (go_at_call 30; (refine (column.calls h p hp hn).mono ?_); rintro e w1 ⟨rfl, hb1⟩; rw [colA_yes h1]; have hT1 := h.below (hb1.block _ hl.1) (hb1.block _ hl.2) (fun k hk => hb1.block _ (hz k hk)); obtain ⟨A, c, c1, c2, c3, hc, hr, hf⟩ := hT1.pl h1; obtain ⟨ad, rfl, _⟩ := at_inI (hr _ (fun _ _ => rfl)) (f : Int) (by omega) (by rw [hL]; omega)))
          rw [hL] at c1 hc hr
          have he1 : e9 ≤ c := by omega
          have he3 : (e9 : Int) ≤ (c : Int) := by omega
          have hcf : ¬ c = f := by omega
          have hC1 := Kd.C_drop (m := f) (c := c) (hr w1.drew (fun _ _ => rfl)) (by omega) hc
          rw [if_neg hcf] at hC1
          have hC2 := Kd.C_take (m := n) hC1 (by rw [List.length_drop]; omega)
          have hxl : ((L.drop f).take n).length = e9 - f := by rw [List.length_take, List.length_drop]; have := HE.out; omega
          have hcl := clone.calls _ (c - f) ((L.drop f).take n) _ w1.drew hC2 (by rw [hxl]; omega) (clone_eq (by rw [hxl]; omega))
          rw [hxl] at hcl
          clear hC1 hC2 hxl
          refine wp_region_held_drew (S := (fun w' => w'.cell? ⟨ga, (p.toNat - 1) * 3, none⟩ = some (.slice (some ad) L.length c))) (by kernel_rfl) ?_ (fun hHeld => ?_)
          · (exact c1)
          refine takeW (i := 0) (v := ?_) rfl rfl (by kernel_rfl) (by kernel_rfl) (by kernel_rfl) (fun _ _ _ h => h) (by rfl) ?_ hHeld ?_
          rotate_left 1
          · (intro w hSw; (try dsimp only at hSw); go_simp <;> (try with_reducible rfl))
          (try simp only [Act.put, List.setIfInBounds_toArray, List.set_cons_zero, List.set_cons_succ])
          refine takeW (i := 1) (v := ?_) rfl rfl (by kernel_rfl) (by kernel_rfl) (by kernel_rfl) (fun _ _ _ h => h) (by rfl) ?_ hHeld ?_
          rotate_left 1
          · (intro w hSw; (try dsimp only at hSw); go_simp <;> (try with_reducible rfl))
          (try simp only [Act.put, List.setIfInBounds_toArray, List.set_cons_zero, List.set_cons_succ])
          refine takeW (i := 2) (v := ?_) rfl rfl (by kernel_rfl) (by kernel_rfl) (by kernel_rfl) (fun _ _ _ h => h) (by rfl) ?_ hHeld ?_
          rotate_left 1
          · (intro w hSw; (try dsimp only at hSw); go_simp <;> (try with_reducible rfl))
          (try simp only [Act.put, List.setIfInBounds_toArray, List.set_cons_zero, List.set_cons_succ])
          refine takeW (i := 3) (v := ?_) rfl rfl (by kernel_rfl) (by kernel_rfl) (by kernel_rfl) (fun _ _ _ h => h) (by rfl) ?_ hHeld ?_
          rotate_left 1
          · (intro w hSw; (try dsimp only at hSw); go_simp <;> (try with_reducible rfl))
          (try simp only [Act.put, List.setIfInBounds_toArray, List.set_cons_zero, List.set_cons_succ])
          refine takeW (i := 4) (v := ?_) rfl rfl (by kernel_rfl) (by kernel_rfl) (by kernel_rfl) (fun _ _ _ h => h) (by rfl) ?_ hHeld ?_
          rotate_left 1
          · (intro w hSw; (try dsimp only at hSw); go_simp <;> (try with_reducible rfl))
          (try simp only [Act.put, List.setIfInBounds_toArray, List.set_cons_zero, List.set_cons_succ])
          refine takeW (i := 5) (v := ?_) rfl rfl (by kernel_rfl) (by kernel_rfl) (by kernel_rfl) (fun _ _ _ h => h) (by rfl) ?_ hHeld ?_
          rotate_left 1
          · (intro w hSw; (try dsimp only at hSw); go_simp <;> (try with_reducible rfl))
          (try simp only [Act.put, List.setIfInBounds_toArray, List.set_cons_zero, List.set_cons_succ])
          refine takeW (i := 6) (v := ?_) rfl rfl (by kernel_rfl) (by kernel_rfl) (by kernel_rfl) (fun _ _ _ h => h) (by rfl) ?_ hHeld ?_
          rotate_left 1
          · (intro w hSw; (try dsimp only at hSw); go_simp <;> (try with_reducible rfl))
          (try simp only [Act.put, List.setIfInBounds_toArray, List.set_cons_zero, List.set_cons_succ])
          refine takeW (i := 7) (v := ?_) rfl rfl (by kernel_rfl) (by kernel_rfl) (by kernel_rfl) (fun _ _ _ h => h) (by rfl) ?_ hHeld ?_
          rotate_left 1
          · (intro w hSw; (try dsimp only at hSw); go_simp <;> (try with_reducible rfl))
          (try simp only [Act.put, List.setIfInBounds_toArray, List.set_cons_zero, List.set_cons_succ])
          refine takeW (i := 8) (v := ?_) rfl rfl (by kernel_rfl) (by kernel_rfl) (by kernel_rfl) (fun _ _ _ h => h) (by rfl) ?_ hHeld ?_
          rotate_left 1
          · (intro w hSw; (try dsimp only at hSw); go_simp <;> (try with_reducible rfl))
          (try simp only [Act.put, List.setIfInBounds_toArray, List.set_cons_zero, List.set_cons_succ])
          refine takeW (i := 9) (v := ?_) rfl rfl (by kernel_rfl) (by kernel_rfl) (by kernel_rfl) (fun _ _ _ h => h) (by rfl) ?_ hHeld ?_
          rotate_left 1
          · (intro w hSw; (try dsimp only at hSw); go_simp <;> (try with_reducible rfl))
          (try simp only [Act.put, List.setIfInBounds_toArray, List.set_cons_zero, List.set_cons_succ])
          refine takeW (i := 10) (v := ?_) rfl rfl (by kernel_rfl) (by kernel_rfl) (by kernel_rfl) (fun _ _ _ h => h) (by rfl) ?_ hHeld ?_
          rotate_left 1
          · (intro w hSw; (try dsimp only at hSw); go_simp <;> (try with_reducible rfl))
          (try simp only [Act.put, List.setIfInBounds_toArray, List.set_cons_zero, List.set_cons_succ])
          refine takeW (i := 11) (v := ?_) rfl rfl (by kernel_rfl) (by kernel_rfl) (by kernel_rfl) (fun _ _ _ h => h) (by rfl) ?_ hHeld ?_
          rotate_left 1
          · (intro w hSw; (try dsimp only at hSw); go_simp <;> (try with_reducible rfl))
          (try simp only [Act.put, List.setIfInBounds_toArray, List.set_cons_zero, List.set_cons_succ])
          refine takeW (i := 12) (v := ?_) rfl rfl (by kernel_rfl) (by kernel_rfl) (by kernel_rfl) (fun _ _ _ h => h) (by rfl) ?_ hHeld ?_
          rotate_left 1
          · (intro w hSw; (try dsimp only at hSw); go_simp <;> (try with_reducible rfl))
          (try simp only [Act.put, List.setIfInBounds_toArray, List.set_cons_zero, List.set_cons_succ])
          refine takeW (i := 13) (v := ?_) rfl rfl (by kernel_rfl) (by kernel_rfl) (by kernel_rfl) (fun _ _ _ h => h) (by rfl) ?_ hHeld ?_
          rotate_left 1
          · (intro w hSw; (try dsimp only at hSw); go_simp <;> (try with_reducible rfl))
          (try simp only [Act.put, List.setIfInBounds_toArray, List.set_cons_zero, List.set_cons_succ])
          refine takeW (i := 14) (v := ?_) rfl rfl (by kernel_rfl) (by kernel_rfl) (by kernel_rfl) (fun _ _ _ h => h) (by rfl) ?_ hHeld ?_
          rotate_left 1
          · (intro w hSw; (try dsimp only at hSw); go_simp <;> (try with_reducible rfl))
          (try simp only [Act.put, List.setIfInBounds_toArray, List.set_cons_zero, List.set_cons_succ])
          refine takeW (i := 15) (v := ?_) rfl rfl (by kernel_rfl) (by kernel_rfl) (by kernel_rfl) (fun _ _ _ h => h) (by rfl) ?_ hHeld ?_
          rotate_left 1
          · (intro w hSw; (try dsimp only at hSw); go_simp <;> (try with_reducible rfl))
          (try simp only [Act.put, List.setIfInBounds_toArray, List.set_cons_zero, List.set_cons_succ])
          refine takeW (i := 16) (v := ?_) rfl rfl (by kernel_rfl) (by kernel_rfl) (by kernel_rfl) (fun _ _ _ h => h) (by rfl) ?_ hHeld ?_
          rotate_left 1
          · (intro w hSw; (try dsimp only at hSw); go_simp <;> (try with_reducible rfl))
          (try simp only [Act.put, List.setIfInBounds_toArray, List.set_cons_zero, List.set_cons_succ])
          refine takeW (i := 17) (v := ?_) rfl rfl (by kernel_rfl) (by kernel_rfl) (by kernel_rfl) (fun _ _ _ h => h) (by rfl) ?_ hHeld ?_
          rotate_left 1
          · (intro w hSw; (try dsimp only at hSw); go_simp <;> (try with_reducible rfl))
          (try simp only [Act.put, List.setIfInBounds_toArray, List.set_cons_zero, List.set_cons_succ])
          refine takeW (i := 18) (v := ?_) rfl rfl (by kernel_rfl) (by kernel_rfl) (by kernel_rfl) (fun _ _ _ h => h) (by rfl) ?_ hHeld ?_
          rotate_left 1
          · (intro w hSw; (try dsimp only at hSw); go_simp <;> (try with_reducible rfl))
          (try simp only [Act.put, List.setIfInBounds_toArray, List.set_cons_zero, List.set_cons_succ])
          refine takeW (i := 19) (v := ?_) rfl rfl (by kernel_rfl) (by kernel_rfl) (by kernel_rfl) (fun _ _ _ h => h) (by rfl) ?_ hHeld ?_
          rotate_left 1
          · (intro w hSw; (try dsimp only at hSw); go_simp <;> (try with_reducible rfl))
          (try simp only [Act.put, List.setIfInBounds_toArray, List.set_cons_zero, List.set_cons_succ])
          refine takeW (i := 20) (v := ?_) rfl rfl (by kernel_rfl) (by kernel_rfl) (by kernel_rfl) (fun _ _ _ h => h) (by rfl) ?_ hHeld ?_
          rotate_left 1
          · (intro w hSw; (try dsimp only at hSw); go_simp <;> (try with_reducible rfl))
          (try simp only [Act.put, List.setIfInBounds_toArray, List.set_cons_zero, List.set_cons_succ])
          refine callC (i := 21) rfl (by kernel_rfl) (by rfl) (fun K hK => ?_)
          clear hHeld
          (go_wp2_with ((go_at_call 36; refine hcl.mono ?_; rintro e w2 ⟨v, rfl, ho, hb2⟩; have c12 := pw_cell_below (w := w1.drew) hb2 c1)))
          refine hK.out _ _ ?_ (fun hHeld => ?_)
          · (exact c12)
          clear hK K
          (try simp only [Act.put, List.setIfInBounds_toArray, List.set_cons_zero, List.set_cons_succ])
          refine takeW (i := 22) (v := ?_) rfl rfl (by kernel_rfl) (by kernel_rfl) (by kernel_rfl) (fun _ _ _ h => h) (by rfl) ?_ hHeld ?_
          rotate_left 1
          · (intro w hSw; (try dsimp only at hSw); go_simp <;> (try with_reducible rfl))
          (try simp only [Act.put, List.setIfInBounds_toArray, List.set_cons_zero, List.set_cons_succ])
          refine wpAnyH_done (by kernel_rfl) ?_ _
          go_wp2
          go_ret
          have es : stream_ cs p (f : Int) mo = (L.drop f).take n := by
            unfold stream_
            rw [hL, if_pos ⟨h1, by omega, by omega, by omega⟩, ← HN.out]
            rfl
          rw [es]
          exact ⟨v, rfl, Kd.R_lower ho hb1.size, below_step (Below.drew hb1) hb2⟩
  · skip
    go_enter Try.func18, Try.ntmps18
    go_wp2_with (first | (go_at_call 30; (refine (column.calls h p hp hn).mono ?_); rintro e w1 ⟨rfl, hb1⟩; rw [colA_no h1]))
    go_ret
    rw [stream_no (fun x => h1 x.1)]
    exact ⟨_, rfl, Kd.R_nil _ _ _ _ _, hb1⟩
end Go.Proofs.Ytkgjokidfbpnbaa.InW
namespace Go.Proofs.Ytkgjokidfbpnbaa.InW
open Go.RowKit Go.Proofs.YtkgjokidfbpnbaaW.PrintWords Go.Proofs.YtkgjokidfbpnbaaW.PrintLast Go.Proofs.YtkgjokidfbpnbaaW.PrintMore Go.Proofs.Ytkgjokidfbpnbaa.Sep
set_option linter.unusedVariables false
theorem stream.H {w0 w : World} {base g : Nat} {cs : List Col} {F : List Asr} (h : Has w0 base w (tab g cs :: F)) (hw : wfT cs) (p fr mo : Int) (hp : I64 p) (hfr : I64 fr) (hmo : I64 mo) :
    Calls Try.prog 18 #[.pointer (some ⟨g, 0, none⟩), .int .i64 p, .int .i64 fr, .int .i64 mo] w fun e w' => ∃ A c, e = .returned (.slice A (stream_ cs p fr mo).length c) ∧ (stream_ cs p fr mo).length ≤ c ∧ Has w0 base w' (row kin 24 (.slice A (stream_ cs p fr mo).length c) (stream_ cs p fr mo) :: tab g cs :: F) := by
  obtain ⟨ga, Z, hT, hl, hz, _⟩ := tab_open h
  refine (stream.calls hT hl hz p fr mo hp hfr hmo hw.1 (hw.at p).1).mono ?_
  rintro e w' ⟨v, rfl, ho, hb⟩
  obtain ⟨A, c, rfl⟩ := Kd.R_slice ho
  exact ⟨A, c, rfl, (Kd.R_reads' ho).2.1, Has.newRow h hb ho⟩
/-- what a part's row reads, as the call wants it -/
theorem row_C {w0 w : World} {base e n c : Nat} {A : Option Addr} {xs : List In} {F : List Asr} (h : Has w0 base w (row kin e (.slice A n c) xs :: F)) : Kd.C kin w A xs.length xs := by
  obtain ⟨A', c', e', _, hC⟩ := h.row_reads
  rw [(Value.slice.inj e').1]
  exact hC
end Go.Proofs.Ytkgjokidfbpnbaa.InW
namespace Go.Proofs.Ytkgjokidfbpnbaa.InW
open Go.RowKit Go.Proofs.YtkgjokidfbpnbaaW.PrintWords Go.Proofs.YtkgjokidfbpnbaaW.PrintLast Go.Proofs.YtkgjokidfbpnbaaW.PrintMore Go.Proofs.Ytkgjokidfbpnbaa.Sep
set_option linter.unusedVariables false
theorem addGo_all (e fr : Int) : ∀ (xs C : List In) (i : Nat) (n : Int), (C.length : Int) = fr + i → (∀ x ∈ xs, rightI x = true) → C.length + xs.length ≤ 10000 → addGo ⟨C, e, false⟩ fr i xs n = (⟨C ++ xs, e, false⟩, n + xs.length) := by
  intro xs
  induction xs with
  | nil => intro C i n h1 h2 h3; simp [addGo]
  | cons x xs ih =>
    intro C i n h1 h2 h3
    simp only [List.length_cons] at h3
    rw [addGo]
    have hx := h2 x (List.mem_cons_self)
    have n1 : ¬ (rightI x = false ∨ (C.length : Int) < fr ∨ (C.length : Int) - fr < i) := by
      rintro (h | h | h)
      · rw [hx] at h; cases h
      · omega
      · omega
    have n2 : ¬ ((i : Int) < (C.length : Int) - fr) := by omega
    have n3 : ¬ ((false = true ∧ e ≤ C.length) ∨ 10000 ≤ (C.length : Int)) := by
      rintro (h | h)
      · cases h.1
      · omega
    dsimp only
    rw [if_neg n1, if_neg n2, if_neg n3]
    have hl : (C ++ [x]).length = C.length + 1 := by simp
    rw [ih (C ++ [x]) (i + 1) (n + 1) (by rw [hl]; push_cast; omega) (fun y hy => h2 y (List.mem_cons_of_mem _ hy)) (by rw [hl]; omega)]
    rw [List.append_assoc, List.length_cons]
    simp only [List.singleton_append, Prod.mk.injEq, true_and]
    push_cast
    omega
theorem add_all {cs : List Col} {p : Int} {C xs : List In} {e : Int} (hp : isP cs p) (hc : cAt cs p = ⟨C, e, false⟩) (hx : ∀ x ∈ xs, rightI x = true) (hl : C.length + xs.length ≤ 10000) : add_ cs p C.length xs = ((xs.length : Int), cs.set (p.toNat - 1) ⟨C ++ xs, e, false⟩) := by
  rw [add_yes hp (by omega), hc, addGo_all e C.length xs C 0 0 (by simp) hx hl]
  simp
end Go.Proofs.Ytkgjokidfbpnbaa.InW
namespace Go.Proofs.Ytkgjokidfbpnbaa.InW
open Go.RowKit Go.Proofs.YtkgjokidfbpnbaaW.PrintWords Go.Proofs.YtkgjokidfbpnbaaW.PrintLast Go.Proofs.YtkgjokidfbpnbaaW.PrintMore Go.Proofs.Ytkgjokidfbpnbaa.Sep
set_option linter.unusedVariables false
/-- three players, one of whom has L -/
def tbl (p : Int) (L : List In) : List Col := (List.replicate 3 col0).set (p.toNat - 1) ⟨L, 0, false⟩
theorem tbl_start (q : Int) (h : 0 ≤ q ∧ q < 3) : List.replicate (clampP 3) col0 = tbl (1 + q) [] := by
  obtain rfl | rfl | rfl : q = 0 ∨ q = 1 ∨ q = 2 := by omega
  all_goals rfl
theorem tbl_isP {p : Int} {L : List In} (h : 1 ≤ p ∧ p ≤ 3) : isP (tbl p L) p := by
  unfold isP tbl
  simp
  omega
theorem tbl_at {p : Int} {L : List In} (h : 1 ≤ p ∧ p ≤ 3) : cAt (tbl p L) p = ⟨L, 0, false⟩ := by
  have hl : p.toNat - 1 < ((List.replicate 3 col0).set (p.toNat - 1) ⟨L, 0, false⟩).length := by simp; omega
  unfold cAt tbl
  rw [List.getD_eq_getElem?_getD, List.getElem?_eq_getElem hl, List.getElem_set_self]
  rfl
theorem tbl_set (p : Int) (L L' : List In) : (tbl p L).set (p.toNat - 1) ⟨L', 0, false⟩ = tbl p L' := by unfold tbl; rw [List.set_set]
theorem wf_tbl (p : Int) (L : List In) (hl : L.length ≤ 10000) : wfT (tbl p L) := by
  unfold tbl
  exact (wfT.new 3 (by decide)).set _ _ ⟨hl, show I64 0 by omega⟩
theorem addGo_win (all : List In) (fr te : Nat) (ht : te ≤ all.length) (hl : all.length ≤ 40) (hr : ∀ x ∈ all, rightI x = true) : ∀ (k H i : Nat) (n : Int), fr + i + k = te → fr + i ≤ H → H ≤ all.length → addGo ⟨all.take H, 0, false⟩ fr i ((all.take te).drop (fr + i)) n = (⟨all.take (max H te), 0, false⟩, n + (max H te - H : Nat)) := by
  intro k
  induction k with
  | zero =>
    intro H i n h1 h2 h3
    have e1 : (all.take te).drop (fr + i) = [] := List.drop_eq_nil_of_le (by rw [List.length_take]; omega)
    have e2 : max H te = H := by omega
    rw [e1, e2]
    simp [addGo]
  | succ k ih =>
    intro H i n h1 h2 h3
    have hlt : fr + i < (all.take te).length := by rw [List.length_take]; omega
    rw [List.drop_eq_getElem_cons hlt, addGo]
    have hx : rightI (all.take te)[fr + i] = true := hr _ (List.mem_of_mem_take (List.getElem_mem hlt))
    have hHl : (all.take H).length = H := by rw [List.length_take]; omega
    have n1 : ¬ (rightI (all.take te)[fr + i] = false ∨ ((all.take H).length : Int) < fr ∨ ((all.take H).length : Int) - fr < i) := by
      rw [hHl]
      rintro (h | h | h)
      · rw [hx] at h; cases h
      · omega
      · omega
    dsimp only
    rw [if_neg n1, hHl]
    by_cases h4 : (i : Int) < (H : Int) - fr
    · rw [if_pos h4]
      exact ih H (i + 1) n (by omega) (by omega) h3
    · rw [if_neg h4]
      have n3 : ¬ ((false = true ∧ (0 : Int) ≤ H) ∨ 10000 ≤ (H : Int)) := by
        rintro (h | h)
        · cases h.1
        · omega
      rw [if_neg n3]
      have eH : H = fr + i := by omega
      have e3 : all.take H ++ [(all.take te)[fr + i]] = all.take (H + 1) := by
        rw [List.take_succ_eq_append_getElem (by omega : H < all.length), List.getElem_take]
        simp [eH]
      rw [e3]
      have := ih (H + 1) (i + 1) (n + 1) (by omega) (by omega) (by omega)
      rw [show fr + i + 1 = fr + (i + 1) from by omega, this]
      have e4 : max (H + 1) te = max H te := by omega
      rw [e4]
      simp only [Prod.mk.injEq, true_and]
      omega
/-- a window comes -/
theorem add_win {all : List In} {p : Int} {fr te h : Nat} (hp : 1 ≤ p ∧ p ≤ 3) (ht : fr < te ∧ te ≤ all.length) (hl : all.length ≤ 40) (hh : h ≤ all.length) (hr : ∀ x ∈ all, rightI x = true) :
    add_ (tbl p (all.take h)) p fr ((all.take te).drop fr) = (if fr ≤ h then (((max h te - h : Nat) : Int), tbl p (all.take (max h te))) else (0, tbl p (all.take h))) := by
  rw [add_yes (tbl_isP hp) (by omega), tbl_at hp]
  by_cases hf : fr ≤ h
  · rw [if_pos hf]
    have := addGo_win all fr te ht.2 hl hr (te - fr) h 0 0 (by omega) (by omega) hh
    rw [Nat.add_zero] at this
    rw [this]
    dsimp only
    rw [tbl_set, Int.zero_add]
  · rw [if_neg hf]
    have hlt : fr < (all.take te).length := by rw [List.length_take]; omega
    have hHl : (all.take h).length = h := by rw [List.length_take]; omega
    rw [List.drop_eq_getElem_cons hlt, addGo]
    dsimp only
    rw [if_pos (.inr (.inl (by rw [hHl]; omega)))]
    dsimp only
    rw [tbl_set]
theorem have_tbl {p : Int} {L : List In} (hp : 1 ≤ p ∧ p ≤ 3) : have_ (tbl p L) p = L.length := by rw [have_yes (tbl_isP hp), tbl_at hp]
theorem at_tbl {p : Int} {L : List In} (hp : 1 ≤ p ∧ p ≤ 3) (f : Nat) (x : In) (h : L[f]? = some x) : at_ (tbl p L) p f = (x, true) := by
  have hf := (List.getElem?_eq_some_iff.1 h).1
  rw [at_have (tbl_isP hp) (by omega) (by rw [tbl_at hp]; show (f : Int) < (L.length : Nat); omega), tbl_at hp]
  unfold rdI
  rw [List.getD_eq_getElem?_getD]
  have e : (f : Int).toNat = f := by omega
  rw [e, h]
  rfl
theorem at_unsure {cs : List Col} {p : Int} (hp : isP cs p) (f : Int) (h0 : 0 ≤ f) (h1 : (cAt cs p).l.length ≤ f) (h2 : ¬ ((cAt cs p).d = true ∧ (cAt cs p).e ≤ f)) : ∃ x1 x2, at_ cs p f = ((x1, x2, false), false) := by
  have hg : ∀ y k, ∃ x1 x2, guessI y k = (x1, x2, false) := fun y k => by unfold guessI; split <;> exact ⟨_, _, rfl⟩
  unfold at_
  rw [if_pos ⟨hp, h0⟩, if_neg (by omega), if_neg h2]
  split
  · obtain ⟨x1, x2, e⟩ := hg (0, 0, false) false
    exact ⟨x1, x2, by rw [e]⟩
  · obtain ⟨x1, x2, e⟩ := hg (rdI (cAt cs p).l ((cAt cs p).l.length - 1)) true
    exact ⟨x1, x2, by rw [e]⟩
theorem stream_tbl {p : Int} {L : List In} (hp : 1 ≤ p ∧ p ≤ 3) (hl : L.length ≤ 40) : stream_ (tbl p L) p 0 100 = L := by
  unfold stream_
  by_cases h : L = []
  · subst h
    rw [if_neg (fun x => by have h3 := x.2.2.1; rw [tbl_at hp] at h3; simp at h3)]
  · have h9 : 0 < L.length := List.length_pos_iff.2 h
    rw [if_pos ⟨tbl_isP hp, by omega, by rw [tbl_at hp]; show (0 : Int) < (L.length : Nat); omega, by omega⟩, tbl_at hp]
    show (L.drop (0 : Int).toNat).take (min (100 : Int) ((L.length : Nat) - 0)).toNat = L
    have e : (min (100 : Int) ((L.length : Nat) - 0)).toNat = L.length := by omega
    rw [e]
    show (L.drop 0).take L.length = L
    rw [List.drop_zero, List.take_length]
theorem add.Hn {w0 w : World} {base g : Nat} {cs : List Col} {F : List Asr} (h : Has w0 base w (tab g cs :: F)) (hw : wfT cs) (p fr : Int) (hp : I64 p) (hfr : I64 fr) (A : Option Addr) (cx n : Nat) (xs : List In) (hn : xs.length = n) (hx : xs.length ≤ 1000000) (hxs : ∀ (W : World) (cs' : List Col), Has w0 base W (tab g cs' :: F) → Kd.C kin W A xs.length xs) :
    Calls Try.prog 12 #[.pointer (some ⟨g, 0, none⟩), .int .i64 p, .int .i64 fr, .slice A n cx] w fun e w' => e = .returned (.int .i64 (add_ cs p fr xs).1) ∧ Has w0 base w' (tab g (add_ cs p fr xs).2 :: F) := by
  subst hn
  exact add.H h hw p fr hp hfr A cx xs hx hxs
theorem at_int {w : World} {k : IntKind} {A : Option Addr} {n : Nat} {l : List Int} (h : Kd.C (Kd.int k) w A n l) (j : Nat) (hj : j < l.length) : ∃ ad, A = some ad ∧ w.cell? (ad.add j) = some (.int k l[j]) := by
  obtain ⟨hl, _, hn⟩ := h
  obtain ⟨ad, rfl, hc⟩ := hn (by omega)
  obtain ⟨cs, hcs, hK, hcc⟩ := hc j l[j] (List.getElem?_eq_getElem hj)
  have e : cs = [.int k l[j]] := hK
  subst e
  have := hcc 0 _ rfl
  exact ⟨ad, rfl, by simpa [Kd.int, Kd.scalar] using this⟩
end Go.Proofs.Ytkgjokidfbpnbaa.InW
