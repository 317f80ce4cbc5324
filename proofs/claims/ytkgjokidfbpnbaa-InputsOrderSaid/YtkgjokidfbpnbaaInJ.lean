/- Rows of inputs are cloned; a stream. Condition: rows are no longer than 10000. -/
import Derived.Test.YtkgjokidfbpnbaaInI
import Derived.Lib.SliceRun
namespace Go.Proofs.Ytkgjokidfbpnbaa.InW
open Go.RowKit Go.Proofs.YtkgjokidfbpnbaaW.PrintWords Go.Proofs.YtkgjokidfbpnbaaW.PrintLast Go.Proofs.YtkgjokidfbpnbaaW.PrintMore Go.Proofs.Ytkgjokidfbpnbaa.Sep
attribute [local go_sem] max2_int min2_int max_two min_two max_three min_three max_four min_four   -- for this text's walks alone
set_option linter.unusedVariables false
set_option linter.unusedSimpArgs false
theorem jau1_0 {p : Prop} (h : p := by repeat (first | (with_reducible first | exact HB.out | apply below_alloc | apply pw_below_drewN | apply below_drew1) | exact HB.out)) : p := h
theorem jau1_8 {p : Prop} (h : p := by first | rfl | (simp <;> rfl) | (simp [*] <;> rfl)) : p := h
def clone.f (l0 : List In) : Option (List In) := (some (([] : List In) : List In)).bind fun y114 => (if y114.length + l0.length < 1000000 then (some (y114 ++ l0)) else (none))
set_option maxHeartbeats 8000000 in
set_option maxRecDepth 100000 in
theorem clone.calls (A0 : Option Addr) (c0 : Nat) (l0 : List In) (r : List In) (w : World) (hr0 : Kd.C kin w A0 l0.length l0) (hc0 : l0.length ≤ c0) (h : clone.f l0 = some r) :
    Calls Try.prog 36 #[.slice A0 l0.length c0] w fun e w' => ∃ v0_ : Value, e = .returned (v0_) ∧ Kd.R kin 24 w' w.heap.size (fun _ => True) v0_ r ∧ Below w.heap.size w w' := by
  rcases A0 with _ | ad0_
  · have hl0 : l0 = [] := by
      cases l0 with
      | nil => rfl
      | cons x xs => obtain ⟨_, e, _⟩ := hr0.2.2 (by simp); cases e
    subst hl0
    have hr : r = [] := (Option.some.inj (show some ([] : List In) = some r from h)).symm
    subst hr
    have hEq_ : ∀ w : World, Sem.run Try.prog (binOp .eql 22 (.slice none 0 c0) (.slice none 0 0)) w = .ok (.bool true) w := fun w => Lib.run_eql_slice_nil w 22 24 none 0 c0 0 0 Try.underlying22
    go_enter Try.func36, Try.ntmps36
    go_wp2
    go_ret
    exact ⟨_, rfl, Kd.R_nil _ _ _ _ _, Below.refl _ _⟩
  have hEq_ : ∀ w : World, Sem.run Try.prog (binOp .eql 22 (.slice (some ad0_) l0.length c0) (.slice none 0 0)) w = .ok (.bool false) w := fun w => Lib.run_eql_slice_nil w 22 24 (some ad0_) l0.length c0 0 0 Try.underlying22
  have HR0 := Aside0.mk hr0
  have HC0 := Aside0.mk hc0
  clear hr0 hc0
  have HB := Aside0.mk (Below.refl w.heap.size w)
  have H : ((some (([] : List In) : List In)).bind fun y114 => (if y114.length + l0.length < 1000000 then (some (y114 ++ l0)) else (none))) = some r := h
  clear h
  obtain ⟨y114, hy114⟩ : ∃ y_ : List In, y_ = (([] : List In)) := ⟨_, rfl⟩
  replace H : (if y114.length + l0.length < 1000000 then (some (y114 ++ l0)) else (none)) = some r := by first | (rw [hy114]; with_reducible exact H) | (have H2_ := (Option.bind_some _ _).symm.trans H; rw [hy114]; with_reducible exact H2_) | (have H2_ := (Option.bind_some _ _).symm.trans H; with_reducible exact H2_) | with_reducible exact H | (rw [hy114]; exact H) | exact H
  have Ny114 := Aside0.mk hy114
  clear hy114
  by_cases c2 : y114.length + l0.length < 1000000
  · rw [if_pos c2] at H
    have LMc2 := Aside0.mk c2
    clear c2
    obtain ⟨y117, hy117⟩ : ∃ y_ : List In, y_ = (y114 ++ l0) := ⟨_, rfl⟩
    replace H : (some y117) = some r := by first | (rw [hy117]; with_reducible exact H) | (have H2_ := (Option.bind_some _ _).symm.trans H; rw [hy117]; with_reducible exact H2_) | (have H2_ := (Option.bind_some _ _).symm.trans H; with_reducible exact H2_) | with_reducible exact H | (rw [hy117]; exact H) | exact H
    have Ny117 := Aside0.mk hy117
    clear hy117
    obtain rfl := Option.some.inj H
    go_enter Try.func36, Try.ntmps36
    go_wp2_with (first | ((with_reducible refine gate_dst (N := 5) rfl ?_); refine Kd.R_lit kin _ 24 ?hg (N := 5) ?hd (xs := ([] : List In)) (inner := []) (ok := fun _ => True) (okp := fun _ => True) ?hr ?hp (fun _ hk => hk) trivial (Below.refl _ _) (Nat.le_refl _) (by simp) ?_; (case hd => rfl); (case hg => rfl); (case hr => first | (go_simp; done) | (go_simp; rfl)); (case hp => exact (Reps.none _ _)); intro v115 w3 ho4 hb hg_ hnew_; clear hg_ hnew_; (first | rw [← Ny114.out] at ho4 | (simp only [Int.reduceToNat] at ho4; rw [← Ny114.out] at ho4)); have n0_ := Aside0.mk (Kd.R_lower ho4 (below_size jau1_0)); have n1_ := Aside0.mk (below_step jau1_0 hb); clear HB; have HO116 := n0_; have HB := n1_; clear n0_ n1_; clear hb ho4) | ((with_reducible refine gate_builtin (b := .append) (xs := #[.tmp 5, .tmp 6]) rfl ?_); at_builtin; refine Kd.R_append_rows kin (w0 := w) w.heap.size rfl (.tmp 5) (.tmp 6) 22 24 (.agg #[.int .i64 0, .int .i64 0, .bool false]) 24 rfl Try.underlying22 info24_ rfl (by decide) (by omega) v115 y114 l0 _ _ _ (fun _ => True) (fun _ => False) rfl rfl ?aO ?aR (fun _ _ h => h) (fun _ h => h.elim) ?aF ?aB ?aS ?aL ?_; (case aR => repeat (first | exact (Kd.C_below HR0.out HB.out) | (with_reducible refine Kd.C_alloc ?_ _) | (with_reducible refine Kd.C_drewN ?_ _) | (with_reducible refine Kd.C_drew ?_))); (case aB => exact jau1_0); (case aF => exact (fun _ _ => trivial)); (case aO => exact (by (with_reducible repeat (first | apply Kd.R_alloc | apply Kd.R_drewN | apply Kd.R_drew)); exact HO116.out)); (case aS => exact (below_size jau1_0)); (case aL => have := LMc2.out; omega); intro v118 w5 ho hb hg hat; rw [← Ny117.out] at ho; have n0_ := Aside0.mk (hb); have n1_ := Aside0.mk (ho); clear HB; clear HO116; have HB := n0_; have HO119 := n1_; clear n0_ n1_; clear ho hb hg hat))
    go_ret
    exact ⟨_, jau1_8, by (with_reducible repeat (first | apply Kd.R_alloc | apply Kd.R_drewN | apply Kd.R_drew)); exact HO119.out, jau1_0⟩
  · rw [if_neg c2] at H
    exact absurd H (by simp)


theorem clone_eq {l : List In} (h : l.length < 1000000) : clone.f l = some l := by
  unfold clone.f
  rw [Option.bind_some, if_pos (by simpa using h)]
  rfl
def stream_ (cs : List Col) (p fr mo : Int) : List In := if isP cs p ∧ 0 ≤ fr ∧ fr < (cAt cs p).l.length ∧ 1 ≤ mo then ((cAt cs p).l.drop fr.toNat).take (min mo ((cAt cs p).l.length - fr)).toNat else []
theorem stream_no {cs : List Col} {p fr mo : Int} (h : ¬ (isP cs p ∧ 0 ≤ fr ∧ fr < (cAt cs p).l.length ∧ 1 ≤ mo)) : stream_ cs p fr mo = [] := by unfold stream_; rw [if_neg h]
set_option maxHeartbeats 4000000 in
set_option maxRecDepth 100000 in
theorem stream.calls {w : World} {g ga : Nat} {Z : Nat → Prop} {cs : List Col} (h : TabG w g ga Z cs) (hl : g < w.heap.size ∧ ga < w.heap.size) (hz : ∀ k, Z k → k < w.heap.size) (p fr mo : Int) (hp : I64 p) (hfr : I64 fr) (hmo : I64 mo) (hn : cs.length ≤ 1000000) (hm : (cAt cs p).l.length ≤ 10000) :
    Calls Try.prog 18 #[.pointer (some ⟨g, 0, none⟩), .int .i64 p, .int .i64 fr, .int .i64 mo] w fun e w' => ∃ v, e = .returned v ∧ Kd.R kin 24 w' w.heap.size (fun _ => True) v (stream_ cs p fr mo) ∧ Below w.heap.size w w' := by
  by_cases h1 : isP cs p
  · by_cases h2 : fr < 0
    · have d2 : decide (fr < 0) = true := decide_eq_true h2
      go_enter Try.func18, Try.ntmps18
      go_wp2_with (first | (go_at_call 30; (refine (column.calls h p hp hn).mono ?_); rintro e w1 ⟨rfl, hb1⟩; rw [colA_yes h1]; have hT1 := h.below (hb1.block _ hl.1) (hb1.block _ hl.2) (fun k hk => hb1.block _ (hz k hk)); obtain ⟨A, c, c1, c2, c3, hc, hr, hf⟩ := hT1.pl h1))
      go_ret
      rw [stream_no (fun x => by omega)]
      exact ⟨_, rfl, Kd.R_nil _ _ _ _ _, hb1⟩
    · have d2 : decide (fr < 0) = false := decide_eq_false h2
      by_cases h3 : (cAt cs p).l.length ≤ fr
      · have d3 : decide (((cAt cs p).l.length : Int) ≤ fr) = true := decide_eq_true h3
        go_enter Try.func18, Try.ntmps18
        go_wp2_with (first | (go_at_call 30; (refine (column.calls h p hp hn).mono ?_); rintro e w1 ⟨rfl, hb1⟩; rw [colA_yes h1]; have hT1 := h.below (hb1.block _ hl.1) (hb1.block _ hl.2) (fun k hk => hb1.block _ (hz k hk)); obtain ⟨A, c, c1, c2, c3, hc, hr, hf⟩ := hT1.pl h1))
        go_ret
        rw [stream_no (fun x => by omega)]
        exact ⟨_, rfl, Kd.R_nil _ _ _ _ _, hb1⟩
      · have d3 : decide (((cAt cs p).l.length : Int) ≤ fr) = false := decide_eq_false h3
        by_cases h4 : mo < 1
        · have d4 : decide (mo < 1) = true := decide_eq_true h4
          go_enter Try.func18, Try.ntmps18
          go_wp2_with (first | (go_at_call 30; (refine (column.calls h p hp hn).mono ?_); rintro e w1 ⟨rfl, hb1⟩; rw [colA_yes h1]; have hT1 := h.below (hb1.block _ hl.1) (hb1.block _ hl.2) (fun k hk => hb1.block _ (hz k hk)); obtain ⟨A, c, c1, c2, c3, hc, hr, hf⟩ := hT1.pl h1))
          go_ret
          rw [stream_no (fun x => by omega)]
          exact ⟨_, rfl, Kd.R_nil _ _ _ _ _, hb1⟩
        · have d4 : decide (mo < 1) = false := decide_eq_false h4
          obtain ⟨L, hL⟩ : ∃ L, (cAt cs p).l = L := ⟨_, rfl⟩
          rw [hL] at h3 d3 hm
          obtain ⟨f, rfl⟩ : ∃ f : Nat, fr = f := ⟨fr.toNat, by omega⟩
          obtain ⟨n, hn9⟩ : ∃ n : Nat, (n : Int) = min mo ((L.length : Int) - f) := ⟨(min mo ((L.length : Int) - f)).toNat, by omega⟩
          obtain ⟨m1, hm1⟩ : ∃ m1 : Int, (if (L.length : Int) < mo then (L.length : Int) else mo) = m1 := ⟨_, rfl⟩
          have hs1 : IntKind.i64.wrap ((f : Int) + m1) = (f : Int) + m1 := by rw [IntKind.wrap_i64]; split at hm1 <;> omega
          obtain ⟨s1, hs2⟩ : ∃ s1 : Int, (f : Int) + m1 = s1 := ⟨_, rfl⟩
          rw [hs2] at hs1
          have hm2 : (if s1 < (L.length : Int) then s1 else (L.length : Int)) = ((f + n : Nat) : Int) := by split at hm1 <;> split <;> omega
          obtain ⟨e9, he9⟩ : ∃ e9 : Nat, e9 = f + n := ⟨_, rfl⟩
          rw [← he9] at hm2
          have he2 : f ≤ e9 := by omega
          have heL : e9 ≤ L.length := by omega
          have HE := Aside0.mk he9
          clear he9
          have hfn : f + n ≤ L.length := by omega
          have HN := Aside0.mk hn9
          clear hn9
          go_enter Try.func18, Try.ntmps18
          go_wp2_with (first | (go_at_call 30; (refine (column.calls h p hp hn).mono ?_); rintro e w1 ⟨rfl, hb1⟩; rw [colA_yes h1]; have hT1 := h.below (hb1.block _ hl.1) (hb1.block _ hl.2) (fun k hk => hb1.block _ (hz k hk)); obtain ⟨A, c, c1, c2, c3, hc, hr, hf⟩ := hT1.pl h1; obtain ⟨ad, rfl, _⟩ := at_inI (hr _ (fun _ _ => rfl)) (f : Int) (by omega) (by rw [hL]; omega)))
          rw [hL] at c1 hc hr
          have he1 : e9 ≤ c := by omega
          have he3 : (e9 : Int) ≤ (c : Int) := by omega
          have hcf : ¬ c = f := by omega
          have hC1 := Kd.C_drop (m := f) (c := c) (hr w1.drew (fun _ _ => rfl)) (by omega) hc
          rw [if_neg hcf] at hC1
          have hC2 := Kd.C_take (m := n) hC1 (by rw [List.length_drop]; omega)
          have hxl : ((L.drop f).take n).length = e9 - f := by rw [List.length_take, List.length_drop]; have := HE.out; omega
          have hcl := clone.calls _ (c - f) ((L.drop f).take n) _ w1.drew hC2 (by rw [hxl]; omega) (clone_eq (by rw [hxl]; omega))
          rw [hxl] at hcl
          clear hC1 hC2 hxl
          refine wp_region_held_drew (S := (fun w' => w'.cell? ⟨ga, (p.toNat - 1) * 3, none⟩ = some (.slice (some ad) L.length c))) (by kernel_rfl) ?r1S (fun hHeld => ?_)
          case r1S => (exact c1)
          refine takeW (i := 0) (v := ?r1v0) rfl rfl (by kernel_rfl) (by kernel_rfl) (by kernel_rfl) (fun _ _ _ h => h) (by rfl) ?r1y0 hHeld ?_
          case r1y0 => (intro w hSw; (try dsimp only at hSw); go_simp <;> (try with_reducible rfl))
          (try simp only [Act.put, List.setIfInBounds_toArray, List.set_cons_zero, List.set_cons_succ])
          refine takeW (i := 1) (v := ?r1v1) rfl rfl (by kernel_rfl) (by kernel_rfl) (by kernel_rfl) (fun _ _ _ h => h) (by rfl) ?r1y1 hHeld ?_
          case r1y1 => (intro w hSw; (try dsimp only at hSw); go_simp <;> (try with_reducible rfl))
          (try simp only [Act.put, List.setIfInBounds_toArray, List.set_cons_zero, List.set_cons_succ])
          refine takeW (i := 2) (v := ?r1v2) rfl rfl (by kernel_rfl) (by kernel_rfl) (by kernel_rfl) (fun _ _ _ h => h) (by rfl) ?r1y2 hHeld ?_
          case r1y2 => (intro w hSw; (try dsimp only at hSw); go_simp <;> (try with_reducible rfl))
          (try simp only [Act.put, List.setIfInBounds_toArray, List.set_cons_zero, List.set_cons_succ])
          refine takeW (i := 3) (v := ?r1v3) rfl rfl (by kernel_rfl) (by kernel_rfl) (by kernel_rfl) (fun _ _ _ h => h) (by rfl) ?r1y3 hHeld ?_
          case r1y3 => (intro w hSw; (try dsimp only at hSw); go_simp <;> (try with_reducible rfl))
          (try simp only [Act.put, List.setIfInBounds_toArray, List.set_cons_zero, List.set_cons_succ])
          refine takeW (i := 4) (v := ?r1v4) rfl rfl (by kernel_rfl) (by kernel_rfl) (by kernel_rfl) (fun _ _ _ h => h) (by rfl) ?r1y4 hHeld ?_
          case r1y4 => (intro w hSw; (try dsimp only at hSw); go_simp <;> (try with_reducible rfl))
          (try simp only [Act.put, List.setIfInBounds_toArray, List.set_cons_zero, List.set_cons_succ])
          refine takeW (i := 5) (v := ?r1v5) rfl rfl (by kernel_rfl) (by kernel_rfl) (by kernel_rfl) (fun _ _ _ h => h) (by rfl) ?r1y5 hHeld ?_
          case r1y5 => (intro w hSw; (try dsimp only at hSw); go_simp <;> (try with_reducible rfl))
          (try simp only [Act.put, List.setIfInBounds_toArray, List.set_cons_zero, List.set_cons_succ])
          refine takeW (i := 6) (v := ?r1v6) rfl rfl (by kernel_rfl) (by kernel_rfl) (by kernel_rfl) (fun _ _ _ h => h) (by rfl) ?r1y6 hHeld ?_
          case r1y6 => (intro w hSw; (try dsimp only at hSw); go_simp <;> (try with_reducible rfl))
          (try simp only [Act.put, List.setIfInBounds_toArray, List.set_cons_zero, List.set_cons_succ])
          refine takeW (i := 7) (v := ?r1v7) rfl rfl (by kernel_rfl) (by kernel_rfl) (by kernel_rfl) (fun _ _ _ h => h) (by rfl) ?r1y7 hHeld ?_
          case r1y7 => (intro w hSw; (try dsimp only at hSw); go_simp <;> (try with_reducible rfl))
          (try simp only [Act.put, List.setIfInBounds_toArray, List.set_cons_zero, List.set_cons_succ])
          refine takeW (i := 8) (v := ?r1v8) rfl rfl (by kernel_rfl) (by kernel_rfl) (by kernel_rfl) (fun _ _ _ h => h) (by rfl) ?r1y8 hHeld ?_
          case r1y8 => (intro w hSw; (try dsimp only at hSw); go_simp <;> (try with_reducible rfl))
          (try simp only [Act.put, List.setIfInBounds_toArray, List.set_cons_zero, List.set_cons_succ])
          refine takeW (i := 9) (v := ?r1v9) rfl rfl (by kernel_rfl) (by kernel_rfl) (by kernel_rfl) (fun _ _ _ h => h) (by rfl) ?r1y9 hHeld ?_
          case r1y9 => (intro w hSw; (try dsimp only at hSw); go_simp <;> (try with_reducible rfl))
          (try simp only [Act.put, List.setIfInBounds_toArray, List.set_cons_zero, List.set_cons_succ])
          refine takeW (i := 10) (v := ?r1v10) rfl rfl (by kernel_rfl) (by kernel_rfl) (by kernel_rfl) (fun _ _ _ h => h) (by rfl) ?r1y10 hHeld ?_
          case r1y10 => (intro w hSw; (try dsimp only at hSw); go_simp <;> (try with_reducible rfl))
          (try simp only [Act.put, List.setIfInBounds_toArray, List.set_cons_zero, List.set_cons_succ])
          refine takeW (i := 11) (v := ?r1v11) rfl rfl (by kernel_rfl) (by kernel_rfl) (by kernel_rfl) (fun _ _ _ h => h) (by rfl) ?r1y11 hHeld ?_
          case r1y11 => (intro w hSw; (try dsimp only at hSw); go_simp <;> (try with_reducible rfl))
          (try simp only [Act.put, List.setIfInBounds_toArray, List.set_cons_zero, List.set_cons_succ])
          refine takeW (i := 12) (v := ?r1v12) rfl rfl (by kernel_rfl) (by kernel_rfl) (by kernel_rfl) (fun _ _ _ h => h) (by rfl) ?r1y12 hHeld ?_
          case r1y12 => (intro w hSw; (try dsimp only at hSw); go_simp <;> (try with_reducible rfl))
          (try simp only [Act.put, List.setIfInBounds_toArray, List.set_cons_zero, List.set_cons_succ])
          refine takeW (i := 13) (v := ?r1v13) rfl rfl (by kernel_rfl) (by kernel_rfl) (by kernel_rfl) (fun _ _ _ h => h) (by rfl) ?r1y13 hHeld ?_
          case r1y13 => (intro w hSw; (try dsimp only at hSw); go_simp <;> (try with_reducible rfl))
          (try simp only [Act.put, List.setIfInBounds_toArray, List.set_cons_zero, List.set_cons_succ])
          refine takeW (i := 14) (v := ?r1v14) rfl rfl (by kernel_rfl) (by kernel_rfl) (by kernel_rfl) (fun _ _ _ h => h) (by rfl) ?r1y14 hHeld ?_
          case r1y14 => (intro w hSw; (try dsimp only at hSw); go_simp <;> (try with_reducible rfl))
          (try simp only [Act.put, List.setIfInBounds_toArray, List.set_cons_zero, List.set_cons_succ])
          refine takeW (i := 15) (v := ?r1v15) rfl rfl (by kernel_rfl) (by kernel_rfl) (by kernel_rfl) (fun _ _ _ h => h) (by rfl) ?r1y15 hHeld ?_
          case r1y15 => (intro w hSw; (try dsimp only at hSw); go_simp <;> (try with_reducible rfl))
          (try simp only [Act.put, List.setIfInBounds_toArray, List.set_cons_zero, List.set_cons_succ])
          refine takeW (i := 16) (v := ?r1v16) rfl rfl (by kernel_rfl) (by kernel_rfl) (by kernel_rfl) (fun _ _ _ h => h) (by rfl) ?r1y16 hHeld ?_
          case r1y16 => (intro w hSw; (try dsimp only at hSw); go_simp <;> (try with_reducible rfl))
          (try simp only [Act.put, List.setIfInBounds_toArray, List.set_cons_zero, List.set_cons_succ])
          refine takeW (i := 17) (v := ?r1v17) rfl rfl (by kernel_rfl) (by kernel_rfl) (by kernel_rfl) (fun _ _ _ h => h) (by rfl) ?r1y17 hHeld ?_
          case r1y17 => (intro w hSw; (try dsimp only at hSw); go_simp <;> (try with_reducible rfl))
          (try simp only [Act.put, List.setIfInBounds_toArray, List.set_cons_zero, List.set_cons_succ])
          refine takeW (i := 18) (v := ?r1v18) rfl rfl (by kernel_rfl) (by kernel_rfl) (by kernel_rfl) (fun _ _ _ h => h) (by rfl) ?r1y18 hHeld ?_
          case r1y18 => (intro w hSw; (try dsimp only at hSw); go_simp <;> (try with_reducible rfl))
          (try simp only [Act.put, List.setIfInBounds_toArray, List.set_cons_zero, List.set_cons_succ])
          refine takeW (i := 19) (v := ?r1v19) rfl rfl (by kernel_rfl) (by kernel_rfl) (by kernel_rfl) (fun _ _ _ h => h) (by rfl) ?r1y19 hHeld ?_
          case r1y19 => (intro w hSw; (try dsimp only at hSw); go_simp <;> (try with_reducible rfl))
          (try simp only [Act.put, List.setIfInBounds_toArray, List.set_cons_zero, List.set_cons_succ])
          refine takeW (i := 20) (v := ?r1v20) rfl rfl (by kernel_rfl) (by kernel_rfl) (by kernel_rfl) (fun _ _ _ h => h) (by rfl) ?r1y20 hHeld ?_
          case r1y20 => (intro w hSw; (try dsimp only at hSw); go_simp <;> (try with_reducible rfl))
          (try simp only [Act.put, List.setIfInBounds_toArray, List.set_cons_zero, List.set_cons_succ])
          refine callC (i := 21) rfl (by kernel_rfl) (by rfl) (fun K hK => ?_)
          clear hHeld
          (go_wp2_with ((go_at_call 36; refine hcl.mono ?_; rintro e w2 ⟨v, rfl, ho, hb2⟩; have c12 := pw_cell_below (w := w1.drew) hb2 c1)))
          refine hK.out _ _ ?r1k21 (fun hHeld => ?_)
          case r1k21 => (exact c12)
          clear hK K
          (try simp only [Act.put, List.setIfInBounds_toArray, List.set_cons_zero, List.set_cons_succ])
          refine takeW (i := 22) (v := ?r1v22) rfl rfl (by kernel_rfl) (by kernel_rfl) (by kernel_rfl) (fun _ _ _ h => h) (by rfl) ?r1y22 hHeld ?_
          case r1y22 => (intro w hSw; (try dsimp only at hSw); go_simp <;> (try with_reducible rfl))
          (try simp only [Act.put, List.setIfInBounds_toArray, List.set_cons_zero, List.set_cons_succ])
          refine wpAnyH_done (by kernel_rfl) ?_ _
          go_wp2
          go_ret
          have es : stream_ cs p (f : Int) mo = (L.drop f).take n := by
            unfold stream_
            rw [hL, if_pos ⟨h1, by omega, by omega, by omega⟩, ← HN.out]
            rfl
          rw [es]
          exact ⟨v, rfl, Kd.R_lower ho hb1.size, below_step (Below.drew hb1) hb2⟩
  · skip
    go_enter Try.func18, Try.ntmps18
    go_wp2_with (first | (go_at_call 30; (refine (column.calls h p hp hn).mono ?_); rintro e w1 ⟨rfl, hb1⟩; rw [colA_no h1]))
    go_ret
    rw [stream_no (fun x => h1 x.1)]
    exact ⟨_, rfl, Kd.R_nil _ _ _ _ _, hb1⟩
end Go.Proofs.Ytkgjokidfbpnbaa.InW
