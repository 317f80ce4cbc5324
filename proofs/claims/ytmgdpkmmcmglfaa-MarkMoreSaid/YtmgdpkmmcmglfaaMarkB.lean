/- What package mark's inner functions do: known, goes, made. Conditions: numbers are within int; lines as few says. -/
import Derived.Test.YtmgdpkmmcmglfaaMarkA
import Derived.Test.YtmgdpkmmcmglfaaReg
import Derived.Test.YtmgdpkmmcmglfaaGridW2
import Derived.LoopN
namespace Go.Proofs.Ytmgdpkmmcmglfaa.MarkW
open Go Go.RowKit Go.Proofs.YtmgdpkmmcmglfaaW.PrintWords Go.Proofs.YtmgdpkmmcmglfaaW.PrintLast Go.Proofs.YtmgdpkmmcmglfaaW.PrintMore Go.Proofs.Ytmgdpkmmcmglfaa.Sep
attribute [local go_sem] max2_int min2_int max_two min_two max_three min_three max_four min_four   -- for this text's walks alone
set_option linter.unusedVariables false
set_option linter.unusedSimpArgs false
/-- does one know what a region emitted in the frame ahead of one? -/
def knownP (ms : List (Option LineS)) (q f : Int) : Bool := match firstL ms q with
  | none => false
  | some s => decide (s.x.2.1 ≤ f - 1 ∧ f ≤ s.sure)
abbrev Obj59 (va : Value) (b : Nat) : Obj := .cells #[va, .map (some b)] 59 (0, 0)
set_option maxHeartbeats 4000000 in
set_option maxRecDepth 100000 in
theorem known.calls {w0 w : World} {base gx b n : Nat} {va : Value} {ms : List (Option LineS)} {F : List Asr} (h : Has w0 base w (blk gx (Obj59 va b) :: mapA b n (mapOf ms) :: (F ++ lns w0 ms))) (hb : w0.heap.size ≤ base) (q f : Int) (hq : I64 q) (hf : -1000000 ≤ f ∧ f ≤ 1000000) :
    Calls Try.prog 31 #[.pointer (some ⟨gx, 0, none⟩), .int .i64 q, .int .i64 f] w fun e w' => e = .returned (.bool (knownP ms q f)) ∧ Below w.heap.size w w' := by
  have bk := h.blk
  have hc0 : w.cell? ⟨gx, 1, none⟩ = some (.map (some b)) := (blk_cell bk 1).trans rfl
  have hlk := map_look h.sw hq
  unfold knownP
  cases hm : firstL ms q with
  | none =>
    have e : mapOf ms q = none := by unfold mapOf; rw [hm]; rfl
    rw [e] at hlk
    have hlk2 : (Instr.lookup 56 (.map (some b)) (.int .i64 q) false).run Try.prog w = .ok (.pointer none) w := hlk
    clear hlk
    go_enter Try.func31, Try.ntmps31
    go_wp2
    go_ret
    exact ⟨rfl, Below.refl _ _⟩
  | some s =>
    have e : mapOf ms q = some s.g := by unfold mapOf; rw [hm]; rfl
    rw [e] at hlk
    have hlk2 : (Instr.lookup 56 (.map (some b)) (.int .i64 q) false).run Try.prog w = .ok (.pointer (some ⟨s.g, 0, none⟩)) w := hlk
    clear hlk
    obtain ⟨j, hj⟩ := (firstL_at hm).2
    obtain ⟨A2, c2, A3, c3, A4, c4, h3, _⟩ := line_open (lines_out (blk gx (Obj59 va b) :: mapA b n (mapOf ms) :: F) hj h) hb
    have x1 : w.cell? ⟨s.g, 1, none⟩ = some (.int .i64 s.x.2.1) := (blk_cell h3 1).trans rfl
    have x6 : w.cell? ⟨s.g, 6, none⟩ = some (.int .i64 s.sure) := (blk_cell h3 6).trans rfl
    have hs1 : IntKind.i64.wrap (f - 1) = f - 1 := by rw [IntKind.wrap_i64]; omega
    by_cases c1 : s.x.2.1 ≤ f - 1
    · have d1 : decide (s.x.2.1 ≤ f - 1) = true := decide_eq_true c1
      have e9 : decide (s.x.2.1 ≤ f - 1 ∧ f ≤ s.sure) = decide (f ≤ s.sure) := by
        rw [decide_eq_decide]
        exact ⟨fun h => h.2, fun h => ⟨c1, h⟩⟩
      dsimp only
      rw [e9]
      go_enter Try.func31, Try.ntmps31
      go_wp2
      go_ret
      exact ⟨rfl, Below.refl _ _⟩
    · have d1 : decide (s.x.2.1 ≤ f - 1) = false := decide_eq_false c1
      have e9 : decide (s.x.2.1 ≤ f - 1 ∧ f ≤ s.sure) = false := decide_eq_false (fun h => c1 h.1)
      dsimp only
      rw [e9]
      go_enter Try.func31, Try.ntmps31
      go_wp2
      go_ret
      exact ⟨rfl, Below.refl _ _⟩
/-- at step i: is what comes in from the k-th near region known? -/
def okK (ms : List (Option LineS)) (s : LineS) (i k : Nat) : Bool := decide (i = 0) || (s.x.2.2.2.getD i []).getD k false || knownP ms (s.near.getD k 0) s.sure
def goesP (ms : List (Option LineS)) (s : LineS) : Bool := decide (s.sure - s.x.2.1 < s.steps) && s.x.2.2.1.getD (s.sure - s.x.2.1).toNat false && (List.range s.near.length).all (okK ms s (s.sure - s.x.2.1).toNat)
/-- what is so of each line -/
structure WfL (s : LineS) : Prop where
  base : 0 ≤ s.x.2.1 ∧ s.x.2.1 ≤ 10000
  sure : s.x.2.1 ≤ s.sure ∧ s.sure ≤ s.x.2.1 + s.steps
  near : s.near.length ≤ 100 ∧ ∀ q ∈ s.near, I64 q
  rows : ∀ r ∈ s.x.2.2.2, r.length = s.near.length
  len : s.x.2.2.1.length ≤ 100 ∧ s.x.2.2.2.length ≤ 100
set_option maxHeartbeats 4000000 in
set_option maxRecDepth 100000 in
theorem goes.calls {w0 w : World} {base gx b n j : Nat} {va : Value} {ms : List (Option LineS)} {s : LineS} {F : List Asr} (h : Has w0 base w (blk gx (Obj59 va b) :: mapA b n (mapOf ms) :: (F ++ lns w0 ms))) (hb : w0.heap.size ≤ base) (hj : ms[j]? = some (some s)) (hw : WfL s) :
    Calls Try.prog 22 #[.pointer (some ⟨gx, 0, none⟩), .pointer (some ⟨s.g, 0, none⟩)] w fun e w' => e = .returned (.bool (goesP ms s)) ∧ Below w.heap.size w w' := by
  have hb1 := hw.base
  have hb2 := hw.sure
  have hb3 := hw.len
  have hs0 : s.steps ≤ s.x.2.2.1.length ∧ s.steps ≤ s.x.2.2.2.length := by unfold LineS.steps; split <;> omega
  obtain ⟨A2, c2, A3, c3, A4, c4, h3, h4, h5, h6, h7, h8, h9⟩ := line_open (lines_out (blk gx (Obj59 va b) :: mapA b n (mapOf ms) :: F) hj h) hb
  obtain ⟨i, hi⟩ : ∃ i : Nat, (i : Int) = s.sure - s.x.2.1 := ⟨(s.sure - s.x.2.1).toNat, by omega⟩
  have x1 : w.cell? ⟨s.g, 1, none⟩ = some (.int .i64 s.x.2.1) := (blk_cell h3 1).trans rfl
  have x2 : w.cell? ⟨s.g, 2, none⟩ = some (.slice A2 s.x.2.2.1.length c2) := (blk_cell h3 2).trans rfl
  have x4 : w.cell? ⟨s.g, 4, none⟩ = some (.slice A4 s.near.length c4) := (blk_cell h3 4).trans rfl
  have x5 : w.cell? ⟨s.g, 5, none⟩ = some (.int .i64 s.steps) := (blk_cell h3 5).trans rfl
  have x6 : w.cell? ⟨s.g, 6, none⟩ = some (.int .i64 s.sure) := (blk_cell h3 6).trans rfl
  have hs1 : IntKind.i64.wrap (s.sure - s.x.2.1) = (i : Int) := by rw [IntKind.wrap_i64, ← hi]; omega
  have e0 : (s.sure - s.x.2.1).toNat = i := by omega
  by_cases c1 : s.steps ≤ i
  · have d1 : decide (s.steps ≤ (i : Int)) = true := decide_eq_true c1
    have eg : goesP ms s = false := by unfold goesP; rw [decide_eq_false (by omega)]; rfl
    rw [eg]
    clear hs0 hb1 hb2 hb3 hi
    go_enter Try.func22, Try.ntmps22
    go_wp2
    refine wp_region_held_drew (S := (fun w' => w'.cell? ⟨s.g, 1, none⟩ = some (.int .i64 s.x.2.1) ∧ w'.cell? ⟨s.g, 6, none⟩ = some (.int .i64 s.sure))) (by kernel_rfl) ?_ (fun hHeld => ?_)
    · (exact ⟨x1, x6⟩)
    refine Go.Proofs.Ytmgdpkmmcmglfaa.Sep.takeW (i := 0) (v := ?_) rfl rfl (by kernel_rfl) (by kernel_rfl) (by kernel_rfl) (fun _ _ _ h => h) (by rfl) ?_ hHeld ?_
    rotate_left 1
    · (intro w hSw; (try dsimp only at hSw); go_simp <;> (try with_reducible rfl))
    (try simp only [Act.put, List.setIfInBounds_toArray, List.set_cons_zero, List.set_cons_succ])
    refine Go.Proofs.Ytmgdpkmmcmglfaa.Sep.takeW (i := 1) (v := ?_) rfl rfl (by kernel_rfl) (by kernel_rfl) (by kernel_rfl) (fun _ _ _ h => h) (by rfl) ?_ hHeld ?_
    rotate_left 1
    · (intro w hSw; (try dsimp only at hSw); go_simp <;> (try with_reducible rfl))
    (try simp only [Act.put, List.setIfInBounds_toArray, List.set_cons_zero, List.set_cons_succ])
    refine Go.Proofs.Ytmgdpkmmcmglfaa.Sep.takeW (i := 2) (v := ?_) rfl rfl (by kernel_rfl) (by kernel_rfl) (by kernel_rfl) (fun _ _ _ h => h) (by rfl) ?_ hHeld ?_
    rotate_left 1
    · (intro w hSw; (try dsimp only at hSw); go_simp <;> (try with_reducible rfl))
    (try simp only [Act.put, List.setIfInBounds_toArray, List.set_cons_zero, List.set_cons_succ])
    refine Go.Proofs.Ytmgdpkmmcmglfaa.Sep.takeW (i := 3) (v := ?_) rfl rfl (by kernel_rfl) (by kernel_rfl) (by kernel_rfl) (fun _ _ _ h => h) (by rfl) ?_ hHeld ?_
    rotate_left 1
    · (intro w hSw; (try dsimp only at hSw); go_simp <;> (try with_reducible rfl))
    (try simp only [Act.put, List.setIfInBounds_toArray, List.set_cons_zero, List.set_cons_succ])
    refine Go.Proofs.Ytmgdpkmmcmglfaa.Sep.takeW (i := 4) (v := ?_) rfl rfl (by kernel_rfl) (by kernel_rfl) (by kernel_rfl) (fun _ _ _ h => h) (by rfl) ?_ hHeld ?_
    rotate_left 1
    · (intro w hSw; (try dsimp only at hSw); go_simp <;> (try with_reducible rfl))
    (try simp only [Act.put, List.setIfInBounds_toArray, List.set_cons_zero, List.set_cons_succ])
    refine Go.Proofs.Ytmgdpkmmcmglfaa.Sep.takeW (i := 5) (v := ?_) rfl rfl (by kernel_rfl) (by kernel_rfl) (by kernel_rfl) (fun _ _ _ h => h) (by rfl) ?_ hHeld ?_
    rotate_left 1
    · (intro w hSw; (try dsimp only at hSw); go_simp <;> (try with_reducible rfl))
    (try simp only [Act.put, List.setIfInBounds_toArray, List.set_cons_zero, List.set_cons_succ])
    refine Go.Proofs.Ytmgdpkmmcmglfaa.Sep.takeW (i := 6) (v := ?_) rfl rfl (by kernel_rfl) (by kernel_rfl) (by kernel_rfl) (fun _ _ _ h => h) (by rfl) ?_ hHeld ?_
    rotate_left 1
    · (intro w hSw; (try dsimp only at hSw); go_simp <;> (try with_reducible rfl))
    (try simp only [Act.put, List.setIfInBounds_toArray, List.set_cons_zero, List.set_cons_succ])
    refine Go.Proofs.Ytmgdpkmmcmglfaa.Sep.takeW (i := 7) (v := ?_) rfl rfl (by kernel_rfl) (by kernel_rfl) (by kernel_rfl) (fun _ _ _ h => h) (by rfl) ?_ hHeld ?_
    rotate_left 1
    · (intro w hSw; (try dsimp only at hSw); go_simp <;> (try with_reducible rfl))
    (try simp only [Act.put, List.setIfInBounds_toArray, List.set_cons_zero, List.set_cons_succ])
    refine Go.Proofs.Ytmgdpkmmcmglfaa.Sep.takeW (i := 8) (v := ?_) rfl rfl (by kernel_rfl) (by kernel_rfl) (by kernel_rfl) (fun _ _ _ h => h) (by rfl) ?_ hHeld ?_
    rotate_left 1
    · (intro w hSw; (try dsimp only at hSw); go_simp <;> (try with_reducible rfl))
    (try simp only [Act.put, List.setIfInBounds_toArray, List.set_cons_zero, List.set_cons_succ])
    refine Go.Proofs.Ytmgdpkmmcmglfaa.Sep.takeW (i := 9) (v := ?_) rfl rfl (by kernel_rfl) (by kernel_rfl) (by kernel_rfl) (fun _ _ _ h => h) (by rfl) ?_ hHeld ?_
    rotate_left 1
    · (intro w hSw; (try dsimp only at hSw); go_simp <;> (try with_reducible rfl))
    (try simp only [Act.put, List.setIfInBounds_toArray, List.set_cons_zero, List.set_cons_succ])
    refine Go.Proofs.Ytmgdpkmmcmglfaa.Sep.takeW (i := 10) (v := ?_) rfl rfl (by kernel_rfl) (by kernel_rfl) (by kernel_rfl) (fun _ _ _ h => h) (by rfl) ?_ hHeld ?_
    rotate_left 1
    · (intro w hSw; (try dsimp only at hSw); go_simp <;> (try with_reducible rfl))
    (try simp only [Act.put, List.setIfInBounds_toArray, List.set_cons_zero, List.set_cons_succ])
    refine wpAnyH_done (by kernel_rfl) ?_ _
    have z1 : w.drew.cell? _ = _ := x1
    have z2 : w.drew.cell? _ = _ := x2
    have z4 : w.drew.cell? _ = _ := x4
    have z5 : w.drew.cell? _ = _ := x5
    have z6 : w.drew.cell? _ = _ := x6
    go_wp2
    go_ret
    exact ⟨rfl, Below.drew (Below.refl _ _)⟩
  · have d1 : decide (s.steps ≤ (i : Int)) = false := decide_eq_false c1
    have hi2 : i < s.x.2.2.1.length := by omega
    have hi3 : i < s.x.2.2.2.length := by omega
    obtain ⟨ad2, rfl, y2⟩ := rdBool h5 i hi2
    have k1 : (i : Int) < (s.x.2.2.1.length : Int) := by omega
    have eS : s.x.2.2.1.getD i false = s.x.2.2.1[i] := by simp [List.getD_eq_getElem?_getD, hi2]
    obtain ⟨u, hu⟩ : ∃ u, s.x.2.2.1[i] = u := ⟨_, rfl⟩
    rw [hu] at y2 eS
    clear hu
    cases u with
    | false =>
      have eg : goesP ms s = false := by unfold goesP; rw [e0, eS, Bool.and_false, Bool.false_and]
      rw [eg]
      clear hs0 hb1 hb2 hb3 hi
      go_enter Try.func22, Try.ntmps22
      go_wp2
      refine wp_region_held_drew (S := (fun w' => w'.cell? ⟨s.g, 1, none⟩ = some (.int .i64 s.x.2.1) ∧ w'.cell? ⟨s.g, 6, none⟩ = some (.int .i64 s.sure))) (by kernel_rfl) ?_ (fun hHeld => ?_)
      · (exact ⟨x1, x6⟩)
      refine Go.Proofs.Ytmgdpkmmcmglfaa.Sep.takeW (i := 0) (v := ?_) rfl rfl (by kernel_rfl) (by kernel_rfl) (by kernel_rfl) (fun _ _ _ h => h) (by rfl) ?_ hHeld ?_
      rotate_left 1
      · (intro w hSw; (try dsimp only at hSw); go_simp <;> (try with_reducible rfl))
      (try simp only [Act.put, List.setIfInBounds_toArray, List.set_cons_zero, List.set_cons_succ])
      refine Go.Proofs.Ytmgdpkmmcmglfaa.Sep.takeW (i := 1) (v := ?_) rfl rfl (by kernel_rfl) (by kernel_rfl) (by kernel_rfl) (fun _ _ _ h => h) (by rfl) ?_ hHeld ?_
      rotate_left 1
      · (intro w hSw; (try dsimp only at hSw); go_simp <;> (try with_reducible rfl))
      (try simp only [Act.put, List.setIfInBounds_toArray, List.set_cons_zero, List.set_cons_succ])
      refine Go.Proofs.Ytmgdpkmmcmglfaa.Sep.takeW (i := 2) (v := ?_) rfl rfl (by kernel_rfl) (by kernel_rfl) (by kernel_rfl) (fun _ _ _ h => h) (by rfl) ?_ hHeld ?_
      rotate_left 1
      · (intro w hSw; (try dsimp only at hSw); go_simp <;> (try with_reducible rfl))
      (try simp only [Act.put, List.setIfInBounds_toArray, List.set_cons_zero, List.set_cons_succ])
      refine Go.Proofs.Ytmgdpkmmcmglfaa.Sep.takeW (i := 3) (v := ?_) rfl rfl (by kernel_rfl) (by kernel_rfl) (by kernel_rfl) (fun _ _ _ h => h) (by rfl) ?_ hHeld ?_
      rotate_left 1
      · (intro w hSw; (try dsimp only at hSw); go_simp <;> (try with_reducible rfl))
      (try simp only [Act.put, List.setIfInBounds_toArray, List.set_cons_zero, List.set_cons_succ])
      refine Go.Proofs.Ytmgdpkmmcmglfaa.Sep.takeW (i := 4) (v := ?_) rfl rfl (by kernel_rfl) (by kernel_rfl) (by kernel_rfl) (fun _ _ _ h => h) (by rfl) ?_ hHeld ?_
      rotate_left 1
      · (intro w hSw; (try dsimp only at hSw); go_simp <;> (try with_reducible rfl))
      (try simp only [Act.put, List.setIfInBounds_toArray, List.set_cons_zero, List.set_cons_succ])
      refine Go.Proofs.Ytmgdpkmmcmglfaa.Sep.takeW (i := 5) (v := ?_) rfl rfl (by kernel_rfl) (by kernel_rfl) (by kernel_rfl) (fun _ _ _ h => h) (by rfl) ?_ hHeld ?_
      rotate_left 1
      · (intro w hSw; (try dsimp only at hSw); go_simp <;> (try with_reducible rfl))
      (try simp only [Act.put, List.setIfInBounds_toArray, List.set_cons_zero, List.set_cons_succ])
      refine Go.Proofs.Ytmgdpkmmcmglfaa.Sep.takeW (i := 6) (v := ?_) rfl rfl (by kernel_rfl) (by kernel_rfl) (by kernel_rfl) (fun _ _ _ h => h) (by rfl) ?_ hHeld ?_
      rotate_left 1
      · (intro w hSw; (try dsimp only at hSw); go_simp <;> (try with_reducible rfl))
      (try simp only [Act.put, List.setIfInBounds_toArray, List.set_cons_zero, List.set_cons_succ])
      refine Go.Proofs.Ytmgdpkmmcmglfaa.Sep.takeW (i := 7) (v := ?_) rfl rfl (by kernel_rfl) (by kernel_rfl) (by kernel_rfl) (fun _ _ _ h => h) (by rfl) ?_ hHeld ?_
      rotate_left 1
      · (intro w hSw; (try dsimp only at hSw); go_simp <;> (try with_reducible rfl))
      (try simp only [Act.put, List.setIfInBounds_toArray, List.set_cons_zero, List.set_cons_succ])
      refine Go.Proofs.Ytmgdpkmmcmglfaa.Sep.takeW (i := 8) (v := ?_) rfl rfl (by kernel_rfl) (by kernel_rfl) (by kernel_rfl) (fun _ _ _ h => h) (by rfl) ?_ hHeld ?_
      rotate_left 1
      · (intro w hSw; (try dsimp only at hSw); go_simp <;> (try with_reducible rfl))
      (try simp only [Act.put, List.setIfInBounds_toArray, List.set_cons_zero, List.set_cons_succ])
      refine Go.Proofs.Ytmgdpkmmcmglfaa.Sep.takeW (i := 9) (v := ?_) rfl rfl (by kernel_rfl) (by kernel_rfl) (by kernel_rfl) (fun _ _ _ h => h) (by rfl) ?_ hHeld ?_
      rotate_left 1
      · (intro w hSw; (try dsimp only at hSw); go_simp <;> (try with_reducible rfl))
      (try simp only [Act.put, List.setIfInBounds_toArray, List.set_cons_zero, List.set_cons_succ])
      refine Go.Proofs.Ytmgdpkmmcmglfaa.Sep.takeW (i := 10) (v := ?_) rfl rfl (by kernel_rfl) (by kernel_rfl) (by kernel_rfl) (fun _ _ _ h => h) (by rfl) ?_ hHeld ?_
      rotate_left 1
      · (intro w hSw; (try dsimp only at hSw); go_simp <;> (try with_reducible rfl))
      (try simp only [Act.put, List.setIfInBounds_toArray, List.set_cons_zero, List.set_cons_succ])
      refine wpAnyH_done (by kernel_rfl) ?_ _
      have z1 : w.drew.cell? _ = _ := x1
      have z2 : w.drew.cell? _ = _ := x2
      have z4 : w.drew.cell? _ = _ := x4
      have z5 : w.drew.cell? _ = _ := x5
      have z6 : w.drew.cell? _ = _ := x6
      have zy2 : w.drew.cell? _ = _ := y2
      go_wp2
      go_ret
      exact ⟨rfl, Below.drew (Below.refl _ _)⟩
    | true =>
      have HH := Aside0.mk h
      have HB0 := Aside0.mk (Below.refl w.heap.size w)
      have HNR := Aside0.mk hw.near
      have HRW := Aside0.mk hw.rows
      have hnl := hw.near.1
      have EG := Aside0.mk (show goesP ms s = (List.range s.near.length).all (okK ms s i) from by unfold goesP; rw [e0, eS, decide_eq_true (by omega), Bool.true_and, Bool.true_and])
      have HA3 := Aside0.mk h3
      have HA7 := Aside0.mk h7
      have HA9 := Aside0.mk h9
      have HSU := Aside0.mk (show -1000000 ≤ s.sure ∧ s.sure ≤ 1000000 by omega)
      clear h hw h5 h7 h9 eS hi hb2 e0
      go_enter Try.func22, Try.ntmps22
      go_wp2
      refine wp_region_held_drew (S := (fun w' => w'.cell? ⟨s.g, 1, none⟩ = some (.int .i64 s.x.2.1) ∧ w'.cell? ⟨s.g, 6, none⟩ = some (.int .i64 s.sure))) (by kernel_rfl) ?_ (fun hHeld => ?_)
      · (exact ⟨x1, x6⟩)
      refine Go.Proofs.Ytmgdpkmmcmglfaa.Sep.takeW (i := 0) (v := ?_) rfl rfl (by kernel_rfl) (by kernel_rfl) (by kernel_rfl) (fun _ _ _ h => h) (by rfl) ?_ hHeld ?_
      rotate_left 1
      · (intro w hSw; (try dsimp only at hSw); go_simp <;> (try with_reducible rfl))
      (try simp only [Act.put, List.setIfInBounds_toArray, List.set_cons_zero, List.set_cons_succ])
      refine Go.Proofs.Ytmgdpkmmcmglfaa.Sep.takeW (i := 1) (v := ?_) rfl rfl (by kernel_rfl) (by kernel_rfl) (by kernel_rfl) (fun _ _ _ h => h) (by rfl) ?_ hHeld ?_
      rotate_left 1
      · (intro w hSw; (try dsimp only at hSw); go_simp <;> (try with_reducible rfl))
      (try simp only [Act.put, List.setIfInBounds_toArray, List.set_cons_zero, List.set_cons_succ])
      refine Go.Proofs.Ytmgdpkmmcmglfaa.Sep.takeW (i := 2) (v := ?_) rfl rfl (by kernel_rfl) (by kernel_rfl) (by kernel_rfl) (fun _ _ _ h => h) (by rfl) ?_ hHeld ?_
      rotate_left 1
      · (intro w hSw; (try dsimp only at hSw); go_simp <;> (try with_reducible rfl))
      (try simp only [Act.put, List.setIfInBounds_toArray, List.set_cons_zero, List.set_cons_succ])
      refine Go.Proofs.Ytmgdpkmmcmglfaa.Sep.takeW (i := 3) (v := ?_) rfl rfl (by kernel_rfl) (by kernel_rfl) (by kernel_rfl) (fun _ _ _ h => h) (by rfl) ?_ hHeld ?_
      rotate_left 1
      · (intro w hSw; (try dsimp only at hSw); go_simp <;> (try with_reducible rfl))
      (try simp only [Act.put, List.setIfInBounds_toArray, List.set_cons_zero, List.set_cons_succ])
      refine Go.Proofs.Ytmgdpkmmcmglfaa.Sep.takeW (i := 4) (v := ?_) rfl rfl (by kernel_rfl) (by kernel_rfl) (by kernel_rfl) (fun _ _ _ h => h) (by rfl) ?_ hHeld ?_
      rotate_left 1
      · (intro w hSw; (try dsimp only at hSw); go_simp <;> (try with_reducible rfl))
      (try simp only [Act.put, List.setIfInBounds_toArray, List.set_cons_zero, List.set_cons_succ])
      refine Go.Proofs.Ytmgdpkmmcmglfaa.Sep.takeW (i := 5) (v := ?_) rfl rfl (by kernel_rfl) (by kernel_rfl) (by kernel_rfl) (fun _ _ _ h => h) (by rfl) ?_ hHeld ?_
      rotate_left 1
      · (intro w hSw; (try dsimp only at hSw); go_simp <;> (try with_reducible rfl))
      (try simp only [Act.put, List.setIfInBounds_toArray, List.set_cons_zero, List.set_cons_succ])
      refine Go.Proofs.Ytmgdpkmmcmglfaa.Sep.takeW (i := 6) (v := ?_) rfl rfl (by kernel_rfl) (by kernel_rfl) (by kernel_rfl) (fun _ _ _ h => h) (by rfl) ?_ hHeld ?_
      rotate_left 1
      · (intro w hSw; (try dsimp only at hSw); go_simp <;> (try with_reducible rfl))
      (try simp only [Act.put, List.setIfInBounds_toArray, List.set_cons_zero, List.set_cons_succ])
      refine Go.Proofs.Ytmgdpkmmcmglfaa.Sep.takeW (i := 7) (v := ?_) rfl rfl (by kernel_rfl) (by kernel_rfl) (by kernel_rfl) (fun _ _ _ h => h) (by rfl) ?_ hHeld ?_
      rotate_left 1
      · (intro w hSw; (try dsimp only at hSw); go_simp <;> (try with_reducible rfl))
      (try simp only [Act.put, List.setIfInBounds_toArray, List.set_cons_zero, List.set_cons_succ])
      refine Go.Proofs.Ytmgdpkmmcmglfaa.Sep.takeW (i := 8) (v := ?_) rfl rfl (by kernel_rfl) (by kernel_rfl) (by kernel_rfl) (fun _ _ _ h => h) (by rfl) ?_ hHeld ?_
      rotate_left 1
      · (intro w hSw; (try dsimp only at hSw); go_simp <;> (try with_reducible rfl))
      (try simp only [Act.put, List.setIfInBounds_toArray, List.set_cons_zero, List.set_cons_succ])
      refine Go.Proofs.Ytmgdpkmmcmglfaa.Sep.takeW (i := 9) (v := ?_) rfl rfl (by kernel_rfl) (by kernel_rfl) (by kernel_rfl) (fun _ _ _ h => h) (by rfl) ?_ hHeld ?_
      rotate_left 1
      · (intro w hSw; (try dsimp only at hSw); go_simp <;> (try with_reducible rfl))
      (try simp only [Act.put, List.setIfInBounds_toArray, List.set_cons_zero, List.set_cons_succ])
      refine Go.Proofs.Ytmgdpkmmcmglfaa.Sep.takeW (i := 10) (v := ?_) rfl rfl (by kernel_rfl) (by kernel_rfl) (by kernel_rfl) (fun _ _ _ h => h) (by rfl) ?_ hHeld ?_
      rotate_left 1
      · (intro w hSw; (try dsimp only at hSw); go_simp <;> (try with_reducible rfl))
      (try simp only [Act.put, List.setIfInBounds_toArray, List.set_cons_zero, List.set_cons_succ])
      refine wpAnyH_done (by kernel_rfl) ?_ _
      have z1 : w.drew.cell? _ = _ := x1
      have z2 : w.drew.cell? _ = _ := x2
      have z4 : w.drew.cell? _ = _ := x4
      have z5 : w.drew.cell? _ = _ := x5
      have z6 : w.drew.cell? _ = _ := x6
      have zy2 : w.drew.cell? _ = _ := y2
      go_wp2
      clear x1 x2 x4 x5 x6 y2 h3 z1 z2 z4 z5 z6 zy2
      go_loopg [40] (s.near.length + 1) (fun kq v40 w' => ∃ k : Nat, v40 = .int .i64 (k : Int) ∧ Aside0 (k + kq = s.near.length + 1) ∧ Aside0 (k ≤ s.near.length) ∧ Aside0 (∀ k' < k, okK ms s i k' = true) ∧ Aside0 (Has w0 base w' (blk gx (Obj59 va b) :: mapA b n (mapOf ms) :: (F ++ lns w0 ms))) ∧ Aside0 (Below w.heap.size w w'))
      case atStart => exact ⟨0, rfl, ⟨by omega⟩, ⟨by omega⟩, ⟨fun _ h => absurd h (by omega)⟩, ⟨HH.out.drew⟩, ⟨Below.drew HB0.out⟩⟩
      case round =>
        obtain ⟨k, rfl, HK, HL, HO, HW, HB⟩ := hrel
        have hkl := HL.out
        by_cases hkn : k < s.near.length
        · have e1 : decide ((k : Int) < (s.near.length : Int)) = true := decide_eq_true (by omega)
          cases gk with
          | zero => exact absurd HK.out (by omega)
          | succ k1 =>
            have h3r := blk_below HA3.out HB.out
            have x3 : wr.cell? ⟨s.g, 3, none⟩ = some (.slice A3 s.x.2.2.2.length c3) := (blk_cell h3r 3).trans rfl
            have x6 : wr.cell? ⟨s.g, 6, none⟩ = some (.int .i64 s.sure) := (blk_cell h3r 6).trans rfl
            obtain ⟨ad4, e4, y4⟩ := rdInt (Kd.C_below HA9.out HB.out) k hkn
            subst e4
            obtain ⟨q, hq⟩ : ∃ q, s.near[k] = q := ⟨_, rfl⟩
            have hqI : I64 q := by rw [← hq]; exact HNR.out.2 _ (List.getElem_mem hkn)
            have hqD : s.near.getD k 0 = q := by rw [← hq]; simp [List.getD_eq_getElem?_getD, hkn]
            rw [hq] at y4
            clear hq h3r
            have HEK := Aside0.mk (show okK ms s i k = (decide (i = 0) || (s.x.2.2.2.getD i []).getD k false || knownP ms q s.sure) from by unfold okK; rw [hqD])
            clear hqD
            have hk4 : (k : Int) < (s.near.length : Int) := by omega
            have next : okK ms s i k = true → ∀ k' < k + 1, okK ms s i k' = true := fun h k' hk' => by
              rcases Nat.lt_succ_iff_lt_or_eq.1 hk' with h1 | h1
              · exact HO.out k' h1
              · rw [h1]; exact h
            have NX := Aside0.mk next
            clear next
            by_cases hi0 : i = 0
            · have g1 : decide ((0 : Int) < (i : Int)) = false := decide_eq_false (by omega)
              go_wp2
              go_roundg k1
              case measure => have := HK.out; omega
              case rel => exact ⟨k + 1, rfl, ⟨by have := HK.out; omega⟩, ⟨by omega⟩, ⟨NX.out (by rw [HEK.out, decide_eq_true hi0]; rfl)⟩, HW, HB⟩
            · have g1 : decide ((0 : Int) < (i : Int)) = true := decide_eq_true (by omega)
              obtain ⟨ad3, A5, c5, e3, y3, l5, r5⟩ := rdRow (Kd.C_below HA7.out HB.out) i hi3
              subst e3
              obtain ⟨R, hR⟩ : ∃ R, s.x.2.2.2[i] = R := ⟨_, rfl⟩
              have hRl : R.length = s.near.length := by rw [← hR]; exact HRW.out _ (List.getElem_mem hi3)
              have hRD : s.x.2.2.2.getD i [] = R := by rw [← hR]; simp [List.getD_eq_getElem?_getD, hi3]
              rw [hR, hRl] at y3 r5
              obtain ⟨ad5, e5, y5⟩ := rdBool r5 k (by omega)
              subst e5
              obtain ⟨u, hu⟩ : ∃ u, R[k] = u := ⟨_, rfl⟩
              have hRk : R.getD k false = u := by rw [← hu]; simp [List.getD_eq_getElem?_getD, hRl, hkn]
              rw [hu] at y5
              rw [hRD, hRk, decide_eq_false hi0, Bool.false_or] at HEK
              have hi9 : (i : Int) < (s.x.2.2.2.length : Int) := by omega
              clear hu hRk hRD hRl hR r5 l5
              cases u with
              | true =>
                go_wp2
                go_roundg k1
                case measure => have := HK.out; omega
                case rel => exact ⟨k + 1, rfl, ⟨by have := HK.out; omega⟩, ⟨by omega⟩, ⟨NX.out (by rw [HEK.out]; rfl)⟩, HW, HB⟩
              | false =>
                rw [Bool.false_or] at HEK
                obtain ⟨v, hv⟩ : ∃ v, knownP ms q s.sure = v := ⟨_, rfl⟩
                have HV := Aside0.mk hv
                rw [hv] at HEK
                clear hv
                cases v with
                | true =>
                  go_wp2_with (first | (go_at_call 31; (refine (known.calls HW.out hb q s.sure hqI HSU.out).mono ?_); rintro e_ w5 ⟨rfl, hb5⟩; rw [HV.out]; have HW5 := Aside0.mk (HW.out.step hb5); have HB5 := Aside0.mk (below_step HB.out hb5); clear hb5))
                  go_roundg k1
                  case measure => have := HK.out; omega
                  case rel => exact ⟨k + 1, rfl, ⟨by have := HK.out; omega⟩, ⟨by omega⟩, ⟨NX.out HEK.out⟩, HW5, HB5⟩
                | false =>
                  have eg : goesP ms s = false := by
                    rw [EG.out, List.all_eq_false]
                    exact ⟨k, List.mem_range.2 hkn, by rw [HEK.out]; decide⟩
                  have EGG := Aside0.mk eg
                  clear eg
                  go_wp2_with (first | (go_at_call 31; (refine (known.calls HW.out hb q s.sure hqI HSU.out).mono ?_); rintro e_ w5 ⟨rfl, hb5⟩; rw [HV.out]; have HB5 := Aside0.mk (below_step HB.out hb5); clear hb5))
                  go_ret
                  exact ⟨by rw [EGG.out]; rfl, HB5.out⟩
        · have e1 : decide ((k : Int) < (s.near.length : Int)) = false := decide_eq_false (by omega)
          have eg : goesP ms s = true := by
            rw [EG.out, List.all_eq_true]
            intro k' hk'
            exact HO.out k' (by have := List.mem_range.1 hk'; omega)
          go_wp2
          go_ret
          exact ⟨by rw [eg]; rfl, HB.out⟩
end Go.Proofs.Ytmgdpkmmcmglfaa.MarkW
