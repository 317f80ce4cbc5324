/- A line is made, if it may be. Conditions: as few says. -/
import Derived.Test.YtmgdpkmmcmglfaaMarkB
namespace Go.Proofs.Ytmgdpkmmcmglfaa.MarkW
open Go Go.RowKit Go.Proofs.YtmgdpkmmcmglfaaW.PrintWords Go.Proofs.YtmgdpkmmcmglfaaW.PrintLast Go.Proofs.YtmgdpkmmcmglfaaW.PrintMore Go.Proofs.Ytmgdpkmmcmglfaa.Sep
attribute [local go_sem] max2_int min2_int max_two min_two max_three min_three max_four min_four   -- for this text's walks alone
set_option linter.unusedVariables false
set_option linter.unusedSimpArgs false
def madeP (near : List Int) (x : Line) : Bool := decide (near ≠ []) && decide (0 ≤ x.2.1 ∧ x.2.1 ≤ 10000) && x.2.2.2.all (fun r => decide (r.length = near.length))
theorem madeP_no {near : List Int} {x : Line} (h : near = [] ∨ x.2.1 < 0 ∨ 10000 < x.2.1 ∨ ∃ r ∈ x.2.2.2, r.length ≠ near.length) : madeP near x = false := by
  unfold madeP
  rcases h with h | h | h | ⟨r, hr, h⟩
  · rw [decide_eq_false (fun h9 => h9 h)]; rfl
  · rw [decide_eq_false (fun h9 => by omega : ¬ (0 ≤ x.2.1 ∧ x.2.1 ≤ 10000)), Bool.and_false]; rfl
  · rw [decide_eq_false (fun h9 => by omega : ¬ (0 ≤ x.2.1 ∧ x.2.1 ≤ 10000)), Bool.and_false]; rfl
  · rw [List.all_eq_false.2 ⟨r, hr, by simpa using h⟩, Bool.and_false]
theorem madeP_yes {near : List Int} {x : Line} (h1 : near ≠ []) (h2 : 0 ≤ x.2.1 ∧ x.2.1 ≤ 10000) (h3 : ∀ r ∈ x.2.2.2, r.length = near.length) : madeP near x = true := by
  unfold madeP
  rw [decide_eq_true h1, decide_eq_true h2, List.all_eq_true.2 (fun r hr => decide_eq_true (h3 r hr))]
  rfl
def ansP (near : List Int) (x : Line) (g : Nat) : Option Nat := if madeP near x = true then some g else none
def lineO (w0 : World) (near : List Int) (x : Line) (g : Nat) : List Asr := if madeP near x = true then [lineA w0 ⟨g, x, near, x.2.1⟩] else []
/-- a grid, as a value -/
abbrev gridV (c r p w s : Int) : Value := .agg #[.int .i64 c, .int .i64 r, .int .i64 p, .int .i64 w, .int .u64 s]
set_option maxHeartbeats 4000000 in
set_option maxRecDepth 100000 in
theorem made.calls {w0 w : World} {base : Nat} {F : List Asr} (h : Has w0 base w F) (hb : w0.heap.size ≤ base) (k0 : Nat) (c r p wi sd : Int) (x : Line) (A2 A3 : Option Addr) (c2 c3 : Nat) (near : List Int) (hnear : GridW.grid_Grid_Near.f k0 c r p wi sd x.1 = some near) (h4 : x.2.2.1.length ≤ c2) (h5 : Kd.C Kd.bool w0 A2 x.2.2.1.length x.2.2.1) (h6 : x.2.2.2.length ≤ c3) (h7 : Kd.C (Kd.slice 4 Kd.bool) w0 A3 x.2.2.2.length x.2.2.2) (hn : near.length ≤ 100) (hl : x.2.2.1.length ≤ 100 ∧ x.2.2.2.length ≤ 100) :
    Calls Try.prog 21 #[gridV c r p wi sd, .agg #[.int .i64 x.1, .int .i64 x.2.1, .slice A2 x.2.2.1.length c2, .slice A3 x.2.2.2.length c3]] w fun e w' => ∃ g, e = .returned (ptrV (ansP near x g)) ∧ Has w0 base w' (lineO w0 near x g ++ F) := by
  have HH := Aside0.mk h
  have H5 := Aside0.mk h5
  have H7 := Aside0.mk h7
  have HN := Aside0.mk hnear
  clear h h5 h7 hnear
  have hu27 := Try.underlying27
  have hu44 := Try.underlying44
  have hu63 := Try.underlying63
  have no : ∀ e w', madeP near x = false → e = Ending.returned (Value.pointer none) → Has w0 base w' F → ∃ g, e = .returned (ptrV (ansP near x g)) ∧ Has w0 base w' (lineO w0 near x g ++ F) := by
    intro e w' h he hH
    refine ⟨0, ?_, ?_⟩
    · unfold ansP; rw [h]; exact he
    · unfold lineO; rw [h]; exact hH
  have NO := Aside0.mk no
  clear no
  obtain ⟨nl, hnl⟩ : ∃ nl, near.length = nl := ⟨_, rfl⟩
  have HNL := Aside0.mk hnl
  rw [hnl] at hn
  clear hnl
  obtain ⟨st, hst⟩ : ∃ st : Int, (if x.2.2.2.length < x.2.2.1.length then (x.2.2.2.length : Int) else (x.2.2.1.length : Int)) = st := ⟨_, rfl⟩
  have HST := Aside0.mk hst
  by_cases c1 : nl = 0
  · have d1 : decide ((nl : Int) = 0) = true := decide_eq_true (by omega)
    have hno := Aside0.mk (madeP_no (x := x) (.inl (List.eq_nil_of_length_eq_zero (by rw [HNL.out, c1]) : near = [])))
    go_enter Try.func21, Try.ntmps21
    go_wp2_with (first | (go_at_call 17; (with_reducible refine (GridW.grid_Grid_Near.calls k0 c r p wi sd x.1 near _ HN.out).mono ?_); rintro e_ w4 ⟨v4, rfl, hR, hB⟩; obtain ⟨A4, c4, e4⟩ := Kd.R_slice hR; rw [HNL.out] at e4; subst e4; have HX4 := Aside0.mk (Has.newRow (HH.out.own2 #[.int .i64 c, .int .i64 r, .int .i64 p, .int .i64 wi, .int .u64 sd] 27 #[.int .i64 x.1, .int .i64 x.2.1, .slice A2 x.2.2.1.length c2, .slice A3 x.2.2.2.length c3] 44) hB hR); have hc4 := HX4.out.rowN.2.1; have BK3 := Aside0.mk (HX4.out.sw.blk); have x0 : w4.cell? ⟨w.heap.size + 1, 0, none⟩ = some (.int .i64 x.1) := (blk_cell BK3.out 0).trans rfl; have x1 : w4.cell? ⟨w.heap.size + 1, 1, none⟩ = some (.int .i64 x.2.1) := (blk_cell BK3.out 1).trans rfl; have x2 : w4.cell? ⟨w.heap.size + 1, 2, none⟩ = some (.slice A2 x.2.2.1.length c2) := (blk_cell BK3.out 2).trans rfl; have x3 : w4.cell? ⟨w.heap.size + 1, 3, none⟩ = some (.slice A3 x.2.2.2.length c3) := (blk_cell BK3.out 3).trans rfl; clear hR hB))
    all_goals (go_ret; dsimp only; exact NO.out _ _ hno.out rfl HX4.out.drop.drop.drop)
  · have d1 : decide ((nl : Int) = 0) = false := decide_eq_false (by omega)
    by_cases c2_ : x.2.1 < 0
    · have d2 : decide (x.2.1 < 0) = true := decide_eq_true c2_
      have hno := Aside0.mk (madeP_no (near := near) (x := x) (.inr (.inl c2_)))
      go_enter Try.func21, Try.ntmps21
      go_wp2_with (first | (go_at_call 17; (with_reducible refine (GridW.grid_Grid_Near.calls k0 c r p wi sd x.1 near _ HN.out).mono ?_); rintro e_ w4 ⟨v4, rfl, hR, hB⟩; obtain ⟨A4, c4, e4⟩ := Kd.R_slice hR; rw [HNL.out] at e4; subst e4; have HX4 := Aside0.mk (Has.newRow (HH.out.own2 #[.int .i64 c, .int .i64 r, .int .i64 p, .int .i64 wi, .int .u64 sd] 27 #[.int .i64 x.1, .int .i64 x.2.1, .slice A2 x.2.2.1.length c2, .slice A3 x.2.2.2.length c3] 44) hB hR); have hc4 := HX4.out.rowN.2.1; have BK3 := Aside0.mk (HX4.out.sw.blk); have x0 : w4.cell? ⟨w.heap.size + 1, 0, none⟩ = some (.int .i64 x.1) := (blk_cell BK3.out 0).trans rfl; have x1 : w4.cell? ⟨w.heap.size + 1, 1, none⟩ = some (.int .i64 x.2.1) := (blk_cell BK3.out 1).trans rfl; have x2 : w4.cell? ⟨w.heap.size + 1, 2, none⟩ = some (.slice A2 x.2.2.1.length c2) := (blk_cell BK3.out 2).trans rfl; have x3 : w4.cell? ⟨w.heap.size + 1, 3, none⟩ = some (.slice A3 x.2.2.2.length c3) := (blk_cell BK3.out 3).trans rfl; clear hR hB))
      all_goals (go_ret; dsimp only; exact NO.out _ _ hno.out rfl HX4.out.drop.drop.drop)
    · have d2 : decide (x.2.1 < 0) = false := decide_eq_false c2_
      by_cases c3_ : 10000 < x.2.1
      · have d3 : decide (10000 < x.2.1) = true := decide_eq_true c3_
        have hno := Aside0.mk (madeP_no (near := near) (x := x) (.inr (.inr (.inl c3_))))
        go_enter Try.func21, Try.ntmps21
        go_wp2_with (first | (go_at_call 17; (with_reducible refine (GridW.grid_Grid_Near.calls k0 c r p wi sd x.1 near _ HN.out).mono ?_); rintro e_ w4 ⟨v4, rfl, hR, hB⟩; obtain ⟨A4, c4, e4⟩ := Kd.R_slice hR; rw [HNL.out] at e4; subst e4; have HX4 := Aside0.mk (Has.newRow (HH.out.own2 #[.int .i64 c, .int .i64 r, .int .i64 p, .int .i64 wi, .int .u64 sd] 27 #[.int .i64 x.1, .int .i64 x.2.1, .slice A2 x.2.2.1.length c2, .slice A3 x.2.2.2.length c3] 44) hB hR); have hc4 := HX4.out.rowN.2.1; have BK3 := Aside0.mk (HX4.out.sw.blk); have x0 : w4.cell? ⟨w.heap.size + 1, 0, none⟩ = some (.int .i64 x.1) := (blk_cell BK3.out 0).trans rfl; have x1 : w4.cell? ⟨w.heap.size + 1, 1, none⟩ = some (.int .i64 x.2.1) := (blk_cell BK3.out 1).trans rfl; have x2 : w4.cell? ⟨w.heap.size + 1, 2, none⟩ = some (.slice A2 x.2.2.1.length c2) := (blk_cell BK3.out 2).trans rfl; have x3 : w4.cell? ⟨w.heap.size + 1, 3, none⟩ = some (.slice A3 x.2.2.2.length c3) := (blk_cell BK3.out 3).trans rfl; clear hR hB))
        all_goals (go_ret; dsimp only; exact NO.out _ _ hno.out rfl HX4.out.drop.drop.drop)
      · have d3 : decide (10000 < x.2.1) = false := decide_eq_false c3_
        go_enter Try.func21, Try.ntmps21
        go_wp2_with (first | (go_at_call 17; (with_reducible refine (GridW.grid_Grid_Near.calls k0 c r p wi sd x.1 near _ HN.out).mono ?_); rintro e_ w4 ⟨v4, rfl, hR, hB⟩; obtain ⟨A4, c4, e4⟩ := Kd.R_slice hR; rw [HNL.out] at e4; subst e4; have HX4 := Aside0.mk (Has.newRow (HH.out.own2 #[.int .i64 c, .int .i64 r, .int .i64 p, .int .i64 wi, .int .u64 sd] 27 #[.int .i64 x.1, .int .i64 x.2.1, .slice A2 x.2.2.1.length c2, .slice A3 x.2.2.2.length c3] 44) hB hR); have hc4 := HX4.out.rowN.2.1; have BK3 := Aside0.mk (HX4.out.sw.blk); have x0 : w4.cell? ⟨w.heap.size + 1, 0, none⟩ = some (.int .i64 x.1) := (blk_cell BK3.out 0).trans rfl; have x1 : w4.cell? ⟨w.heap.size + 1, 1, none⟩ = some (.int .i64 x.2.1) := (blk_cell BK3.out 1).trans rfl; have x2 : w4.cell? ⟨w.heap.size + 1, 2, none⟩ = some (.slice A2 x.2.2.1.length c2) := (blk_cell BK3.out 2).trans rfl; have x3 : w4.cell? ⟨w.heap.size + 1, 3, none⟩ = some (.slice A3 x.2.2.2.length c3) := (blk_cell BK3.out 3).trans rfl; clear hR hB))
        go_loopg [28] (x.2.2.2.length + 1) (fun kq v28 w' => ∃ k : Nat, v28 = .int .i64 (k : Int) ∧ Aside0 (k + kq = x.2.2.2.length + 1) ∧ Aside0 (k ≤ x.2.2.2.length) ∧ Aside0 (∀ k' (h : k' < x.2.2.2.length), k' < k → x.2.2.2[k'].length = near.length) ∧ Aside0 (w' = w4))
        case atStart => exact ⟨0, rfl, ⟨by omega⟩, ⟨by omega⟩, ⟨fun _ _ h => absurd h (by omega)⟩, ⟨rfl⟩⟩
        case round =>
          obtain ⟨k, rfl, HK, HL, HO, HW⟩ := hrel
          obtain rfl := HW.out
          clear HW
          have hkl := HL.out
          by_cases hkn : k < x.2.2.2.length
          · have e1 : decide ((k : Int) < (x.2.2.2.length : Int)) = true := decide_eq_true (by omega)
            cases gk with
            | zero => exact absurd HK.out (by omega)
            | succ k1 =>
              obtain ⟨ad3, A5, c5, e3, y3, l5, r5⟩ := rdRow (HX4.out.came hb H7.out) k hkn
              subst e3
              have hk9 : (k : Int) < (x.2.2.2.length : Int) := by omega
              obtain ⟨rl, hrl⟩ : ∃ rl, x.2.2.2[k].length = rl := ⟨_, rfl⟩
              rw [hrl] at y3
              have HRL := Aside0.mk hrl
              clear hrl l5 r5
              by_cases c5_ : rl = nl
              · have d5 : decide ((rl : Int) = (nl : Int)) = true := decide_eq_true (by omega)
                go_wp2
                go_roundg k1
                case measure => have := HK.out; omega
                case rel =>
                  refine ⟨k + 1, rfl, ⟨by have := HK.out; omega⟩, ⟨by omega⟩, ⟨fun k' h' hk' => ?_⟩, ⟨rfl⟩⟩
                  rcases Nat.lt_succ_iff_lt_or_eq.1 hk' with h1 | h1
                  · exact HO.out k' h' h1
                  · subst h1
                    rw [HRL.out, c5_, HNL.out]
              · have d5 : decide ((rl : Int) = (nl : Int)) = false := decide_eq_false (by omega)
                have hno := Aside0.mk (madeP_no (near := near) (x := x) (.inr (.inr (.inr ⟨_, List.getElem_mem hkn, by rw [HRL.out, HNL.out]; exact c5_⟩))))
                go_wp2
                go_ret
                exact NO.out _ _ hno.out rfl HX4.out.drop.drop.drop
          · have e1 : decide ((k : Int) < (x.2.2.2.length : Int)) = false := decide_eq_false (by omega)
            have hyes := Aside0.mk (madeP_yes (near := near) (x := x) (fun h => c1 (by rw [← HNL.out, h]; rfl)) (by omega) (fun r hr => by
              obtain ⟨k', h', rfl⟩ := List.getElem_of_mem hr
              exact HO.out k' h' (by omega)))
            go_wp2
            go_ret
            have hyes2 := hyes.out
            refine ⟨wr.heap.size, by unfold ansP; rw [hyes2]; rfl, ?_⟩
            unfold lineO
            rw [hyes2, if_pos rfl]
            show Has w0 base _ (lineA w0 ⟨wr.heap.size, x, near, x.2.1⟩ :: F)
            have hstp : (⟨wr.heap.size, x, near, x.2.1⟩ : LineS).steps = st := by rw [← HST.out]; unfold LineS.steps; dsimp only; split <;> split <;> first | rfl | omega
            have hx9 := (HX4.out.drop2.drop2).own #[.int .i64 x.1, .int .i64 x.2.1, .slice A2 x.2.2.1.length c2, .slice A3 x.2.2.2.length c3, .slice A4 nl c4, .int .i64 st, .int .i64 x.2.1] 63
            refine line_new (s := ⟨wr.heap.size, x, near, x.2.1⟩) (A4 := A4) (c4 := c4) (n := nl) ?_ h4 H5.out h6 H7.out
            rw [hstp]
            exact hx9
end Go.Proofs.Ytmgdpkmmcmglfaa.MarkW
