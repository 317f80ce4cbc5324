/- A player's end is let be known. Condition: numbers are within int. -/
import Derived.Test.YtkgjokidfbpnbaaInC
namespace Go.Proofs.Ytkgjokidfbpnbaa.InW
open Go.RowKit Go.Proofs.YtkgjokidfbpnbaaW.PrintWords Go.Proofs.YtkgjokidfbpnbaaW.PrintLast Go.Proofs.YtkgjokidfbpnbaaW.PrintMore Go.Proofs.Ytkgjokidfbpnbaa.Sep
attribute [local go_sem] max2_int min2_int max_two min_two max_three min_three max_four min_four   -- for this text's walks alone
set_option linter.unusedVariables false
set_option linter.unusedSimpArgs false
def end_ (cs : List Col) (p n : Int) : Bool × List Col := if isP cs p ∧ (cAt cs p).d = false ∧ (cAt cs p).l.length ≤ n ∧ n ≤ 10000 then (true, cs.set (p.toNat - 1) ⟨(cAt cs p).l, n, true⟩) else (false, cs)
theorem end_no {cs : List Col} {p n : Int} (h : ¬ (isP cs p ∧ (cAt cs p).d = false ∧ (cAt cs p).l.length ≤ n ∧ n ≤ 10000)) : end_ cs p n = (false, cs) := by unfold end_; rw [if_neg h]
theorem end_yes {cs : List Col} {p n : Int} (h : isP cs p ∧ (cAt cs p).d = false ∧ (cAt cs p).l.length ≤ n ∧ n ≤ 10000) : end_ cs p n = (true, cs.set (p.toNat - 1) ⟨(cAt cs p).l, n, true⟩) := by unfold end_; rw [if_pos h]
theorem cAt_get {cs : List Col} {p : Int} (h : p.toNat - 1 < cs.length) : cAt cs p = cs[p.toNat - 1] := by simp [cAt, List.getD_eq_getElem?_getD, h]
set_option maxHeartbeats 4000000 in
set_option maxRecDepth 100000 in
theorem end.calls {w0 w : World} {base g ga : Nat} {Z : Nat → Prop} {cs : List Col} (h : TabG w g ga Z cs) (hB : Below base w0 w) (hga : base ≤ ga) (hl : g < w.heap.size ∧ ga < w.heap.size) (hz : ∀ k, Z k → k < w.heap.size) (p n : Int) (hp : I64 p) (hn2 : I64 n) (hn : cs.length ≤ 1000000) :
    Calls Try.prog 15 #[.pointer (some ⟨g, 0, none⟩), .int .i64 p, .int .i64 n] w fun e w' => e = .returned (.bool (end_ cs p n).1) ∧ Below base w0 w' ∧ w.heap.size ≤ w'.heap.size ∧ (∀ k, k < w.heap.size → k ≠ ga → w'.heap[k]? = w.heap[k]?) ∧ TabG w' g ga Z (end_ cs p n).2 := by
  have hbs : base ≤ w.heap.size := by omega
  by_cases h1 : isP cs p
  · by_cases hd : (cAt cs p).d = true
    · skip
      go_enter Try.func15, Try.ntmps15
      go_wp2_with (first | (go_at_call 30; (refine (column.calls h p hp hn).mono ?_); rintro e w1 ⟨rfl, hb1⟩; rw [colA_yes h1]; have hT1 := h.below (hb1.block _ hl.1) (hb1.block _ hl.2) (fun k hk => hb1.block _ (hz k hk)); obtain ⟨A, c, c1, c2, c3, hc, hr, hf⟩ := hT1.pl h1; have hf1 := hf ((p.toNat - 1) * 3 + 1); have hf2 := hf ((p.toNat - 1) * 3 + 2); have HT := Aside0.mk hT1; rw [hd] at c3))
      go_ret
      rw [end_no (fun x => absurd x.2.1 (by rw [hd]; decide))]
      exact ⟨rfl, hB.trans (hb1.mono hbs), hb1.size, fun k hk _ => hb1.block k hk, HT.out⟩
    · have hd0 : (cAt cs p).d = false := by simpa using hd
      by_cases h2 : n < (cAt cs p).l.length
      · have d2 : decide (n < ((cAt cs p).l.length : Int)) = true := decide_eq_true h2
        go_enter Try.func15, Try.ntmps15
        go_wp2_with (first | (go_at_call 30; (refine (column.calls h p hp hn).mono ?_); rintro e w1 ⟨rfl, hb1⟩; rw [colA_yes h1]; have hT1 := h.below (hb1.block _ hl.1) (hb1.block _ hl.2) (fun k hk => hb1.block _ (hz k hk)); obtain ⟨A, c, c1, c2, c3, hc, hr, hf⟩ := hT1.pl h1; have hf1 := hf ((p.toNat - 1) * 3 + 1); have hf2 := hf ((p.toNat - 1) * 3 + 2); have HT := Aside0.mk hT1; rw [hd0] at c3))
        go_ret
        rw [end_no (fun x => by omega)]
        exact ⟨rfl, hB.trans (hb1.mono hbs), hb1.size, fun k hk _ => hb1.block k hk, HT.out⟩
      · have d2 : decide (n < ((cAt cs p).l.length : Int)) = false := decide_eq_false h2
        by_cases h3 : 10000 < n
        · have d3 : decide (10000 < n) = true := decide_eq_true h3
          go_enter Try.func15, Try.ntmps15
          go_wp2_with (first | (go_at_call 30; (refine (column.calls h p hp hn).mono ?_); rintro e w1 ⟨rfl, hb1⟩; rw [colA_yes h1]; have hT1 := h.below (hb1.block _ hl.1) (hb1.block _ hl.2) (fun k hk => hb1.block _ (hz k hk)); obtain ⟨A, c, c1, c2, c3, hc, hr, hf⟩ := hT1.pl h1; have hf1 := hf ((p.toNat - 1) * 3 + 1); have hf2 := hf ((p.toNat - 1) * 3 + 2); have HT := Aside0.mk hT1; rw [hd0] at c3))
          go_ret
          rw [end_no (fun x => by omega)]
          exact ⟨rfl, hB.trans (hb1.mono hbs), hb1.size, fun k hk _ => hb1.block k hk, HT.out⟩
        · have d3 : decide (10000 < n) = false := decide_eq_false h3
          have hj : p.toNat - 1 < cs.length := by unfold isP at h1; omega
          go_enter Try.func15, Try.ntmps15
          go_wp2_with (first | (go_at_call 30; (refine (column.calls h p hp hn).mono ?_); rintro e w1 ⟨rfl, hb1⟩; rw [colA_yes h1]; have hT1 := h.below (hb1.block _ hl.1) (hb1.block _ hl.2) (fun k hk => hb1.block _ (hz k hk)); obtain ⟨A, c, c1, c2, c3, hc, hr, hf⟩ := hT1.pl h1; have hf1 := hf ((p.toNat - 1) * 3 + 1); have hf2 := hf ((p.toNat - 1) * 3 + 2); have HT := Aside0.mk hT1; rw [hd0] at c3))
          go_ret
          rw [end_yes ⟨h1, hd0, by omega, by omega⟩]
          have hT2 := (HT.out.put1 (p.toNat - 1) hj n).put2 (p.toNat - 1) (by rw [List.length_set]; exact hj) true
          rw [List.getElem_set_self, List.set_set, ← cAt_get hj] at hT2
          exact ⟨rfl, ((hB.trans (hb1.mono hbs)).setCell hga _).setCell hga _, by simp [World.setCell]; exact hb1.size, fun k hk hne => (far_set k hne).trans ((far_set k hne).trans (hb1.block k hk)), hT2⟩
  · skip
    go_enter Try.func15, Try.ntmps15
    go_wp2_with (first | (go_at_call 30; (refine (column.calls h p hp hn).mono ?_); rintro e w1 ⟨rfl, hb1⟩; rw [colA_no h1]))
    go_ret
    rw [end_no (fun x => h1 x.1)]
    exact ⟨rfl, hB.trans (hb1.mono hbs), hb1.size, fun k hk _ => hb1.block k hk, h.below (hb1.block _ hl.1) (hb1.block _ hl.2) (fun k hk => hb1.block _ (hz k hk))⟩
theorem end.nil (w : World) (p n : Int) :
    Calls Try.prog 15 #[.pointer none, .int .i64 p, .int .i64 n] w fun e w' => e = .returned (.bool false) ∧ Below w.heap.size w w' := by
  go_enter Try.func15, Try.ntmps15
  go_wp2_with (first | (go_at_call 30; (refine (column.nil w p).mono ?_); rintro e w1 ⟨rfl, hb1⟩))
  go_ret
  exact ⟨rfl, hb1⟩
end Go.Proofs.Ytkgjokidfbpnbaa.InW
