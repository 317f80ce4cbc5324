/- Cuts and copies of inputs' rows; a new table; an end; A player's end is let be known; Inputs are added to a table; Inputs are added to a table: the walk; A table as a part of memory: what each call does to it; The laws' common parts: awake; inputs that are right. No condition; More of the laws' common parts: one input comes; boxes. No condition. Conditions: as told at each. -/
import Derived.Test.YtkgjokidfbpnbaaInB
import Derived.Lib.SliceRun
import Derived.Deep.RegionLawGrows
import Derived.LoopN
namespace Go.Proofs.Ytkgjokidfbpnbaa.InW
open Go.RowKit Go.Proofs.YtkgjokidfbpnbaaW.PrintWords Go.Proofs.YtkgjokidfbpnbaaW.PrintLast Go.Proofs.YtkgjokidfbpnbaaW.PrintMore Go.Proofs.Ytkgjokidfbpnbaa.Sep
attribute [local go_sem] max2_int min2_int max_two min_two max_three min_three max_four min_four   -- for this text's walks alone
set_option linter.unusedVariables false
set_option linter.unusedSimpArgs false
set_option maxHeartbeats 4000000 in
set_option maxRecDepth 100000 in
theorem clip.calls (A : Option Addr) (n c : Nat) (w : World) (hn : A = none → n = 0) (hc : n ≤ c) (hm : n ≤ 1000000) :
    Calls Try.prog 32 #[.slice A n c] w fun e w' => e = .returned (.slice A n n) ∧ Below w.heap.size w w' := by
  have d1 : decide ((n : Int) ≤ (c : Int)) = true := decide_eq_true (by omega)
  rcases A with _ | ad
  · obtain rfl := hn rfl
    go_enter Try.func32, Try.ntmps32
    go_wp2
    go_ret
    exact ⟨rfl, Below.refl _ _⟩
  · go_enter Try.func32, Try.ntmps32
    go_wp2
    go_ret
    exact ⟨rfl, Below.refl _ _⟩
theorem RowS.weak {w : World} {Z Z' : Nat → Prop} {v : Value} {l : List In} (h : RowS w Z v l) (hz : ∀ k, Z k → Z' k) : RowS w Z' v l := h.step hz (fun _ _ => rfl)
theorem TabG.weak {w : World} {g ga : Nat} {Z Z' : Nat → Prop} {cs : List Col} (h : TabG w g ga Z cs) (hz : ∀ k, Z k → Z' k) (hg : ¬ Z' g) (ha : ¬ Z' ga) : TabG w g ga Z' cs := by
  refine ⟨h.ne, hg, ha, h.tbl, ?_⟩
  obtain ⟨vs, zs, h5, h6, h7⟩ := h.cols
  exact ⟨vs, zs, h5, h6, fun j a b => ⟨(h7 j a b).1, (h7 j a b).2.1, (h7 j a b).2.2.weak hz⟩⟩
/-- a cell of a column is written -/
theorem far_set {w : World} {ga t : Nat} {u : Value} : ∀ k, k ≠ ga → (w.setCell ⟨ga, t, none⟩ u).heap[k]? = w.heap[k]? := fun k hk => Below.heap_setCell w ⟨ga, t, none⟩ u k hk
theorem TabG.put0 {w : World} {g ga : Nat} {Z Z' : Nat → Prop} {cs : List Col} (h : TabG w g ga Z cs) (j : Nat) (hj : j < cs.length) (v : Value) (l : List In) (hz : ∀ k, Z k → Z' k) (hg : ¬ Z' g) (ha : ¬ Z' ga) (hv : RowS w Z' v l) : TabG (w.setCell ⟨ga, j * 3, none⟩ v) g ga Z' (cs.set j ⟨l, cs[j].e, cs[j].d⟩) := by
  refine ⟨h.ne, hg, ha, ?_, ?_⟩
  · obtain ⟨c, h5, h6⟩ := h.tbl
    rw [List.length_set]
    exact ⟨c, (far_set g h.ne).trans h5, h6⟩
  · obtain ⟨vs, zs, h5, h6, h7⟩ := h.cols
    have hjv : j < vs.length := by omega
    refine ⟨vs.set j (v, vs[j].2), zs, ?_, by simp [h6], fun i h1 h2 => ?_⟩
    · rw [← flatC_set0 vs j hjv v]
      refine blk_put h5 (j * 3) _ ?_
      have hl := flatC_len vs
      rw [List.setIfInBounds_toArray, List.set_append_left _ _ (by omega), Nat.mul_comm j 3]
    · rw [List.length_set] at h1 h2
      by_cases hij : j = i
      · subst hij
        simp only [List.getElem_set_self]
        exact ⟨(h7 j h1 h2).1, (h7 j h1 h2).2.1, hv.step (fun k hk => hk) (fun k hk => far_set k (fun e => ha (e ▸ hk)))⟩
      · simp only [List.getElem_set_ne hij]
        exact ⟨(h7 i h1 h2).1, (h7 i h1 h2).2.1, (h7 i h1 h2).2.2.step hz (fun k hk => far_set k (fun e => h.na (e ▸ hk)))⟩
theorem TabG.put1 {w : World} {g ga : Nat} {Z : Nat → Prop} {cs : List Col} (h : TabG w g ga Z cs) (j : Nat) (hj : j < cs.length) (e : Int) : TabG (w.setCell ⟨ga, j * 3 + 1, none⟩ (.int .i64 e)) g ga Z (cs.set j ⟨cs[j].l, e, cs[j].d⟩) := by
  refine ⟨h.ne, h.ng, h.na, ?_, ?_⟩
  · obtain ⟨c, h5, h6⟩ := h.tbl
    rw [List.length_set]
    exact ⟨c, (far_set g h.ne).trans h5, h6⟩
  · obtain ⟨vs, zs, h5, h6, h7⟩ := h.cols
    have hjv : j < vs.length := by omega
    refine ⟨vs.set j (vs[j].1, e, vs[j].2.2), zs, ?_, by simp [h6], fun i h1 h2 => ?_⟩
    · rw [← flatC_set1 vs j hjv e]
      refine blk_put h5 (j * 3 + 1) _ ?_
      have hl := flatC_len vs
      rw [List.setIfInBounds_toArray, List.set_append_left _ _ (by omega), Nat.mul_comm j 3]
    · rw [List.length_set] at h1 h2
      by_cases hij : j = i
      · subst hij
        simp only [List.getElem_set_self]
        exact ⟨trivial, (h7 j h1 h2).2.1, (h7 j h1 h2).2.2.step (fun k hk => hk) (fun k hk => far_set k (fun e => h.na (e ▸ hk)))⟩
      · simp only [List.getElem_set_ne hij]
        exact ⟨(h7 i h1 h2).1, (h7 i h1 h2).2.1, (h7 i h1 h2).2.2.step (fun k hk => hk) (fun k hk => far_set k (fun e => h.na (e ▸ hk)))⟩
theorem TabG.put2 {w : World} {g ga : Nat} {Z : Nat → Prop} {cs : List Col} (h : TabG w g ga Z cs) (j : Nat) (hj : j < cs.length) (d : Bool) : TabG (w.setCell ⟨ga, j * 3 + 2, none⟩ (.bool d)) g ga Z (cs.set j ⟨cs[j].l, cs[j].e, d⟩) := by
  refine ⟨h.ne, h.ng, h.na, ?_, ?_⟩
  · obtain ⟨c, h5, h6⟩ := h.tbl
    rw [List.length_set]
    exact ⟨c, (far_set g h.ne).trans h5, h6⟩
  · obtain ⟨vs, zs, h5, h6, h7⟩ := h.cols
    have hjv : j < vs.length := by omega
    refine ⟨vs.set j (vs[j].1, vs[j].2.1, d), zs, ?_, by simp [h6], fun i h1 h2 => ?_⟩
    · rw [← flatC_set2 vs j hjv d]
      refine blk_put h5 (j * 3 + 2) _ ?_
      have hl := flatC_len vs
      rw [List.setIfInBounds_toArray, List.set_append_left _ _ (by omega), Nat.mul_comm j 3]
    · rw [List.length_set] at h1 h2
      by_cases hij : j = i
      · subst hij
        simp only [List.getElem_set_self]
        exact ⟨(h7 j h1 h2).1, trivial, (h7 j h1 h2).2.2.step (fun k hk => hk) (fun k hk => far_set k (fun e => h.na (e ▸ hk)))⟩
      · simp only [List.getElem_set_ne hij]
        exact ⟨(h7 i h1 h2).1, (h7 i h1 h2).2.1, (h7 i h1 h2).2.2.step (fun k hk => hk) (fun k hk => far_set k (fun e => h.na (e ▸ hk)))⟩
def col0 : Col := ⟨[], 0, false⟩
/-- how many players a new table has -/
def clampP (n : Int) : Nat := (max (min n 6) 1).toNat
theorem made_flat (m : Nat) (h1 : 1 ≤ m) (h6 : m ≤ 6) : madeCells #[.slice none 0 0, .int .i64 0, .bool false] (m * 3) = (flatC (List.replicate m (.slice none 0 0, 0, false))).toArray := by
  have : m = 1 ∨ m = 2 ∨ m = 3 ∨ m = 4 ∨ m = 5 ∨ m = 6 := by omega
  apply Array.ext'
  rcases this with rfl | rfl | rfl | rfl | rfl | rfl <;> simp [madeCells, flatC, List.replicate, List.range, List.range.loop]
theorem clamp_eq (n : Int) : ∃ k : Int, (if n < 1 then 1 else n) = k ∧ (if 6 < k then 6 else k) = (clampP n : Int) ∧ 1 ≤ clampP n ∧ clampP n ≤ 6 := by
  refine ⟨_, rfl, ?_, ?_, ?_⟩
  · unfold clampP; split <;> split <;> omega
  · unfold clampP; omega
  · unfold clampP; omega
set_option maxHeartbeats 4000000 in
set_option maxRecDepth 100000 in
theorem new.calls (n : Int) (hn : I64 n) (w : World) :
    Calls Try.prog 9 #[.int .i64 n] w fun e w' => ∃ g ga, e = .returned (.pointer (some ⟨g, 0, none⟩)) ∧ w.heap.size ≤ g ∧ w.heap.size ≤ ga ∧ g < w'.heap.size ∧ ga < w'.heap.size ∧ TabG w' g ga (fun _ => False) (List.replicate (clampP n) col0) ∧ Below w.heap.size w w' := by
  obtain ⟨k, hk, hm, h1, h6⟩ := clamp_eq n
  obtain ⟨m, hmm⟩ : ∃ m, clampP n = m := ⟨_, rfl⟩
  rw [hmm] at hm h1 h6 ⊢
  have hmk : ∀ W : World, (Instr.makeSlice 53 (.int .i64 (m : Int)) (.int .i64 (m : Int))).run Try.prog W = .ok (.slice (some ⟨W.heap.size, 0, none⟩) m m) (W.alloc (.cells (flatC (List.replicate m (.slice none 0 0, 0, false))).toArray 62)) := by
    intro W
    obtain ⟨i0, hi, hzz⟩ := Option.map_eq_some_iff.1 PInputsEnd.info62
    simp only [Prod.mk.injEq] at hzz
    obtain ⟨hz0, hz1, hz2⟩ := hzz
    have := run_make (P := Try.prog) W 53 62 i0 _ Try.underlying53 hi hz0 .i64 .i64 (m : Int) (m : Int) (by omega) (by omega) (by rw [hz2]; omega) (by omega)
    rw [hz1, Int.toNat_natCast] at this
    exact (this).trans (by rw [← made_flat m h1 h6]; rfl)
  go_enter Try.func9, Try.ntmps9
  go_wp2
  go_ret
  have e1 : (w.alloc (.cells (flatC (List.replicate m (.slice none 0 0, 0, false))).toArray 62)).heap.size = w.heap.size + 1 := by simp
  refine ⟨_, w.heap.size, rfl, by omega, Nat.le_refl _, by simp, by simp <;> omega, ⟨by omega, fun h => h, fun h => h, ?_, ?_⟩, below_alloc (below_alloc (Below.refl _ _) _) _⟩
  · rw [List.length_replicate]
    exact ⟨m, by rw [← e1]; exact heap_alloc_new _ _, Nat.le_refl _⟩
  · refine ⟨List.replicate m (.slice none 0 0, 0, false), [], ?_, by simp, fun j h1 h2 => ?_⟩
    · rw [List.append_nil]
      exact (blk_below (heap_alloc_new w _) (below_alloc (Below.refl _ _) _))
    · rw [List.getElem_replicate, List.getElem_replicate]
      exact ⟨rfl, rfl, RowS.nil _ _⟩
theorem new.H {w0 w : World} {base : Nat} {F : List Asr} (n : Int) (hn : I64 n) (h : Has w0 base w F) :
    Calls Try.prog 9 #[.int .i64 n] w fun e w' => ∃ g, e = .returned (.pointer (some ⟨g, 0, none⟩)) ∧ Has w0 base w' (tab g (List.replicate (clampP n) col0) :: F) := by
  refine (new.calls n hn w).mono ?_
  rintro e w' ⟨g, ga, rfl, h1, h2, h3, h4, h5, h6⟩
  refine ⟨g, rfl, h.new (S' := fun k => k = g ∨ k = ga) h6 ⟨?_, .inl rfl, ga, .inr rfl, h5.weak (fun k hk => hk.elim) (fun x => x.2.1 rfl) (fun x => x.2.2 rfl)⟩ ?_⟩
  · rintro k (rfl | rfl) <;> assumption
  · rintro k (rfl | rfl) <;> assumption
end Go.Proofs.Ytkgjokidfbpnbaa.InW
namespace Go.Proofs.Ytkgjokidfbpnbaa.InW
open Go.RowKit Go.Proofs.YtkgjokidfbpnbaaW.PrintWords Go.Proofs.YtkgjokidfbpnbaaW.PrintLast Go.Proofs.YtkgjokidfbpnbaaW.PrintMore Go.Proofs.Ytkgjokidfbpnbaa.Sep
attribute [local go_sem] max2_int min2_int max_two min_two max_three min_three max_four min_four   -- for this text's walks alone
set_option linter.unusedVariables false
set_option linter.unusedSimpArgs false
def end_ (cs : List Col) (p n : Int) : Bool × List Col := if isP cs p ∧ (cAt cs p).d = false ∧ (cAt cs p).l.length ≤ n ∧ n ≤ 10000 then (true, cs.set (p.toNat - 1) ⟨(cAt cs p).l, n, true⟩) else (false, cs)
theorem end_no {cs : List Col} {p n : Int} (h : ¬ (isP cs p ∧ (cAt cs p).d = false ∧ (cAt cs p).l.length ≤ n ∧ n ≤ 10000)) : end_ cs p n = (false, cs) := by unfold end_; rw [if_neg h]
theorem end_yes {cs : List Col} {p n : Int} (h : isP cs p ∧ (cAt cs p).d = false ∧ (cAt cs p).l.length ≤ n ∧ n ≤ 10000) : end_ cs p n = (true, cs.set (p.toNat - 1) ⟨(cAt cs p).l, n, true⟩) := by unfold end_; rw [if_pos h]
theorem cAt_get {cs : List Col} {p : Int} (h : p.toNat - 1 < cs.length) : cAt cs p = cs[p.toNat - 1] := by simp [cAt, List.getD_eq_getElem?_getD, h]
set_option maxHeartbeats 4000000 in
set_option maxRecDepth 100000 in
theorem end.calls {w0 w : World} {base g ga : Nat} {Z : Nat → Prop} {cs : List Col} (h : TabG w g ga Z cs) (hB : Below base w0 w) (hga : base ≤ ga) (hl : g < w.heap.size ∧ ga < w.heap.size) (hz : ∀ k, Z k → k < w.heap.size) (p n : Int) (hp : I64 p) (hn2 : I64 n) (hn : cs.length ≤ 1000000) :
    Calls Try.prog 15 #[.pointer (some ⟨g, 0, none⟩), .int .i64 p, .int .i64 n] w fun e w' => e = .returned (.bool (end_ cs p n).1) ∧ Below base w0 w' ∧ w.heap.size ≤ w'.heap.size ∧ (∀ k, k < w.heap.size → k ≠ ga → w'.heap[k]? = w.heap[k]?) ∧ TabG w' g ga Z (end_ cs p n).2 := by
  have hbs : base ≤ w.heap.size := by omega
  by_cases h1 : isP cs p
  · by_cases hd : (cAt cs p).d = true
    · skip
      go_enter Try.func15, Try.ntmps15
      go_wp2_with (first | (go_at_call 30; (refine (column.calls h p hp hn).mono ?_); rintro e w1 ⟨rfl, hb1⟩; rw [colA_yes h1]; have hT1 := h.below (hb1.block _ hl.1) (hb1.block _ hl.2) (fun k hk => hb1.block _ (hz k hk)); obtain ⟨A, c, c1, c2, c3, hc, hr, hf⟩ := hT1.pl h1; have hf1 := hf ((p.toNat - 1) * 3 + 1); have hf2 := hf ((p.toNat - 1) * 3 + 2); have HT := Aside0.mk hT1; rw [hd] at c3))
      go_ret
      rw [end_no (fun x => absurd x.2.1 (by rw [hd]; decide))]
      exact ⟨rfl, hB.trans (hb1.mono hbs), hb1.size, fun k hk _ => hb1.block k hk, HT.out⟩
    · have hd0 : (cAt cs p).d = false := by simpa using hd
      by_cases h2 : n < (cAt cs p).l.length
      · have d2 : decide (n < ((cAt cs p).l.length : Int)) = true := decide_eq_true h2
        go_enter Try.func15, Try.ntmps15
        go_wp2_with (first | (go_at_call 30; (refine (column.calls h p hp hn).mono ?_); rintro e w1 ⟨rfl, hb1⟩; rw [colA_yes h1]; have hT1 := h.below (hb1.block _ hl.1) (hb1.block _ hl.2) (fun k hk => hb1.block _ (hz k hk)); obtain ⟨A, c, c1, c2, c3, hc, hr, hf⟩ := hT1.pl h1; have hf1 := hf ((p.toNat - 1) * 3 + 1); have hf2 := hf ((p.toNat - 1) * 3 + 2); have HT := Aside0.mk hT1; rw [hd0] at c3))
        go_ret
        rw [end_no (fun x => by omega)]
        exact ⟨rfl, hB.trans (hb1.mono hbs), hb1.size, fun k hk _ => hb1.block k hk, HT.out⟩
      · have d2 : decide (n < ((cAt cs p).l.length : Int)) = false := decide_eq_false h2
        by_cases h3 : 10000 < n
        · have d3 : decide (10000 < n) = true := decide_eq_true h3
          go_enter Try.func15, Try.ntmps15
          go_wp2_with (first | (go_at_call 30; (refine (column.calls h p hp hn).mono ?_); rintro e w1 ⟨rfl, hb1⟩; rw [colA_yes h1]; have hT1 := h.below (hb1.block _ hl.1) (hb1.block _ hl.2) (fun k hk => hb1.block _ (hz k hk)); obtain ⟨A, c, c1, c2, c3, hc, hr, hf⟩ := hT1.pl h1; have hf1 := hf ((p.toNat - 1) * 3 + 1); have hf2 := hf ((p.toNat - 1) * 3 + 2); have HT := Aside0.mk hT1; rw [hd0] at c3))
          go_ret
          rw [end_no (fun x => by omega)]
          exact ⟨rfl, hB.trans (hb1.mono hbs), hb1.size, fun k hk _ => hb1.block k hk, HT.out⟩
        · have d3 : decide (10000 < n) = false := decide_eq_false h3
          have hj : p.toNat - 1 < cs.length := by unfold isP at h1; omega
          go_enter Try.func15, Try.ntmps15
          go_wp2_with (first | (go_at_call 30; (refine (column.calls h p hp hn).mono ?_); rintro e w1 ⟨rfl, hb1⟩; rw [colA_yes h1]; have hT1 := h.below (hb1.block _ hl.1) (hb1.block _ hl.2) (fun k hk => hb1.block _ (hz k hk)); obtain ⟨A, c, c1, c2, c3, hc, hr, hf⟩ := hT1.pl h1; have hf1 := hf ((p.toNat - 1) * 3 + 1); have hf2 := hf ((p.toNat - 1) * 3 + 2); have HT := Aside0.mk hT1; rw [hd0] at c3))
          go_ret
          rw [end_yes ⟨h1, hd0, by omega, by omega⟩]
          have hT2 := (HT.out.put1 (p.toNat - 1) hj n).put2 (p.toNat - 1) (by rw [List.length_set]; exact hj) true
          rw [List.getElem_set_self, List.set_set, ← cAt_get hj] at hT2
          exact ⟨rfl, ((hB.trans (hb1.mono hbs)).setCell hga _).setCell hga _, by simp [World.setCell]; exact hb1.size, fun k hk hne => (far_set k hne).trans ((far_set k hne).trans (hb1.block k hk)), hT2⟩
  · skip
    go_enter Try.func15, Try.ntmps15
    go_wp2_with (first | (go_at_call 30; (refine (column.calls h p hp hn).mono ?_); rintro e w1 ⟨rfl, hb1⟩; rw [colA_no h1]))
    go_ret
    rw [end_no (fun x => h1 x.1)]
    exact ⟨rfl, hB.trans (hb1.mono hbs), hb1.size, fun k hk _ => hb1.block k hk, h.below (hb1.block _ hl.1) (hb1.block _ hl.2) (fun k hk => hb1.block _ (hz k hk))⟩
theorem end.nil (w : World) (p n : Int) :
    Calls Try.prog 15 #[.pointer none, .int .i64 p, .int .i64 n] w fun e w' => e = .returned (.bool false) ∧ Below w.heap.size w w' := by
  go_enter Try.func15, Try.ntmps15
  go_wp2_with (first | (go_at_call 30; (refine (column.nil w p).mono ?_); rintro e w1 ⟨rfl, hb1⟩))
  go_ret
  exact ⟨rfl, hb1⟩
end Go.Proofs.Ytkgjokidfbpnbaa.InW
namespace Go.Proofs.Ytkgjokidfbpnbaa.InW
open Go.RowKit Go.Proofs.YtkgjokidfbpnbaaW.PrintWords Go.Proofs.YtkgjokidfbpnbaaW.PrintLast Go.Proofs.YtkgjokidfbpnbaaW.PrintMore Go.Proofs.Ytkgjokidfbpnbaa.Sep
attribute [local go_sem] max2_int min2_int max_two min_two max_three min_three max_four min_four   -- for this text's walks alone
set_option linter.unusedVariables false
set_option linter.unusedSimpArgs false
theorem flat_get : ∀ (l : List In) (j : Nat) (u : Value), (l.flatMap encI)[j]? = some u → ∃ i r, ∃ h : i < l.length, j = i * 3 + r ∧ (encI l[i])[r]? = some u := by
  intro l
  induction l with
  | nil => intro j u h; simp at h
  | cons x l ih =>
    intro j u h
    rw [List.flatMap_cons] at h
    have h3 : (encI x).length = 3 := rfl
    by_cases hj : j < 3
    · rw [List.getElem?_append_left (by omega)] at h
      exact ⟨0, j, by simp, by omega, h⟩
    · rw [List.getElem?_append_right (by omega), h3] at h
      obtain ⟨i, r, hi, e, hu⟩ := ih _ _ h
      exact ⟨i + 1, r, by simpa using hi, by omega, hu⟩
theorem flat_len (l : List In) : (l.flatMap encI).length = l.length * 3 := by
  induction l with
  | nil => rfl
  | cons x l ih => rw [List.flatMap_cons, List.length_append, ih, List.length_cons]; show 3 + _ = _; omega
theorem C_flat {w : World} {A : Option Addr} {l : List In} (h : Kd.C kin w A l.length l) : ∀ b, A = some b → ∀ j u, (l.flatMap encI)[j]? = some u → w.cell? (b.add j) = some u := by
  rintro b rfl j u hu
  obtain ⟨i, r, hi, rfl, hr⟩ := flat_get l j u hu
  obtain ⟨ad, e, x0, x1, x2⟩ := at_in h i hi
  obtain rfl := Option.some.inj e
  have h3 : (encI l[i]).length = 3 := rfl
  have : r < 3 := by have := (List.getElem?_eq_some_iff.1 hr).1; omega
  have : r = 0 ∨ r = 1 ∨ r = 2 := by omega
  rcases this with rfl | rfl | rfl
  · rw [← Option.some.inj hr]; exact x0
  · rw [← Option.some.inj hr]; exact x1
  · rw [← Option.some.inj hr]; exact x2
theorem reps_flat (R : In → List Value → Prop) (hR : ∀ x, R x (encI x)) (l : List In) : Reps R 3 l (l.flatMap encI) := by
  induction l with
  | nil => exact Reps.none _ _
  | cons x l ih =>
    rw [List.flatMap_cons]
    have h1 : Reps R 3 ([] ++ [x]) ([] ++ encI x) := Reps.snoc (Reps.none _ _) (hR x) rfl
    exact Kd.reps_append h1 ih
theorem RowS.ofR {e : Nat} {w : World} {base : Nat} {Z : Nat → Prop} {v : Value} {l : List In} (h : Kd.R kin e w base Z v l) : RowS w Z v l := by
  obtain ⟨A, c, rfl⟩ := Kd.R_slice h
  exact ⟨A, c, rfl, (Kd.R_reads' h).2.1, fun w' hw' => (Kd.R_reads' (Kd.R_move h hw')).2.2⟩
theorem RowS.snoc {w : World} {B n : Nat} {v : Value} {l : List In} {x : In} (h : w.ownsRow B 24 3 v n (l.flatMap encI ++ encI x)) (hn : n = l.length + 1) : RowS w (fun k => B ≤ k ∧ k < w.heap.size) v (l ++ [x]) := by
  have e : l.flatMap encI ++ encI x = (l ++ [x]).flatMap encI := by simp [List.flatMap_append, List.flatMap_cons, List.flatMap_nil]
  rw [e] at h
  have hR : Kd.R kin 24 w B (fun _ => True) v (l ++ [x]) := ⟨fun _ _ => trivial, _, by rw [hn] at h; rw [List.length_append]; exact h, reps_flat _ (fun y => kin_mkM _ _ _ y) _⟩
  exact RowS.ofR (Kd.R_mono (Kd.R_bound hR) (fun k hk => ⟨hk.2.1, hk.2.2.1⟩))
/-- inputs from frame fr on come to a column; n is how many were new -/
def addGo (c : Col) (fr : Int) (i : Nat) : List In → Int → Col × Int
  | [], n => (c, n)
  | x :: r, n =>
    if rightI x = false ∨ (c.l.length : Int) < fr ∨ (c.l.length : Int) - fr < i then (c, n)
    else if (i : Int) < (c.l.length : Int) - fr then addGo c fr (i + 1) r n
    else if (c.d = true ∧ c.e ≤ c.l.length) ∨ 10000 ≤ (c.l.length : Int) then (c, n)
    else addGo ⟨c.l ++ [x], c.e, c.d⟩ fr (i + 1) r (n + 1)
def add_ (cs : List Col) (p fr : Int) (xs : List In) : Int × List Col :=
  if isP cs p ∧ 0 ≤ fr then ((addGo (cAt cs p) fr 0 xs 0).2, cs.set (p.toNat - 1) (addGo (cAt cs p) fr 0 xs 0).1) else (0, cs)
theorem add_no {cs : List Col} {p fr : Int} {xs : List In} (h : ¬ (isP cs p ∧ 0 ≤ fr)) : add_ cs p fr xs = (0, cs) := by unfold add_; rw [if_neg h]
theorem add_yes {cs : List Col} {p fr : Int} {xs : List In} (h1 : isP cs p) (h2 : 0 ≤ fr) : add_ cs p fr xs = ((addGo (cAt cs p) fr 0 xs 0).2, cs.set (p.toNat - 1) (addGo (cAt cs p) fr 0 xs 0).1) := by unfold add_; rw [if_pos ⟨h1, h2⟩]
/-- what holds ahead of a round of Add -/
structure AddI (w0 w W : World) (base g ga : Nat) (Z : Nat → Prop) (cs : List Col) (p fr : Int) (xs : List In) (i : Nat) (n : Int) (c : Col) : Prop where
  below : Below base w0 W
  size : w.heap.size ≤ W.heap.size
  frame : ∀ k, k < w.heap.size → k ≠ ga → W.heap[k]? = w.heap[k]?
  tab : ∃ Z' : Nat → Prop, (∀ k, Z k → Z' k) ∧ (∀ k, Z' k → Z k ∨ w.heap.size ≤ k) ∧ (∀ k, Z' k → k < W.heap.size) ∧ TabG W g ga Z' (cs.set (p.toNat - 1) c)
  go : addGo (cAt cs p) fr 0 xs 0 = addGo c fr i (xs.drop i) n
  n : 0 ≤ n ∧ n ≤ i
  len : c.l.length ≤ 10000 ∧ I64 c.e
section
variable {w0 w W W2 : World} {base g ga : Nat} {Z : Nat → Prop} {cs : List Col} {p fr : Int} {xs : List In} {i : Nat} {n : Int} {c : Col}
theorem AddI.step (h : AddI w0 w W base g ga Z cs p fr xs i n c) (hb : Below W.heap.size W W2) (hbase : base ≤ w.heap.size) (hl : g < w.heap.size ∧ ga < w.heap.size) : AddI w0 w W2 base g ga Z cs p fr xs i n c := by
  obtain ⟨Z', h1, h2, h3, h4⟩ := h.tab
  have hs := h.size
  exact ⟨h.below.trans (hb.mono (by omega)), Nat.le_trans hs hb.size, fun k hk hne => (hb.block k (by omega)).trans (h.frame k hk hne), ⟨Z', h1, h2, fun k hk => Nat.lt_of_lt_of_le (h3 k hk) hb.size, h4.below (hb.block _ (by omega)) (hb.block _ (by omega)) (fun k hk => hb.block k (h3 k hk))⟩, h.go, h.n, h.len⟩
theorem AddI.pl (h : AddI w0 w W base g ga Z cs p fr xs i n c) (hp : isP cs p) : ∃ A cp, W.cell? ⟨ga, (p.toNat - 1) * 3, none⟩ = some (.slice A c.l.length cp) ∧ W.cell? ⟨ga, (p.toNat - 1) * 3 + 1, none⟩ = some (.int .i64 c.e) ∧ W.cell? ⟨ga, (p.toNat - 1) * 3 + 2, none⟩ = some (.bool c.d) ∧ c.l.length ≤ cp ∧ Kd.C kin W A c.l.length c.l ∧ (∀ t, W.frozen? ⟨ga, t, none⟩ = false) := by
  obtain ⟨Z', h1, h2, h3, h4⟩ := h.tab
  have hj : p.toNat - 1 < cs.length := by unfold isP at hp; omega
  have hp' : isP (cs.set (p.toNat - 1) c) p := by unfold isP at hp ⊢; rw [List.length_set]; exact hp
  obtain ⟨A, cp, c1, c2, c3, hc, hr, hf⟩ := h4.pl hp'
  have e : cAt (cs.set (p.toNat - 1) c) p = c := by rw [cAt_get (by rw [List.length_set]; exact hj), List.getElem_set_self]
  rw [e] at c1 c2 c3 hc hr
  exact ⟨A, cp, c1, c2, c3, hc, hr _ (fun _ _ => rfl), hf⟩
/-- the round's end: nothing comes in -/
theorem AddI.next (h : AddI w0 w W base g ga Z cs p fr xs i n c) {x : In} (hi : i < xs.length) (hx : xs[i] = x) (h1 : rightI x = true) (h2 : fr ≤ c.l.length) (h3 : (i : Int) < (c.l.length : Int) - fr) : AddI w0 w W base g ga Z cs p fr xs (i + 1) n c := by
  refine ⟨h.below, h.size, h.frame, h.tab, ?_, ⟨h.n.1, by have := h.n.2; omega⟩, h.len⟩
  rw [h.go, List.drop_eq_getElem_cons hi, hx, addGo, if_neg (by rintro (e | e | e) <;> first | omega | (rw [h1] at e; cases e)), if_pos h3]
theorem AddI.stop (h : AddI w0 w W base g ga Z cs p fr xs i n c) {x : In} (hi : i < xs.length) (hx : xs[i] = x) (h1 : rightI x = false ∨ (c.l.length : Int) < fr ∨ (c.l.length : Int) - fr < i ∨ ((i : Int) = (c.l.length : Int) - fr ∧ ((c.d = true ∧ c.e ≤ c.l.length) ∨ 10000 ≤ (c.l.length : Int)))) : addGo (cAt cs p) fr 0 xs 0 = (c, n) := by
  rw [h.go, List.drop_eq_getElem_cons hi, hx, addGo]
  by_cases h2 : rightI x = false ∨ (c.l.length : Int) < fr ∨ (c.l.length : Int) - fr < i
  · rw [if_pos h2]
  · have h3 : (i : Int) = (c.l.length : Int) - fr ∧ ((c.d = true ∧ c.e ≤ c.l.length) ∨ 10000 ≤ (c.l.length : Int)) := by
      rcases h1 with h1 | h1 | h1 | h1
      · exact absurd (.inl h1) h2
      · exact absurd (.inr (.inl h1)) h2
      · exact absurd (.inr (.inr h1)) h2
      · exact h1
    rw [if_neg h2, if_neg (by omega), if_pos h3.2]
theorem AddI.stop0 (h : AddI w0 w W base g ga Z cs p fr xs i n c) (hi : ¬ i < xs.length) : addGo (cAt cs p) fr 0 xs 0 = (c, n) := by
  rw [h.go, List.drop_of_length_le (by omega), addGo]
/-- an input comes in: W2 is memory behind append; its field is stored -/
theorem AddI.put (h : AddI w0 w W base g ga Z cs p fr xs i n c) (hga : base ≤ ga) (hl : g < w.heap.size ∧ ga < w.heap.size) (hp : isP cs p) {x : In} (hi : i < xs.length) (hx : xs[i] = x) (h1 : rightI x = true) (h2 : fr ≤ c.l.length) (h3 : (i : Int) = (c.l.length : Int) - fr) (h4 : ¬ ((c.d = true ∧ c.e ≤ c.l.length) ∨ 10000 ≤ (c.l.length : Int)))
    {v : Value} {m : Nat} {B : Nat} (hB : w.heap.size ≤ B) (hv : W.ownsRow B 24 3 v m (c.l.flatMap encI ++ encI x)) (hm : m = c.l.length + 1) : AddI w0 w (W.setCell ⟨ga, (p.toNat - 1) * 3, none⟩ v) base g ga Z cs p fr xs (i + 1) (n + 1) ⟨c.l ++ [x], c.e, c.d⟩ := by
  obtain ⟨Z', z1, z2, z3, z4⟩ := h.tab
  have hj : p.toNat - 1 < cs.length := by unfold isP at hp; omega
  refine ⟨h.below.setCell hga _, by simpa [World.setCell] using h.size, fun k hk hne => (far_set k hne).trans (h.frame k hk hne), ⟨fun k => Z' k ∨ (B ≤ k ∧ k < W.heap.size), fun k hk => .inl (z1 k hk), ?_, ?_, ?_⟩, ?_, ⟨by have := h.n.1; omega, by have := h.n.2; omega⟩, ⟨by simp; omega, h.len.2⟩⟩
  · rintro k (hk | hk)
    · exact z2 k hk
    · exact .inr (by omega)
  · rintro k (hk | hk)
    · simpa [World.setCell] using z3 k hk
    · simpa [World.setCell] using hk.2
  · have hT := z4.put0 (Z' := fun k => Z' k ∨ (B ≤ k ∧ k < W.heap.size)) (p.toNat - 1) (by rw [List.length_set]; exact hj) v (c.l ++ [x]) (fun k hk => .inl hk) (fun hk => hk.elim z4.ng (fun h => absurd h.1 (by omega))) (fun hk => hk.elim z4.na (fun h => absurd h.1 (by omega))) ((RowS.snoc hv hm).weak (fun k hk => .inr hk))
    rw [List.getElem_set_self, List.set_set] at hT
    exact hT
  · rw [h.go, List.drop_eq_getElem_cons hi, hx, addGo, if_neg (by rintro (e | e | e) <;> first | omega | (rw [h1] at e; cases e)), if_neg (by omega), if_neg h4]
end
end Go.Proofs.Ytkgjokidfbpnbaa.InW
namespace Go.Proofs.Ytkgjokidfbpnbaa.InW
open Go.RowKit Go.Proofs.YtkgjokidfbpnbaaW.PrintWords Go.Proofs.YtkgjokidfbpnbaaW.PrintLast Go.Proofs.YtkgjokidfbpnbaaW.PrintMore Go.Proofs.Ytkgjokidfbpnbaa.Sep
attribute [local go_sem] max2_int min2_int max_two min_two max_three min_three max_four min_four   -- for this text's walks alone
set_option linter.unusedVariables false
set_option linter.unusedSimpArgs false
theorem info24_ : (Try.prog.info? 24).map (fun i => (i.zero, i.size, i.bytes)) = some (some (.agg #[.int .i64 0, .int .i64 0, .bool false]), 3, 24) := by kernel_rfl
theorem news_at {w : World} {gl : Nat} {x : In} (h : w.heap[gl]? = some (.cells #[.int .i64 x.1, .int .i64 x.2.1, .bool x.2.2] 24 (0, 0))) : ∀ j u, (encI x)[j]? = some u → w.cell? ((⟨gl, 0, none⟩ : Addr).add j) = some u := by
  intro j u hu
  have e : (⟨gl, 0, none⟩ : Addr).add j = ⟨gl, j, none⟩ := by unfold Addr.add; split <;> simp_all
  rw [e, blk_cell h j]
  simpa [encI] using hu
theorem news_one (x : In) : ∀ u ∈ encI x, u.oneCell' = true := by
  intro u hu
  simp [encI] at hu
  rcases hu with rfl | rfl | rfl <;> rfl
/-- what Add leaves -/
def AddP (w0 w : World) (base g ga : Nat) (Z : Nat → Prop) (cs : List Col) (p fr : Int) (xs : List In) (e : Ending) (w' : World) : Prop := ∃ Z' : Nat → Prop, e = .returned (.int .i64 (add_ cs p fr xs).1) ∧ Below base w0 w' ∧ w.heap.size ≤ w'.heap.size ∧ (∀ k, k < w.heap.size → k ≠ ga → w'.heap[k]? = w.heap[k]?) ∧ (∀ k, Z k → Z' k) ∧ (∀ k, Z' k → Z k ∨ w.heap.size ≤ k) ∧ (∀ k, Z' k → k < w'.heap.size) ∧ TabG w' g ga Z' (add_ cs p fr xs).2

theorem AddI.start {w0 w w1 : World} {base g ga : Nat} {Z : Nat → Prop} {cs : List Col} {p fr : Int} {xs : List In} (h : TabG w g ga Z cs) (hB : Below base w0 w) (hz : ∀ k, Z k → k < w.heap.size) (hl : g < w.heap.size ∧ ga < w.heap.size) (hj : p.toNat - 1 < cs.length) (hle : (cAt cs p).l.length ≤ 10000 ∧ I64 (cAt cs p).e) (hb : Below w.heap.size w w1) (hbs : base ≤ w.heap.size) : AddI w0 w w1 base g ga Z cs p fr xs 0 0 (cAt cs p) := by
  have h0 : AddI w0 w w base g ga Z cs p fr xs 0 0 (cAt cs p) := by
    refine ⟨hB, Nat.le_refl _, fun k hk hne => rfl, ⟨Z, fun k hk => hk, fun k hk => .inl hk, hz, ?_⟩, by rw [List.drop_zero], ⟨Int.le_refl _, Int.le_refl _⟩, hle⟩
    rw [cAt_get hj, List.set_getElem_self]
    exact h
  exact h0.step hb hbs hl
theorem AddI.done {w0 w W : World} {base g ga : Nat} {Z : Nat → Prop} {cs : List Col} {p fr : Int} {xs : List In} {i : Nat} {n : Int} {c : Col} (h : AddI w0 w W base g ga Z cs p fr xs i n c) (hs : addGo (cAt cs p) fr 0 xs 0 = (c, n)) (h1 : isP cs p) (h2 : 0 ≤ fr) : AddP w0 w base g ga Z cs p fr xs (.returned (.int .i64 n)) W := by
  obtain ⟨Z', z1, z2, z3, z4⟩ := h.tab
  refine ⟨Z', ?_, h.below, h.size, h.frame, z1, z2, z3, ?_⟩
  · rw [add_yes h1 h2, hs]
  · rw [add_yes h1 h2, hs]; exact z4
set_option maxHeartbeats 8000000 in
set_option maxRecDepth 100000 in
theorem add.calls {w0 w : World} {base g ga : Nat} {Z : Nat → Prop} {cs : List Col} (h : TabG w g ga Z cs) (hB : Below base w0 w) (hga : base ≤ ga) (hl : g < w.heap.size ∧ ga < w.heap.size) (hz : ∀ k, Z k → k < w.heap.size) (p fr : Int) (hp : I64 p) (hfr : I64 fr) (hn : cs.length ≤ 1000000) (hle : (cAt cs p).l.length ≤ 10000 ∧ I64 (cAt cs p).e)
    (A : Option Addr) (cx : Nat) (xs : List In) (hx : xs.length ≤ 1000000) (hxs : ∀ (W : World) (i : Nat) (n : Int) (c : Col), AddI w0 w W base g ga Z cs p fr xs i n c → Kd.C kin W A xs.length xs) :
    Calls Try.prog 12 #[.pointer (some ⟨g, 0, none⟩), .int .i64 p, .int .i64 fr, .slice A xs.length cx] w (AddP w0 w base g ga Z cs p fr xs) := by
  have hbs : base ≤ w.heap.size := by omega
  have hu24 := Try.underlying24
  by_cases h1 : isP cs p
  · have hj : p.toNat - 1 < cs.length := by unfold isP at h1; omega
    by_cases h0 : fr < 0
    · have d0 : decide (fr < 0) = true := decide_eq_true h0
      go_enter Try.func12, Try.ntmps12
      go_wp2_with (first | (go_at_call 30; (refine (column.calls h p hp hn).mono ?_); rintro e w1 ⟨rfl, hb1⟩; rw [colA_yes h1]; have HA1 := Aside0.mk (AddI.start (fr := fr) (xs := xs) h hB hz hl hj hle hb1 hbs); clear hb1))
      go_ret
      obtain ⟨Z', z1, z2, z3, z4⟩ := HA1.out.tab
      rw [cAt_get hj, List.set_getElem_self] at z4
      refine ⟨Z', ?_, HA1.out.below, HA1.out.size, HA1.out.frame, z1, z2, z3, ?_⟩
      · rw [add_no (fun x => by omega)]; rfl
      · rw [add_no (fun x => by omega)]; exact z4
    · have d0 : decide (fr < 0) = false := decide_eq_false h0
      have HXS := Aside0.mk hxs
      clear hxs
      go_enter Try.func12, Try.ntmps12
      go_wp2_with (first | (go_at_call 30; (refine (column.calls h p hp hn).mono ?_); rintro e w1 ⟨rfl, hb1⟩; rw [colA_yes h1]; have HA1 := Aside0.mk (AddI.start (fr := fr) (xs := xs) h hB hz hl hj hle hb1 hbs); clear hb1))
      go_loopg [25, 10] (xs.length + 1) (fun kq v25 v10 w' => ∃ (i : Nat) (n : Int) (c : Col), v25 = .int .i64 (i : Int) ∧ v10 = .int .i64 n ∧ Aside0 (i + kq = xs.length + 1) ∧ Aside0 (i ≤ xs.length) ∧ Aside0 (AddI w0 w w' base g ga Z cs p fr xs i n c))
      case atStart => exact ⟨0, 0, _, rfl, rfl, ⟨by omega⟩, ⟨by omega⟩, HA1⟩
      case round =>
        obtain ⟨i, n, c, rfl, rfl, HK, HI, HA⟩ := hrel
        clear HA1
        by_cases hil : i < xs.length
        · have d1 : decide ((i : Int) < (xs.length : Int)) = true := decide_eq_true (by omega)
          obtain ⟨ad, rfl, x0, x1, x2⟩ := at_inI (HXS.out _ _ _ _ HA.out) (i : Int) (by omega) (by omega)
          rw [Int.toNat_natCast] at x0 x1 x2
          obtain ⟨x, hx9⟩ : ∃ x, rdI xs (i : Int) = x := ⟨_, rfl⟩
          rw [hx9] at x0 x1 x2
          have HXX := Aside0.mk (show xs[i] = x by rw [← hx9]; simp [rdI, List.getD_eq_getElem?_getD, hil])
          clear hx9
          have hlc := HA.out.len.1
          have hle9 := HA.out.len.2
          obtain ⟨q, hq⟩ : ∃ q : Int, q = (c.l.length : Int) - fr := ⟨_, rfl⟩
          have dW : IntKind.i64.wrap ((c.l.length : Int) - fr) = q := by rw [IntKind.wrap_i64, hq]; omega
          have HQ := Aside0.mk hq
          clear hq
          cases gk with
          | zero => exact absurd HK.out (by omega)
          | succ k1 =>
            by_cases hR : rightI x = true
            case neg =>
              replace hR : rightI x = false := by simpa using hR
              go_wp2_with (first | ((with_reducible refine gate_dst (N := 12) rfl ?_); refine box_event ?hg (N := 12) ?hd (cs := #[.int .i64 0, .int .i64 0, .bool false]) (t := 24) ?hr ?_; (case hd => rfl); (case hg => rfl); (case hr => first | (go_simp; done) | (go_simp; rfl)); intro gb hgb w5 hbox hb5; have HGE := Aside0.mk (Nat.le_of_eq hgb.symm); have hn1 : gb ≠ ga := Nat.ne_of_gt (Nat.lt_of_lt_of_le (Nat.lt_of_lt_of_le hl.2 HA.out.size) HGE.out); clear hgb; have hn2 : ga ≠ gb := hn1.symm; have BK := Aside0.mk hbox; clear hbox; have HA5 := Aside0.mk (HA.out.step hb5 hbs hl); have HB5 := Aside0.mk hb5; clear hb5; obtain ⟨A5, cp5, c51, c52, c53, hc5, _, _⟩ := HA5.out.pl h1; have hcz0 : w5.cell? ⟨gb, 0, none⟩ = some (.int .i64 0) := (blk_cell BK.out 0).trans rfl; have hcz1 : w5.cell? ⟨gb, 1, none⟩ = some (.int .i64 0) := (blk_cell BK.out 1).trans rfl; have hcz2 : w5.cell? ⟨gb, 2, none⟩ = some (.bool false) := (blk_cell BK.out 2).trans rfl; have hfz0 := blk_frozen BK.out 0; have hfz1 := blk_frozen BK.out 1; have hfz2 := blk_frozen BK.out 2) | (go_at_call 31; (refine (PInputsEnd.input_Right.calls x.1 x.2.1 x.2.2 false _ ((right_eq x).trans (by rw [hR]))).mono ?_); rintro e w6 ⟨rfl, hb6⟩; have bk5 := blk_put (cs' := #[.int .i64 x.1, .int .i64 x.2.1, .bool x.2.2]) (blk_put (cs' := #[.int .i64 x.1, .int .i64 x.2.1, .bool false]) (blk_put (cs' := #[.int .i64 x.1, .int .i64 0, .bool false]) BK.out 0 (.int .i64 x.1) rfl) 1 (.int .i64 x.2.1) rfl) 2 (.bool x.2.2) rfl; have BK6 := Aside0.mk (blk_below bk5 hb6); have HA6 := Aside0.mk ((HA.out.step (below_set (below_set (below_set HB5.out HGE.out) HGE.out) HGE.out) hbs hl).step hb6 hbs hl); clear hb6 hcz0 hcz1 hcz2 hfz0 hfz1 hfz2 c51 c52 c53 bk5; obtain ⟨A6, cp6, c1, c2, c3, hc6, hC6, hf6⟩ := HA6.out.pl h1; have q0 : w6.cell? ⟨gb, 0, none⟩ = some (.int .i64 x.1) := (blk_cell BK6.out 0).trans rfl; have q1 : w6.cell? ⟨gb, 1, none⟩ = some (.int .i64 x.2.1) := (blk_cell BK6.out 1).trans rfl; have q2 : w6.cell? ⟨gb, 2, none⟩ = some (.bool x.2.2) := (blk_cell BK6.out 2).trans rfl))
              go_ret
              exact HA6.out.done (HA6.out.stop hil HXX.out (.inl hR)) h1 (by omega)
            by_cases h2 : (c.l.length : Int) < fr
            case pos =>
              have d2 : decide ((c.l.length : Int) < fr) = true := decide_eq_true h2
              go_wp2_with (first | ((with_reducible refine gate_dst (N := 12) rfl ?_); refine box_event ?hg (N := 12) ?hd (cs := #[.int .i64 0, .int .i64 0, .bool false]) (t := 24) ?hr ?_; (case hd => rfl); (case hg => rfl); (case hr => first | (go_simp; done) | (go_simp; rfl)); intro gb hgb w5 hbox hb5; have HGE := Aside0.mk (Nat.le_of_eq hgb.symm); have hn1 : gb ≠ ga := Nat.ne_of_gt (Nat.lt_of_lt_of_le (Nat.lt_of_lt_of_le hl.2 HA.out.size) HGE.out); clear hgb; have hn2 : ga ≠ gb := hn1.symm; have BK := Aside0.mk hbox; clear hbox; have HA5 := Aside0.mk (HA.out.step hb5 hbs hl); have HB5 := Aside0.mk hb5; clear hb5; obtain ⟨A5, cp5, c51, c52, c53, hc5, _, _⟩ := HA5.out.pl h1; have hcz0 : w5.cell? ⟨gb, 0, none⟩ = some (.int .i64 0) := (blk_cell BK.out 0).trans rfl; have hcz1 : w5.cell? ⟨gb, 1, none⟩ = some (.int .i64 0) := (blk_cell BK.out 1).trans rfl; have hcz2 : w5.cell? ⟨gb, 2, none⟩ = some (.bool false) := (blk_cell BK.out 2).trans rfl; have hfz0 := blk_frozen BK.out 0; have hfz1 := blk_frozen BK.out 1; have hfz2 := blk_frozen BK.out 2) | (go_at_call 31; (refine (PInputsEnd.input_Right.calls x.1 x.2.1 x.2.2 true _ ((right_eq x).trans (by rw [hR]))).mono ?_); rintro e w6 ⟨rfl, hb6⟩; have bk5 := blk_put (cs' := #[.int .i64 x.1, .int .i64 x.2.1, .bool x.2.2]) (blk_put (cs' := #[.int .i64 x.1, .int .i64 x.2.1, .bool false]) (blk_put (cs' := #[.int .i64 x.1, .int .i64 0, .bool false]) BK.out 0 (.int .i64 x.1) rfl) 1 (.int .i64 x.2.1) rfl) 2 (.bool x.2.2) rfl; have BK6 := Aside0.mk (blk_below bk5 hb6); have HA6 := Aside0.mk ((HA.out.step (below_set (below_set (below_set HB5.out HGE.out) HGE.out) HGE.out) hbs hl).step hb6 hbs hl); clear hb6 hcz0 hcz1 hcz2 hfz0 hfz1 hfz2 c51 c52 c53 bk5; obtain ⟨A6, cp6, c1, c2, c3, hc6, hC6, hf6⟩ := HA6.out.pl h1; have q0 : w6.cell? ⟨gb, 0, none⟩ = some (.int .i64 x.1) := (blk_cell BK6.out 0).trans rfl; have q1 : w6.cell? ⟨gb, 1, none⟩ = some (.int .i64 x.2.1) := (blk_cell BK6.out 1).trans rfl; have q2 : w6.cell? ⟨gb, 2, none⟩ = some (.bool x.2.2) := (blk_cell BK6.out 2).trans rfl))
              go_ret
              exact HA6.out.done (HA6.out.stop hil HXX.out (.inr (.inl h2))) h1 (by omega)
            have d2 : decide ((c.l.length : Int) < fr) = false := decide_eq_false h2
            by_cases h3 : q < i
            case pos =>
              have d3 : decide (q < (i : Int)) = true := decide_eq_true h3
              go_wp2_with (first | ((with_reducible refine gate_dst (N := 12) rfl ?_); refine box_event ?hg (N := 12) ?hd (cs := #[.int .i64 0, .int .i64 0, .bool false]) (t := 24) ?hr ?_; (case hd => rfl); (case hg => rfl); (case hr => first | (go_simp; done) | (go_simp; rfl)); intro gb hgb w5 hbox hb5; have HGE := Aside0.mk (Nat.le_of_eq hgb.symm); have hn1 : gb ≠ ga := Nat.ne_of_gt (Nat.lt_of_lt_of_le (Nat.lt_of_lt_of_le hl.2 HA.out.size) HGE.out); clear hgb; have hn2 : ga ≠ gb := hn1.symm; have BK := Aside0.mk hbox; clear hbox; have HA5 := Aside0.mk (HA.out.step hb5 hbs hl); have HB5 := Aside0.mk hb5; clear hb5; obtain ⟨A5, cp5, c51, c52, c53, hc5, _, _⟩ := HA5.out.pl h1; have hcz0 : w5.cell? ⟨gb, 0, none⟩ = some (.int .i64 0) := (blk_cell BK.out 0).trans rfl; have hcz1 : w5.cell? ⟨gb, 1, none⟩ = some (.int .i64 0) := (blk_cell BK.out 1).trans rfl; have hcz2 : w5.cell? ⟨gb, 2, none⟩ = some (.bool false) := (blk_cell BK.out 2).trans rfl; have hfz0 := blk_frozen BK.out 0; have hfz1 := blk_frozen BK.out 1; have hfz2 := blk_frozen BK.out 2) | (go_at_call 31; (refine (PInputsEnd.input_Right.calls x.1 x.2.1 x.2.2 true _ ((right_eq x).trans (by rw [hR]))).mono ?_); rintro e w6 ⟨rfl, hb6⟩; have bk5 := blk_put (cs' := #[.int .i64 x.1, .int .i64 x.2.1, .bool x.2.2]) (blk_put (cs' := #[.int .i64 x.1, .int .i64 x.2.1, .bool false]) (blk_put (cs' := #[.int .i64 x.1, .int .i64 0, .bool false]) BK.out 0 (.int .i64 x.1) rfl) 1 (.int .i64 x.2.1) rfl) 2 (.bool x.2.2) rfl; have BK6 := Aside0.mk (blk_below bk5 hb6); have HA6 := Aside0.mk ((HA.out.step (below_set (below_set (below_set HB5.out HGE.out) HGE.out) HGE.out) hbs hl).step hb6 hbs hl); clear hb6 hcz0 hcz1 hcz2 hfz0 hfz1 hfz2 c51 c52 c53 bk5; obtain ⟨A6, cp6, c1, c2, c3, hc6, hC6, hf6⟩ := HA6.out.pl h1; have q0 : w6.cell? ⟨gb, 0, none⟩ = some (.int .i64 x.1) := (blk_cell BK6.out 0).trans rfl; have q1 : w6.cell? ⟨gb, 1, none⟩ = some (.int .i64 x.2.1) := (blk_cell BK6.out 1).trans rfl; have q2 : w6.cell? ⟨gb, 2, none⟩ = some (.bool x.2.2) := (blk_cell BK6.out 2).trans rfl))
              go_ret
              exact HA6.out.done (HA6.out.stop hil HXX.out (.inr (.inr (.inl (HQ.out ▸ h3))))) h1 (by omega)
            have d3 : decide (q < (i : Int)) = false := decide_eq_false h3
            by_cases h4 : (i : Int) < q
            case pos =>
              have d4 : decide ((i : Int) < q) = true := decide_eq_true h4
              go_wp2_with (first | ((with_reducible refine gate_dst (N := 12) rfl ?_); refine box_event ?hg (N := 12) ?hd (cs := #[.int .i64 0, .int .i64 0, .bool false]) (t := 24) ?hr ?_; (case hd => rfl); (case hg => rfl); (case hr => first | (go_simp; done) | (go_simp; rfl)); intro gb hgb w5 hbox hb5; have HGE := Aside0.mk (Nat.le_of_eq hgb.symm); have hn1 : gb ≠ ga := Nat.ne_of_gt (Nat.lt_of_lt_of_le (Nat.lt_of_lt_of_le hl.2 HA.out.size) HGE.out); clear hgb; have hn2 : ga ≠ gb := hn1.symm; have BK := Aside0.mk hbox; clear hbox; have HA5 := Aside0.mk (HA.out.step hb5 hbs hl); have HB5 := Aside0.mk hb5; clear hb5; obtain ⟨A5, cp5, c51, c52, c53, hc5, _, _⟩ := HA5.out.pl h1; have hcz0 : w5.cell? ⟨gb, 0, none⟩ = some (.int .i64 0) := (blk_cell BK.out 0).trans rfl; have hcz1 : w5.cell? ⟨gb, 1, none⟩ = some (.int .i64 0) := (blk_cell BK.out 1).trans rfl; have hcz2 : w5.cell? ⟨gb, 2, none⟩ = some (.bool false) := (blk_cell BK.out 2).trans rfl; have hfz0 := blk_frozen BK.out 0; have hfz1 := blk_frozen BK.out 1; have hfz2 := blk_frozen BK.out 2) | (go_at_call 31; (refine (PInputsEnd.input_Right.calls x.1 x.2.1 x.2.2 true _ ((right_eq x).trans (by rw [hR]))).mono ?_); rintro e w6 ⟨rfl, hb6⟩; have bk5 := blk_put (cs' := #[.int .i64 x.1, .int .i64 x.2.1, .bool x.2.2]) (blk_put (cs' := #[.int .i64 x.1, .int .i64 x.2.1, .bool false]) (blk_put (cs' := #[.int .i64 x.1, .int .i64 0, .bool false]) BK.out 0 (.int .i64 x.1) rfl) 1 (.int .i64 x.2.1) rfl) 2 (.bool x.2.2) rfl; have BK6 := Aside0.mk (blk_below bk5 hb6); have HA6 := Aside0.mk ((HA.out.step (below_set (below_set (below_set HB5.out HGE.out) HGE.out) HGE.out) hbs hl).step hb6 hbs hl); clear hb6 hcz0 hcz1 hcz2 hfz0 hfz1 hfz2 c51 c52 c53 bk5; obtain ⟨A6, cp6, c1, c2, c3, hc6, hC6, hf6⟩ := HA6.out.pl h1; have q0 : w6.cell? ⟨gb, 0, none⟩ = some (.int .i64 x.1) := (blk_cell BK6.out 0).trans rfl; have q1 : w6.cell? ⟨gb, 1, none⟩ = some (.int .i64 x.2.1) := (blk_cell BK6.out 1).trans rfl; have q2 : w6.cell? ⟨gb, 2, none⟩ = some (.bool x.2.2) := (blk_cell BK6.out 2).trans rfl))
              go_roundg k1
              case measure => have := HK.out; omega
              case rel => exact ⟨i + 1, n, c, rfl, rfl, ⟨by have := HK.out; omega⟩, ⟨by omega⟩, ⟨HA6.out.next hil HXX.out hR (by omega) (HQ.out ▸ h4)⟩⟩
            have d4 : decide ((i : Int) < q) = false := decide_eq_false h4
            have HI4 := Aside0.mk (show (i : Int) = (c.l.length : Int) - fr by rw [← HQ.out]; omega)
            by_cases h5 : c.d = true ∧ c.e ≤ (c.l.length : Int)
            case pos =>
              have d6 : decide (c.e ≤ (c.l.length : Int)) = true := decide_eq_true h5.2
              go_wp2_with (first | ((with_reducible refine gate_dst (N := 12) rfl ?_); refine box_event ?hg (N := 12) ?hd (cs := #[.int .i64 0, .int .i64 0, .bool false]) (t := 24) ?hr ?_; (case hd => rfl); (case hg => rfl); (case hr => first | (go_simp; done) | (go_simp; rfl)); intro gb hgb w5 hbox hb5; have HGE := Aside0.mk (Nat.le_of_eq hgb.symm); have hn1 : gb ≠ ga := Nat.ne_of_gt (Nat.lt_of_lt_of_le (Nat.lt_of_lt_of_le hl.2 HA.out.size) HGE.out); clear hgb; have hn2 : ga ≠ gb := hn1.symm; have BK := Aside0.mk hbox; clear hbox; have HA5 := Aside0.mk (HA.out.step hb5 hbs hl); have HB5 := Aside0.mk hb5; clear hb5; obtain ⟨A5, cp5, c51, c52, c53, hc5, _, _⟩ := HA5.out.pl h1; have hcz0 : w5.cell? ⟨gb, 0, none⟩ = some (.int .i64 0) := (blk_cell BK.out 0).trans rfl; have hcz1 : w5.cell? ⟨gb, 1, none⟩ = some (.int .i64 0) := (blk_cell BK.out 1).trans rfl; have hcz2 : w5.cell? ⟨gb, 2, none⟩ = some (.bool false) := (blk_cell BK.out 2).trans rfl; have hfz0 := blk_frozen BK.out 0; have hfz1 := blk_frozen BK.out 1; have hfz2 := blk_frozen BK.out 2) | (go_at_call 31; (refine (PInputsEnd.input_Right.calls x.1 x.2.1 x.2.2 true _ ((right_eq x).trans (by rw [hR]))).mono ?_); rintro e w6 ⟨rfl, hb6⟩; have bk5 := blk_put (cs' := #[.int .i64 x.1, .int .i64 x.2.1, .bool x.2.2]) (blk_put (cs' := #[.int .i64 x.1, .int .i64 x.2.1, .bool false]) (blk_put (cs' := #[.int .i64 x.1, .int .i64 0, .bool false]) BK.out 0 (.int .i64 x.1) rfl) 1 (.int .i64 x.2.1) rfl) 2 (.bool x.2.2) rfl; have BK6 := Aside0.mk (blk_below bk5 hb6); have HA6 := Aside0.mk ((HA.out.step (below_set (below_set (below_set HB5.out HGE.out) HGE.out) HGE.out) hbs hl).step hb6 hbs hl); clear hb6 hcz0 hcz1 hcz2 hfz0 hfz1 hfz2 c51 c52 c53 bk5; obtain ⟨A6, cp6, c1, c2, c3, hc6, hC6, hf6⟩ := HA6.out.pl h1; have q0 : w6.cell? ⟨gb, 0, none⟩ = some (.int .i64 x.1) := (blk_cell BK6.out 0).trans rfl; have q1 : w6.cell? ⟨gb, 1, none⟩ = some (.int .i64 x.2.1) := (blk_cell BK6.out 1).trans rfl; have q2 : w6.cell? ⟨gb, 2, none⟩ = some (.bool x.2.2) := (blk_cell BK6.out 2).trans rfl; rw [h5.1] at c3))
              go_ret
              exact HA6.out.done (HA6.out.stop hil HXX.out (.inr (.inr (.inr ⟨HI4.out, .inl h5⟩)))) h1 (by omega)
            by_cases h7 : 10000 ≤ (c.l.length : Int)
            case pos =>
              have d7 : decide (10000 ≤ (c.l.length : Int)) = true := decide_eq_true h7
              by_cases h8 : c.d = true
              · have d6 : decide (c.e ≤ (c.l.length : Int)) = false := decide_eq_false (fun x => h5 ⟨h8, x⟩)
                go_wp2_with (first | ((with_reducible refine gate_dst (N := 12) rfl ?_); refine box_event ?hg (N := 12) ?hd (cs := #[.int .i64 0, .int .i64 0, .bool false]) (t := 24) ?hr ?_; (case hd => rfl); (case hg => rfl); (case hr => first | (go_simp; done) | (go_simp; rfl)); intro gb hgb w5 hbox hb5; have HGE := Aside0.mk (Nat.le_of_eq hgb.symm); have hn1 : gb ≠ ga := Nat.ne_of_gt (Nat.lt_of_lt_of_le (Nat.lt_of_lt_of_le hl.2 HA.out.size) HGE.out); clear hgb; have hn2 : ga ≠ gb := hn1.symm; have BK := Aside0.mk hbox; clear hbox; have HA5 := Aside0.mk (HA.out.step hb5 hbs hl); have HB5 := Aside0.mk hb5; clear hb5; obtain ⟨A5, cp5, c51, c52, c53, hc5, _, _⟩ := HA5.out.pl h1; have hcz0 : w5.cell? ⟨gb, 0, none⟩ = some (.int .i64 0) := (blk_cell BK.out 0).trans rfl; have hcz1 : w5.cell? ⟨gb, 1, none⟩ = some (.int .i64 0) := (blk_cell BK.out 1).trans rfl; have hcz2 : w5.cell? ⟨gb, 2, none⟩ = some (.bool false) := (blk_cell BK.out 2).trans rfl; have hfz0 := blk_frozen BK.out 0; have hfz1 := blk_frozen BK.out 1; have hfz2 := blk_frozen BK.out 2) | (go_at_call 31; (refine (PInputsEnd.input_Right.calls x.1 x.2.1 x.2.2 true _ ((right_eq x).trans (by rw [hR]))).mono ?_); rintro e w6 ⟨rfl, hb6⟩; have bk5 := blk_put (cs' := #[.int .i64 x.1, .int .i64 x.2.1, .bool x.2.2]) (blk_put (cs' := #[.int .i64 x.1, .int .i64 x.2.1, .bool false]) (blk_put (cs' := #[.int .i64 x.1, .int .i64 0, .bool false]) BK.out 0 (.int .i64 x.1) rfl) 1 (.int .i64 x.2.1) rfl) 2 (.bool x.2.2) rfl; have BK6 := Aside0.mk (blk_below bk5 hb6); have HA6 := Aside0.mk ((HA.out.step (below_set (below_set (below_set HB5.out HGE.out) HGE.out) HGE.out) hbs hl).step hb6 hbs hl); clear hb6 hcz0 hcz1 hcz2 hfz0 hfz1 hfz2 c51 c52 c53 bk5; obtain ⟨A6, cp6, c1, c2, c3, hc6, hC6, hf6⟩ := HA6.out.pl h1; have q0 : w6.cell? ⟨gb, 0, none⟩ = some (.int .i64 x.1) := (blk_cell BK6.out 0).trans rfl; have q1 : w6.cell? ⟨gb, 1, none⟩ = some (.int .i64 x.2.1) := (blk_cell BK6.out 1).trans rfl; have q2 : w6.cell? ⟨gb, 2, none⟩ = some (.bool x.2.2) := (blk_cell BK6.out 2).trans rfl; rw [h8] at c3))
                go_ret
                exact HA6.out.done (HA6.out.stop hil HXX.out (.inr (.inr (.inr ⟨HI4.out, .inr h7⟩)))) h1 (by omega)
              · have h9 : c.d = false := by simpa using h8
                go_wp2_with (first | ((with_reducible refine gate_dst (N := 12) rfl ?_); refine box_event ?hg (N := 12) ?hd (cs := #[.int .i64 0, .int .i64 0, .bool false]) (t := 24) ?hr ?_; (case hd => rfl); (case hg => rfl); (case hr => first | (go_simp; done) | (go_simp; rfl)); intro gb hgb w5 hbox hb5; have HGE := Aside0.mk (Nat.le_of_eq hgb.symm); have hn1 : gb ≠ ga := Nat.ne_of_gt (Nat.lt_of_lt_of_le (Nat.lt_of_lt_of_le hl.2 HA.out.size) HGE.out); clear hgb; have hn2 : ga ≠ gb := hn1.symm; have BK := Aside0.mk hbox; clear hbox; have HA5 := Aside0.mk (HA.out.step hb5 hbs hl); have HB5 := Aside0.mk hb5; clear hb5; obtain ⟨A5, cp5, c51, c52, c53, hc5, _, _⟩ := HA5.out.pl h1; have hcz0 : w5.cell? ⟨gb, 0, none⟩ = some (.int .i64 0) := (blk_cell BK.out 0).trans rfl; have hcz1 : w5.cell? ⟨gb, 1, none⟩ = some (.int .i64 0) := (blk_cell BK.out 1).trans rfl; have hcz2 : w5.cell? ⟨gb, 2, none⟩ = some (.bool false) := (blk_cell BK.out 2).trans rfl; have hfz0 := blk_frozen BK.out 0; have hfz1 := blk_frozen BK.out 1; have hfz2 := blk_frozen BK.out 2) | (go_at_call 31; (refine (PInputsEnd.input_Right.calls x.1 x.2.1 x.2.2 true _ ((right_eq x).trans (by rw [hR]))).mono ?_); rintro e w6 ⟨rfl, hb6⟩; have bk5 := blk_put (cs' := #[.int .i64 x.1, .int .i64 x.2.1, .bool x.2.2]) (blk_put (cs' := #[.int .i64 x.1, .int .i64 x.2.1, .bool false]) (blk_put (cs' := #[.int .i64 x.1, .int .i64 0, .bool false]) BK.out 0 (.int .i64 x.1) rfl) 1 (.int .i64 x.2.1) rfl) 2 (.bool x.2.2) rfl; have BK6 := Aside0.mk (blk_below bk5 hb6); have HA6 := Aside0.mk ((HA.out.step (below_set (below_set (below_set HB5.out HGE.out) HGE.out) HGE.out) hbs hl).step hb6 hbs hl); clear hb6 hcz0 hcz1 hcz2 hfz0 hfz1 hfz2 c51 c52 c53 bk5; obtain ⟨A6, cp6, c1, c2, c3, hc6, hC6, hf6⟩ := HA6.out.pl h1; have q0 : w6.cell? ⟨gb, 0, none⟩ = some (.int .i64 x.1) := (blk_cell BK6.out 0).trans rfl; have q1 : w6.cell? ⟨gb, 1, none⟩ = some (.int .i64 x.2.1) := (blk_cell BK6.out 1).trans rfl; have q2 : w6.cell? ⟨gb, 2, none⟩ = some (.bool x.2.2) := (blk_cell BK6.out 2).trans rfl; rw [h9] at c3))
                go_ret
                exact HA6.out.done (HA6.out.stop hil HXX.out (.inr (.inr (.inr ⟨HI4.out, .inr h7⟩)))) h1 (by omega)
            have d7 : decide (10000 ≤ (c.l.length : Int)) = false := decide_eq_false h7
            have HN := Aside0.mk (show ¬ ((c.d = true ∧ c.e ≤ (c.l.length : Int)) ∨ 10000 ≤ (c.l.length : Int)) from fun e => e.elim h5 h7)
            by_cases h8 : c.d = true
            · have d6 : decide (c.e ≤ (c.l.length : Int)) = false := decide_eq_false (fun x => h5 ⟨h8, x⟩)
              go_wp2_with (first | ((with_reducible refine gate_dst (N := 12) rfl ?_); refine box_event ?hg (N := 12) ?hd (cs := #[.int .i64 0, .int .i64 0, .bool false]) (t := 24) ?hr ?_; (case hd => rfl); (case hg => rfl); (case hr => first | (go_simp; done) | (go_simp; rfl)); intro gb hgb w5 hbox hb5; have HGE := Aside0.mk (Nat.le_of_eq hgb.symm); have hn1 : gb ≠ ga := Nat.ne_of_gt (Nat.lt_of_lt_of_le (Nat.lt_of_lt_of_le hl.2 HA.out.size) HGE.out); clear hgb; have hn2 : ga ≠ gb := hn1.symm; have BK := Aside0.mk hbox; clear hbox; have HA5 := Aside0.mk (HA.out.step hb5 hbs hl); have HB5 := Aside0.mk hb5; clear hb5; obtain ⟨A5, cp5, c51, c52, c53, hc5, _, _⟩ := HA5.out.pl h1; have hcz0 : w5.cell? ⟨gb, 0, none⟩ = some (.int .i64 0) := (blk_cell BK.out 0).trans rfl; have hcz1 : w5.cell? ⟨gb, 1, none⟩ = some (.int .i64 0) := (blk_cell BK.out 1).trans rfl; have hcz2 : w5.cell? ⟨gb, 2, none⟩ = some (.bool false) := (blk_cell BK.out 2).trans rfl; have hfz0 := blk_frozen BK.out 0; have hfz1 := blk_frozen BK.out 1; have hfz2 := blk_frozen BK.out 2) | (go_at_call 31; (refine (PInputsEnd.input_Right.calls x.1 x.2.1 x.2.2 true _ ((right_eq x).trans (by rw [hR]))).mono ?_); rintro e w6 ⟨rfl, hb6⟩; have bk5 := blk_put (cs' := #[.int .i64 x.1, .int .i64 x.2.1, .bool x.2.2]) (blk_put (cs' := #[.int .i64 x.1, .int .i64 x.2.1, .bool false]) (blk_put (cs' := #[.int .i64 x.1, .int .i64 0, .bool false]) BK.out 0 (.int .i64 x.1) rfl) 1 (.int .i64 x.2.1) rfl) 2 (.bool x.2.2) rfl; have BK6 := Aside0.mk (blk_below bk5 hb6); have HA6 := Aside0.mk ((HA.out.step (below_set (below_set (below_set HB5.out HGE.out) HGE.out) HGE.out) hbs hl).step hb6 hbs hl); clear hb6 hcz0 hcz1 hcz2 hfz0 hfz1 hfz2 c51 c52 c53 bk5; obtain ⟨A6, cp6, c1, c2, c3, hc6, hC6, hf6⟩ := HA6.out.pl h1; have q0 : w6.cell? ⟨gb, 0, none⟩ = some (.int .i64 x.1) := (blk_cell BK6.out 0).trans rfl; have q1 : w6.cell? ⟨gb, 1, none⟩ = some (.int .i64 x.2.1) := (blk_cell BK6.out 1).trans rfl; have q2 : w6.cell? ⟨gb, 2, none⟩ = some (.bool x.2.2) := (blk_cell BK6.out 2).trans rfl; rw [h8] at c3))
              have HD := Aside0.mk (HA6.out.step (Below.drew (Below.refl _ _)) hbs hl)
              have hAn : A6 = none → c.l.length = 0 := fun e => by
                by_cases hz9 : c.l.length = 0
                · exact hz9
                · obtain ⟨ad9, e2, _⟩ := hC6.2.2 (by omega)
                  rw [e] at e2
                  cases e2
              obtain ⟨i0, hi0, hzz⟩ := Option.map_eq_some_iff.1 info24_
              simp only [Prod.mk.injEq] at hzz
              obtain ⟨hz0, hz1, hz2⟩ := hzz
              refine wp_region_held_drew (S := (fun w' => w'.cell? ⟨gb, 0, none⟩ = some (.int .i64 x.1) ∧ w'.cell? ⟨gb, 1, none⟩ = some (.int .i64 x.2.1) ∧ w'.cell? ⟨gb, 2, none⟩ = some (.bool x.2.2))) (by kernel_rfl) ?p0S (fun hHeld => ?_)
              case p0S => (exact ⟨q0, q1, q2⟩)
              refine Go.Proofs.Ytkgjokidfbpnbaa.Sep.takeW (i := 0) (v := ?p1v) rfl rfl (by kernel_rfl) (by kernel_rfl) (by kernel_rfl) (fun _ _ _ h => h) (by rfl) ?p1y hHeld ?_
              case p1y => (intro w hSw; (try dsimp only at hSw); go_simp <;> (try with_reducible rfl))
              (try simp only [Act.put, List.setIfInBounds_toArray, List.set_cons_zero, List.set_cons_succ])
              refine Go.Proofs.Ytkgjokidfbpnbaa.Sep.takeW (i := 1) (v := ?p2v) rfl rfl (by kernel_rfl) (by kernel_rfl) (by kernel_rfl) (fun _ _ _ h => h) (by rfl) ?p2y hHeld ?_
              case p2y => (intro w hSw; (try dsimp only at hSw); go_simp <;> (try with_reducible rfl))
              (try simp only [Act.put, List.setIfInBounds_toArray, List.set_cons_zero, List.set_cons_succ])
              refine Go.Proofs.Ytkgjokidfbpnbaa.Sep.takeW (i := 2) (v := ?p3v) rfl rfl (by kernel_rfl) (by kernel_rfl) (by kernel_rfl) (fun _ _ _ h => h) (by rfl) ?p3y hHeld ?_
              case p3y => (intro w hSw; (try dsimp only at hSw); go_simp <;> (try with_reducible rfl))
              (try simp only [Act.put, List.setIfInBounds_toArray, List.set_cons_zero, List.set_cons_succ])
              refine Go.Proofs.Ytkgjokidfbpnbaa.Sep.takeW (i := 3) (v := ?p4v) rfl rfl (by kernel_rfl) (by kernel_rfl) (by kernel_rfl) (fun _ _ _ h => h) (by rfl) ?p4y hHeld ?_
              case p4y => (intro w hSw; (try dsimp only at hSw); go_simp <;> (try with_reducible rfl))
              (try simp only [Act.put, List.setIfInBounds_toArray, List.set_cons_zero, List.set_cons_succ])
              refine Go.Proofs.Ytkgjokidfbpnbaa.Sep.takeW (i := 6) (v := ?p5v) rfl rfl (by kernel_rfl) (by kernel_rfl) (by kernel_rfl) (fun _ _ _ h => h) (by rfl) ?p5y hHeld ?_
              case p5y => (intro w hSw; (try dsimp only at hSw); go_simp <;> (try with_reducible rfl))
              (try simp only [Act.put, List.setIfInBounds_toArray, List.set_cons_zero, List.set_cons_succ])
              refine Go.Proofs.Ytkgjokidfbpnbaa.Sep.callC2 (i := 4) (j := 7) rfl rfl (by kernel_rfl) (by rfl) (by rfl) (fun K hK => ?_) (fun K hK => ?_)
              · clear hHeld
                (refine Go.Proofs.Ytkgjokidfbpnbaa.Sep.wp_of_list (ops := #[]) (by rfl) ?_; go_wp2; change K _ _)
                refine hK.out _ _ ?p24k (fun hHeld => ?_)
                case p24k => (exact ⟨q0, q1, q2⟩)
                clear hK K
                (try simp only [Act.put, List.setIfInBounds_toArray, List.set_cons_zero, List.set_cons_succ])
                refine Go.Proofs.Ytkgjokidfbpnbaa.Sep.callC2 (i := 5) (j := 7) rfl rfl (by kernel_rfl) (by rfl) (by rfl) (fun K hK => ?_) (fun K hK => ?_)
                · clear hHeld
                  (go_wp2_with (first | (go_at_call 32; (refine (clip.calls A6 c.l.length cp6 _ hAn hc6 (by omega)).mono ?_); rintro e w7 ⟨rfl, hb7⟩; have HB7 := Aside0.mk hb7; clear hb7)))
                  refine hK.out _ _ ?p6k (fun hHeld => ?_)
                  case p6k => (exact ⟨pw_cell_below (w := w6.drew) HB7.out q0, pw_cell_below (w := w6.drew) HB7.out q1, pw_cell_below (w := w6.drew) HB7.out q2⟩)
                  clear hK K
                  (try simp only [Act.put, List.setIfInBounds_toArray, List.set_cons_zero, List.set_cons_succ])
                  refine Go.Proofs.Ytkgjokidfbpnbaa.Sep.callC (i := 7) rfl (by kernel_rfl) (by rfl) (fun K hK => ?_)
                  clear hHeld
                  (refine Go.Proofs.Ytkgjokidfbpnbaa.Sep.wp_of_list (ops := #[]) (by rfl) ?_; go_wp2; change K _ _)
                  refine hK.out _ _ ?p8k (fun hHeld => ?_)
                  case p8k => (exact ⟨pw_cell_below (below_alloc (Below.refl _ _) _) (pw_cell_below (w := w6.drew) HB7.out q0), pw_cell_below (below_alloc (Below.refl _ _) _) (pw_cell_below (w := w6.drew) HB7.out q1), pw_cell_below (below_alloc (Below.refl _ _) _) (pw_cell_below (w := w6.drew) HB7.out q2)⟩)
                  clear hK K
                  (try simp only [Act.put, List.setIfInBounds_toArray, List.set_cons_zero, List.set_cons_succ])
                  have HBX := Aside0.mk (below_alloc HB7.out (.cells #[.int .i64 x.1, .int .i64 x.2.1, .bool x.2.2] 24))
                  have HBL := Aside0.mk (heap_alloc_new w7 (.cells #[.int .i64 x.1, .int .i64 x.2.1, .bool x.2.2] 24))
                  have HCX := Aside0.mk (Kd.C_below (w := w6.drew) hC6 HBX.out)
                  have HX := Aside0.mk (HD.out.step HBX.out hbs hl)
                  have q0x : (w7.alloc (.cells #[.int .i64 x.1, .int .i64 x.2.1, .bool x.2.2] 24)).cell? ⟨gb, 0, none⟩ = some (.int .i64 x.1) := pw_cell_below (w := w6.drew) HBX.out q0
                  have q1x : (w7.alloc (.cells #[.int .i64 x.1, .int .i64 x.2.1, .bool x.2.2] 24)).cell? ⟨gb, 1, none⟩ = some (.int .i64 x.2.1) := pw_cell_below (w := w6.drew) HBX.out q1
                  have q2x : (w7.alloc (.cells #[.int .i64 x.1, .int .i64 x.2.1, .bool x.2.2] 24)).cell? ⟨gb, 2, none⟩ = some (.bool x.2.2) := pw_cell_below (w := w6.drew) HBX.out q2
                  refine Go.Proofs.Ytkgjokidfbpnbaa.Sep.callC (i := 8) rfl (by kernel_rfl) (by rfl) (fun K hK => ?_)
                  clear hHeld
                  (refine Go.Proofs.Ytkgjokidfbpnbaa.Sep.wp_of_list (ops := #[]) (by rfl) ?_; refine wpList_append_grows _ rfl (.tmp 76) (.tmp 78) 22 rfl 24 i0 _ 3 24 Try.underlying22 hi0 hz0 hz1 hz2 rfl (by decide) A6 c.l.length c.l.length (c.l.flatMap encI) (by rfl) (fun e => ⟨hAn e, hAn e⟩) (flat_len _) (C_flat HCX.out) ⟨w7.heap.size, 0, none⟩ 1 1 (encI x) (by rfl) rfl (news_at HBL.out) (news_one x) (by omega) (by unfold maxLen; omega) (by omega) (fun v8 w8 hown hgrow => ?_); obtain ⟨A9, c9, e9, _, _⟩ := RowS.snoc hown rfl; rw [List.length_append, List.length_singleton] at e9; subst e9; have HOWN := Aside0.mk hown; have HG8 := Aside0.mk (pw_below_grown (Below.refl (w7.alloc (.cells #[.int .i64 x.1, .int .i64 x.2.1, .bool x.2.2] 24)).heap.size (w7.alloc (.cells #[.int .i64 x.1, .int .i64 x.2.1, .bool x.2.2] 24))) none (Nat.le_refl _) hgrow (fun _ h => by cases h)); clear hown hgrow; change K _ _)
                  refine hK.out _ _ ?p10k (fun hHeld => ?_)
                  case p10k => (exact ⟨pw_cell_below HG8.out q0x, pw_cell_below HG8.out q1x, pw_cell_below HG8.out q2x⟩)
                  clear hK K
                  (try simp only [Act.put, List.setIfInBounds_toArray, List.set_cons_zero, List.set_cons_succ])
                  have HX8 := Aside0.mk (HX.out.step HG8.out hbs hl)
                  obtain ⟨A8, cp8, c18, _, _, _, _, hf8⟩ := HX8.out.pl h1
                  have hf80 := hf8 ((p.toNat - 1) * 3)
                  have q0y := pw_cell_below HG8.out q0x
                  have q1y := pw_cell_below HG8.out q1x
                  have q2y := pw_cell_below HG8.out q2x
                  refine Go.Proofs.Ytkgjokidfbpnbaa.Sep.takeW (i := 9) (v := ?p11v) rfl rfl (by kernel_rfl) (by kernel_rfl) (by kernel_rfl) (fun _ _ _ h => h) (by rfl) ?p11y hHeld ?_
                  case p11y => (intro w hSw; (try dsimp only at hSw); go_simp <;> (try with_reducible rfl))
                  (try simp only [Act.put, List.setIfInBounds_toArray, List.set_cons_zero, List.set_cons_succ])
                  refine Go.Proofs.Ytkgjokidfbpnbaa.Sep.takeW (i := 10) (v := ?p12v) rfl rfl (by kernel_rfl) (by kernel_rfl) (by kernel_rfl) (fun _ _ _ h => h) (by rfl) ?p12y hHeld ?_
                  case p12y => (intro w hSw; (try dsimp only at hSw); go_simp <;> (try with_reducible rfl))
                  (try simp only [Act.put, List.setIfInBounds_toArray, List.set_cons_zero, List.set_cons_succ])
                  refine Go.Proofs.Ytkgjokidfbpnbaa.Sep.callC (i := 11) rfl (by kernel_rfl) (by rfl) (fun K hK => ?_)
                  clear hHeld
                  (refine Go.Proofs.Ytkgjokidfbpnbaa.Sep.wp_of_list (ops := #[]) (by rfl) ?_; go_wp2; change K _ _)
                  refine hK.out _ _ ?p14k (fun hHeld => ?_)
                  case p14k => (exact ⟨(cell_far (a := ⟨gb, 0, none⟩) hn1 _).trans q0y, (cell_far (a := ⟨gb, 1, none⟩) hn1 _).trans q1y, (cell_far (a := ⟨gb, 2, none⟩) hn1 _).trans q2y⟩)
                  clear hK K
                  (try simp only [Act.put, List.setIfInBounds_toArray, List.set_cons_zero, List.set_cons_succ])
                  refine wpAnyH_done (by kernel_rfl) ?_ _
                  have hn9 := HA.out.n
                  go_wp2
                  go_roundg k1
                  case measure => have := HK.out; omega
                  case rel => exact ⟨i + 1, n + 1, ⟨c.l ++ [x], c.e, c.d⟩, rfl, rfl, ⟨by have := HK.out; omega⟩, ⟨by omega⟩, ⟨HX8.out.put hga hl h1 hil HXX.out hR (by omega) HI4.out HN.out HX.out.size HOWN.out rfl⟩⟩
                · clear hHeld
                  (refine Go.Proofs.Ytkgjokidfbpnbaa.Sep.wp_of_list (ops := #[]) (by rfl) ?_; go_wp2; change K _ _)
                  refine hK.out _ _ ?p15k (fun hHeld => ?_)
                  case p15k => (exact ⟨pw_cell_below (w := w6) (Below.drew (below_alloc (Below.refl w6.heap.size w6) _)) q0, pw_cell_below (w := w6) (Below.drew (below_alloc (Below.refl w6.heap.size w6) _)) q1, pw_cell_below (w := w6) (Below.drew (below_alloc (Below.refl w6.heap.size w6) _)) q2⟩)
                  clear hK K
                  (try simp only [Act.put, List.setIfInBounds_toArray, List.set_cons_zero, List.set_cons_succ])
                  have ba := Below.drew (below_alloc (Below.refl w6.heap.size w6) (.cells #[.int .i64 x.1, .int .i64 x.2.1, .bool x.2.2] 24))
                  have bl : ((w6.alloc (.cells #[.int .i64 x.1, .int .i64 x.2.1, .bool x.2.2] 24)).drew).heap[w6.heap.size]? = _ := heap_alloc_new w6 (.cells #[.int .i64 x.1, .int .i64 x.2.1, .bool x.2.2] 24)
                  generalize ((w6.alloc (.cells #[.int .i64 x.1, .int .i64 x.2.1, .bool x.2.2] 24)).drew) = wl at hHeld ba bl ⊢
                  have BA := Aside0.mk ba
                  have BL := Aside0.mk bl
                  clear ba bl
                  refine Go.Proofs.Ytkgjokidfbpnbaa.Sep.callC (i := 5) rfl (by kernel_rfl) (by rfl) (fun K hK => ?_)
                  clear hHeld
                  (go_wp2_with (first | (go_at_call 32; (refine (clip.calls A6 c.l.length cp6 _ hAn hc6 (by omega)).mono ?_); rintro e w7 ⟨rfl, hb7⟩; have HB7 := Aside0.mk hb7; clear hb7)))
                  refine hK.out _ _ ?p17k (fun hHeld => ?_)
                  case p17k => (exact ⟨pw_cell_below HB7.out (pw_cell_below (w := w6) BA.out q0), pw_cell_below HB7.out (pw_cell_below (w := w6) BA.out q1), pw_cell_below HB7.out (pw_cell_below (w := w6) BA.out q2)⟩)
                  clear hK K
                  (try simp only [Act.put, List.setIfInBounds_toArray, List.set_cons_zero, List.set_cons_succ])
                  have HBX := Aside0.mk (below_step BA.out HB7.out)
                  have HBL := Aside0.mk (blk_below BL.out HB7.out)
                  have HCX := Aside0.mk (Kd.C_below (w := w6) hC6 HBX.out)
                  have HX := Aside0.mk (HA6.out.step HBX.out hbs hl)
                  have q0x : (w7).cell? ⟨gb, 0, none⟩ = some (.int .i64 x.1) := pw_cell_below (w := w6) HBX.out q0
                  have q1x : (w7).cell? ⟨gb, 1, none⟩ = some (.int .i64 x.2.1) := pw_cell_below (w := w6) HBX.out q1
                  have q2x : (w7).cell? ⟨gb, 2, none⟩ = some (.bool x.2.2) := pw_cell_below (w := w6) HBX.out q2
                  refine Go.Proofs.Ytkgjokidfbpnbaa.Sep.callC (i := 8) rfl (by kernel_rfl) (by rfl) (fun K hK => ?_)
                  clear hHeld
                  (refine Go.Proofs.Ytkgjokidfbpnbaa.Sep.wp_of_list (ops := #[]) (by rfl) ?_; refine wpList_append_grows _ rfl (.tmp 76) (.tmp 78) 22 rfl 24 i0 _ 3 24 Try.underlying22 hi0 hz0 hz1 hz2 rfl (by decide) A6 c.l.length c.l.length (c.l.flatMap encI) (by rfl) (fun e => ⟨hAn e, hAn e⟩) (flat_len _) (C_flat HCX.out) ⟨w6.heap.size, 0, none⟩ 1 1 (encI x) (by rfl) rfl (news_at HBL.out) (news_one x) (by omega) (by unfold maxLen; omega) (by omega) (fun v8 w8 hown hgrow => ?_); obtain ⟨A9, c9, e9, _, _⟩ := RowS.snoc hown rfl; rw [List.length_append, List.length_singleton] at e9; subst e9; have HOWN := Aside0.mk hown; have HG8 := Aside0.mk (pw_below_grown (Below.refl (w7).heap.size (w7)) none (Nat.le_refl _) hgrow (fun _ h => by cases h)); clear hown hgrow; change K _ _)
                  refine hK.out _ _ ?p19k (fun hHeld => ?_)
                  case p19k => (exact ⟨pw_cell_below HG8.out q0x, pw_cell_below HG8.out q1x, pw_cell_below HG8.out q2x⟩)
                  clear hK K
                  (try simp only [Act.put, List.setIfInBounds_toArray, List.set_cons_zero, List.set_cons_succ])
                  have HX8 := Aside0.mk (HX.out.step HG8.out hbs hl)
                  obtain ⟨A8, cp8, c18, _, _, _, _, hf8⟩ := HX8.out.pl h1
                  have hf80 := hf8 ((p.toNat - 1) * 3)
                  have q0y := pw_cell_below HG8.out q0x
                  have q1y := pw_cell_below HG8.out q1x
                  have q2y := pw_cell_below HG8.out q2x
                  refine Go.Proofs.Ytkgjokidfbpnbaa.Sep.takeW (i := 9) (v := ?p20v) rfl rfl (by kernel_rfl) (by kernel_rfl) (by kernel_rfl) (fun _ _ _ h => h) (by rfl) ?p20y hHeld ?_
                  case p20y => (intro w hSw; (try dsimp only at hSw); go_simp <;> (try with_reducible rfl))
                  (try simp only [Act.put, List.setIfInBounds_toArray, List.set_cons_zero, List.set_cons_succ])
                  refine Go.Proofs.Ytkgjokidfbpnbaa.Sep.takeW (i := 10) (v := ?p21v) rfl rfl (by kernel_rfl) (by kernel_rfl) (by kernel_rfl) (fun _ _ _ h => h) (by rfl) ?p21y hHeld ?_
                  case p21y => (intro w hSw; (try dsimp only at hSw); go_simp <;> (try with_reducible rfl))
                  (try simp only [Act.put, List.setIfInBounds_toArray, List.set_cons_zero, List.set_cons_succ])
                  refine Go.Proofs.Ytkgjokidfbpnbaa.Sep.callC (i := 11) rfl (by kernel_rfl) (by rfl) (fun K hK => ?_)
                  clear hHeld
                  (refine Go.Proofs.Ytkgjokidfbpnbaa.Sep.wp_of_list (ops := #[]) (by rfl) ?_; go_wp2; change K _ _)
                  refine hK.out _ _ ?p23k (fun hHeld => ?_)
                  case p23k => (exact ⟨(cell_far (a := ⟨gb, 0, none⟩) hn1 _).trans q0y, (cell_far (a := ⟨gb, 1, none⟩) hn1 _).trans q1y, (cell_far (a := ⟨gb, 2, none⟩) hn1 _).trans q2y⟩)
                  clear hK K
                  (try simp only [Act.put, List.setIfInBounds_toArray, List.set_cons_zero, List.set_cons_succ])
                  refine wpAnyH_done (by kernel_rfl) ?_ _
                  have hn9 := HA.out.n
                  go_wp2
                  go_roundg k1
                  case measure => have := HK.out; omega
                  case rel => exact ⟨i + 1, n + 1, ⟨c.l ++ [x], c.e, c.d⟩, rfl, rfl, ⟨by have := HK.out; omega⟩, ⟨by omega⟩, ⟨HX8.out.put hga hl h1 hil HXX.out hR (by omega) HI4.out HN.out HX.out.size HOWN.out rfl⟩⟩
              · clear hHeld
                (refine Go.Proofs.Ytkgjokidfbpnbaa.Sep.wp_of_list (ops := #[]) (by rfl) ?_; go_wp2; change K _ _)
                refine hK.out _ _ ?p25k (fun hHeld => ?_)
                case p25k => (exact ⟨pw_cell_below (w := w6) (Below.drew (below_alloc (Below.refl w6.heap.size w6) _)) q0, pw_cell_below (w := w6) (Below.drew (below_alloc (Below.refl w6.heap.size w6) _)) q1, pw_cell_below (w := w6) (Below.drew (below_alloc (Below.refl w6.heap.size w6) _)) q2⟩)
                clear hK K
                (try simp only [Act.put, List.setIfInBounds_toArray, List.set_cons_zero, List.set_cons_succ])
                have ba := Below.drew (below_alloc (Below.refl w6.heap.size w6) (.cells #[.int .i64 x.1, .int .i64 x.2.1, .bool x.2.2] 24))
                have bl : ((w6.alloc (.cells #[.int .i64 x.1, .int .i64 x.2.1, .bool x.2.2] 24)).drew).heap[w6.heap.size]? = _ := heap_alloc_new w6 (.cells #[.int .i64 x.1, .int .i64 x.2.1, .bool x.2.2] 24)
                generalize ((w6.alloc (.cells #[.int .i64 x.1, .int .i64 x.2.1, .bool x.2.2] 24)).drew) = wl at hHeld ba bl ⊢
                have BA := Aside0.mk ba
                have BL := Aside0.mk bl
                clear ba bl
                have c1a : wl.cell? ⟨ga, (p.toNat - 1) * 3, none⟩ = some (.slice A6 c.l.length cp6) := pw_cell_below (w := w6) BA.out c1
                refine Go.Proofs.Ytkgjokidfbpnbaa.Sep.callC (i := 4) rfl (by kernel_rfl) (by rfl) (fun K hK => ?_)
                clear hHeld
                (refine Go.Proofs.Ytkgjokidfbpnbaa.Sep.wp_of_list (ops := #[]) (by rfl) ?_; go_wp2; change K _ _)
                refine hK.out _ _ ?p27k (fun hHeld => ?_)
                case p27k => (exact ⟨pw_cell_below (w := w6) BA.out q0, pw_cell_below (w := w6) BA.out q1, pw_cell_below (w := w6) BA.out q2⟩)
                clear hK K
                (try simp only [Act.put, List.setIfInBounds_toArray, List.set_cons_zero, List.set_cons_succ])
                refine Go.Proofs.Ytkgjokidfbpnbaa.Sep.callC (i := 5) rfl (by kernel_rfl) (by rfl) (fun K hK => ?_)
                clear hHeld
                (go_wp2_with (first | (go_at_call 32; (refine (clip.calls A6 c.l.length cp6 _ hAn hc6 (by omega)).mono ?_); rintro e w7 ⟨rfl, hb7⟩; have HB7 := Aside0.mk hb7; clear hb7)))
                refine hK.out _ _ ?p29k (fun hHeld => ?_)
                case p29k => (exact ⟨pw_cell_below HB7.out (pw_cell_below (w := w6) BA.out q0), pw_cell_below HB7.out (pw_cell_below (w := w6) BA.out q1), pw_cell_below HB7.out (pw_cell_below (w := w6) BA.out q2)⟩)
                clear hK K
                (try simp only [Act.put, List.setIfInBounds_toArray, List.set_cons_zero, List.set_cons_succ])
                have HBX := Aside0.mk (below_step BA.out HB7.out)
                have HBL := Aside0.mk (blk_below BL.out HB7.out)
                have HCX := Aside0.mk (Kd.C_below (w := w6) hC6 HBX.out)
                have HX := Aside0.mk (HA6.out.step HBX.out hbs hl)
                have q0x : (w7).cell? ⟨gb, 0, none⟩ = some (.int .i64 x.1) := pw_cell_below (w := w6) HBX.out q0
                have q1x : (w7).cell? ⟨gb, 1, none⟩ = some (.int .i64 x.2.1) := pw_cell_below (w := w6) HBX.out q1
                have q2x : (w7).cell? ⟨gb, 2, none⟩ = some (.bool x.2.2) := pw_cell_below (w := w6) HBX.out q2
                refine Go.Proofs.Ytkgjokidfbpnbaa.Sep.callC (i := 8) rfl (by kernel_rfl) (by rfl) (fun K hK => ?_)
                clear hHeld
                (refine Go.Proofs.Ytkgjokidfbpnbaa.Sep.wp_of_list (ops := #[]) (by rfl) ?_; refine wpList_append_grows _ rfl (.tmp 76) (.tmp 78) 22 rfl 24 i0 _ 3 24 Try.underlying22 hi0 hz0 hz1 hz2 rfl (by decide) A6 c.l.length c.l.length (c.l.flatMap encI) (by rfl) (fun e => ⟨hAn e, hAn e⟩) (flat_len _) (C_flat HCX.out) ⟨w6.heap.size, 0, none⟩ 1 1 (encI x) (by rfl) rfl (news_at HBL.out) (news_one x) (by omega) (by unfold maxLen; omega) (by omega) (fun v8 w8 hown hgrow => ?_); obtain ⟨A9, c9, e9, _, _⟩ := RowS.snoc hown rfl; rw [List.length_append, List.length_singleton] at e9; subst e9; have HOWN := Aside0.mk hown; have HG8 := Aside0.mk (pw_below_grown (Below.refl (w7).heap.size (w7)) none (Nat.le_refl _) hgrow (fun _ h => by cases h)); clear hown hgrow; change K _ _)
                refine hK.out _ _ ?p31k (fun hHeld => ?_)
                case p31k => (exact ⟨pw_cell_below HG8.out q0x, pw_cell_below HG8.out q1x, pw_cell_below HG8.out q2x⟩)
                clear hK K
                (try simp only [Act.put, List.setIfInBounds_toArray, List.set_cons_zero, List.set_cons_succ])
                have HX8 := Aside0.mk (HX.out.step HG8.out hbs hl)
                obtain ⟨A8, cp8, c18, _, _, _, _, hf8⟩ := HX8.out.pl h1
                have hf80 := hf8 ((p.toNat - 1) * 3)
                have q0y := pw_cell_below HG8.out q0x
                have q1y := pw_cell_below HG8.out q1x
                have q2y := pw_cell_below HG8.out q2x
                refine Go.Proofs.Ytkgjokidfbpnbaa.Sep.takeW (i := 9) (v := ?p32v) rfl rfl (by kernel_rfl) (by kernel_rfl) (by kernel_rfl) (fun _ _ _ h => h) (by rfl) ?p32y hHeld ?_
                case p32y => (intro w hSw; (try dsimp only at hSw); go_simp <;> (try with_reducible rfl))
                (try simp only [Act.put, List.setIfInBounds_toArray, List.set_cons_zero, List.set_cons_succ])
                refine Go.Proofs.Ytkgjokidfbpnbaa.Sep.takeW (i := 10) (v := ?p33v) rfl rfl (by kernel_rfl) (by kernel_rfl) (by kernel_rfl) (fun _ _ _ h => h) (by rfl) ?p33y hHeld ?_
                case p33y => (intro w hSw; (try dsimp only at hSw); go_simp <;> (try with_reducible rfl))
                (try simp only [Act.put, List.setIfInBounds_toArray, List.set_cons_zero, List.set_cons_succ])
                refine Go.Proofs.Ytkgjokidfbpnbaa.Sep.callC (i := 11) rfl (by kernel_rfl) (by rfl) (fun K hK => ?_)
                clear hHeld
                (refine Go.Proofs.Ytkgjokidfbpnbaa.Sep.wp_of_list (ops := #[]) (by rfl) ?_; go_wp2; change K _ _)
                refine hK.out _ _ ?p35k (fun hHeld => ?_)
                case p35k => (exact ⟨(cell_far (a := ⟨gb, 0, none⟩) hn1 _).trans q0y, (cell_far (a := ⟨gb, 1, none⟩) hn1 _).trans q1y, (cell_far (a := ⟨gb, 2, none⟩) hn1 _).trans q2y⟩)
                clear hK K
                (try simp only [Act.put, List.setIfInBounds_toArray, List.set_cons_zero, List.set_cons_succ])
                refine wpAnyH_done (by kernel_rfl) ?_ _
                have hn9 := HA.out.n
                go_wp2
                go_roundg k1
                case measure => have := HK.out; omega
                case rel => exact ⟨i + 1, n + 1, ⟨c.l ++ [x], c.e, c.d⟩, rfl, rfl, ⟨by have := HK.out; omega⟩, ⟨by omega⟩, ⟨HX8.out.put hga hl h1 hil HXX.out hR (by omega) HI4.out HN.out HX.out.size HOWN.out rfl⟩⟩
            · have h9 : c.d = false := by simpa using h8
              go_wp2_with (first | ((with_reducible refine gate_dst (N := 12) rfl ?_); refine box_event ?hg (N := 12) ?hd (cs := #[.int .i64 0, .int .i64 0, .bool false]) (t := 24) ?hr ?_; (case hd => rfl); (case hg => rfl); (case hr => first | (go_simp; done) | (go_simp; rfl)); intro gb hgb w5 hbox hb5; have HGE := Aside0.mk (Nat.le_of_eq hgb.symm); have hn1 : gb ≠ ga := Nat.ne_of_gt (Nat.lt_of_lt_of_le (Nat.lt_of_lt_of_le hl.2 HA.out.size) HGE.out); clear hgb; have hn2 : ga ≠ gb := hn1.symm; have BK := Aside0.mk hbox; clear hbox; have HA5 := Aside0.mk (HA.out.step hb5 hbs hl); have HB5 := Aside0.mk hb5; clear hb5; obtain ⟨A5, cp5, c51, c52, c53, hc5, _, _⟩ := HA5.out.pl h1; have hcz0 : w5.cell? ⟨gb, 0, none⟩ = some (.int .i64 0) := (blk_cell BK.out 0).trans rfl; have hcz1 : w5.cell? ⟨gb, 1, none⟩ = some (.int .i64 0) := (blk_cell BK.out 1).trans rfl; have hcz2 : w5.cell? ⟨gb, 2, none⟩ = some (.bool false) := (blk_cell BK.out 2).trans rfl; have hfz0 := blk_frozen BK.out 0; have hfz1 := blk_frozen BK.out 1; have hfz2 := blk_frozen BK.out 2) | (go_at_call 31; (refine (PInputsEnd.input_Right.calls x.1 x.2.1 x.2.2 true _ ((right_eq x).trans (by rw [hR]))).mono ?_); rintro e w6 ⟨rfl, hb6⟩; have bk5 := blk_put (cs' := #[.int .i64 x.1, .int .i64 x.2.1, .bool x.2.2]) (blk_put (cs' := #[.int .i64 x.1, .int .i64 x.2.1, .bool false]) (blk_put (cs' := #[.int .i64 x.1, .int .i64 0, .bool false]) BK.out 0 (.int .i64 x.1) rfl) 1 (.int .i64 x.2.1) rfl) 2 (.bool x.2.2) rfl; have BK6 := Aside0.mk (blk_below bk5 hb6); have HA6 := Aside0.mk ((HA.out.step (below_set (below_set (below_set HB5.out HGE.out) HGE.out) HGE.out) hbs hl).step hb6 hbs hl); clear hb6 hcz0 hcz1 hcz2 hfz0 hfz1 hfz2 c51 c52 c53 bk5; obtain ⟨A6, cp6, c1, c2, c3, hc6, hC6, hf6⟩ := HA6.out.pl h1; have q0 : w6.cell? ⟨gb, 0, none⟩ = some (.int .i64 x.1) := (blk_cell BK6.out 0).trans rfl; have q1 : w6.cell? ⟨gb, 1, none⟩ = some (.int .i64 x.2.1) := (blk_cell BK6.out 1).trans rfl; have q2 : w6.cell? ⟨gb, 2, none⟩ = some (.bool x.2.2) := (blk_cell BK6.out 2).trans rfl; rw [h9] at c3))
              have HD := Aside0.mk (HA6.out.step (Below.drew (Below.refl _ _)) hbs hl)
              have hAn : A6 = none → c.l.length = 0 := fun e => by
                by_cases hz9 : c.l.length = 0
                · exact hz9
                · obtain ⟨ad9, e2, _⟩ := hC6.2.2 (by omega)
                  rw [e] at e2
                  cases e2
              obtain ⟨i0, hi0, hzz⟩ := Option.map_eq_some_iff.1 info24_
              simp only [Prod.mk.injEq] at hzz
              obtain ⟨hz0, hz1, hz2⟩ := hzz
              refine wp_region_held_drew (S := (fun w' => w'.cell? ⟨gb, 0, none⟩ = some (.int .i64 x.1) ∧ w'.cell? ⟨gb, 1, none⟩ = some (.int .i64 x.2.1) ∧ w'.cell? ⟨gb, 2, none⟩ = some (.bool x.2.2))) (by kernel_rfl) ?p0S (fun hHeld => ?_)
              case p0S => (exact ⟨q0, q1, q2⟩)
              refine Go.Proofs.Ytkgjokidfbpnbaa.Sep.takeW (i := 0) (v := ?p1v) rfl rfl (by kernel_rfl) (by kernel_rfl) (by kernel_rfl) (fun _ _ _ h => h) (by rfl) ?p1y hHeld ?_
              case p1y => (intro w hSw; (try dsimp only at hSw); go_simp <;> (try with_reducible rfl))
              (try simp only [Act.put, List.setIfInBounds_toArray, List.set_cons_zero, List.set_cons_succ])
              refine Go.Proofs.Ytkgjokidfbpnbaa.Sep.takeW (i := 1) (v := ?p2v) rfl rfl (by kernel_rfl) (by kernel_rfl) (by kernel_rfl) (fun _ _ _ h => h) (by rfl) ?p2y hHeld ?_
              case p2y => (intro w hSw; (try dsimp only at hSw); go_simp <;> (try with_reducible rfl))
              (try simp only [Act.put, List.setIfInBounds_toArray, List.set_cons_zero, List.set_cons_succ])
              refine Go.Proofs.Ytkgjokidfbpnbaa.Sep.takeW (i := 2) (v := ?p3v) rfl rfl (by kernel_rfl) (by kernel_rfl) (by kernel_rfl) (fun _ _ _ h => h) (by rfl) ?p3y hHeld ?_
              case p3y => (intro w hSw; (try dsimp only at hSw); go_simp <;> (try with_reducible rfl))
              (try simp only [Act.put, List.setIfInBounds_toArray, List.set_cons_zero, List.set_cons_succ])
              refine Go.Proofs.Ytkgjokidfbpnbaa.Sep.takeW (i := 3) (v := ?p4v) rfl rfl (by kernel_rfl) (by kernel_rfl) (by kernel_rfl) (fun _ _ _ h => h) (by rfl) ?p4y hHeld ?_
              case p4y => (intro w hSw; (try dsimp only at hSw); go_simp <;> (try with_reducible rfl))
              (try simp only [Act.put, List.setIfInBounds_toArray, List.set_cons_zero, List.set_cons_succ])
              refine Go.Proofs.Ytkgjokidfbpnbaa.Sep.takeW (i := 6) (v := ?p5v) rfl rfl (by kernel_rfl) (by kernel_rfl) (by kernel_rfl) (fun _ _ _ h => h) (by rfl) ?p5y hHeld ?_
              case p5y => (intro w hSw; (try dsimp only at hSw); go_simp <;> (try with_reducible rfl))
              (try simp only [Act.put, List.setIfInBounds_toArray, List.set_cons_zero, List.set_cons_succ])
              refine Go.Proofs.Ytkgjokidfbpnbaa.Sep.callC2 (i := 4) (j := 7) rfl rfl (by kernel_rfl) (by rfl) (by rfl) (fun K hK => ?_) (fun K hK => ?_)
              · clear hHeld
                (refine Go.Proofs.Ytkgjokidfbpnbaa.Sep.wp_of_list (ops := #[]) (by rfl) ?_; go_wp2; change K _ _)
                refine hK.out _ _ ?p24k (fun hHeld => ?_)
                case p24k => (exact ⟨q0, q1, q2⟩)
                clear hK K
                (try simp only [Act.put, List.setIfInBounds_toArray, List.set_cons_zero, List.set_cons_succ])
                refine Go.Proofs.Ytkgjokidfbpnbaa.Sep.callC2 (i := 5) (j := 7) rfl rfl (by kernel_rfl) (by rfl) (by rfl) (fun K hK => ?_) (fun K hK => ?_)
                · clear hHeld
                  (go_wp2_with (first | (go_at_call 32; (refine (clip.calls A6 c.l.length cp6 _ hAn hc6 (by omega)).mono ?_); rintro e w7 ⟨rfl, hb7⟩; have HB7 := Aside0.mk hb7; clear hb7)))
                  refine hK.out _ _ ?p6k (fun hHeld => ?_)
                  case p6k => (exact ⟨pw_cell_below (w := w6.drew) HB7.out q0, pw_cell_below (w := w6.drew) HB7.out q1, pw_cell_below (w := w6.drew) HB7.out q2⟩)
                  clear hK K
                  (try simp only [Act.put, List.setIfInBounds_toArray, List.set_cons_zero, List.set_cons_succ])
                  refine Go.Proofs.Ytkgjokidfbpnbaa.Sep.callC (i := 7) rfl (by kernel_rfl) (by rfl) (fun K hK => ?_)
                  clear hHeld
                  (refine Go.Proofs.Ytkgjokidfbpnbaa.Sep.wp_of_list (ops := #[]) (by rfl) ?_; go_wp2; change K _ _)
                  refine hK.out _ _ ?p8k (fun hHeld => ?_)
                  case p8k => (exact ⟨pw_cell_below (below_alloc (Below.refl _ _) _) (pw_cell_below (w := w6.drew) HB7.out q0), pw_cell_below (below_alloc (Below.refl _ _) _) (pw_cell_below (w := w6.drew) HB7.out q1), pw_cell_below (below_alloc (Below.refl _ _) _) (pw_cell_below (w := w6.drew) HB7.out q2)⟩)
                  clear hK K
                  (try simp only [Act.put, List.setIfInBounds_toArray, List.set_cons_zero, List.set_cons_succ])
                  have HBX := Aside0.mk (below_alloc HB7.out (.cells #[.int .i64 x.1, .int .i64 x.2.1, .bool x.2.2] 24))
                  have HBL := Aside0.mk (heap_alloc_new w7 (.cells #[.int .i64 x.1, .int .i64 x.2.1, .bool x.2.2] 24))
                  have HCX := Aside0.mk (Kd.C_below (w := w6.drew) hC6 HBX.out)
                  have HX := Aside0.mk (HD.out.step HBX.out hbs hl)
                  have q0x : (w7.alloc (.cells #[.int .i64 x.1, .int .i64 x.2.1, .bool x.2.2] 24)).cell? ⟨gb, 0, none⟩ = some (.int .i64 x.1) := pw_cell_below (w := w6.drew) HBX.out q0
                  have q1x : (w7.alloc (.cells #[.int .i64 x.1, .int .i64 x.2.1, .bool x.2.2] 24)).cell? ⟨gb, 1, none⟩ = some (.int .i64 x.2.1) := pw_cell_below (w := w6.drew) HBX.out q1
                  have q2x : (w7.alloc (.cells #[.int .i64 x.1, .int .i64 x.2.1, .bool x.2.2] 24)).cell? ⟨gb, 2, none⟩ = some (.bool x.2.2) := pw_cell_below (w := w6.drew) HBX.out q2
                  refine Go.Proofs.Ytkgjokidfbpnbaa.Sep.callC (i := 8) rfl (by kernel_rfl) (by rfl) (fun K hK => ?_)
                  clear hHeld
                  (refine Go.Proofs.Ytkgjokidfbpnbaa.Sep.wp_of_list (ops := #[]) (by rfl) ?_; refine wpList_append_grows _ rfl (.tmp 76) (.tmp 78) 22 rfl 24 i0 _ 3 24 Try.underlying22 hi0 hz0 hz1 hz2 rfl (by decide) A6 c.l.length c.l.length (c.l.flatMap encI) (by rfl) (fun e => ⟨hAn e, hAn e⟩) (flat_len _) (C_flat HCX.out) ⟨w7.heap.size, 0, none⟩ 1 1 (encI x) (by rfl) rfl (news_at HBL.out) (news_one x) (by omega) (by unfold maxLen; omega) (by omega) (fun v8 w8 hown hgrow => ?_); obtain ⟨A9, c9, e9, _, _⟩ := RowS.snoc hown rfl; rw [List.length_append, List.length_singleton] at e9; subst e9; have HOWN := Aside0.mk hown; have HG8 := Aside0.mk (pw_below_grown (Below.refl (w7.alloc (.cells #[.int .i64 x.1, .int .i64 x.2.1, .bool x.2.2] 24)).heap.size (w7.alloc (.cells #[.int .i64 x.1, .int .i64 x.2.1, .bool x.2.2] 24))) none (Nat.le_refl _) hgrow (fun _ h => by cases h)); clear hown hgrow; change K _ _)
                  refine hK.out _ _ ?p10k (fun hHeld => ?_)
                  case p10k => (exact ⟨pw_cell_below HG8.out q0x, pw_cell_below HG8.out q1x, pw_cell_below HG8.out q2x⟩)
                  clear hK K
                  (try simp only [Act.put, List.setIfInBounds_toArray, List.set_cons_zero, List.set_cons_succ])
                  have HX8 := Aside0.mk (HX.out.step HG8.out hbs hl)
                  obtain ⟨A8, cp8, c18, _, _, _, _, hf8⟩ := HX8.out.pl h1
                  have hf80 := hf8 ((p.toNat - 1) * 3)
                  have q0y := pw_cell_below HG8.out q0x
                  have q1y := pw_cell_below HG8.out q1x
                  have q2y := pw_cell_below HG8.out q2x
                  refine Go.Proofs.Ytkgjokidfbpnbaa.Sep.takeW (i := 9) (v := ?p11v) rfl rfl (by kernel_rfl) (by kernel_rfl) (by kernel_rfl) (fun _ _ _ h => h) (by rfl) ?p11y hHeld ?_
                  case p11y => (intro w hSw; (try dsimp only at hSw); go_simp <;> (try with_reducible rfl))
                  (try simp only [Act.put, List.setIfInBounds_toArray, List.set_cons_zero, List.set_cons_succ])
                  refine Go.Proofs.Ytkgjokidfbpnbaa.Sep.takeW (i := 10) (v := ?p12v) rfl rfl (by kernel_rfl) (by kernel_rfl) (by kernel_rfl) (fun _ _ _ h => h) (by rfl) ?p12y hHeld ?_
                  case p12y => (intro w hSw; (try dsimp only at hSw); go_simp <;> (try with_reducible rfl))
                  (try simp only [Act.put, List.setIfInBounds_toArray, List.set_cons_zero, List.set_cons_succ])
                  refine Go.Proofs.Ytkgjokidfbpnbaa.Sep.callC (i := 11) rfl (by kernel_rfl) (by rfl) (fun K hK => ?_)
                  clear hHeld
                  (refine Go.Proofs.Ytkgjokidfbpnbaa.Sep.wp_of_list (ops := #[]) (by rfl) ?_; go_wp2; change K _ _)
                  refine hK.out _ _ ?p14k (fun hHeld => ?_)
                  case p14k => (exact ⟨(cell_far (a := ⟨gb, 0, none⟩) hn1 _).trans q0y, (cell_far (a := ⟨gb, 1, none⟩) hn1 _).trans q1y, (cell_far (a := ⟨gb, 2, none⟩) hn1 _).trans q2y⟩)
                  clear hK K
                  (try simp only [Act.put, List.setIfInBounds_toArray, List.set_cons_zero, List.set_cons_succ])
                  refine wpAnyH_done (by kernel_rfl) ?_ _
                  have hn9 := HA.out.n
                  go_wp2
                  go_roundg k1
                  case measure => have := HK.out; omega
                  case rel => exact ⟨i + 1, n + 1, ⟨c.l ++ [x], c.e, c.d⟩, rfl, rfl, ⟨by have := HK.out; omega⟩, ⟨by omega⟩, ⟨HX8.out.put hga hl h1 hil HXX.out hR (by omega) HI4.out HN.out HX.out.size HOWN.out rfl⟩⟩
                · clear hHeld
                  (refine Go.Proofs.Ytkgjokidfbpnbaa.Sep.wp_of_list (ops := #[]) (by rfl) ?_; go_wp2; change K _ _)
                  refine hK.out _ _ ?p15k (fun hHeld => ?_)
                  case p15k => (exact ⟨pw_cell_below (w := w6) (Below.drew (below_alloc (Below.refl w6.heap.size w6) _)) q0, pw_cell_below (w := w6) (Below.drew (below_alloc (Below.refl w6.heap.size w6) _)) q1, pw_cell_below (w := w6) (Below.drew (below_alloc (Below.refl w6.heap.size w6) _)) q2⟩)
                  clear hK K
                  (try simp only [Act.put, List.setIfInBounds_toArray, List.set_cons_zero, List.set_cons_succ])
                  have ba := Below.drew (below_alloc (Below.refl w6.heap.size w6) (.cells #[.int .i64 x.1, .int .i64 x.2.1, .bool x.2.2] 24))
                  have bl : ((w6.alloc (.cells #[.int .i64 x.1, .int .i64 x.2.1, .bool x.2.2] 24)).drew).heap[w6.heap.size]? = _ := heap_alloc_new w6 (.cells #[.int .i64 x.1, .int .i64 x.2.1, .bool x.2.2] 24)
                  generalize ((w6.alloc (.cells #[.int .i64 x.1, .int .i64 x.2.1, .bool x.2.2] 24)).drew) = wl at hHeld ba bl ⊢
                  have BA := Aside0.mk ba
                  have BL := Aside0.mk bl
                  clear ba bl
                  refine Go.Proofs.Ytkgjokidfbpnbaa.Sep.callC (i := 5) rfl (by kernel_rfl) (by rfl) (fun K hK => ?_)
                  clear hHeld
                  (go_wp2_with (first | (go_at_call 32; (refine (clip.calls A6 c.l.length cp6 _ hAn hc6 (by omega)).mono ?_); rintro e w7 ⟨rfl, hb7⟩; have HB7 := Aside0.mk hb7; clear hb7)))
                  refine hK.out _ _ ?p17k (fun hHeld => ?_)
                  case p17k => (exact ⟨pw_cell_below HB7.out (pw_cell_below (w := w6) BA.out q0), pw_cell_below HB7.out (pw_cell_below (w := w6) BA.out q1), pw_cell_below HB7.out (pw_cell_below (w := w6) BA.out q2)⟩)
                  clear hK K
                  (try simp only [Act.put, List.setIfInBounds_toArray, List.set_cons_zero, List.set_cons_succ])
                  have HBX := Aside0.mk (below_step BA.out HB7.out)
                  have HBL := Aside0.mk (blk_below BL.out HB7.out)
                  have HCX := Aside0.mk (Kd.C_below (w := w6) hC6 HBX.out)
                  have HX := Aside0.mk (HA6.out.step HBX.out hbs hl)
                  have q0x : (w7).cell? ⟨gb, 0, none⟩ = some (.int .i64 x.1) := pw_cell_below (w := w6) HBX.out q0
                  have q1x : (w7).cell? ⟨gb, 1, none⟩ = some (.int .i64 x.2.1) := pw_cell_below (w := w6) HBX.out q1
                  have q2x : (w7).cell? ⟨gb, 2, none⟩ = some (.bool x.2.2) := pw_cell_below (w := w6) HBX.out q2
                  refine Go.Proofs.Ytkgjokidfbpnbaa.Sep.callC (i := 8) rfl (by kernel_rfl) (by rfl) (fun K hK => ?_)
                  clear hHeld
                  (refine Go.Proofs.Ytkgjokidfbpnbaa.Sep.wp_of_list (ops := #[]) (by rfl) ?_; refine wpList_append_grows _ rfl (.tmp 76) (.tmp 78) 22 rfl 24 i0 _ 3 24 Try.underlying22 hi0 hz0 hz1 hz2 rfl (by decide) A6 c.l.length c.l.length (c.l.flatMap encI) (by rfl) (fun e => ⟨hAn e, hAn e⟩) (flat_len _) (C_flat HCX.out) ⟨w6.heap.size, 0, none⟩ 1 1 (encI x) (by rfl) rfl (news_at HBL.out) (news_one x) (by omega) (by unfold maxLen; omega) (by omega) (fun v8 w8 hown hgrow => ?_); obtain ⟨A9, c9, e9, _, _⟩ := RowS.snoc hown rfl; rw [List.length_append, List.length_singleton] at e9; subst e9; have HOWN := Aside0.mk hown; have HG8 := Aside0.mk (pw_below_grown (Below.refl (w7).heap.size (w7)) none (Nat.le_refl _) hgrow (fun _ h => by cases h)); clear hown hgrow; change K _ _)
                  refine hK.out _ _ ?p19k (fun hHeld => ?_)
                  case p19k => (exact ⟨pw_cell_below HG8.out q0x, pw_cell_below HG8.out q1x, pw_cell_below HG8.out q2x⟩)
                  clear hK K
                  (try simp only [Act.put, List.setIfInBounds_toArray, List.set_cons_zero, List.set_cons_succ])
                  have HX8 := Aside0.mk (HX.out.step HG8.out hbs hl)
                  obtain ⟨A8, cp8, c18, _, _, _, _, hf8⟩ := HX8.out.pl h1
                  have hf80 := hf8 ((p.toNat - 1) * 3)
                  have q0y := pw_cell_below HG8.out q0x
                  have q1y := pw_cell_below HG8.out q1x
                  have q2y := pw_cell_below HG8.out q2x
                  refine Go.Proofs.Ytkgjokidfbpnbaa.Sep.takeW (i := 9) (v := ?p20v) rfl rfl (by kernel_rfl) (by kernel_rfl) (by kernel_rfl) (fun _ _ _ h => h) (by rfl) ?p20y hHeld ?_
                  case p20y => (intro w hSw; (try dsimp only at hSw); go_simp <;> (try with_reducible rfl))
                  (try simp only [Act.put, List.setIfInBounds_toArray, List.set_cons_zero, List.set_cons_succ])
                  refine Go.Proofs.Ytkgjokidfbpnbaa.Sep.takeW (i := 10) (v := ?p21v) rfl rfl (by kernel_rfl) (by kernel_rfl) (by kernel_rfl) (fun _ _ _ h => h) (by rfl) ?p21y hHeld ?_
                  case p21y => (intro w hSw; (try dsimp only at hSw); go_simp <;> (try with_reducible rfl))
                  (try simp only [Act.put, List.setIfInBounds_toArray, List.set_cons_zero, List.set_cons_succ])
                  refine Go.Proofs.Ytkgjokidfbpnbaa.Sep.callC (i := 11) rfl (by kernel_rfl) (by rfl) (fun K hK => ?_)
                  clear hHeld
                  (refine Go.Proofs.Ytkgjokidfbpnbaa.Sep.wp_of_list (ops := #[]) (by rfl) ?_; go_wp2; change K _ _)
                  refine hK.out _ _ ?p23k (fun hHeld => ?_)
                  case p23k => (exact ⟨(cell_far (a := ⟨gb, 0, none⟩) hn1 _).trans q0y, (cell_far (a := ⟨gb, 1, none⟩) hn1 _).trans q1y, (cell_far (a := ⟨gb, 2, none⟩) hn1 _).trans q2y⟩)
                  clear hK K
                  (try simp only [Act.put, List.setIfInBounds_toArray, List.set_cons_zero, List.set_cons_succ])
                  refine wpAnyH_done (by kernel_rfl) ?_ _
                  have hn9 := HA.out.n
                  go_wp2
                  go_roundg k1
                  case measure => have := HK.out; omega
                  case rel => exact ⟨i + 1, n + 1, ⟨c.l ++ [x], c.e, c.d⟩, rfl, rfl, ⟨by have := HK.out; omega⟩, ⟨by omega⟩, ⟨HX8.out.put hga hl h1 hil HXX.out hR (by omega) HI4.out HN.out HX.out.size HOWN.out rfl⟩⟩
              · clear hHeld
                (refine Go.Proofs.Ytkgjokidfbpnbaa.Sep.wp_of_list (ops := #[]) (by rfl) ?_; go_wp2; change K _ _)
                refine hK.out _ _ ?p25k (fun hHeld => ?_)
                case p25k => (exact ⟨pw_cell_below (w := w6) (Below.drew (below_alloc (Below.refl w6.heap.size w6) _)) q0, pw_cell_below (w := w6) (Below.drew (below_alloc (Below.refl w6.heap.size w6) _)) q1, pw_cell_below (w := w6) (Below.drew (below_alloc (Below.refl w6.heap.size w6) _)) q2⟩)
                clear hK K
                (try simp only [Act.put, List.setIfInBounds_toArray, List.set_cons_zero, List.set_cons_succ])
                have ba := Below.drew (below_alloc (Below.refl w6.heap.size w6) (.cells #[.int .i64 x.1, .int .i64 x.2.1, .bool x.2.2] 24))
                have bl : ((w6.alloc (.cells #[.int .i64 x.1, .int .i64 x.2.1, .bool x.2.2] 24)).drew).heap[w6.heap.size]? = _ := heap_alloc_new w6 (.cells #[.int .i64 x.1, .int .i64 x.2.1, .bool x.2.2] 24)
                generalize ((w6.alloc (.cells #[.int .i64 x.1, .int .i64 x.2.1, .bool x.2.2] 24)).drew) = wl at hHeld ba bl ⊢
                have BA := Aside0.mk ba
                have BL := Aside0.mk bl
                clear ba bl
                have c1a : wl.cell? ⟨ga, (p.toNat - 1) * 3, none⟩ = some (.slice A6 c.l.length cp6) := pw_cell_below (w := w6) BA.out c1
                refine Go.Proofs.Ytkgjokidfbpnbaa.Sep.callC (i := 4) rfl (by kernel_rfl) (by rfl) (fun K hK => ?_)
                clear hHeld
                (refine Go.Proofs.Ytkgjokidfbpnbaa.Sep.wp_of_list (ops := #[]) (by rfl) ?_; go_wp2; change K _ _)
                refine hK.out _ _ ?p27k (fun hHeld => ?_)
                case p27k => (exact ⟨pw_cell_below (w := w6) BA.out q0, pw_cell_below (w := w6) BA.out q1, pw_cell_below (w := w6) BA.out q2⟩)
                clear hK K
                (try simp only [Act.put, List.setIfInBounds_toArray, List.set_cons_zero, List.set_cons_succ])
                refine Go.Proofs.Ytkgjokidfbpnbaa.Sep.callC (i := 5) rfl (by kernel_rfl) (by rfl) (fun K hK => ?_)
                clear hHeld
                (go_wp2_with (first | (go_at_call 32; (refine (clip.calls A6 c.l.length cp6 _ hAn hc6 (by omega)).mono ?_); rintro e w7 ⟨rfl, hb7⟩; have HB7 := Aside0.mk hb7; clear hb7)))
                refine hK.out _ _ ?p29k (fun hHeld => ?_)
                case p29k => (exact ⟨pw_cell_below HB7.out (pw_cell_below (w := w6) BA.out q0), pw_cell_below HB7.out (pw_cell_below (w := w6) BA.out q1), pw_cell_below HB7.out (pw_cell_below (w := w6) BA.out q2)⟩)
                clear hK K
                (try simp only [Act.put, List.setIfInBounds_toArray, List.set_cons_zero, List.set_cons_succ])
                have HBX := Aside0.mk (below_step BA.out HB7.out)
                have HBL := Aside0.mk (blk_below BL.out HB7.out)
                have HCX := Aside0.mk (Kd.C_below (w := w6) hC6 HBX.out)
                have HX := Aside0.mk (HA6.out.step HBX.out hbs hl)
                have q0x : (w7).cell? ⟨gb, 0, none⟩ = some (.int .i64 x.1) := pw_cell_below (w := w6) HBX.out q0
                have q1x : (w7).cell? ⟨gb, 1, none⟩ = some (.int .i64 x.2.1) := pw_cell_below (w := w6) HBX.out q1
                have q2x : (w7).cell? ⟨gb, 2, none⟩ = some (.bool x.2.2) := pw_cell_below (w := w6) HBX.out q2
                refine Go.Proofs.Ytkgjokidfbpnbaa.Sep.callC (i := 8) rfl (by kernel_rfl) (by rfl) (fun K hK => ?_)
                clear hHeld
                (refine Go.Proofs.Ytkgjokidfbpnbaa.Sep.wp_of_list (ops := #[]) (by rfl) ?_; refine wpList_append_grows _ rfl (.tmp 76) (.tmp 78) 22 rfl 24 i0 _ 3 24 Try.underlying22 hi0 hz0 hz1 hz2 rfl (by decide) A6 c.l.length c.l.length (c.l.flatMap encI) (by rfl) (fun e => ⟨hAn e, hAn e⟩) (flat_len _) (C_flat HCX.out) ⟨w6.heap.size, 0, none⟩ 1 1 (encI x) (by rfl) rfl (news_at HBL.out) (news_one x) (by omega) (by unfold maxLen; omega) (by omega) (fun v8 w8 hown hgrow => ?_); obtain ⟨A9, c9, e9, _, _⟩ := RowS.snoc hown rfl; rw [List.length_append, List.length_singleton] at e9; subst e9; have HOWN := Aside0.mk hown; have HG8 := Aside0.mk (pw_below_grown (Below.refl (w7).heap.size (w7)) none (Nat.le_refl _) hgrow (fun _ h => by cases h)); clear hown hgrow; change K _ _)
                refine hK.out _ _ ?p31k (fun hHeld => ?_)
                case p31k => (exact ⟨pw_cell_below HG8.out q0x, pw_cell_below HG8.out q1x, pw_cell_below HG8.out q2x⟩)
                clear hK K
                (try simp only [Act.put, List.setIfInBounds_toArray, List.set_cons_zero, List.set_cons_succ])
                have HX8 := Aside0.mk (HX.out.step HG8.out hbs hl)
                obtain ⟨A8, cp8, c18, _, _, _, _, hf8⟩ := HX8.out.pl h1
                have hf80 := hf8 ((p.toNat - 1) * 3)
                have q0y := pw_cell_below HG8.out q0x
                have q1y := pw_cell_below HG8.out q1x
                have q2y := pw_cell_below HG8.out q2x
                refine Go.Proofs.Ytkgjokidfbpnbaa.Sep.takeW (i := 9) (v := ?p32v) rfl rfl (by kernel_rfl) (by kernel_rfl) (by kernel_rfl) (fun _ _ _ h => h) (by rfl) ?p32y hHeld ?_
                case p32y => (intro w hSw; (try dsimp only at hSw); go_simp <;> (try with_reducible rfl))
                (try simp only [Act.put, List.setIfInBounds_toArray, List.set_cons_zero, List.set_cons_succ])
                refine Go.Proofs.Ytkgjokidfbpnbaa.Sep.takeW (i := 10) (v := ?p33v) rfl rfl (by kernel_rfl) (by kernel_rfl) (by kernel_rfl) (fun _ _ _ h => h) (by rfl) ?p33y hHeld ?_
                case p33y => (intro w hSw; (try dsimp only at hSw); go_simp <;> (try with_reducible rfl))
                (try simp only [Act.put, List.setIfInBounds_toArray, List.set_cons_zero, List.set_cons_succ])
                refine Go.Proofs.Ytkgjokidfbpnbaa.Sep.callC (i := 11) rfl (by kernel_rfl) (by rfl) (fun K hK => ?_)
                clear hHeld
                (refine Go.Proofs.Ytkgjokidfbpnbaa.Sep.wp_of_list (ops := #[]) (by rfl) ?_; go_wp2; change K _ _)
                refine hK.out _ _ ?p35k (fun hHeld => ?_)
                case p35k => (exact ⟨(cell_far (a := ⟨gb, 0, none⟩) hn1 _).trans q0y, (cell_far (a := ⟨gb, 1, none⟩) hn1 _).trans q1y, (cell_far (a := ⟨gb, 2, none⟩) hn1 _).trans q2y⟩)
                clear hK K
                (try simp only [Act.put, List.setIfInBounds_toArray, List.set_cons_zero, List.set_cons_succ])
                refine wpAnyH_done (by kernel_rfl) ?_ _
                have hn9 := HA.out.n
                go_wp2
                go_roundg k1
                case measure => have := HK.out; omega
                case rel => exact ⟨i + 1, n + 1, ⟨c.l ++ [x], c.e, c.d⟩, rfl, rfl, ⟨by have := HK.out; omega⟩, ⟨by omega⟩, ⟨HX8.out.put hga hl h1 hil HXX.out hR (by omega) HI4.out HN.out HX.out.size HOWN.out rfl⟩⟩
        · have d1 : decide ((i : Int) < (xs.length : Int)) = false := decide_eq_false (by omega)
          go_wp2
          go_ret
          exact HA.out.done (HA.out.stop0 hil) h1 (by omega)
  · skip
    go_enter Try.func12, Try.ntmps12
    go_wp2_with (first | (go_at_call 30; (refine (column.calls h p hp hn).mono ?_); rintro e w1 ⟨rfl, hb1⟩; rw [colA_no h1]))
    go_ret
    rw [AddP, add_no (fun x => h1 x.1)]
    exact ⟨Z, rfl, hB.trans (hb1.mono hbs), hb1.size, fun k hk _ => hb1.block k hk, fun k hk => hk, fun k hk => .inl hk, fun k hk => Nat.lt_of_lt_of_le (hz k hk) hb1.size, h.below (hb1.block _ hl.1) (hb1.block _ hl.2) (fun k hk => hb1.block _ (hz k hk))⟩
end Go.Proofs.Ytkgjokidfbpnbaa.InW
namespace Go.Proofs.Ytkgjokidfbpnbaa.InW
open Go.RowKit Go.Proofs.YtkgjokidfbpnbaaW.PrintWords Go.Proofs.YtkgjokidfbpnbaaW.PrintLast Go.Proofs.YtkgjokidfbpnbaaW.PrintMore Go.Proofs.Ytkgjokidfbpnbaa.Sep
attribute [local go_sem] max2_int min2_int max_two min_two max_three min_three max_four min_four   -- for this text's walks alone
set_option linter.unusedVariables false
set_option linter.unusedSimpArgs false
/-- tables are so -/
def wfT (cs : List Col) : Prop := cs.length ≤ 1000000 ∧ ∀ c ∈ cs, c.l.length ≤ 10000 ∧ I64 c.e
theorem wfT.at {cs : List Col} (h : wfT cs) (p : Int) : (cAt cs p).l.length ≤ 10000 ∧ I64 (cAt cs p).e := by
  unfold cAt
  by_cases hj : p.toNat - 1 < cs.length
  · have e : cs.getD (p.toNat - 1) ⟨[], 0, false⟩ = cs[p.toNat - 1] := by simp [List.getD_eq_getElem?_getD, hj]
    rw [e]
    exact h.2 _ (List.getElem_mem hj)
  · have e : cs.getD (p.toNat - 1) ⟨[], 0, false⟩ = ⟨[], 0, false⟩ := by simp [List.getD_eq_getElem?_getD, List.getElem?_eq_none (Nat.le_of_not_lt hj)]
    rw [e]
    exact ⟨by simp, show I64 0 by omega⟩
theorem wfT.set {cs : List Col} (h : wfT cs) (j : Nat) (c : Col) (hc : c.l.length ≤ 10000 ∧ I64 c.e) : wfT (cs.set j c) := by
  refine ⟨by rw [List.length_set]; exact h.1, fun x hx => ?_⟩
  rcases List.mem_or_eq_of_mem_set hx with hx | rfl
  · exact h.2 x hx
  · exact hc
theorem wfT.new (n : Nat) (hn : n ≤ 1000000) : wfT (List.replicate n col0) := by
  refine ⟨by simpa using hn, fun c hc => ?_⟩
  rw [(List.mem_replicate.1 hc).2]
  exact ⟨by simp [col0], show I64 0 by omega⟩
theorem wfT.end_ {cs : List Col} (h : wfT cs) (p n : Int) (hn : I64 n) : wfT (end_ cs p n).2 := by
  unfold InW.end_
  split
  · exact h.set _ _ ⟨(h.at p).1, hn⟩
  · exact h
theorem addGo_len (fr : Int) : ∀ (xs : List In) (c : Col) (i : Nat) (n : Int), c.l.length ≤ 10000 ∧ I64 c.e → (addGo c fr i xs n).1.l.length ≤ 10000 ∧ I64 (addGo c fr i xs n).1.e := by
  intro xs
  induction xs with
  | nil => intro c i n h; exact h
  | cons x xs ih =>
    intro c i n h
    unfold addGo
    split
    · exact h
    · split
      · exact ih _ _ _ h
      · split
        · exact h
        · exact ih _ _ _ ⟨by simp; omega, h.2⟩
theorem wfT.add_ {cs : List Col} (h : wfT cs) (p fr : Int) (xs : List In) : wfT (add_ cs p fr xs).2 := by
  unfold InW.add_
  split
  · exact h.set _ _ (addGo_len fr xs _ 0 0 (h.at p))
  · exact h
section
variable {w0 w : World} {base g : Nat} {cs : List Col} {F : List Asr}
/-- a table laid open, and how it is shut again -/
theorem tab_open (h : Has w0 base w (tab g cs :: F)) : ∃ (ga : Nat) (Z : Nat → Prop), TabG w g ga Z cs ∧ (g < w.heap.size ∧ ga < w.heap.size) ∧ (∀ k, Z k → k < w.heap.size) ∧ base ≤ g ∧ base ≤ ga ∧
    ∀ (w' : World) (cs' : List Col) (Z' : Nat → Prop), Below base w0 w' → w.heap.size ≤ w'.heap.size → (∀ k, k < w.heap.size → k ≠ ga → w'.heap[k]? = w.heap[k]?) → (∀ k, Z' k → Z k ∨ w.heap.size ≤ k) → (∀ k, Z' k → k < w'.heap.size) → TabG w' g ga Z' cs' → Has w0 base w' (tab g cs' :: F) := by
  obtain ⟨S1, ⟨h1, h2, ga, h3, h4⟩, hS, hout⟩ := h.out
  refine ⟨ga, _, h4, ⟨h1 g h2, h1 ga h3⟩, fun k hk => h1 k hk.1, hS g h2, hS ga h3, fun w' cs' Z' hB hz hf hz1 hz2 hT => ?_⟩
  refine hout w' (tab g cs') (fun k => k = g ∨ k = ga ∨ Z' k) hB hz ⟨?_, .inl rfl, ga, .inr (.inl rfl), hT.weak (fun k hk => ⟨.inr (.inr hk), fun e => hT.ng (e ▸ hk), fun e => hT.na (e ▸ hk)⟩) (fun x => x.2.1 rfl) (fun x => x.2.2 rfl)⟩ ?_ (fun k hk hn => hf k hk (fun e => hn (e ▸ h3)))
  · rintro k (rfl | rfl | hk)
    · exact Nat.lt_of_lt_of_le (h1 _ h2) hz
    · exact Nat.lt_of_lt_of_le (h1 _ h3) hz
    · exact hz2 k hk
  · rintro k (rfl | rfl | hk)
    · exact .inl h2
    · exact .inl h3
    · rcases hz1 k hk with hk | hk
      · exact .inl hk.1
      · exact .inr hk
theorem have.H (h : Has w0 base w (tab g cs :: F)) (hw : wfT cs) (p : Int) (hp : I64 p) :
    Calls Try.prog 14 #[.pointer (some ⟨g, 0, none⟩), .int .i64 p] w fun e w' => e = .returned (.int .i64 (have_ cs p)) ∧ Has w0 base w' (tab g cs :: F) := by
  obtain ⟨ga, Z, hT, hl, hz, _⟩ := tab_open h
  refine (have.calls hT hl hz p hp hw.1).mono ?_
  rintro e w' ⟨rfl, hb⟩
  exact ⟨rfl, h.step hb⟩
theorem ended.H (h : Has w0 base w (tab g cs :: F)) (hw : wfT cs) (p : Int) (hp : I64 p) :
    Calls Try.prog 16 #[.pointer (some ⟨g, 0, none⟩), .int .i64 p] w fun e w' => e = .returned (.tuple #[.int .i64 (ended_ cs p).1, .bool (ended_ cs p).2]) ∧ Has w0 base w' (tab g cs :: F) := by
  obtain ⟨ga, Z, hT, hl, hz, _⟩ := tab_open h
  refine (ended.calls hT hl hz p hp hw.1).mono ?_
  rintro e w' ⟨rfl, hb⟩
  exact ⟨rfl, h.step hb⟩
theorem at.H (h : Has w0 base w (tab g cs :: F)) (hw : wfT cs) (p f : Int) (hp : I64 p) (hf : I64 f) :
    Calls Try.prog 13 #[.pointer (some ⟨g, 0, none⟩), .int .i64 p, .int .i64 f] w fun e w' => e = .returned (.tuple #[.agg #[.int .i64 (at_ cs p f).1.1, .int .i64 (at_ cs p f).1.2.1, .bool (at_ cs p f).1.2.2], .bool (at_ cs p f).2]) ∧ Has w0 base w' (tab g cs :: F) := by
  obtain ⟨ga, Z, hT, hl, hz, _⟩ := tab_open h
  refine (at.calls hT hl hz p f hp hf hw.1 (by have := (hw.at p).1; omega)).mono ?_
  rintro e w' ⟨rfl, hb⟩
  exact ⟨rfl, h.step hb⟩
theorem end.H (h : Has w0 base w (tab g cs :: F)) (hw : wfT cs) (p n : Int) (hp : I64 p) (hn : I64 n) :
    Calls Try.prog 15 #[.pointer (some ⟨g, 0, none⟩), .int .i64 p, .int .i64 n] w fun e w' => e = .returned (.bool (end_ cs p n).1) ∧ Has w0 base w' (tab g (end_ cs p n).2 :: F) := by
  obtain ⟨ga, Z, hT, hl, hz, _, hga, hout⟩ := tab_open h
  refine (end.calls hT h.below hga hl hz p n hp hn hw.1).mono ?_
  rintro e w' ⟨rfl, hb, hs, hf, hT'⟩
  exact ⟨rfl, hout w' _ Z hb hs hf (fun k hk => .inl hk) (fun k hk => Nat.lt_of_lt_of_le (hz k hk) hs) hT'⟩
theorem add.H (h : Has w0 base w (tab g cs :: F)) (hw : wfT cs) (p fr : Int) (hp : I64 p) (hfr : I64 fr) (A : Option Addr) (cx : Nat) (xs : List In) (hx : xs.length ≤ 1000000) (hxs : ∀ (W : World) (cs' : List Col), Has w0 base W (tab g cs' :: F) → Kd.C kin W A xs.length xs) :
    Calls Try.prog 12 #[.pointer (some ⟨g, 0, none⟩), .int .i64 p, .int .i64 fr, .slice A xs.length cx] w fun e w' => e = .returned (.int .i64 (add_ cs p fr xs).1) ∧ Has w0 base w' (tab g (add_ cs p fr xs).2 :: F) := by
  obtain ⟨ga, Z, hT, hl, hz, _, hga, hout⟩ := tab_open h
  refine (add.calls hT h.below hga hl hz p fr hp hfr hw.1 (hw.at p) A cx xs hx (fun W i n c hI => ?_)).mono ?_
  · obtain ⟨Z', z1, z2, z3, z4⟩ := hI.tab
    exact hxs W _ (hout W _ Z' hI.below hI.size hI.frame z2 z3 z4)
  · rintro e w' ⟨Z', rfl, hb, hs, hf, z1, z2, z3, hT'⟩
    exact ⟨rfl, hout w' _ Z' hb hs hf z2 z3 hT'⟩
end
end Go.Proofs.Ytkgjokidfbpnbaa.InW
namespace Go.Proofs.Ytkgjokidfbpnbaa.InW
open Go.RowKit Go.Proofs.YtkgjokidfbpnbaaW.PrintWords Go.Proofs.YtkgjokidfbpnbaaW.PrintLast Go.Proofs.YtkgjokidfbpnbaaW.PrintMore Go.Proofs.Ytkgjokidfbpnbaa.Sep
attribute [local go_sem] max2_int min2_int max_two min_two max_three min_three max_four min_four   -- for this text's walks alone
set_option linter.unusedVariables false
set_option linter.unusedSimpArgs false
theorem C_one {W : World} {gl : Nat} {x : In} (h : W.heap[gl]? = some (.cells #[.int .i64 x.1, .int .i64 x.2.1, .bool x.2.2] 24 (0, 0))) : Kd.C kin W (some ⟨gl, 0, none⟩) 1 [x] := by
  refine ⟨rfl, by omega, fun _ => ⟨_, rfl, fun j p hj => ⟨encI p, rfl, kin_mk _ _, fun i u hi => ?_⟩⟩⟩
  have h0 : j = 0 := by
    have := (List.getElem?_eq_some_iff.1 hj).1
    simp at this
    exact this
  subst h0
  have hp : x = p := by simpa using hj
  subst hp
  have e : 0 * kin.sz + i = i := by rw [Nat.zero_mul, Nat.zero_add]
  rw [e]
  exact news_at h i u hi
theorem awake_1 : add_ (List.replicate (clampP 2) col0) 1 0 [(1, 0, true)] = (1, [⟨[(1, 0, true)], 0, false⟩, col0]) := rfl
theorem awake_2 : have_ [⟨[(1, 0, true)], 0, false⟩, col0] 1 = 1 := rfl
theorem awake_3 : add_ [⟨[(1, 0, true)], 0, false⟩, col0] 2 1 [(0, 0, false)] = (0, [⟨[(1, 0, true)], 0, false⟩, col0]) := rfl
set_option maxHeartbeats 8000000 in
set_option maxRecDepth 100000 in
theorem awake.H {w0 w : World} {base : Nat} {F : List Asr} (h : Has w0 base w F) :
    Calls Try.prog 10 #[] w fun e w' => e = .returned (.bool true) ∧ Has w0 base w' F := by
  have hu24 := Try.underlying24
  have HH := Aside0.mk h
  clear h
  have hw0 : wfT (List.replicate (clampP 2) col0) := wfT.new _ (by decide)
  have hw1 : wfT [⟨[(1, 0, true)], 0, false⟩, col0] := by
    have := hw0.add_ 1 0 [(1, 0, true)]
    rw [awake_1] at this
    exact this
  go_enter Try.func10, Try.ntmps10
  go_wp2_with (first | (go_at_call 9; (refine (new.H 2 (by omega) HH.out).mono ?_); rintro e w1 ⟨g, rfl, h1⟩; have H1 := Aside0.mk h1; clear h1) | (go_at_call 12; (refine (add.H (H1.out.own #[.int .i64 1, .int .i64 0, .bool true] 24).sw hw0 1 0 (by omega) (by omega) (some ⟨w1.heap.size, 0, none⟩) 1 [(1, 0, true)] (by decide) (fun W cs' hW => C_one (x := (1, 0, true)) hW.sw.blk)).mono ?_); rintro e w2 ⟨rfl, h2⟩; rw [awake_1] at h2 ⊢; have H2 := Aside0.mk h2; clear h2 H1) | (go_at_call 14; (refine (have.H H2.out hw1 1 (by omega)).mono ?_); rintro e w3 ⟨rfl, h3⟩; rw [awake_2]; have H3 := Aside0.mk h3; clear h3 H2) | (go_at_call 12; (refine (add.H (H3.out.own #[.int .i64 0, .int .i64 0, .bool false] 24).sw hw1 2 1 (by omega) (by omega) (some ⟨w3.heap.size, 0, none⟩) 1 [(0, 0, false)] (by decide) (fun W cs' hW => C_one (x := (0, 0, false)) hW.sw.blk)).mono ?_); rintro e w4 ⟨rfl, h4⟩; rw [awake_3] at h4 ⊢; have H4 := Aside0.mk h4; clear h4 H3))
  go_ret
  exact ⟨rfl, H4.out.drop.drop.drop⟩
def playN (x : Int) : Int := wrap64 ((wrap64 (Int.tmod (IntKind.u64.wrap x) 5)) - 2)
/-- an input that is right, of any -/
def playI (x : In) : In := if rightI x = true then x else (playN x.1, playN x.2.1, x.2.2)
theorem playN_in (x : Int) : -2 ≤ playN x ∧ playN x ≤ 2 := by
  unfold playN
  have h0 : 0 ≤ IntKind.u64.wrap x := by rw [IntKind.wrap_u64]; omega
  have e : Int.tmod (IntKind.u64.wrap x) 5 = (IntKind.u64.wrap x) % 5 := Int.tmod_eq_emod_of_nonneg h0
  rw [e]
  have h1 : 0 ≤ (IntKind.u64.wrap x) % 5 ∧ (IntKind.u64.wrap x) % 5 < 5 := by omega
  generalize (IntKind.u64.wrap x) % 5 = z at h1
  unfold wrap64
  omega
theorem playI_right (x : In) : rightI (playI x) = true := by
  unfold playI
  split
  · assumption
  · have h1 := playN_in x.1
    have h2 := playN_in x.2.1
    simp only [rightI, decide_eq_true_eq]
    omega
theorem playI_fire (x : In) : (playI x).2.2 = x.2.2 := by unfold playI; split <;> rfl
theorem right5_eq (x : In) : PInputsEnd.joustref05_Input.f x.1 x.2.1 x.2.2 = some (rightI x) := right_eq x
theorem play_eq (x : In) : PInputsEnd.joustplay_Input.f x.1 x.2.1 x.2.2 = some ((playI x).1, (playI x).2.1, (playI x).2.2) := by
  unfold PInputsEnd.joustplay_Input.f playI
  rw [right5_eq, Option.bind_some]
  cases rightI x <;> rfl
end Go.Proofs.Ytkgjokidfbpnbaa.InW
namespace Go.Proofs.Ytkgjokidfbpnbaa.InW
open Go.RowKit Go.Proofs.YtkgjokidfbpnbaaW.PrintWords Go.Proofs.YtkgjokidfbpnbaaW.PrintLast Go.Proofs.YtkgjokidfbpnbaaW.PrintMore Go.Proofs.Ytkgjokidfbpnbaa.Sep
set_option linter.unusedVariables false
theorem add_one {cs : List Col} {p : Int} {l : List In} {e : Int} {x : In} (hp : isP cs p) (hc : cAt cs p = ⟨l, e, false⟩) (hx : rightI x = true) (hl : l.length < 10000) : add_ cs p l.length [x] = (1, cs.set (p.toNat - 1) ⟨l ++ [x], e, false⟩) := by
  rw [add_yes hp (by omega), hc]
  unfold addGo
  have n1 : ¬ (rightI x = false ∨ (l.length : Int) < l.length ∨ (l.length : Int) - l.length < ((0 : Nat) : Int)) := by
    rintro (h | h | h)
    · rw [hx] at h; cases h
    · omega
    · omega
  have n2 : ¬ (((0 : Nat) : Int) < (l.length : Int) - l.length) := by omega
  have n3 : ¬ ((false = true ∧ e ≤ l.length) ∨ 10000 ≤ (l.length : Int)) := by
    rintro (h | h)
    · cases h.1
    · omega
  dsimp only
  rw [if_neg n1, if_neg n2, if_neg n3]
  rfl
theorem size_set3 (w : World) (a b c : Addr) (u v x : Value) : (((w.setCell a u).setCell b v).setCell c x).heap.size = w.heap.size := by simp [World.setCell]
section
variable {w0 w w5 : World} {base g : Nat} {L : List Asr}
/-- what was boxed is a part -/
theorem Has.box {o : Obj} {gb : Nat} (h : Has w0 base w L) (hg : gb = w.heap.size) (hb : Below w.heap.size w w5) (hbox : w5.heap[gb]? = some o) : Has w0 base w5 (blk gb o :: L) :=
  h.new (S' := fun k => k = gb) hb ⟨hbox, rfl, fun k hk => by rw [hk]; exact (Array.getElem?_eq_some_iff.1 hbox).1⟩ (fun k hk => by rw [hk, hg]; exact Nat.le_refl _)
/-- an input's three cells are written -/
theorem Has.set3 {a b : Value} {d : Value} {x : In} (h : Has w0 base w (blk g (.cells #[a, b, d] 24 (0, 0)) :: L)) : Has w0 base (((w.setCell ⟨g, 0, none⟩ (.int .i64 x.1)).setCell ⟨g, 1, none⟩ (.int .i64 x.2.1)).setCell ⟨g, 2, none⟩ (.bool x.2.2)) (blk g (.cells #[.int .i64 x.1, .int .i64 x.2.1, .bool x.2.2] 24 (0, 0)) :: L) :=
  Has.set (Has.set (Has.set h 0 (.int .i64 x.1) rfl) 1 (.int .i64 x.2.1) rfl) 2 (.bool x.2.2) rfl
end
theorem at_no {cs : List Col} {p f : Int} (h : ¬ (isP cs p ∧ 0 ≤ f)) : at_ cs p f = ((0, 0, false), false) := by unfold at_; rw [if_neg h]
theorem at_have {cs : List Col} {p f : Int} (h : isP cs p) (h0 : 0 ≤ f) (h1 : f < (cAt cs p).l.length) : at_ cs p f = (rdI (cAt cs p).l f, true) := by unfold at_; rw [if_pos ⟨h, h0⟩, if_pos h1]
theorem at_end {cs : List Col} {p f : Int} (h : isP cs p) (h0 : 0 ≤ f) (h1 : (cAt cs p).l.length ≤ f) (h2 : (cAt cs p).d = true ∧ (cAt cs p).e ≤ f) : at_ cs p f = ((0, 0, false), true) := by unfold at_; rw [if_pos ⟨h, h0⟩, if_neg (by omega), if_pos h2]
theorem at_nil {cs : List Col} {p f : Int} (h : isP cs p) (h0 : 0 ≤ f) (h2 : ¬ ((cAt cs p).d = true ∧ (cAt cs p).e ≤ f)) (h1 : (cAt cs p).l = []) : at_ cs p f = ((0, 0, false), false) := by
  unfold at_
  rw [if_pos ⟨h, h0⟩, if_neg (by rw [h1]; simp; omega), if_neg h2, if_pos (by rw [h1]; rfl)]
  rfl
theorem at_last {cs : List Col} {p f : Int} {v : In} (h : isP cs p) (h0 : 0 ≤ f) (h3 : (cAt cs p).l.length ≤ f) (h2 : ¬ ((cAt cs p).d = true ∧ (cAt cs p).e ≤ f)) (h1 : 0 < (cAt cs p).l.length) (hv : (cAt cs p).l[(cAt cs p).l.length - 1]? = some v) (hr : rightI v = true) : at_ cs p f = ((v.1, v.2.1, false), false) := by
  unfold at_
  have e : rdI (cAt cs p).l ((cAt cs p).l.length - 1) = v := by
    have e2 : (((cAt cs p).l.length : Int) - 1).toNat = (cAt cs p).l.length - 1 := by omega
    unfold rdI
    rw [e2, List.getD_eq_getElem?_getD, hv]
    rfl
  rw [if_pos ⟨h, h0⟩, if_neg (by omega), if_neg h2, if_neg (by omega), e]
  unfold guessI
  rw [if_pos ⟨rfl, hr⟩]
end Go.Proofs.Ytkgjokidfbpnbaa.InW
