/- Cuts and copies of inputs' rows; a new table; an end. Condition: numbers are within int. -/
import Derived.Test.YtkgjokidfbpnbaaInB
import Derived.Lib.SliceRun
namespace Go.Proofs.Ytkgjokidfbpnbaa.InW
open Go.RowKit Go.Proofs.YtkgjokidfbpnbaaW.PrintWords Go.Proofs.YtkgjokidfbpnbaaW.PrintLast Go.Proofs.YtkgjokidfbpnbaaW.PrintMore Go.Proofs.Ytkgjokidfbpnbaa.Sep
attribute [local go_sem] max2_int min2_int max_two min_two max_three min_three max_four min_four   -- for this text's walks alone
set_option linter.unusedVariables false
set_option linter.unusedSimpArgs false
set_option maxHeartbeats 4000000 in
set_option maxRecDepth 100000 in
theorem clip.calls (A : Option Addr) (n c : Nat) (w : World) (hn : A = none → n = 0) (hc : n ≤ c) (hm : n ≤ 1000000) :
    Calls Try.prog 32 #[.slice A n c] w fun e w' => e = .returned (.slice A n n) ∧ Below w.heap.size w w' := by
  have d1 : decide ((n : Int) ≤ (c : Int)) = true := decide_eq_true (by omega)
  rcases A with _ | ad
  · obtain rfl := hn rfl
    go_enter Try.func32, Try.ntmps32
    go_wp2
    go_ret
    exact ⟨rfl, Below.refl _ _⟩
  · go_enter Try.func32, Try.ntmps32
    go_wp2
    go_ret
    exact ⟨rfl, Below.refl _ _⟩
theorem RowS.weak {w : World} {Z Z' : Nat → Prop} {v : Value} {l : List In} (h : RowS w Z v l) (hz : ∀ k, Z k → Z' k) : RowS w Z' v l := h.step hz (fun _ _ => rfl)
theorem TabG.weak {w : World} {g ga : Nat} {Z Z' : Nat → Prop} {cs : List Col} (h : TabG w g ga Z cs) (hz : ∀ k, Z k → Z' k) (hg : ¬ Z' g) (ha : ¬ Z' ga) : TabG w g ga Z' cs := by
  refine ⟨h.ne, hg, ha, h.tbl, ?_⟩
  obtain ⟨vs, zs, h5, h6, h7⟩ := h.cols
  exact ⟨vs, zs, h5, h6, fun j a b => ⟨(h7 j a b).1, (h7 j a b).2.1, (h7 j a b).2.2.weak hz⟩⟩
/-- a cell of a column is written -/
theorem far_set {w : World} {ga t : Nat} {u : Value} : ∀ k, k ≠ ga → (w.setCell ⟨ga, t, none⟩ u).heap[k]? = w.heap[k]? := fun k hk => Below.heap_setCell w ⟨ga, t, none⟩ u k hk
theorem TabG.put0 {w : World} {g ga : Nat} {Z Z' : Nat → Prop} {cs : List Col} (h : TabG w g ga Z cs) (j : Nat) (hj : j < cs.length) (v : Value) (l : List In) (hz : ∀ k, Z k → Z' k) (hg : ¬ Z' g) (ha : ¬ Z' ga) (hv : RowS w Z' v l) : TabG (w.setCell ⟨ga, j * 3, none⟩ v) g ga Z' (cs.set j ⟨l, cs[j].e, cs[j].d⟩) := by
  refine ⟨h.ne, hg, ha, ?_, ?_⟩
  · obtain ⟨c, h5, h6⟩ := h.tbl
    rw [List.length_set]
    exact ⟨c, (far_set g h.ne).trans h5, h6⟩
  · obtain ⟨vs, zs, h5, h6, h7⟩ := h.cols
    have hjv : j < vs.length := by omega
    refine ⟨vs.set j (v, vs[j].2), zs, ?_, by simp [h6], fun i h1 h2 => ?_⟩
    · rw [← flatC_set0 vs j hjv v]
      refine blk_put h5 (j * 3) _ ?_
      have hl := flatC_len vs
      rw [List.setIfInBounds_toArray, List.set_append_left _ _ (by omega), Nat.mul_comm j 3]
    · rw [List.length_set] at h1 h2
      by_cases hij : j = i
      · subst hij
        simp only [List.getElem_set_self]
        exact ⟨(h7 j h1 h2).1, (h7 j h1 h2).2.1, hv.step (fun k hk => hk) (fun k hk => far_set k (fun e => ha (e ▸ hk)))⟩
      · simp only [List.getElem_set_ne hij]
        exact ⟨(h7 i h1 h2).1, (h7 i h1 h2).2.1, (h7 i h1 h2).2.2.step hz (fun k hk => far_set k (fun e => h.na (e ▸ hk)))⟩
theorem TabG.put1 {w : World} {g ga : Nat} {Z : Nat → Prop} {cs : List Col} (h : TabG w g ga Z cs) (j : Nat) (hj : j < cs.length) (e : Int) : TabG (w.setCell ⟨ga, j * 3 + 1, none⟩ (.int .i64 e)) g ga Z (cs.set j ⟨cs[j].l, e, cs[j].d⟩) := by
  refine ⟨h.ne, h.ng, h.na, ?_, ?_⟩
  · obtain ⟨c, h5, h6⟩ := h.tbl
    rw [List.length_set]
    exact ⟨c, (far_set g h.ne).trans h5, h6⟩
  · obtain ⟨vs, zs, h5, h6, h7⟩ := h.cols
    have hjv : j < vs.length := by omega
    refine ⟨vs.set j (vs[j].1, e, vs[j].2.2), zs, ?_, by simp [h6], fun i h1 h2 => ?_⟩
    · rw [← flatC_set1 vs j hjv e]
      refine blk_put h5 (j * 3 + 1) _ ?_
      have hl := flatC_len vs
      rw [List.setIfInBounds_toArray, List.set_append_left _ _ (by omega), Nat.mul_comm j 3]
    · rw [List.length_set] at h1 h2
      by_cases hij : j = i
      · subst hij
        simp only [List.getElem_set_self]
        exact ⟨trivial, (h7 j h1 h2).2.1, (h7 j h1 h2).2.2.step (fun k hk => hk) (fun k hk => far_set k (fun e => h.na (e ▸ hk)))⟩
      · simp only [List.getElem_set_ne hij]
        exact ⟨(h7 i h1 h2).1, (h7 i h1 h2).2.1, (h7 i h1 h2).2.2.step (fun k hk => hk) (fun k hk => far_set k (fun e => h.na (e ▸ hk)))⟩
theorem TabG.put2 {w : World} {g ga : Nat} {Z : Nat → Prop} {cs : List Col} (h : TabG w g ga Z cs) (j : Nat) (hj : j < cs.length) (d : Bool) : TabG (w.setCell ⟨ga, j * 3 + 2, none⟩ (.bool d)) g ga Z (cs.set j ⟨cs[j].l, cs[j].e, d⟩) := by
  refine ⟨h.ne, h.ng, h.na, ?_, ?_⟩
  · obtain ⟨c, h5, h6⟩ := h.tbl
    rw [List.length_set]
    exact ⟨c, (far_set g h.ne).trans h5, h6⟩
  · obtain ⟨vs, zs, h5, h6, h7⟩ := h.cols
    have hjv : j < vs.length := by omega
    refine ⟨vs.set j (vs[j].1, vs[j].2.1, d), zs, ?_, by simp [h6], fun i h1 h2 => ?_⟩
    · rw [← flatC_set2 vs j hjv d]
      refine blk_put h5 (j * 3 + 2) _ ?_
      have hl := flatC_len vs
      rw [List.setIfInBounds_toArray, List.set_append_left _ _ (by omega), Nat.mul_comm j 3]
    · rw [List.length_set] at h1 h2
      by_cases hij : j = i
      · subst hij
        simp only [List.getElem_set_self]
        exact ⟨(h7 j h1 h2).1, trivial, (h7 j h1 h2).2.2.step (fun k hk => hk) (fun k hk => far_set k (fun e => h.na (e ▸ hk)))⟩
      · simp only [List.getElem_set_ne hij]
        exact ⟨(h7 i h1 h2).1, (h7 i h1 h2).2.1, (h7 i h1 h2).2.2.step (fun k hk => hk) (fun k hk => far_set k (fun e => h.na (e ▸ hk)))⟩
def col0 : Col := ⟨[], 0, false⟩
/-- how many players a new table has -/
def clampP (n : Int) : Nat := (max (min n 6) 1).toNat
theorem made_flat (m : Nat) (h1 : 1 ≤ m) (h6 : m ≤ 6) : madeCells #[.slice none 0 0, .int .i64 0, .bool false] (m * 3) = (flatC (List.replicate m (.slice none 0 0, 0, false))).toArray := by
  have : m = 1 ∨ m = 2 ∨ m = 3 ∨ m = 4 ∨ m = 5 ∨ m = 6 := by omega
  apply Array.ext'
  rcases this with rfl | rfl | rfl | rfl | rfl | rfl <;> simp [madeCells, flatC, List.replicate, List.range, List.range.loop]
theorem clamp_eq (n : Int) : ∃ k : Int, (if n < 1 then 1 else n) = k ∧ (if 6 < k then 6 else k) = (clampP n : Int) ∧ 1 ≤ clampP n ∧ clampP n ≤ 6 := by
  refine ⟨_, rfl, ?_, ?_, ?_⟩
  · unfold clampP; split <;> split <;> omega
  · unfold clampP; omega
  · unfold clampP; omega
set_option maxHeartbeats 4000000 in
set_option maxRecDepth 100000 in
theorem new.calls (n : Int) (hn : I64 n) (w : World) :
    Calls Try.prog 9 #[.int .i64 n] w fun e w' => ∃ g ga, e = .returned (.pointer (some ⟨g, 0, none⟩)) ∧ w.heap.size ≤ g ∧ w.heap.size ≤ ga ∧ g < w'.heap.size ∧ ga < w'.heap.size ∧ TabG w' g ga (fun _ => False) (List.replicate (clampP n) col0) ∧ Below w.heap.size w w' := by
  obtain ⟨k, hk, hm, h1, h6⟩ := clamp_eq n
  obtain ⟨m, hmm⟩ : ∃ m, clampP n = m := ⟨_, rfl⟩
  rw [hmm] at hm h1 h6 ⊢
  have hmk : ∀ W : World, (Instr.makeSlice 53 (.int .i64 (m : Int)) (.int .i64 (m : Int))).run Try.prog W = .ok (.slice (some ⟨W.heap.size, 0, none⟩) m m) (W.alloc (.cells (flatC (List.replicate m (.slice none 0 0, 0, false))).toArray 62)) := by
    intro W
    obtain ⟨i0, hi, hzz⟩ := Option.map_eq_some_iff.1 PInputsEnd.info62
    simp only [Prod.mk.injEq] at hzz
    obtain ⟨hz0, hz1, hz2⟩ := hzz
    have := run_make (P := Try.prog) W 53 62 i0 _ Try.underlying53 hi hz0 .i64 .i64 (m : Int) (m : Int) (by omega) (by omega) (by rw [hz2]; omega) (by omega)
    rw [hz1, Int.toNat_natCast] at this
    exact (this).trans (by rw [← made_flat m h1 h6]; rfl)
  go_enter Try.func9, Try.ntmps9
  go_wp2
  go_ret
  have e1 : (w.alloc (.cells (flatC (List.replicate m (.slice none 0 0, 0, false))).toArray 62)).heap.size = w.heap.size + 1 := by simp
  refine ⟨_, w.heap.size, rfl, by omega, Nat.le_refl _, by simp, by simp <;> omega, ⟨by omega, fun h => h, fun h => h, ?_, ?_⟩, below_alloc (below_alloc (Below.refl _ _) _) _⟩
  · rw [List.length_replicate]
    exact ⟨m, by rw [← e1]; exact heap_alloc_new _ _, Nat.le_refl _⟩
  · refine ⟨List.replicate m (.slice none 0 0, 0, false), [], ?_, by simp, fun j h1 h2 => ?_⟩
    · rw [List.append_nil]
      exact (blk_below (heap_alloc_new w _) (below_alloc (Below.refl _ _) _))
    · rw [List.getElem_replicate, List.getElem_replicate]
      exact ⟨rfl, rfl, RowS.nil _ _⟩
theorem new.H {w0 w : World} {base : Nat} {F : List Asr} (n : Int) (hn : I64 n) (h : Has w0 base w F) :
    Calls Try.prog 9 #[.int .i64 n] w fun e w' => ∃ g, e = .returned (.pointer (some ⟨g, 0, none⟩)) ∧ Has w0 base w' (tab g (List.replicate (clampP n) col0) :: F) := by
  refine (new.calls n hn w).mono ?_
  rintro e w' ⟨g, ga, rfl, h1, h2, h3, h4, h5, h6⟩
  refine ⟨g, rfl, h.new (S' := fun k => k = g ∨ k = ga) h6 ⟨?_, .inl rfl, ga, .inr rfl, h5.weak (fun k hk => hk.elim) (fun x => x.2.1 rfl) (fun x => x.2.2 rfl)⟩ ?_⟩
  · rintro k (rfl | rfl) <;> assumption
  · rintro k (rfl | rfl) <;> assumption
end Go.Proofs.Ytkgjokidfbpnbaa.InW
