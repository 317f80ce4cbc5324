/- What the law MarkOrder needs of numbers and lists: few, what is near, arenas. No condition. -/
import Derived.Test.YtmgdpkmmcmglfaaPMarkOrderz1
import Derived.Test.YtmgdpkmmcmglfaaPMarkOrderz2
import Derived.Test.YtmgdpkmmcmglfaaPMarkOrderz3


import Derived.Test.YtmgdpkmmcmglfaaGridP
import Derived.OpenShut
namespace Go.Proofs.Ytmgdpkmmcmglfaa.PMarkOrder
open Go Go.RowKit Go.Proofs.YtmgdpkmmcmglfaaW.PrintWords Go.Proofs.YtmgdpkmmcmglfaaW.PrintLast
open Go.Proofs.Ytmgdpkmmcmglfaa.MarkW (Line LineS nearG ofG fitG initM madeP Stuck WfM WfL goesP okK knownP firstL resF phi nextL ansO)
set_option linter.unusedVariables false
set_option linter.unusedSimpArgs false
theorem wr {i : Int} (h0 : -9223372036854775808 ≤ i) (h1 : i < 9223372036854775808) : wrap64 i = i := by unfold wrap64; omega
theorem uw (i : Int) : IntKind.u64.wrap i = i % 18446744073709551616 := by simp [IntKind.wrap, IntKind.signed, IntKind.bits]
theorem umod (x m : Int) (h0 : 1 ≤ m) (h1 : m ≤ 4611686018427387904) : 0 ≤ wrap64 (Int.tmod (IntKind.u64.wrap x) (IntKind.u64.wrap m)) ∧ wrap64 (Int.tmod (IntKind.u64.wrap x) (IntKind.u64.wrap m)) < m := by
  rw [uw, uw]
  have e : m % 18446744073709551616 = m := by omega
  rw [e]
  have hx : 0 ≤ x % 18446744073709551616 := by omega
  have a := Int.tmod_nonneg m hx
  have b := Int.tmod_lt_of_pos (x % 18446744073709551616) (show 0 < m by omega)
  rw [wr (by omega) (by omega)]
  exact ⟨a, b⟩
theorem umod1 (x m : Int) (h0 : 1 ≤ m) (h1 : m ≤ 4611686018427387904) : 0 ≤ wrap64 (Int.tmod (IntKind.u64.wrap x) m) ∧ wrap64 (Int.tmod (IntKind.u64.wrap x) m) < m := by
  have h := umod x m h0 h1
  rw [uw m, show m % 18446744073709551616 = m by omega] at h
  exact h
/-- may an arena be -/
def R (c r p w : Int) : Prop := (1 ≤ c ∧ c ≤ 4) ∧ (1 ≤ r ∧ r ≤ 4) ∧ (1 ≤ p ∧ p ≤ 6) ∧ (1 ≤ w ∧ w ≤ 16)
instance (c r p w : Int) : Decidable (R c r p w) := by unfold R; infer_instance
theorem gwithin_eq (a lo hi : Int) : grid_within.f a lo hi = some (decide (lo ≤ a ∧ a ≤ hi)) := by
  unfold grid_within.f
  by_cases h : lo ≤ a <;> simp [h]
theorem right_eq (c r p w s : Int) : grid_right.f c r p w s = some (decide (R c r p w)) := by
  unfold grid_right.f R
  simp only [gwithin_eq, Option.bind_some]
  by_cases h1 : 1 ≤ c ∧ c ≤ 4 <;> by_cases h2 : 1 ≤ r ∧ r ≤ 4 <;> by_cases h3 : 1 ≤ p ∧ p ≤ 6 <;> by_cases h4 : 1 ≤ w ∧ w ≤ 16 <;> simp [h1, h2, h3, h4]
theorem size_eq {c r p w : Int} (s : Int) (h : R c r p w) : grid_Grid_size.f c r p w s = some (c, r) := by
  unfold grid_Grid_size.f
  rw [right_eq, Option.bind_some, decide_eq_true h, if_pos rfl]
theorem size_no {c r p w : Int} (s : Int) (h : ¬ R c r p w) : grid_Grid_size.f c r p w s = some (0, 0) := by
  unfold grid_Grid_size.f
  rw [right_eq, Option.bind_some, decide_eq_false h, if_neg (by decide)]
theorem cr_bound {c r p w : Int} (h : R c r p w) : 1 ≤ c * r ∧ c * r ≤ 16 := by
  obtain ⟨⟨h1, h2⟩, ⟨h3, h4⟩, _⟩ := h
  have hc : c = 1 ∨ c = 2 ∨ c = 3 ∨ c = 4 := by omega
  rcases hc with rfl | rfl | rfl | rfl <;> omega
theorem regions_eq {c r p w : Int} (s : Int) (h : R c r p w) : grid_Grid_Regions.f c r p w s = some (c * r) := by
  unfold grid_Grid_Regions.f
  have := cr_bound h
  rw [size_eq s h, Option.bind_some, wr (by simp; omega) (by simp; omega)]
theorem regions_no {c r p w : Int} (s : Int) (h : ¬ R c r p w) : grid_Grid_Regions.f c r p w s = some 0 := by
  unfold grid_Grid_Regions.f
  rw [size_no s h, Option.bind_some]; decide +kernel
theorem new_eq {c r p w : Int} (s : Int) (h : R c r p w) : grid_New.f c r p w s = some (c, r, p, w, s, 0) := by
  unfold grid_New.f
  rw [right_eq, Option.bind_some, decide_eq_true h, if_pos rfl]
theorem new_no {c r p w : Int} (s : Int) (h : ¬ R c r p w) : grid_New.f c r p w s = some (0, 0, 0, 0, 0, 10) := by
  unfold grid_New.f
  rw [right_eq, Option.bind_some, decide_eq_false h, if_neg (by decide)]
theorem is_eq {c r p w : Int} (s x : Int) (h : R c r p w) : grid_Grid_is.f c r p w s x = some (decide (0 ≤ x ∧ x < c * r)) := by
  unfold grid_Grid_is.f
  have := cr_bound h
  rw [regions_eq s h, Option.bind_some, wr (by omega) (by omega), gwithin_eq, Option.bind_some]
  congr 1
  rw [decide_eq_decide]
  omega
theorem is_no {c r p w : Int} (s x : Int) (h : ¬ R c r p w) : grid_Grid_is.f c r p w s x = some false := by
  unfold grid_Grid_is.f
  rw [regions_no s h, Option.bind_some, wr (by omega) (by omega), gwithin_eq, Option.bind_some]
  congr 1
  rw [decide_eq_false_iff_not]
  omega
/-- the regions near one, of c columns and r rows -/
def nearL (c r x : Nat) : List Int := ((List.range (c * r)).filter fun n => decide (n % c ≤ x % c + 1 ∧ x % c ≤ n % c + 1 ∧ n / c ≤ x / c + 1 ∧ x / c ≤ n / c + 1)).map fun n => ((n : Nat) : Int)
theorem near_l : ∀ k, (∀ x1 l x6 c r p w s, grid_Grid_Near.l0 k x1 l x6 c r p w s = grid_Grid_Near.l0 k x1 l x6 c r 1 1 0) ∧ (∀ x1 l x6 x7 c r p w s, grid_Grid_Near.l1 k x1 l x6 x7 c r p w s = grid_Grid_Near.l1 k x1 l x6 x7 c r 1 1 0) := by
  intro k
  induction k with
  | zero => exact ⟨fun _ _ _ _ _ _ _ _ => rfl, fun _ _ _ _ _ _ _ _ _ => rfl⟩
  | succ k ih =>
    refine ⟨fun x1 l x6 c r p w s => ?_, fun x1 l x6 x7 c r p w s => ?_⟩
    · simp only [grid_Grid_Near.l0]
      rw [ih.2 x1 l x6 _ c r p w s]
    · simp only [grid_Grid_Near.l1]
      rw [ih.2 x1 _ x6 _ c r p w s, ih.1 x1 l _ c r p w s]
theorem near_fin : ∀ c r : Fin 5, ∀ x : Fin 16, decide (c.val = 0 ∨ r.val = 0 ∨ c.val * r.val ≤ x.val ∨ grid_Grid_Near.l0 60 (x.val : Int) [] (mx (wrap64 ((wrap64 (Int.tdiv (x.val : Int) (c.val : Int))) - 1)) 0) (c.val : Int) (r.val : Int) 1 1 0 = some (nearL c.val r.val x.val)) = true := by decide +kernel
theorem near_at {c r p w x : Int} (s : Int) {k : Nat} (hk : 60 ≤ k) (h : R c r p w) (hx : 0 ≤ x ∧ x < c * r) : grid_Grid_Near.f k c r p w s x = some (nearL c.toNat r.toNat x.toNat) := by
  unfold grid_Grid_Near.f
  rw [is_eq s x h, Option.bind_some, decide_eq_true hx, if_pos rfl, if_neg (by have := h.1; omega), (near_l k).1]
  have hb := cr_bound h
  obtain ⟨⟨h1, h2⟩, ⟨h3, h4⟩, _⟩ := h
  have e := of_decide_eq_true (near_fin ⟨c.toNat, by omega⟩ ⟨r.toNat, by omega⟩ ⟨x.toNat, by omega⟩)
  simp only at e
  have e1 : ((c.toNat : Nat) : Int) = c := by omega
  have e2 : ((r.toNat : Nat) : Int) = r := by omega
  have e3 : ((x.toNat : Nat) : Int) = x := by omega
  have e4 : ((c.toNat * r.toNat : Nat) : Int) = c * r := by rw [Int.natCast_mul, e1, e2]
  rcases e with e | e | e | e
  · omega
  · omega
  · omega
  · rw [e1, e2, e3] at e
    exact at_rounds (fun k => (grid_Grid_Near.mono_l k).1 _ _ _ _ _ _ _ _) hk e
theorem near_no {c r p w x : Int} (s : Int) (k : Nat) (h : R c r p w) (hx : ¬ (0 ≤ x ∧ x < c * r)) : grid_Grid_Near.f k c r p w s x = some [] := by
  unfold grid_Grid_Near.f
  rw [is_eq s x h, Option.bind_some, decide_eq_false hx, if_neg (by decide)]
theorem near_none {c r p w : Int} (s x : Int) (k : Nat) (h : ¬ R c r p w) : grid_Grid_Near.f k c r p w s x = some [] := by
  unfold grid_Grid_Near.f
  rw [is_no s x h, Option.bind_some, if_neg (by decide)]
theorem nearL_len : ∀ c r : Fin 5, ∀ x : Fin 16, (nearL c.val r.val x.val).length ≤ 9 := by decide +kernel
theorem rright_eq (c r p w s : Int) : joustref03_Right.f c r p w s = some (decide (R c r p w)) := by
  unfold joustref03_Right.f R
  by_cases h1 : 1 ≤ c <;> by_cases h2 : c ≤ 4 <;> simp [h1, h2] <;> by_cases h3 : 1 ≤ r <;> by_cases h4 : r ≤ 4 <;> simp [h3, h4] <;> by_cases h5 : 1 ≤ p <;> by_cases h6 : p ≤ 6 <;> simp [h5, h6] <;> by_cases h7 : 1 ≤ w <;> simp [h7]
theorem same_loop (xs ys : List Int) (hl : xs.length = ys.length) (hb : xs.length < 4611686018427387904) : ∀ (d k i : Nat), i + d = xs.length → d < k → jousthelp_Same_int.l0 k xs ys (i : Int) = some (decide (xs.drop i = ys.drop i)) := by
  intro d
  induction d with
  | zero =>
    intro k i hi hk
    obtain ⟨k, rfl⟩ : ∃ m, k = m + 1 := ⟨k - 1, by omega⟩
    simp only [jousthelp_Same_int.l0]
    rw [if_neg (by omega), List.drop_of_length_le (by omega), List.drop_of_length_le (by omega), decide_eq_true rfl]
  | succ d ih =>
    intro k i hi hk
    obtain ⟨k, rfl⟩ : ∃ m, k = m + 1 := ⟨k - 1, by omega⟩
    simp only [jousthelp_Same_int.l0]
    have h1 : i < xs.length := by omega
    have h2 : i < ys.length := by omega
    rw [if_pos (by omega), if_pos (by omega), if_pos (by omega), wr (by omega) (by omega)]
    have e1 : rd xs (i : Int) = xs[i] := by simp [rd, List.getD_eq_getElem?_getD, h1]
    have e2 : rd ys (i : Int) = ys[i] := by simp [rd, List.getD_eq_getElem?_getD, h2]
    have hi' := ih k (i + 1) (by omega) (by omega)
    unfold jousthelp_Plain_int_1.f
    rw [Option.bind_some, e1, e2, List.drop_eq_getElem_cons h1, List.drop_eq_getElem_cons h2]
    by_cases e : xs[i] = ys[i]
    · rw [if_pos (by simpa using e)]
      have : ((i : Int) + 1) = ((i + 1 : Nat) : Int) := rfl
      rw [this, hi']
      congr 1
      rw [decide_eq_decide, List.cons.injEq]
      exact ⟨fun h => ⟨e, h⟩, fun h => h.2⟩
    · rw [if_neg (by simpa using e), decide_eq_false (fun h => e (List.cons.inj h).1)]
theorem plain_eq (xs ys : List Int) (hb : xs.length < 4611686018427387904) {k : Nat} (hk : xs.length < k) : jousthelp_Plain_int.f k xs ys = some (decide (xs = ys)) := by
  unfold jousthelp_Plain_int.f jousthelp_Same_int.f
  by_cases hl : xs.length = ys.length
  · rw [if_pos (by omega), show (0 : Int) = ((0 : Nat) : Int) from rfl, same_loop xs ys hl hb xs.length k 0 (by omega) hk]
    rfl
  · rw [if_neg (by omega), Option.bind_some, decide_eq_false (fun e => hl (by rw [e]))]

/-- an arena that is not too great -/
def Q (c r p w : Int) : Prop := (1 ≤ c ∧ c ≤ 3) ∧ (1 ≤ r ∧ r ≤ 3) ∧ (1 ≤ p ∧ p ≤ 4) ∧ (1 ≤ w ∧ w ≤ 16)
theorem Q.R {c r p w : Int} (h : Q c r p w) : R c r p w := by unfold Q at h; unfold PMarkOrder.R; omega
theorem config_eq (c r p w s : Int) : ∃ c' r' p' w', joustplay_Config.f c r p w s = some (c', r', p', w', s) ∧ Q c' r' p' w' := by
  unfold joustplay_Config.f
  rw [rright_eq, Option.bind_some]
  have h1 := umod1 c 3 (by decide) (by decide)
  have h2 := umod1 r 3 (by decide) (by decide)
  have h3 := umod1 p 4 (by decide) (by decide)
  have h4 := umod1 w 8 (by decide) (by decide)
  have hq : Q (wrap64 (1 + (wrap64 (Int.tmod (IntKind.u64.wrap c) 3)))) (wrap64 (1 + (wrap64 (Int.tmod (IntKind.u64.wrap r) 3)))) (wrap64 (1 + (wrap64 (Int.tmod (IntKind.u64.wrap p) 4)))) (wrap64 (1 + (wrap64 (Int.tmod (IntKind.u64.wrap w) 8)))) := by
    generalize wrap64 (Int.tmod (IntKind.u64.wrap c) 3) = x1 at h1 ⊢
    generalize wrap64 (Int.tmod (IntKind.u64.wrap r) 3) = x2 at h2 ⊢
    generalize wrap64 (Int.tmod (IntKind.u64.wrap p) 4) = x3 at h3 ⊢
    generalize wrap64 (Int.tmod (IntKind.u64.wrap w) 8) = x4 at h4 ⊢
    rw [wr (show _ ≤ 1 + x1 by omega) (by omega), wr (show _ ≤ 1 + x2 by omega) (by omega), wr (show _ ≤ 1 + x3 by omega) (by omega), wr (show _ ≤ 1 + x4 by omega) (by omega)]
    unfold Q; omega
  by_cases h : R c r p w
  · rw [decide_eq_true h, if_pos rfl]
    by_cases e1 : c ≤ 3
    · rw [if_pos e1]
      by_cases e2 : r ≤ 3
      · rw [if_pos e2]
        by_cases e3 : p ≤ 4
        · rw [if_pos e3]
          exact ⟨c, r, p, w, rfl, by unfold PMarkOrder.R at h; unfold Q; omega⟩
        · rw [if_neg e3]; exact ⟨_, _, _, _, rfl, hq⟩
      · rw [if_neg e2]; exact ⟨_, _, _, _, rfl, hq⟩
    · rw [if_neg e1]; exact ⟨_, _, _, _, rfl, hq⟩
  · rw [decide_eq_false h, if_neg (by decide)]; exact ⟨_, _, _, _, rfl, hq⟩
theorem rregions_eq {c r p w : Int} (s : Int) (h : R c r p w) : joustref03_Regions.f c r p w s = some (c * r) := by
  unfold joustref03_Regions.f
  have := cr_bound h
  rw [rright_eq, Option.bind_some, decide_eq_true h, if_pos rfl, wr (by omega) (by omega)]
theorem rregions_no {c r p w : Int} (s : Int) (h : ¬ R c r p w) : joustref03_Regions.f c r p w s = some 0 := by
  unfold joustref03_Regions.f
  rw [rright_eq, Option.bind_some, decide_eq_false h, if_neg (by decide)]
theorem ris_eq {c r p w : Int} (s x : Int) (h : R c r p w) : joustref03_Is.f c r p w s x = some (decide (0 ≤ x ∧ x < c * r)) := by
  unfold joustref03_Is.f
  by_cases hx : x ≥ 0
  · rw [if_pos hx, rregions_eq s h, Option.bind_some]
    congr 1
    rw [decide_eq_decide]
    omega
  · rw [if_neg hx]
    congr 1
    symm
    rw [decide_eq_false_iff_not]
    omega
theorem ris_no {c r p w : Int} (s x : Int) (h : ¬ R c r p w) : joustref03_Is.f c r p w s x = some false := by
  unfold joustref03_Is.f
  by_cases hx : x ≥ 0
  · rw [if_pos hx, rregions_no s h, Option.bind_some, decide_eq_false (by omega)]
  · rw [if_neg hx]
theorem R.plain {c r p w : Int} (h : R c r p w) : R c r 1 1 := ⟨h.1, h.2.1, by decide, by decide⟩
theorem rnear_l {c r p w : Int} (s : Int) (h : R c r p w) : ∀ k, (∀ x1 l x6, joustref03_Near.l0 k x1 l x6 c r p w s = joustref03_Near.l0 k x1 l x6 c r 1 1 0) ∧ (∀ x1 l x6 x7, joustref03_Near.j1 k x1 l x6 x7 c r p w s = joustref03_Near.j1 k x1 l x6 x7 c r 1 1 0) := by
  intro k
  induction k with
  | zero => exact ⟨fun _ _ _ => rfl, fun _ _ _ _ => rfl⟩
  | succ k ih =>
    refine ⟨fun x1 l x6 => ?_, fun x1 l x6 x7 => ?_⟩
    · simp only [joustref03_Near.l0]
      rw [rregions_eq s h, rregions_eq 0 h.plain, Option.bind_some, Option.bind_some, ris_eq s x1 h, ris_eq 0 x1 h.plain, Option.bind_some, Option.bind_some, ih.2, ih.2]
    · simp only [joustref03_Near.j1]
      rw [ih.1, ih.1]
theorem rnear_fin : ∀ c r : Fin 5, ∀ x : Fin 16, decide (c.val = 0 ∨ r.val = 0 ∨ c.val * r.val ≤ x.val ∨ joustref03_Near.l0 60 (x.val : Int) [] 0 (c.val : Int) (r.val : Int) 1 1 0 = some (nearL c.val r.val x.val)) = true := by decide +kernel
theorem rnear_at {c r p w x : Int} (s : Int) {k : Nat} (hk : 60 ≤ k) (h : R c r p w) (hx : 0 ≤ x ∧ x < c * r) : joustref03_Near.f k c r p w s x = some (nearL c.toNat r.toNat x.toNat) := by
  unfold joustref03_Near.f
  rw [(rnear_l s h k).1]
  have hb := cr_bound h
  obtain ⟨⟨h1, h2⟩, ⟨h3, h4⟩, _⟩ := h
  have e := of_decide_eq_true (rnear_fin ⟨c.toNat, by omega⟩ ⟨r.toNat, by omega⟩ ⟨x.toNat, by omega⟩)
  simp only at e
  have e1 : ((c.toNat : Nat) : Int) = c := by omega
  have e2 : ((r.toNat : Nat) : Int) = r := by omega
  have e3 : ((x.toNat : Nat) : Int) = x := by omega
  have e4 : ((c.toNat * r.toNat : Nat) : Int) = c * r := by rw [Int.natCast_mul, e1, e2]
  rcases e with e | e | e | e
  · omega
  · omega
  · omega
  · rw [e1, e2, e3] at e
    exact at_rounds (fun k => (joustref03_Near.mono_l k).1 _ _ _ _ _ _ _ _) hk e
theorem rnear_no {c r p w x : Int} (s : Int) {k : Nat} (hk : 2 ≤ k) (h : R c r p w) (hx : ¬ (0 ≤ x ∧ x < c * r)) : joustref03_Near.f k c r p w s x = some [] := by
  obtain ⟨k, rfl⟩ : ∃ m, k = m + 2 := ⟨k - 2, by omega⟩
  have hb := cr_bound h
  unfold joustref03_Near.f
  simp only [joustref03_Near.l0, joustref03_Near.j1]
  rw [rregions_eq s h, Option.bind_some, if_pos (by omega), ris_eq s x h, Option.bind_some, decide_eq_false hx, if_neg (by decide)]
theorem rnear_none {c r p w : Int} (s x : Int) {k : Nat} (hk : 2 ≤ k) (h : ¬ R c r p w) : joustref03_Near.f k c r p w s x = some [] := by
  obtain ⟨k, rfl⟩ : ∃ m, k = m + 2 := ⟨k - 2, by omega⟩
  unfold joustref03_Near.f
  simp only [joustref03_Near.l0, joustref03_Near.j1]
  rw [rregions_no s h, Option.bind_some, if_neg (by decide), if_neg (by decide)]
theorem cfg_eq (c r p wi s : Int) : ∃ c' r' p' wi', joustplay_Config.f c r p wi s = some (c', r', p', wi', s) ∧ GridP.R c' r' p' wi' := by
  obtain ⟨c', r', p', w', h1, h2⟩ := config_eq c r p wi s
  exact ⟨c', r', p', w', h1, h2.R⟩
theorem awake_eq : joustlaw17_awake.f 100 = some true := by
  unfold joustlaw17_awake.f
  have h : R 1 1 1 1 := by decide
  have e : mark_Of.f 1 1 1 1 0 [⟨0, 5, [true, true, false], [[false], [false], [false]]⟩] = some [7] := by
    show MarkW.ofG 1 1 1 1 0 [(0, 5, [true, true, false], [[false], [false], [false]])] = some [7]
    decide +kernel
  rw [new_eq 0 h, Option.bind_some, e, Option.bind_some, plain_eq _ _ (by decide) (by decide), Option.bind_some, decide_eq_true rfl]
theorem nearL_same : nearL = GridP.nearL := rfl
theorem rnear {c r p w : Int} (s : Int) (h : R c r p w) (x : Int) {k : Nat} (hk : 60 ≤ k) : joustref03_Near.f k c r p w s x = some (nearG c r p w s x) := by
  by_cases hx : 0 ≤ x ∧ x < c * r
  · rw [rnear_at s hk h hx, GridP.nearG_eq s h hx]; rfl
  · rw [rnear_no s (by omega) h hx, GridP.nearG_no s h hx]
theorem rd_at {l : List S44} {j : Nat} (hj : j < l.length) : rd_T44 l (j : Int) = l[j] := by simp [rd_T44, List.getD_eq_getElem?_getD, hj]
theorem rdL_at {l : List (List Bool)} {j : Nat} (hj : j < l.length) : rd_L2 l (j : Int) = l[j] := by simp [rd_L2, List.getD_eq_getElem?_getD, hj]
/-! #### few -/
def fewP (l : List S44) : Prop := l.length ≤ 20 ∧ ∀ x ∈ l, x.f2.length ≤ 60 ∧ x.f3.length ≤ 60
theorem few_rows {l : List S44} (hl : l.length < 4611686018427387904) : ∀ (d k i m : Nat) (hi : i < l.length), (l[i]).f3.length < 4611686018427387904 → m + d = (l[i]).f3.length → d < k → joustlaw17_few.l1 k l (i : Int) (m : Int) = some false ∨ joustlaw17_few.l1 k l (i : Int) (m : Int) = joustlaw17_few.l0 (k - d - 1) l ((i + 1 : Nat) : Int) := by
  intro d
  induction d with
  | zero =>
    intro k i m hi hb hm hk
    obtain ⟨k, rfl⟩ : ∃ q, k = q + 1 := ⟨k - 1, by omega⟩
    refine .inr ?_
    simp only [joustlaw17_few.l1]
    rw [if_pos (by omega), if_pos (by omega), rd_at hi, if_neg (by omega), wr (by omega) (by omega)]
    rfl
  | succ d ih =>
    intro k i m hi hb hm hk
    obtain ⟨k, rfl⟩ : ∃ q, k = q + 1 := ⟨k - 1, by omega⟩
    simp only [joustlaw17_few.l1]
    rw [if_pos (by omega), if_pos (by omega), rd_at hi, if_pos (by omega), if_pos (by omega)]
    by_cases h : ((rd_L2 (l[i]).f3 (m : Int)).length : Int) > 12
    · rw [if_pos h]
      exact .inl rfl
    · rw [if_neg h, wr (by omega) (by omega)]
      have hv := ih k i (m + 1) hi hb (by omega) (by omega)
      have e : ((m : Int) + 1) = ((m + 1 : Nat) : Int) := rfl
      rw [e]
      rcases hv with hv | hv
      · exact .inl hv
      · refine .inr (hv.trans ?_)
        rw [show k + 1 - (d + 1) - 1 = k - d - 1 from by omega]
def most (l : List S44) : Nat := (l.map fun x => x.f3.length + 3).sum + 1
theorem few_eq {l : List S44} (hl : l.length < 4611686018427387904) (hb : ∀ x ∈ l, x.f2.length < 4611686018427387904 ∧ x.f3.length < 4611686018427387904) : ∀ (d k i : Nat), i + d = l.length → most (l.drop i) ≤ k → (∀ j (hj : j < l.length), j < i → (l[j]).f2.length ≤ 60 ∧ (l[j]).f3.length ≤ 60) → ∃ v, joustlaw17_few.l0 k l (i : Int) = some v ∧ (v = true → fewP l) := by
  intro d
  induction d with
  | zero =>
    intro k i hi hk hp
    obtain ⟨k, rfl⟩ : ∃ q, k = q + 1 := ⟨k - 1, by unfold most at hk; omega⟩
    simp only [joustlaw17_few.l0]
    rw [if_neg (by omega)]
    refine ⟨_, rfl, fun h => ⟨by have := of_decide_eq_true h; omega, fun x hx => ?_⟩⟩
    obtain ⟨j, hj, rfl⟩ := List.getElem_of_mem hx
    exact hp j hj (by omega)
  | succ d ih =>
    intro k i hi hk hp
    have hil : i < l.length := by omega
    have hdr : most (l.drop i) = (l[i]).f3.length + 3 + most (l.drop (i + 1)) := by
      unfold most
      rw [List.drop_eq_getElem_cons hil]
      simp only [List.map_cons, List.sum_cons]
      omega
    have hbi := hb _ (List.getElem_mem hil)
    obtain ⟨k, rfl⟩ : ∃ q, k = q + 1 := ⟨k - 1, by omega⟩
    simp only [joustlaw17_few.l0]
    rw [if_pos (by omega), if_pos (by omega), rd_at hil]
    have stop : ∀ b : Bool, b = true → ∃ v, joustlaw17_few.j1 k l (i : Int) b = some v ∧ (v = true → fewP l) := by
      intro b hb9
      obtain ⟨k, rfl⟩ : ∃ q, k = q + 1 := ⟨k - 1, by omega⟩
      refine ⟨false, ?_, fun h => by cases h⟩
      simp only [joustlaw17_few.j1]
      rw [if_pos hb9]
    by_cases h2 : ((l[i]).f2.length : Int) > 60
    · rw [if_pos h2]
      exact stop true rfl
    · rw [if_neg h2]
      by_cases h3 : ((l[i]).f3.length : Int) > 60
      · exact stop _ (decide_eq_true h3)
      · rw [decide_eq_false h3]
        obtain ⟨k, rfl⟩ : ∃ q, k = q + 1 := ⟨k - 1, by omega⟩
        simp only [joustlaw17_few.j1]
        rw [if_neg (by decide)]
        have hv := few_rows hl (l[i]).f3.length k i 0 hil hbi.2 (by omega) (by omega)
        rw [show ((0 : Nat) : Int) = 0 from rfl] at hv
        rcases hv with hv | hv
        · exact ⟨false, hv, fun h => by cases h⟩
        · rw [hv]
          refine ih _ (i + 1) (by omega) (by omega) (fun j hj hji => ?_)
          rcases Nat.lt_succ_iff_lt_or_eq.1 hji with h9 | h9
          · exact hp j hj h9
          · subst h9
            exact ⟨by omega, by omega⟩
end Go.Proofs.Ytmgdpkmmcmglfaa.PMarkOrder
