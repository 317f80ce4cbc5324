/- The printed law GridTells is true for all numbers: which arenas may be, their regions, where any place is, corners, and what is near, as the reference tells it. Condition: each number within its kind. -/
import Derived.Test.YtilfmlaojabloaaPGridTellsz
import Derived.Test.YtilfmlaojabloaaGdsGridTells
import Derived.OpenShut
namespace Go.Proofs.Ytilfmlaojabloaa.PureGridTells
set_option linter.unusedVariables false
open Go Go.RowKit Go.Proofs.Ytilfmlaojabloaa.PGridTells Go.Proofs.Ytilfmlaojabloaa.GdsGridTells Go.Proofs.YtilfmlaojabloaaW.PrintWords Go.Proofs.YtilfmlaojabloaaW.PrintLast
theorem wr {i : Int} (h0 : -9223372036854775808 ≤ i) (h1 : i < 9223372036854775808) : wrap64 i = i := by unfold wrap64; omega
theorem uw (i : Int) : IntKind.u64.wrap i = i % 18446744073709551616 := by simp [IntKind.wrap, IntKind.signed, IntKind.bits]
/-- a number brought below another one, as Go's int(uint(x) % uint(m)) does it -/
theorem umod (x m : Int) (h0 : 1 ≤ m) (h1 : m ≤ 4611686018427387904) : 0 ≤ wrap64 (Int.tmod (IntKind.u64.wrap x) (IntKind.u64.wrap m)) ∧ wrap64 (Int.tmod (IntKind.u64.wrap x) (IntKind.u64.wrap m)) < m := by
  rw [uw, uw]
  have e : m % 18446744073709551616 = m := by omega
  rw [e]
  have hx : 0 ≤ x % 18446744073709551616 := by omega
  have a := Int.tmod_nonneg m hx
  have b := Int.tmod_lt_of_pos (x % 18446744073709551616) (show 0 < m by omega)
  rw [wr (by omega) (by omega)]
  exact ⟨a, b⟩
theorem umod1 (x m : Int) (h0 : 1 ≤ m) (h1 : m ≤ 4611686018427387904) : 0 ≤ wrap64 (Int.tmod (IntKind.u64.wrap x) m) ∧ wrap64 (Int.tmod (IntKind.u64.wrap x) m) < m := by
  have h := umod x m h0 h1
  rw [uw m, show m % 18446744073709551616 = m by omega] at h
  exact h

/-- may an arena be -/
def R (c r p w : Int) : Prop := (1 ≤ c ∧ c ≤ 4) ∧ (1 ≤ r ∧ r ≤ 4) ∧ (1 ≤ p ∧ p ≤ 6) ∧ (1 ≤ w ∧ w ≤ 16)
instance (c r p w : Int) : Decidable (R c r p w) := by unfold R; infer_instance
theorem gwithin_eq (a lo hi : Int) : grid_within.f a lo hi = some (decide (lo ≤ a ∧ a ≤ hi)) := by
  unfold grid_within.f
  by_cases h : lo ≤ a <;> simp [h]
theorem right_eq (c r p w s : Int) : grid_right.f c r p w s = some (decide (R c r p w)) := by
  unfold grid_right.f R
  simp only [gwithin_eq, Option.bind_some]
  by_cases h1 : 1 ≤ c ∧ c ≤ 4 <;> by_cases h2 : 1 ≤ r ∧ r ≤ 4 <;> by_cases h3 : 1 ≤ p ∧ p ≤ 6 <;> by_cases h4 : 1 ≤ w ∧ w ≤ 16 <;> simp [h1, h2, h3, h4]
theorem size_eq {c r p w : Int} (s : Int) (h : R c r p w) : grid_Grid_size.f c r p w s = some (c, r) := by
  unfold grid_Grid_size.f
  rw [right_eq, Option.bind_some, decide_eq_true h, if_pos rfl]
theorem size_no {c r p w : Int} (s : Int) (h : ¬ R c r p w) : grid_Grid_size.f c r p w s = some (0, 0) := by
  unfold grid_Grid_size.f
  rw [right_eq, Option.bind_some, decide_eq_false h, if_neg (by decide)]
theorem cr_bound {c r p w : Int} (h : R c r p w) : 1 ≤ c * r ∧ c * r ≤ 16 := by
  obtain ⟨⟨h1, h2⟩, ⟨h3, h4⟩, _⟩ := h
  have hc : c = 1 ∨ c = 2 ∨ c = 3 ∨ c = 4 := by omega
  rcases hc with rfl | rfl | rfl | rfl <;> omega
theorem regions_eq {c r p w : Int} (s : Int) (h : R c r p w) : grid_Grid_Regions.f c r p w s = some (c * r) := by
  unfold grid_Grid_Regions.f
  have := cr_bound h
  rw [size_eq s h, Option.bind_some, wr (by simp; omega) (by simp; omega)]
theorem regions_no {c r p w : Int} (s : Int) (h : ¬ R c r p w) : grid_Grid_Regions.f c r p w s = some 0 := by
  unfold grid_Grid_Regions.f
  rw [size_no s h, Option.bind_some]; decide +kernel

theorem new_eq {c r p w : Int} (s : Int) (h : R c r p w) : grid_New.f c r p w s = some (c, r, p, w, s, 0) := by
  unfold grid_New.f
  rw [right_eq, Option.bind_some, decide_eq_true h, if_pos rfl]
theorem new_no {c r p w : Int} (s : Int) (h : ¬ R c r p w) : grid_New.f c r p w s = some (0, 0, 0, 0, 0, 10) := by
  unfold grid_New.f
  rw [right_eq, Option.bind_some, decide_eq_false h, if_neg (by decide)]

theorem is_eq {c r p w : Int} (s x : Int) (h : R c r p w) : grid_Grid_is.f c r p w s x = some (decide (0 ≤ x ∧ x < c * r)) := by
  unfold grid_Grid_is.f
  have := cr_bound h
  rw [regions_eq s h, Option.bind_some, wr (by omega) (by omega), gwithin_eq, Option.bind_some]
  congr 1
  rw [decide_eq_decide]
  omega
theorem is_no {c r p w : Int} (s x : Int) (h : ¬ R c r p w) : grid_Grid_is.f c r p w s x = some false := by
  unfold grid_Grid_is.f
  rw [regions_no s h, Option.bind_some, wr (by omega) (by omega), gwithin_eq, Option.bind_some]
  congr 1
  rw [decide_eq_false_iff_not]
  omega

/-- the regions near one, of c columns and r rows -/
def nearL (c r x : Nat) : List Int := ((List.range (c * r)).filter fun n => decide (n % c ≤ x % c + 1 ∧ x % c ≤ n % c + 1 ∧ n / c ≤ x / c + 1 ∧ x / c ≤ n / c + 1)).map fun n => ((n : Nat) : Int)
theorem near_l : ∀ k, (∀ x1 l x6 c r p w s, grid_Grid_Near.l0 k x1 l x6 c r p w s = grid_Grid_Near.l0 k x1 l x6 c r 1 1 0) ∧ (∀ x1 l x6 x7 c r p w s, grid_Grid_Near.l1 k x1 l x6 x7 c r p w s = grid_Grid_Near.l1 k x1 l x6 x7 c r 1 1 0) := by
  intro k
  induction k with
  | zero => exact ⟨fun _ _ _ _ _ _ _ _ => rfl, fun _ _ _ _ _ _ _ _ _ => rfl⟩
  | succ k ih =>
    refine ⟨fun x1 l x6 c r p w s => ?_, fun x1 l x6 x7 c r p w s => ?_⟩
    · simp only [grid_Grid_Near.l0]
      rw [ih.2 x1 l x6 _ c r p w s]
    · simp only [grid_Grid_Near.l1]
      rw [ih.2 x1 _ x6 _ c r p w s, ih.1 x1 l _ c r p w s]
theorem near_fin : ∀ c r : Fin 5, ∀ x : Fin 16, decide (c.val = 0 ∨ r.val = 0 ∨ c.val * r.val ≤ x.val ∨ grid_Grid_Near.l0 60 (x.val : Int) [] (mx (wrap64 ((wrap64 (Int.tdiv (x.val : Int) (c.val : Int))) - 1)) 0) (c.val : Int) (r.val : Int) 1 1 0 = some (nearL c.val r.val x.val)) = true := by decide +kernel
theorem near_at {c r p w x : Int} (s : Int) {k : Nat} (hk : 60 ≤ k) (h : R c r p w) (hx : 0 ≤ x ∧ x < c * r) : grid_Grid_Near.f k c r p w s x = some (nearL c.toNat r.toNat x.toNat) := by
  unfold grid_Grid_Near.f
  rw [is_eq s x h, Option.bind_some, decide_eq_true hx, if_pos rfl, if_neg (by have := h.1; omega), (near_l k).1]
  have hb := cr_bound h
  obtain ⟨⟨h1, h2⟩, ⟨h3, h4⟩, _⟩ := h
  have e := of_decide_eq_true (near_fin ⟨c.toNat, by omega⟩ ⟨r.toNat, by omega⟩ ⟨x.toNat, by omega⟩)
  simp only at e
  have e1 : ((c.toNat : Nat) : Int) = c := by omega
  have e2 : ((r.toNat : Nat) : Int) = r := by omega
  have e3 : ((x.toNat : Nat) : Int) = x := by omega
  have e4 : ((c.toNat * r.toNat : Nat) : Int) = c * r := by rw [Int.natCast_mul, e1, e2]
  rcases e with e | e | e | e
  · omega
  · omega
  · omega
  · rw [e1, e2, e3] at e
    exact at_rounds (fun k => (grid_Grid_Near.mono_l k).1 _ _ _ _ _ _ _ _) hk e
theorem near_no {c r p w x : Int} (s : Int) (k : Nat) (h : R c r p w) (hx : ¬ (0 ≤ x ∧ x < c * r)) : grid_Grid_Near.f k c r p w s x = some [] := by
  unfold grid_Grid_Near.f
  rw [is_eq s x h, Option.bind_some, decide_eq_false hx, if_neg (by decide)]
theorem near_none {c r p w : Int} (s x : Int) (k : Nat) (h : ¬ R c r p w) : grid_Grid_Near.f k c r p w s x = some [] := by
  unfold grid_Grid_Near.f
  rw [is_no s x h, Option.bind_some, if_neg (by decide)]
theorem nearL_len : ∀ c r : Fin 5, ∀ x : Fin 16, (nearL c.val r.val x.val).length ≤ 9 := by decide +kernel

theorem width_eq {c r p w : Int} (s : Int) (h : R c r p w) : grid_Grid_Width.f c r p w s = some (c * 1024) := by
  unfold grid_Grid_Width.f
  have h1 := h.1
  rw [size_eq s h, Option.bind_some, wr (by simp; omega) (by simp; omega)]
theorem width_no {c r p w : Int} (s : Int) (h : ¬ R c r p w) : grid_Grid_Width.f c r p w s = some 0 := by
  unfold grid_Grid_Width.f
  rw [size_no s h, Option.bind_some]; decide +kernel
theorem height_eq {c r p w : Int} (s : Int) (h : R c r p w) : grid_Grid_Height.f c r p w s = some (r * 1024) := by
  unfold grid_Grid_Height.f
  have h1 := h.2.1
  rw [size_eq s h, Option.bind_some, wr (by simp; omega) (by simp; omega)]
theorem height_no {c r p w : Int} (s : Int) (h : ¬ R c r p w) : grid_Grid_Height.f c r p w s = some 0 := by
  unfold grid_Grid_Height.f
  rw [size_no s h, Option.bind_some]; decide +kernel
theorem inside_eq {c r p w : Int} (s x y : Int) (h : R c r p w) : grid_Grid_Inside.f c r p w s x y = some (decide ((0 ≤ x ∧ x < c * 1024) ∧ (0 ≤ y ∧ y < r * 1024))) := by
  unfold grid_Grid_Inside.f
  have h1 := h.1
  have h2 := h.2.1
  rw [width_eq s h, Option.bind_some, wr (by omega) (by omega), gwithin_eq, Option.bind_some]
  by_cases hx : 0 ≤ x ∧ x < c * 1024
  · rw [decide_eq_true (show 0 ≤ x ∧ x ≤ c * 1024 - 1 by omega), if_pos rfl, height_eq s h, Option.bind_some, wr (by omega) (by omega), gwithin_eq, Option.bind_some]
    congr 1
    rw [decide_eq_decide]
    omega
  · rw [decide_eq_false (show ¬ (0 ≤ x ∧ x ≤ c * 1024 - 1) by omega), if_neg (by decide)]
    congr 1
    symm
    rw [decide_eq_false_iff_not]
    omega
theorem inside_no {c r p w : Int} (s x y : Int) (h : ¬ R c r p w) : grid_Grid_Inside.f c r p w s x y = some false := by
  unfold grid_Grid_Inside.f
  rw [width_no s h, Option.bind_some, wr (by omega) (by omega), gwithin_eq, Option.bind_some, decide_eq_false (by omega), if_neg (by decide)]
/-- a number brought within bounds -/
def clamp (v lo hi : Int) : Int := if v < lo then lo else if v > hi then hi else v
theorem clamp_in (v lo hi : Int) (h : lo ≤ hi) : lo ≤ clamp v lo hi ∧ clamp v lo hi ≤ hi := by unfold clamp; split <;> (try split) <;> omega
theorem fclamp_eq (v lo hi : Int) : fixed_Clamp.f v lo hi = some (clamp v lo hi) := by
  unfold fixed_Clamp.f clamp
  split <;> (try split) <;> rfl
/-- the region of a place -/
def ofV (c r x y : Int) : Int := clamp y 0 (r * 1024 - 1) / 1024 * c + clamp x 0 (c * 1024 - 1) / 1024
theorem ofV_in {c r : Int} (x y : Int) (h1 : 1 ≤ c ∧ c ≤ 4) (h2 : 1 ≤ r ∧ r ≤ 4) : 0 ≤ clamp y 0 (r * 1024 - 1) / 1024 ∧ clamp y 0 (r * 1024 - 1) / 1024 < r ∧ 0 ≤ clamp x 0 (c * 1024 - 1) / 1024 ∧ clamp x 0 (c * 1024 - 1) / 1024 < c := by
  have a := clamp_in y 0 (r * 1024 - 1) (by omega)
  have b := clamp_in x 0 (c * 1024 - 1) (by omega)
  omega
theorem mul4 {q c : Int} (h1 : 0 ≤ q ∧ q < 4) (h2 : 1 ≤ c ∧ c ≤ 4) : 0 ≤ q * c ∧ q * c ≤ 12 := by
  have : c = 1 ∨ c = 2 ∨ c = 3 ∨ c = 4 := by omega
  rcases this with rfl | rfl | rfl | rfl <;> omega
theorem of_form {c r : Int} (x y : Int) (h1 : 1 ≤ c ∧ c ≤ 4) (h2 : 1 ≤ r ∧ r ≤ 4) : wrap64 ((wrap64 ((wrap64 (Int.tdiv (clamp y 0 (r * 1024 - 1)) 1024)) * c)) + (wrap64 (Int.tdiv (clamp x 0 (c * 1024 - 1)) 1024))) = ofV c r x y := by
  have a := clamp_in y 0 (r * 1024 - 1) (by omega)
  have b := clamp_in x 0 (c * 1024 - 1) (by omega)
  have i := ofV_in x y h1 h2
  have e1 := Int.tdiv_eq_ediv_of_nonneg (b := 1024) a.1
  have e2 := Int.tdiv_eq_ediv_of_nonneg (b := 1024) b.1
  have m := mul4 (q := clamp y 0 (r * 1024 - 1) / 1024) (c := c) (by omega) h1
  rw [e1, e2, wr (show _ ≤ clamp y 0 (r * 1024 - 1) / 1024 by omega) (by omega), wr (show _ ≤ clamp x 0 (c * 1024 - 1) / 1024 by omega) (by omega), wr (show _ ≤ clamp y 0 (r * 1024 - 1) / 1024 * c by omega) (by omega), wr (by omega) (by omega)]
  rfl
theorem of_eq {c r p w : Int} (s x y : Int) (h : R c r p w) : grid_Grid_Of.f c r p w s x y = some (ofV c r x y) := by
  unfold grid_Grid_Of.f
  have h1 := h.1
  have h2 := h.2.1
  rw [size_eq s h, Option.bind_some]
  simp only
  rw [if_neg (by omega), width_eq s h, Option.bind_some, wr (show _ ≤ c * 1024 - 1 by omega) (by omega), fclamp_eq, Option.bind_some, height_eq s h, Option.bind_some, wr (show _ ≤ r * 1024 - 1 by omega) (by omega), fclamp_eq, Option.bind_some, of_form x y h1 h2]
theorem of_no {c r p w : Int} (s x y : Int) (h : ¬ R c r p w) : grid_Grid_Of.f c r p w s x y = some 0 := by
  unfold grid_Grid_Of.f
  rw [size_no s h, Option.bind_some, if_pos rfl]

theorem tmod_r {x c : Int} (h0 : 0 ≤ x) (h1 : 1 ≤ c) : Int.tmod x c = x % c ∧ Int.tdiv x c = x / c := ⟨Int.tmod_eq_emod_of_nonneg h0, Int.tdiv_eq_ediv_of_nonneg h0⟩
theorem divmod {x c r : Int} (h : 0 ≤ x ∧ x < c * r) (h1 : 1 ≤ c ∧ c ≤ 4) (h2 : 1 ≤ r ∧ r ≤ 4) : 0 ≤ x % c ∧ x % c < c ∧ 0 ≤ x / c ∧ x / c < r ∧ x / c * c + x % c = x := by
  have hc : c = 1 ∨ c = 2 ∨ c = 3 ∨ c = 4 := by omega
  rcases hc with rfl | rfl | rfl | rfl <;> omega
theorem corner_eq {c r p w x : Int} (s : Int) (h : R c r p w) (hx : 0 ≤ x ∧ x < c * r) : grid_Grid_Corner.f c r p w s x = some (x % c * 1024, x / c * 1024) := by
  unfold grid_Grid_Corner.f
  have h1 := h.1
  have h2 := h.2.1
  have d := divmod hx h1 h2
  rw [is_eq s x h, Option.bind_some, decide_eq_true hx, if_pos rfl, if_neg (by omega), (tmod_r hx.1 h1.1).1, (tmod_r hx.1 h1.1).2, wr (show _ ≤ x % c * 1024 by omega) (by omega), wr (show _ ≤ x / c by omega) (by omega), wr (show _ ≤ x / c * 1024 by omega) (by omega)]
theorem corner_out {c r p w x : Int} (s : Int) (h : R c r p w) (hx : ¬ (0 ≤ x ∧ x < c * r)) : grid_Grid_Corner.f c r p w s x = some (0, 0) := by
  unfold grid_Grid_Corner.f
  rw [is_eq s x h, Option.bind_some, decide_eq_false hx, if_neg (by decide)]
theorem corner_no {c r p w : Int} (s x : Int) (h : ¬ R c r p w) : grid_Grid_Corner.f c r p w s x = some (0, 0) := by
  unfold grid_Grid_Corner.f
  rw [is_no s x h, Option.bind_some, if_neg (by decide)]

theorem same_loop (xs ys : List Int) (hl : xs.length = ys.length) (hb : xs.length < 4611686018427387904) : ∀ (d k i : Nat), i + d = xs.length → d < k → jousthelp_Same_int.l0 k xs ys (i : Int) = some (decide (xs.drop i = ys.drop i)) := by
  intro d
  induction d with
  | zero =>
    intro k i hi hk
    obtain ⟨k, rfl⟩ : ∃ m, k = m + 1 := ⟨k - 1, by omega⟩
    simp only [jousthelp_Same_int.l0]
    rw [if_neg (by omega), List.drop_of_length_le (by omega), List.drop_of_length_le (by omega), decide_eq_true rfl]
  | succ d ih =>
    intro k i hi hk
    obtain ⟨k, rfl⟩ : ∃ m, k = m + 1 := ⟨k - 1, by omega⟩
    simp only [jousthelp_Same_int.l0]
    have h1 : i < xs.length := by omega
    have h2 : i < ys.length := by omega
    rw [if_pos (by omega), if_pos (by omega), if_pos (by omega), wr (by omega) (by omega)]
    have e1 : rd xs (i : Int) = xs[i] := by simp [rd, List.getD_eq_getElem?_getD, h1]
    have e2 : rd ys (i : Int) = ys[i] := by simp [rd, List.getD_eq_getElem?_getD, h2]
    have hi' := ih k (i + 1) (by omega) (by omega)
    unfold jousthelp_Plain_int_1.f
    rw [Option.bind_some, e1, e2, List.drop_eq_getElem_cons h1, List.drop_eq_getElem_cons h2]
    by_cases e : xs[i] = ys[i]
    · rw [if_pos (by simpa using e)]
      have : ((i : Int) + 1) = ((i + 1 : Nat) : Int) := rfl
      rw [this, hi']
      congr 1
      rw [decide_eq_decide, List.cons.injEq]
      exact ⟨fun h => ⟨e, h⟩, fun h => h.2⟩
    · rw [if_neg (by simpa using e), decide_eq_false (fun h => e (List.cons.inj h).1)]
theorem plain_eq (xs ys : List Int) (hb : xs.length < 4611686018427387904) {k : Nat} (hk : xs.length < k) : jousthelp_Plain_int.f k xs ys = some (decide (xs = ys)) := by
  unfold jousthelp_Plain_int.f jousthelp_Same_int.f
  by_cases hl : xs.length = ys.length
  · rw [if_pos (by omega), show (0 : Int) = ((0 : Nat) : Int) from rfl, same_loop xs ys hl hb xs.length k 0 (by omega) hk]
    rfl
  · rw [if_neg (by omega), Option.bind_some, decide_eq_false (fun e => hl (by rw [e]))]

theorem rright_eq (c r p w s : Int) : joustref03_Right.f c r p w s = some (decide (R c r p w)) := by
  unfold joustref03_Right.f R
  by_cases h1 : 1 ≤ c <;> by_cases h2 : c ≤ 4 <;> simp [h1, h2] <;> by_cases h3 : 1 ≤ r <;> by_cases h4 : r ≤ 4 <;> simp [h3, h4] <;> by_cases h5 : 1 ≤ p <;> by_cases h6 : p ≤ 6 <;> simp [h5, h6] <;> by_cases h7 : 1 ≤ w <;> simp [h7]

theorem rregions_eq {c r p w : Int} (s : Int) (h : R c r p w) : joustref03_Regions.f c r p w s = some (c * r) := by
  unfold joustref03_Regions.f
  have := cr_bound h
  rw [rright_eq, Option.bind_some, decide_eq_true h, if_pos rfl, wr (by omega) (by omega)]
theorem rregions_no {c r p w : Int} (s : Int) (h : ¬ R c r p w) : joustref03_Regions.f c r p w s = some 0 := by
  unfold joustref03_Regions.f
  rw [rright_eq, Option.bind_some, decide_eq_false h, if_neg (by decide)]
theorem ris_eq {c r p w : Int} (s x : Int) (h : R c r p w) : joustref03_Is.f c r p w s x = some (decide (0 ≤ x ∧ x < c * r)) := by
  unfold joustref03_Is.f
  by_cases hx : x ≥ 0
  · rw [if_pos hx, rregions_eq s h, Option.bind_some]
    congr 1
    rw [decide_eq_decide]
    omega
  · rw [if_neg hx]
    congr 1
    symm
    rw [decide_eq_false_iff_not]
    omega
theorem ris_no {c r p w : Int} (s x : Int) (h : ¬ R c r p w) : joustref03_Is.f c r p w s x = some false := by
  unfold joustref03_Is.f
  by_cases hx : x ≥ 0
  · rw [if_pos hx, rregions_no s h, Option.bind_some, decide_eq_false (by omega)]
  · rw [if_neg hx]

theorem rcorner_eq {c r p w x : Int} (s : Int) (h : R c r p w) (hx : 0 ≤ x ∧ x < c * r) : joustref03_Corner.f c r p w s x = some (x % c * 1024, x / c * 1024) := by
  unfold joustref03_Corner.f
  have h1 := h.1
  have h2 := h.2.1
  have d := divmod hx h1 h2
  rw [ris_eq s x h, Option.bind_some, decide_eq_true hx, if_pos rfl, if_neg (by omega), (tmod_r hx.1 h1.1).1, (tmod_r hx.1 h1.1).2, wr (show _ ≤ x % c * 1024 by omega) (by omega), wr (show _ ≤ x / c by omega) (by omega), wr (show _ ≤ x / c * 1024 by omega) (by omega)]
theorem rcorner_out {c r p w x : Int} (s : Int) (h : R c r p w) (hx : ¬ (0 ≤ x ∧ x < c * r)) : joustref03_Corner.f c r p w s x = some (0, 0) := by
  unfold joustref03_Corner.f
  rw [ris_eq s x h, Option.bind_some, decide_eq_false hx, if_neg (by decide)]
theorem rcorner_no {c r p w : Int} (s x : Int) (h : ¬ R c r p w) : joustref03_Corner.f c r p w s x = some (0, 0) := by
  unfold joustref03_Corner.f
  rw [ris_no s x h, Option.bind_some, if_neg (by decide)]

theorem rinside_eq {c r p w : Int} (s x y : Int) (h : R c r p w) : joustref03_Inside.f c r p w s x y = some (decide ((0 ≤ x ∧ x < c * 1024) ∧ (0 ≤ y ∧ y < r * 1024))) := by
  unfold joustref03_Inside.f
  have h1 := h.1
  have h2 := h.2.1
  rw [rright_eq, Option.bind_some, decide_eq_true h, if_pos rfl, wr (by omega) (by omega), wr (by omega) (by omega)]
  by_cases a : x ≥ 0
  · rw [if_pos a]
    by_cases b : x < c * 1024
    · rw [if_pos b]
      by_cases d : y ≥ 0
      · rw [if_pos d]
        congr 1
        rw [decide_eq_decide]
        omega
      · rw [if_neg d, decide_eq_false (by omega)]
    · rw [if_neg b, decide_eq_false (by omega)]
  · rw [if_neg a, decide_eq_false (by omega)]
theorem rinside_no {c r p w : Int} (s x y : Int) (h : ¬ R c r p w) : joustref03_Inside.f c r p w s x y = some false := by
  unfold joustref03_Inside.f
  rw [rright_eq, Option.bind_some, decide_eq_false h, if_neg (by decide)]
theorem rclamp_eq (v lo hi : Int) : joustref01_Clamp.f v lo hi = some (clamp v lo hi) := by
  unfold joustref01_Clamp.f clamp
  split <;> (try split) <;> rfl
theorem rof_eq {c r p w : Int} (s x y : Int) (h : R c r p w) : joustref03_Of.f c r p w s x y = some (ofV c r x y) := by
  unfold joustref03_Of.f
  have h1 := h.1
  have h2 := h.2.1
  rw [rright_eq, Option.bind_some, decide_eq_true h, if_pos rfl, wr (show _ ≤ c * 1024 by omega) (by omega), wr (show _ ≤ c * 1024 - 1 by omega) (by omega), rclamp_eq, Option.bind_some, wr (show _ ≤ r * 1024 by omega) (by omega), wr (show _ ≤ r * 1024 - 1 by omega) (by omega), rclamp_eq, Option.bind_some, of_form x y h1 h2]
theorem rof_no {c r p w : Int} (s x y : Int) (h : ¬ R c r p w) : joustref03_Of.f c r p w s x y = some 0 := by
  unfold joustref03_Of.f
  rw [rright_eq, Option.bind_some, decide_eq_false h, if_neg (by decide)]

theorem R.plain {c r p w : Int} (h : R c r p w) : R c r 1 1 := ⟨h.1, h.2.1, by decide, by decide⟩
theorem rnear_l {c r p w : Int} (s : Int) (h : R c r p w) : ∀ k, (∀ x1 l x6, joustref03_Near.l0 k x1 l x6 c r p w s = joustref03_Near.l0 k x1 l x6 c r 1 1 0) ∧ (∀ x1 l x6 x7, joustref03_Near.j1 k x1 l x6 x7 c r p w s = joustref03_Near.j1 k x1 l x6 x7 c r 1 1 0) := by
  intro k
  induction k with
  | zero => exact ⟨fun _ _ _ => rfl, fun _ _ _ _ => rfl⟩
  | succ k ih =>
    refine ⟨fun x1 l x6 => ?_, fun x1 l x6 x7 => ?_⟩
    · simp only [joustref03_Near.l0]
      rw [rregions_eq s h, rregions_eq 0 h.plain, Option.bind_some, Option.bind_some, ris_eq s x1 h, ris_eq 0 x1 h.plain, Option.bind_some, Option.bind_some, ih.2, ih.2]
    · simp only [joustref03_Near.j1]
      rw [ih.1, ih.1]
theorem rnear_fin : ∀ c r : Fin 5, ∀ x : Fin 16, decide (c.val = 0 ∨ r.val = 0 ∨ c.val * r.val ≤ x.val ∨ joustref03_Near.l0 60 (x.val : Int) [] 0 (c.val : Int) (r.val : Int) 1 1 0 = some (nearL c.val r.val x.val)) = true := by decide +kernel
theorem rnear_at {c r p w x : Int} (s : Int) {k : Nat} (hk : 60 ≤ k) (h : R c r p w) (hx : 0 ≤ x ∧ x < c * r) : joustref03_Near.f k c r p w s x = some (nearL c.toNat r.toNat x.toNat) := by
  unfold joustref03_Near.f
  rw [(rnear_l s h k).1]
  have hb := cr_bound h
  obtain ⟨⟨h1, h2⟩, ⟨h3, h4⟩, _⟩ := h
  have e := of_decide_eq_true (rnear_fin ⟨c.toNat, by omega⟩ ⟨r.toNat, by omega⟩ ⟨x.toNat, by omega⟩)
  simp only at e
  have e1 : ((c.toNat : Nat) : Int) = c := by omega
  have e2 : ((r.toNat : Nat) : Int) = r := by omega
  have e3 : ((x.toNat : Nat) : Int) = x := by omega
  have e4 : ((c.toNat * r.toNat : Nat) : Int) = c * r := by rw [Int.natCast_mul, e1, e2]
  rcases e with e | e | e | e
  · omega
  · omega
  · omega
  · rw [e1, e2, e3] at e
    exact at_rounds (fun k => (joustref03_Near.mono_l k).1 _ _ _ _ _ _ _ _) hk e
theorem rnear_no {c r p w x : Int} (s : Int) {k : Nat} (hk : 2 ≤ k) (h : R c r p w) (hx : ¬ (0 ≤ x ∧ x < c * r)) : joustref03_Near.f k c r p w s x = some [] := by
  obtain ⟨k, rfl⟩ : ∃ m, k = m + 2 := ⟨k - 2, by omega⟩
  have hb := cr_bound h
  unfold joustref03_Near.f
  simp only [joustref03_Near.l0, joustref03_Near.j1]
  rw [rregions_eq s h, Option.bind_some, if_pos (by omega), ris_eq s x h, Option.bind_some, decide_eq_false hx, if_neg (by decide)]
theorem rnear_none {c r p w : Int} (s x : Int) {k : Nat} (hk : 2 ≤ k) (h : ¬ R c r p w) : joustref03_Near.f k c r p w s x = some [] := by
  obtain ⟨k, rfl⟩ : ∃ m, k = m + 2 := ⟨k - 2, by omega⟩
  unfold joustref03_Near.f
  simp only [joustref03_Near.l0, joustref03_Near.j1]
  rw [rregions_no s h, Option.bind_some, if_neg (by decide), if_neg (by decide)]

theorem awake_len : (nearL (3 : Int).toNat (3 : Int).toNat (0 : Int).toNat).length = 4 := by decide +kernel
theorem awake_near : nearL (3 : Int).toNat (3 : Int).toNat (0 : Int).toNat = [0, 1, 3, 4] := by decide +kernel
theorem awake_eq {k : Nat} (hk : 60 ≤ k) : joustlaw03_awake.f k = some true := by
  unfold joustlaw03_awake.f
  have h : R 3 3 1 1 := by decide
  rw [new_eq 0 h, Option.bind_some, if_pos rfl, regions_eq 0 h, Option.bind_some, if_pos (by decide), near_at 0 hk h (by decide), Option.bind_some, plain_eq _ _ (by decide) (by rw [awake_len]; omega), Option.bind_some, awake_near, decide_eq_true rfl]

theorem GridTells (a0 : (Int × (Int × (Int × (Int × Int))))) (a1 : Int) (a2 : Int) (a3 : Int) (_ : G0 a0) (_ : G1 a1) (_ : G2 a2) (_ : G3 a3) : ∃ k, joustlaw03_GridTells.f k a0.1 a0.2.1 a0.2.2.1 a0.2.2.2.1 a0.2.2.2.2 a1 a2 a3 = some true := by
  obtain ⟨c, r, p, w, s⟩ := a0
  refine ⟨101, ?_⟩
  unfold joustlaw03_GridTells.f
  simp only
  by_cases h : R c r p w
  · have hb := cr_bound h
    have h1 := h.1
    have h2 := h.2.1
    rw [new_eq s h, Option.bind_some]
    simp only
    have key : ∀ (q1 q2 : Int) (l : List Int), l.length ≤ 9 → grid_Grid_Near.f 100 c r p w s a3 = some l → joustref03_Near.f 100 c r p w s a3 = some l → joustlaw03_GridTells.j0 101 a1 a2 a3 0 q1 q2 q1 q2 0 (wrap64 (c * 1024)) (wrap64 (r * 1024)) c r p w s c r p w s = some true := by
      intro q1 q2 l hl e1 e2
      simp only [joustlaw03_GridTells.j0]
      rw [awake_eq (by decide), Option.bind_some, if_pos rfl, if_pos trivial, regions_eq s h, Option.bind_some, rregions_eq s h, Option.bind_some, if_pos rfl, width_eq s h, Option.bind_some, if_pos (by rw [wr (by omega) (by omega)]), height_eq s h, Option.bind_some, if_pos (by rw [wr (by omega) (by omega)]), inside_eq s _ _ h, Option.bind_some, rinside_eq s _ _ h, Option.bind_some, if_pos (by simp), of_eq s _ _ h, Option.bind_some, rof_eq s _ _ h, Option.bind_some, if_pos rfl, if_pos trivial, if_pos trivial, e1, Option.bind_some, e2, Option.bind_some, plain_eq _ _ (by omega) (by omega), Option.bind_some, decide_eq_true rfl]
    by_cases hx : 0 ≤ a3 ∧ a3 < c * r
    · rw [corner_eq s h hx, Option.bind_some, rcorner_eq s h hx, Option.bind_some, rright_eq, Option.bind_some, decide_eq_true h, if_pos rfl]
      have l1 := nearL_len ⟨c.toNat, by omega⟩ ⟨r.toNat, by omega⟩ ⟨a3.toNat, by omega⟩
      exact key _ _ _ l1 (near_at s (by decide) h hx) (rnear_at s (by decide) h hx)
    · rw [corner_out s h hx, Option.bind_some, rcorner_out s h hx, Option.bind_some, rright_eq, Option.bind_some, decide_eq_true h, if_pos rfl]
      exact key _ _ _ (by decide) (near_no s _ h hx) (rnear_no s (by decide) h hx)
  · have z : ¬ R 0 0 0 0 := by decide
    rw [new_no s h, Option.bind_some]
    simp only
    rw [corner_no 0 a3 z, Option.bind_some, rcorner_no s a3 h, Option.bind_some, rright_eq, Option.bind_some, decide_eq_false h, if_neg (by decide)]
    simp only [joustlaw03_GridTells.j0]
    rw [awake_eq (by decide), Option.bind_some, if_pos rfl, if_pos trivial, regions_no 0 z, Option.bind_some, rregions_no s h, Option.bind_some, if_pos rfl, width_no 0 z, Option.bind_some, if_pos rfl, height_no 0 z, Option.bind_some, if_pos rfl, inside_no 0 _ _ z, Option.bind_some, rinside_no s _ _ h, Option.bind_some, if_pos (by decide), of_no 0 _ _ z, Option.bind_some, rof_no s _ _ h, Option.bind_some, if_pos rfl, if_pos trivial, if_pos trivial, near_none 0 _ _ z, Option.bind_some, rnear_none s _ (by decide) h, Option.bind_some, plain_eq _ _ (by decide) (by decide), Option.bind_some, decide_eq_true rfl]
end Go.Proofs.Ytilfmlaojabloaa.PureGridTells
