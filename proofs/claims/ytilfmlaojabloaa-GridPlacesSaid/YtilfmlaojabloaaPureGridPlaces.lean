/- The printed law GridPlaces is true for all numbers: each place is in one region, from its corner on; who goes less than a region's size from it comes to a near one. Condition: each number within its kind. -/
import Derived.Test.YtilfmlaojabloaaPGridPlacesz
import Derived.Test.YtilfmlaojabloaaGdsGridPlaces
import Derived.OpenShut
namespace Go.Proofs.Ytilfmlaojabloaa.PureGridPlaces
set_option linter.unusedVariables false
open Go Go.RowKit Go.Proofs.Ytilfmlaojabloaa.PGridPlaces Go.Proofs.Ytilfmlaojabloaa.GdsGridPlaces Go.Proofs.YtilfmlaojabloaaW.PrintWords Go.Proofs.YtilfmlaojabloaaW.PrintLast
theorem wr {i : Int} (h0 : -9223372036854775808 ≤ i) (h1 : i < 9223372036854775808) : wrap64 i = i := by unfold wrap64; omega
theorem uw (i : Int) : IntKind.u64.wrap i = i % 18446744073709551616 := by simp [IntKind.wrap, IntKind.signed, IntKind.bits]
/-- a number brought below another one, as Go's int(uint(x) % uint(m)) does it -/
theorem umod (x m : Int) (h0 : 1 ≤ m) (h1 : m ≤ 4611686018427387904) : 0 ≤ wrap64 (Int.tmod (IntKind.u64.wrap x) (IntKind.u64.wrap m)) ∧ wrap64 (Int.tmod (IntKind.u64.wrap x) (IntKind.u64.wrap m)) < m := by
  rw [uw, uw]
  have e : m % 18446744073709551616 = m := by omega
  rw [e]
  have hx : 0 ≤ x % 18446744073709551616 := by omega
  have a := Int.tmod_nonneg m hx
  have b := Int.tmod_lt_of_pos (x % 18446744073709551616) (show 0 < m by omega)
  rw [wr (by omega) (by omega)]
  exact ⟨a, b⟩
theorem umod1 (x m : Int) (h0 : 1 ≤ m) (h1 : m ≤ 4611686018427387904) : 0 ≤ wrap64 (Int.tmod (IntKind.u64.wrap x) m) ∧ wrap64 (Int.tmod (IntKind.u64.wrap x) m) < m := by
  have h := umod x m h0 h1
  rw [uw m, show m % 18446744073709551616 = m by omega] at h
  exact h

/-- may an arena be -/
def R (c r p w : Int) : Prop := (1 ≤ c ∧ c ≤ 4) ∧ (1 ≤ r ∧ r ≤ 4) ∧ (1 ≤ p ∧ p ≤ 6) ∧ (1 ≤ w ∧ w ≤ 16)
instance (c r p w : Int) : Decidable (R c r p w) := by unfold R; infer_instance
theorem gwithin_eq (a lo hi : Int) : grid_within.f a lo hi = some (decide (lo ≤ a ∧ a ≤ hi)) := by
  unfold grid_within.f
  by_cases h : lo ≤ a <;> simp [h]
theorem right_eq (c r p w s : Int) : grid_right.f c r p w s = some (decide (R c r p w)) := by
  unfold grid_right.f R
  simp only [gwithin_eq, Option.bind_some]
  by_cases h1 : 1 ≤ c ∧ c ≤ 4 <;> by_cases h2 : 1 ≤ r ∧ r ≤ 4 <;> by_cases h3 : 1 ≤ p ∧ p ≤ 6 <;> by_cases h4 : 1 ≤ w ∧ w ≤ 16 <;> simp [h1, h2, h3, h4]
theorem size_eq {c r p w : Int} (s : Int) (h : R c r p w) : grid_Grid_size.f c r p w s = some (c, r) := by
  unfold grid_Grid_size.f
  rw [right_eq, Option.bind_some, decide_eq_true h, if_pos rfl]
theorem size_no {c r p w : Int} (s : Int) (h : ¬ R c r p w) : grid_Grid_size.f c r p w s = some (0, 0) := by
  unfold grid_Grid_size.f
  rw [right_eq, Option.bind_some, decide_eq_false h, if_neg (by decide)]
theorem cr_bound {c r p w : Int} (h : R c r p w) : 1 ≤ c * r ∧ c * r ≤ 16 := by
  obtain ⟨⟨h1, h2⟩, ⟨h3, h4⟩, _⟩ := h
  have hc : c = 1 ∨ c = 2 ∨ c = 3 ∨ c = 4 := by omega
  rcases hc with rfl | rfl | rfl | rfl <;> omega
theorem regions_eq {c r p w : Int} (s : Int) (h : R c r p w) : grid_Grid_Regions.f c r p w s = some (c * r) := by
  unfold grid_Grid_Regions.f
  have := cr_bound h
  rw [size_eq s h, Option.bind_some, wr (by simp; omega) (by simp; omega)]
theorem regions_no {c r p w : Int} (s : Int) (h : ¬ R c r p w) : grid_Grid_Regions.f c r p w s = some 0 := by
  unfold grid_Grid_Regions.f
  rw [size_no s h, Option.bind_some]; decide +kernel

theorem new_eq {c r p w : Int} (s : Int) (h : R c r p w) : grid_New.f c r p w s = some (c, r, p, w, s, 0) := by
  unfold grid_New.f
  rw [right_eq, Option.bind_some, decide_eq_true h, if_pos rfl]
theorem new_no {c r p w : Int} (s : Int) (h : ¬ R c r p w) : grid_New.f c r p w s = some (0, 0, 0, 0, 0, 10) := by
  unfold grid_New.f
  rw [right_eq, Option.bind_some, decide_eq_false h, if_neg (by decide)]

theorem is_eq {c r p w : Int} (s x : Int) (h : R c r p w) : grid_Grid_is.f c r p w s x = some (decide (0 ≤ x ∧ x < c * r)) := by
  unfold grid_Grid_is.f
  have := cr_bound h
  rw [regions_eq s h, Option.bind_some, wr (by omega) (by omega), gwithin_eq, Option.bind_some]
  congr 1
  rw [decide_eq_decide]
  omega
theorem is_no {c r p w : Int} (s x : Int) (h : ¬ R c r p w) : grid_Grid_is.f c r p w s x = some false := by
  unfold grid_Grid_is.f
  rw [regions_no s h, Option.bind_some, wr (by omega) (by omega), gwithin_eq, Option.bind_some]
  congr 1
  rw [decide_eq_false_iff_not]
  omega

/-- the regions near one, of c columns and r rows -/
def nearL (c r x : Nat) : List Int := ((List.range (c * r)).filter fun n => decide (n % c ≤ x % c + 1 ∧ x % c ≤ n % c + 1 ∧ n / c ≤ x / c + 1 ∧ x / c ≤ n / c + 1)).map fun n => ((n : Nat) : Int)
theorem near_l : ∀ k, (∀ x1 l x6 c r p w s, grid_Grid_Near.l0 k x1 l x6 c r p w s = grid_Grid_Near.l0 k x1 l x6 c r 1 1 0) ∧ (∀ x1 l x6 x7 c r p w s, grid_Grid_Near.l1 k x1 l x6 x7 c r p w s = grid_Grid_Near.l1 k x1 l x6 x7 c r 1 1 0) := by
  intro k
  induction k with
  | zero => exact ⟨fun _ _ _ _ _ _ _ _ => rfl, fun _ _ _ _ _ _ _ _ _ => rfl⟩
  | succ k ih =>
    refine ⟨fun x1 l x6 c r p w s => ?_, fun x1 l x6 x7 c r p w s => ?_⟩
    · simp only [grid_Grid_Near.l0]
      rw [ih.2 x1 l x6 _ c r p w s]
    · simp only [grid_Grid_Near.l1]
      rw [ih.2 x1 _ x6 _ c r p w s, ih.1 x1 l _ c r p w s]
theorem near_fin : ∀ c r : Fin 5, ∀ x : Fin 16, decide (c.val = 0 ∨ r.val = 0 ∨ c.val * r.val ≤ x.val ∨ grid_Grid_Near.l0 60 (x.val : Int) [] (mx (wrap64 ((wrap64 (Int.tdiv (x.val : Int) (c.val : Int))) - 1)) 0) (c.val : Int) (r.val : Int) 1 1 0 = some (nearL c.val r.val x.val)) = true := by decide +kernel
theorem near_at {c r p w x : Int} (s : Int) {k : Nat} (hk : 60 ≤ k) (h : R c r p w) (hx : 0 ≤ x ∧ x < c * r) : grid_Grid_Near.f k c r p w s x = some (nearL c.toNat r.toNat x.toNat) := by
  unfold grid_Grid_Near.f
  rw [is_eq s x h, Option.bind_some, decide_eq_true hx, if_pos rfl, if_neg (by have := h.1; omega), (near_l k).1]
  have hb := cr_bound h
  obtain ⟨⟨h1, h2⟩, ⟨h3, h4⟩, _⟩ := h
  have e := of_decide_eq_true (near_fin ⟨c.toNat, by omega⟩ ⟨r.toNat, by omega⟩ ⟨x.toNat, by omega⟩)
  simp only at e
  have e1 : ((c.toNat : Nat) : Int) = c := by omega
  have e2 : ((r.toNat : Nat) : Int) = r := by omega
  have e3 : ((x.toNat : Nat) : Int) = x := by omega
  have e4 : ((c.toNat * r.toNat : Nat) : Int) = c * r := by rw [Int.natCast_mul, e1, e2]
  rcases e with e | e | e | e
  · omega
  · omega
  · omega
  · rw [e1, e2, e3] at e
    exact at_rounds (fun k => (grid_Grid_Near.mono_l k).1 _ _ _ _ _ _ _ _) hk e
theorem near_no {c r p w x : Int} (s : Int) (k : Nat) (h : R c r p w) (hx : ¬ (0 ≤ x ∧ x < c * r)) : grid_Grid_Near.f k c r p w s x = some [] := by
  unfold grid_Grid_Near.f
  rw [is_eq s x h, Option.bind_some, decide_eq_false hx, if_neg (by decide)]
theorem near_none {c r p w : Int} (s x : Int) (k : Nat) (h : ¬ R c r p w) : grid_Grid_Near.f k c r p w s x = some [] := by
  unfold grid_Grid_Near.f
  rw [is_no s x h, Option.bind_some, if_neg (by decide)]
theorem nearL_len : ∀ c r : Fin 5, ∀ x : Fin 16, (nearL c.val r.val x.val).length ≤ 9 := by decide +kernel

theorem width_eq {c r p w : Int} (s : Int) (h : R c r p w) : grid_Grid_Width.f c r p w s = some (c * 1024) := by
  unfold grid_Grid_Width.f
  have h1 := h.1
  rw [size_eq s h, Option.bind_some, wr (by simp; omega) (by simp; omega)]
theorem width_no {c r p w : Int} (s : Int) (h : ¬ R c r p w) : grid_Grid_Width.f c r p w s = some 0 := by
  unfold grid_Grid_Width.f
  rw [size_no s h, Option.bind_some]; decide +kernel
theorem height_eq {c r p w : Int} (s : Int) (h : R c r p w) : grid_Grid_Height.f c r p w s = some (r * 1024) := by
  unfold grid_Grid_Height.f
  have h1 := h.2.1
  rw [size_eq s h, Option.bind_some, wr (by simp; omega) (by simp; omega)]
theorem height_no {c r p w : Int} (s : Int) (h : ¬ R c r p w) : grid_Grid_Height.f c r p w s = some 0 := by
  unfold grid_Grid_Height.f
  rw [size_no s h, Option.bind_some]; decide +kernel
theorem inside_eq {c r p w : Int} (s x y : Int) (h : R c r p w) : grid_Grid_Inside.f c r p w s x y = some (decide ((0 ≤ x ∧ x < c * 1024) ∧ (0 ≤ y ∧ y < r * 1024))) := by
  unfold grid_Grid_Inside.f
  have h1 := h.1
  have h2 := h.2.1
  rw [width_eq s h, Option.bind_some, wr (by omega) (by omega), gwithin_eq, Option.bind_some]
  by_cases hx : 0 ≤ x ∧ x < c * 1024
  · rw [decide_eq_true (show 0 ≤ x ∧ x ≤ c * 1024 - 1 by omega), if_pos rfl, height_eq s h, Option.bind_some, wr (by omega) (by omega), gwithin_eq, Option.bind_some]
    congr 1
    rw [decide_eq_decide]
    omega
  · rw [decide_eq_false (show ¬ (0 ≤ x ∧ x ≤ c * 1024 - 1) by omega), if_neg (by decide)]
    congr 1
    symm
    rw [decide_eq_false_iff_not]
    omega
theorem inside_no {c r p w : Int} (s x y : Int) (h : ¬ R c r p w) : grid_Grid_Inside.f c r p w s x y = some false := by
  unfold grid_Grid_Inside.f
  rw [width_no s h, Option.bind_some, wr (by omega) (by omega), gwithin_eq, Option.bind_some, decide_eq_false (by omega), if_neg (by decide)]
/-- a number brought within bounds -/
def clamp (v lo hi : Int) : Int := if v < lo then lo else if v > hi then hi else v
theorem clamp_in (v lo hi : Int) (h : lo ≤ hi) : lo ≤ clamp v lo hi ∧ clamp v lo hi ≤ hi := by unfold clamp; split <;> (try split) <;> omega
theorem fclamp_eq (v lo hi : Int) : fixed_Clamp.f v lo hi = some (clamp v lo hi) := by
  unfold fixed_Clamp.f clamp
  split <;> (try split) <;> rfl
/-- the region of a place -/
def ofV (c r x y : Int) : Int := clamp y 0 (r * 1024 - 1) / 1024 * c + clamp x 0 (c * 1024 - 1) / 1024
theorem ofV_in {c r : Int} (x y : Int) (h1 : 1 ≤ c ∧ c ≤ 4) (h2 : 1 ≤ r ∧ r ≤ 4) : 0 ≤ clamp y 0 (r * 1024 - 1) / 1024 ∧ clamp y 0 (r * 1024 - 1) / 1024 < r ∧ 0 ≤ clamp x 0 (c * 1024 - 1) / 1024 ∧ clamp x 0 (c * 1024 - 1) / 1024 < c := by
  have a := clamp_in y 0 (r * 1024 - 1) (by omega)
  have b := clamp_in x 0 (c * 1024 - 1) (by omega)
  omega
theorem mul4 {q c : Int} (h1 : 0 ≤ q ∧ q < 4) (h2 : 1 ≤ c ∧ c ≤ 4) : 0 ≤ q * c ∧ q * c ≤ 12 := by
  have : c = 1 ∨ c = 2 ∨ c = 3 ∨ c = 4 := by omega
  rcases this with rfl | rfl | rfl | rfl <;> omega
theorem of_form {c r : Int} (x y : Int) (h1 : 1 ≤ c ∧ c ≤ 4) (h2 : 1 ≤ r ∧ r ≤ 4) : wrap64 ((wrap64 ((wrap64 (Int.tdiv (clamp y 0 (r * 1024 - 1)) 1024)) * c)) + (wrap64 (Int.tdiv (clamp x 0 (c * 1024 - 1)) 1024))) = ofV c r x y := by
  have a := clamp_in y 0 (r * 1024 - 1) (by omega)
  have b := clamp_in x 0 (c * 1024 - 1) (by omega)
  have i := ofV_in x y h1 h2
  have e1 := Int.tdiv_eq_ediv_of_nonneg (b := 1024) a.1
  have e2 := Int.tdiv_eq_ediv_of_nonneg (b := 1024) b.1
  have m := mul4 (q := clamp y 0 (r * 1024 - 1) / 1024) (c := c) (by omega) h1
  rw [e1, e2, wr (show _ ≤ clamp y 0 (r * 1024 - 1) / 1024 by omega) (by omega), wr (show _ ≤ clamp x 0 (c * 1024 - 1) / 1024 by omega) (by omega), wr (show _ ≤ clamp y 0 (r * 1024 - 1) / 1024 * c by omega) (by omega), wr (by omega) (by omega)]
  rfl
theorem of_eq {c r p w : Int} (s x y : Int) (h : R c r p w) : grid_Grid_Of.f c r p w s x y = some (ofV c r x y) := by
  unfold grid_Grid_Of.f
  have h1 := h.1
  have h2 := h.2.1
  rw [size_eq s h, Option.bind_some]
  simp only
  rw [if_neg (by omega), width_eq s h, Option.bind_some, wr (show _ ≤ c * 1024 - 1 by omega) (by omega), fclamp_eq, Option.bind_some, height_eq s h, Option.bind_some, wr (show _ ≤ r * 1024 - 1 by omega) (by omega), fclamp_eq, Option.bind_some, of_form x y h1 h2]
theorem of_no {c r p w : Int} (s x y : Int) (h : ¬ R c r p w) : grid_Grid_Of.f c r p w s x y = some 0 := by
  unfold grid_Grid_Of.f
  rw [size_no s h, Option.bind_some, if_pos rfl]

theorem tmod_r {x c : Int} (h0 : 0 ≤ x) (h1 : 1 ≤ c) : Int.tmod x c = x % c ∧ Int.tdiv x c = x / c := ⟨Int.tmod_eq_emod_of_nonneg h0, Int.tdiv_eq_ediv_of_nonneg h0⟩
theorem divmod {x c r : Int} (h : 0 ≤ x ∧ x < c * r) (h1 : 1 ≤ c ∧ c ≤ 4) (h2 : 1 ≤ r ∧ r ≤ 4) : 0 ≤ x % c ∧ x % c < c ∧ 0 ≤ x / c ∧ x / c < r ∧ x / c * c + x % c = x := by
  have hc : c = 1 ∨ c = 2 ∨ c = 3 ∨ c = 4 := by omega
  rcases hc with rfl | rfl | rfl | rfl <;> omega
theorem corner_eq {c r p w x : Int} (s : Int) (h : R c r p w) (hx : 0 ≤ x ∧ x < c * r) : grid_Grid_Corner.f c r p w s x = some (x % c * 1024, x / c * 1024) := by
  unfold grid_Grid_Corner.f
  have h1 := h.1
  have h2 := h.2.1
  have d := divmod hx h1 h2
  rw [is_eq s x h, Option.bind_some, decide_eq_true hx, if_pos rfl, if_neg (by omega), (tmod_r hx.1 h1.1).1, (tmod_r hx.1 h1.1).2, wr (show _ ≤ x % c * 1024 by omega) (by omega), wr (show _ ≤ x / c by omega) (by omega), wr (show _ ≤ x / c * 1024 by omega) (by omega)]
theorem corner_out {c r p w x : Int} (s : Int) (h : R c r p w) (hx : ¬ (0 ≤ x ∧ x < c * r)) : grid_Grid_Corner.f c r p w s x = some (0, 0) := by
  unfold grid_Grid_Corner.f
  rw [is_eq s x h, Option.bind_some, decide_eq_false hx, if_neg (by decide)]
theorem corner_no {c r p w : Int} (s x : Int) (h : ¬ R c r p w) : grid_Grid_Corner.f c r p w s x = some (0, 0) := by
  unfold grid_Grid_Corner.f
  rw [is_no s x h, Option.bind_some, if_neg (by decide)]

theorem same_loop (xs ys : List Int) (hl : xs.length = ys.length) (hb : xs.length < 4611686018427387904) : ∀ (d k i : Nat), i + d = xs.length → d < k → jousthelp_Same_int.l0 k xs ys (i : Int) = some (decide (xs.drop i = ys.drop i)) := by
  intro d
  induction d with
  | zero =>
    intro k i hi hk
    obtain ⟨k, rfl⟩ : ∃ m, k = m + 1 := ⟨k - 1, by omega⟩
    simp only [jousthelp_Same_int.l0]
    rw [if_neg (by omega), List.drop_of_length_le (by omega), List.drop_of_length_le (by omega), decide_eq_true rfl]
  | succ d ih =>
    intro k i hi hk
    obtain ⟨k, rfl⟩ : ∃ m, k = m + 1 := ⟨k - 1, by omega⟩
    simp only [jousthelp_Same_int.l0]
    have h1 : i < xs.length := by omega
    have h2 : i < ys.length := by omega
    rw [if_pos (by omega), if_pos (by omega), if_pos (by omega), wr (by omega) (by omega)]
    have e1 : rd xs (i : Int) = xs[i] := by simp [rd, List.getD_eq_getElem?_getD, h1]
    have e2 : rd ys (i : Int) = ys[i] := by simp [rd, List.getD_eq_getElem?_getD, h2]
    have hi' := ih k (i + 1) (by omega) (by omega)
    unfold jousthelp_Plain_int_1.f
    rw [Option.bind_some, e1, e2, List.drop_eq_getElem_cons h1, List.drop_eq_getElem_cons h2]
    by_cases e : xs[i] = ys[i]
    · rw [if_pos (by simpa using e)]
      have : ((i : Int) + 1) = ((i + 1 : Nat) : Int) := rfl
      rw [this, hi']
      congr 1
      rw [decide_eq_decide, List.cons.injEq]
      exact ⟨fun h => ⟨e, h⟩, fun h => h.2⟩
    · rw [if_neg (by simpa using e), decide_eq_false (fun h => e (List.cons.inj h).1)]
theorem plain_eq (xs ys : List Int) (hb : xs.length < 4611686018427387904) {k : Nat} (hk : xs.length < k) : jousthelp_Plain_int.f k xs ys = some (decide (xs = ys)) := by
  unfold jousthelp_Plain_int.f jousthelp_Same_int.f
  by_cases hl : xs.length = ys.length
  · rw [if_pos (by omega), show (0 : Int) = ((0 : Nat) : Int) from rfl, same_loop xs ys hl hb xs.length k 0 (by omega) hk]
    rfl
  · rw [if_neg (by omega), Option.bind_some, decide_eq_false (fun e => hl (by rw [e]))]

theorem in_loop (xs : List Int) (x : Int) (hb : xs.length < 4611686018427387904) : ∀ (d k i : Nat), i + d = xs.length → d < k → jousthelp_In_int.l0 k xs x (i : Int) = some ((xs.drop i).contains x) := by
  intro d
  induction d with
  | zero =>
    intro k i hi hk
    obtain ⟨k, rfl⟩ : ∃ m, k = m + 1 := ⟨k - 1, by omega⟩
    simp only [jousthelp_In_int.l0]
    rw [if_neg (by omega), List.drop_of_length_le (by omega)]; rfl
  | succ d ih =>
    intro k i hi hk
    obtain ⟨k, rfl⟩ : ∃ m, k = m + 1 := ⟨k - 1, by omega⟩
    simp only [jousthelp_In_int.l0]
    have h1 : i < xs.length := by omega
    rw [if_pos (by omega), if_pos (by omega), wr (by omega) (by omega)]
    have e1 : rd xs (i : Int) = xs[i] := by simp [rd, List.getD_eq_getElem?_getD, h1]
    have hi' := ih k (i + 1) (by omega) (by omega)
    have e3 : ((i : Int) + 1) = ((i + 1 : Nat) : Int) := rfl
    rw [e1, e3, hi', List.drop_eq_getElem_cons h1, List.contains_cons]
    by_cases e : xs[i] = x
    · simp [e]
    · rw [if_neg e]
      have : (x == xs[i]) = false := by simpa using fun h => e h.symm
      rw [this, Bool.false_or]
theorem in_eq (xs : List Int) (x : Int) (hb : xs.length < 4611686018427387904) {k : Nat} (hk : xs.length < k) : jousthelp_In_int.f k xs x = some (xs.contains x) := by
  unfold jousthelp_In_int.f
  exact in_loop xs x hb xs.length k 0 (by omega) hk

theorem rright_eq (c r p w s : Int) : joustref03_Right.f c r p w s = some (decide (R c r p w)) := by
  unfold joustref03_Right.f R
  by_cases h1 : 1 ≤ c <;> by_cases h2 : c ≤ 4 <;> simp [h1, h2] <;> by_cases h3 : 1 ≤ r <;> by_cases h4 : r ≤ 4 <;> simp [h3, h4] <;> by_cases h5 : 1 ≤ p <;> by_cases h6 : p ≤ 6 <;> simp [h5, h6] <;> by_cases h7 : 1 ≤ w <;> simp [h7]
/-- an arena that is not too great -/
def Q (c r p w : Int) : Prop := (1 ≤ c ∧ c ≤ 3) ∧ (1 ≤ r ∧ r ≤ 3) ∧ (1 ≤ p ∧ p ≤ 4) ∧ (1 ≤ w ∧ w ≤ 16)
theorem Q.R {c r p w : Int} (h : Q c r p w) : R c r p w := by unfold Q at h; unfold PureGridPlaces.R; omega
theorem config_eq (c r p w s : Int) : ∃ c' r' p' w', joustplay_Config.f c r p w s = some (c', r', p', w', s) ∧ Q c' r' p' w' := by
  unfold joustplay_Config.f
  rw [rright_eq, Option.bind_some]
  have h1 := umod1 c 3 (by decide) (by decide)
  have h2 := umod1 r 3 (by decide) (by decide)
  have h3 := umod1 p 4 (by decide) (by decide)
  have h4 := umod1 w 8 (by decide) (by decide)
  have hq : Q (wrap64 (1 + (wrap64 (Int.tmod (IntKind.u64.wrap c) 3)))) (wrap64 (1 + (wrap64 (Int.tmod (IntKind.u64.wrap r) 3)))) (wrap64 (1 + (wrap64 (Int.tmod (IntKind.u64.wrap p) 4)))) (wrap64 (1 + (wrap64 (Int.tmod (IntKind.u64.wrap w) 8)))) := by
    generalize wrap64 (Int.tmod (IntKind.u64.wrap c) 3) = x1 at h1 ⊢
    generalize wrap64 (Int.tmod (IntKind.u64.wrap r) 3) = x2 at h2 ⊢
    generalize wrap64 (Int.tmod (IntKind.u64.wrap p) 4) = x3 at h3 ⊢
    generalize wrap64 (Int.tmod (IntKind.u64.wrap w) 8) = x4 at h4 ⊢
    rw [wr (show _ ≤ 1 + x1 by omega) (by omega), wr (show _ ≤ 1 + x2 by omega) (by omega), wr (show _ ≤ 1 + x3 by omega) (by omega), wr (show _ ≤ 1 + x4 by omega) (by omega)]
    unfold Q; omega
  by_cases h : R c r p w
  · rw [decide_eq_true h, if_pos rfl]
    by_cases e1 : c ≤ 3
    · rw [if_pos e1]
      by_cases e2 : r ≤ 3
      · rw [if_pos e2]
        by_cases e3 : p ≤ 4
        · rw [if_pos e3]
          exact ⟨c, r, p, w, rfl, by unfold PureGridPlaces.R at h; unfold Q; omega⟩
        · rw [if_neg e3]; exact ⟨_, _, _, _, rfl, hq⟩
      · rw [if_neg e2]; exact ⟨_, _, _, _, rfl, hq⟩
    · rw [if_neg e1]; exact ⟨_, _, _, _, rfl, hq⟩
  · rw [decide_eq_false h, if_neg (by decide)]; exact ⟨_, _, _, _, rfl, hq⟩

theorem awake_len : (nearL (3 : Int).toNat (3 : Int).toNat (0 : Int).toNat).length = 4 := by decide +kernel
theorem awake_near : nearL (3 : Int).toNat (3 : Int).toNat (0 : Int).toNat = [0, 1, 3, 4] := by decide +kernel
theorem awake_eq {k : Nat} (hk : 60 ≤ k) : joustlaw03_awake.f k = some true := by
  unfold joustlaw03_awake.f
  have h : R 3 3 1 1 := by decide
  rw [new_eq 0 h, Option.bind_some, if_pos rfl, regions_eq 0 h, Option.bind_some, if_pos (by decide), near_at 0 hk h (by decide), Option.bind_some, plain_eq _ _ (by decide) (by rw [awake_len]; omega), Option.bind_some, awake_near, decide_eq_true rfl]

theorem near_of : ∀ c r : Fin 4, ∀ a q : Fin 3, ∀ a' q' : Fin 3, c.val ≤ a.val ∨ c.val ≤ a'.val ∨ r.val ≤ q.val ∨ r.val ≤ q'.val ∨ a.val + 1 < a'.val ∨ a'.val + 1 < a.val ∨ q.val + 1 < q'.val ∨ q'.val + 1 < q.val ∨ (nearL c.val r.val (q.val * c.val + a.val)).contains (((q'.val * c.val + a'.val : Nat)) : Int) = true := by decide +kernel
theorem tmod_b (x : Int) : -1023 ≤ Int.tmod x 1024 ∧ Int.tmod x 1024 ≤ 1023 := by
  have := Int.tmod_lt_of_pos x (show (0 : Int) < 1024 by decide)
  have h2 := Int.lt_tmod_of_pos x (show (0 : Int) < 1024 by decide)
  omega
theorem step_near {c x d : Int} (h1 : 1 ≤ c ∧ c ≤ 3) (hx : 0 ≤ x ∧ x < c * 1024) (hd : -1023 ≤ d ∧ d ≤ 1023) : x / 1024 ≤ clamp (x + d) 0 (c * 1024 - 1) / 1024 + 1 ∧ clamp (x + d) 0 (c * 1024 - 1) / 1024 ≤ x / 1024 + 1 := by
  unfold clamp; split <;> (try split) <;> omega
theorem clamp_at {c x : Int} (hx : 0 ≤ x ∧ x < c * 1024) : clamp x 0 (c * 1024 - 1) = x := by unfold clamp; rw [if_neg (by omega), if_neg (by omega)]
theorem GridPlaces (a0 : (Int × (Int × (Int × (Int × Int))))) (a1 : Int) (a2 : Int) (a3 : Int) (a4 : Int) (_ : G0 a0) (_ : G1 a1) (_ : G2 a2) (_ : G3 a3) (_ : G4 a4) : ∃ k, joustlaw03_GridPlaces.f k a0.1 a0.2.1 a0.2.2.1 a0.2.2.2.1 a0.2.2.2.2 a1 a2 a3 a4 = some true := by
  obtain ⟨c0, r0, p0, w0, s⟩ := a0
  obtain ⟨c, r, p, w, hc, hq⟩ := config_eq c0 r0 p0 w0 s
  have h := hq.R
  refine ⟨101, ?_⟩
  unfold joustlaw03_GridPlaces.f
  simp only
  rw [hc, Option.bind_some, new_eq s h, Option.bind_some, awake_eq (by decide), Option.bind_some, if_pos rfl]
  simp only [joustlaw03_GridPlaces.j0]
  unfold Q at hq
  obtain ⟨hq1, hq2, _⟩ := hq
  rw [if_neg (by decide), width_eq s h, Option.bind_some, if_neg (by rw [uw]; omega), height_eq s h, Option.bind_some, if_neg (by rw [uw]; omega)]
  have hx := umod a1 (c * 1024) (by omega) (by omega)
  have hy := umod a2 (r * 1024) (by omega) (by omega)
  generalize wrap64 (Int.tmod (IntKind.u64.wrap a1) (IntKind.u64.wrap (c * 1024))) = x at *
  generalize wrap64 (Int.tmod (IntKind.u64.wrap a2) (IntKind.u64.wrap (r * 1024))) = y at *
  have hdx := tmod_b a3
  have hdy := tmod_b a4
  generalize Int.tmod a3 1024 = dx at *
  generalize Int.tmod a4 1024 = dy at *
  have hi1 := ofV_in x y (c := c) (r := r) (by omega) (by omega)
  have hi2 := ofV_in (x + dx) (y + dy) (c := c) (r := r) (by omega) (by omega)
  have ho : 0 ≤ ofV c r x y ∧ ofV c r x y < c * r := by
    unfold ofV
    generalize clamp y 0 (r * 1024 - 1) / 1024 = q at *
    generalize clamp x 0 (c * 1024 - 1) / 1024 = a at *
    have : c = 1 ∨ c = 2 ∨ c = 3 := by omega
    rcases this with rfl | rfl | rfl <;> omega
  rw [wr (show _ ≤ x + dx by omega) (by omega), wr (show _ ≤ y + dy by omega) (by omega), of_eq s x y h, Option.bind_some, corner_eq s h ho, Option.bind_some, of_eq s _ _ h, Option.bind_some, inside_eq s x y h, Option.bind_some, decide_eq_true ⟨hx, hy⟩, if_pos rfl]
  have hs1 := step_near hq1 hx hdx
  have hs2 := step_near hq2 hy hdy
  have e1 : ofV c r x y = y / 1024 * c + x / 1024 := by unfold ofV; rw [clamp_at hx, clamp_at hy]
  have hxb : 0 ≤ x / 1024 ∧ x / 1024 < c := by omega
  have hyb : 0 ≤ y / 1024 ∧ y / 1024 < r := by omega
  have dm : ofV c r x y % c = x / 1024 ∧ ofV c r x y / c = y / 1024 := by
    rw [e1]
    generalize y / 1024 = q at *
    generalize x / 1024 = a at *
    have : c = 1 ∨ c = 2 ∨ c = 3 := by omega
    rcases this with rfl | rfl | rfl <;> omega
  simp only [dm.1, dm.2]
  rw [wr (show _ ≤ x / 1024 * 1024 + 1024 by omega) (by omega), wr (show _ ≤ y / 1024 * 1024 + 1024 by omega) (by omega)]
  rw [if_pos (by omega), if_pos (by omega), if_pos (by omega), if_pos (by omega), near_at s (by decide) h ho, Option.bind_some]
  have h9 : c * r ≤ 9 := by
    have : c = 1 ∨ c = 2 ∨ c = 3 := by omega
    rcases this with rfl | rfl | rfl <;> omega
  have l1 := nearL_len ⟨c.toNat, by omega⟩ ⟨r.toNat, by omega⟩ ⟨(ofV c r x y).toNat, by omega⟩
  simp only at l1
  rw [in_eq _ _ (by omega) (by omega), Option.bind_some]
  have hn := near_of ⟨c.toNat, by omega⟩ ⟨r.toNat, by omega⟩ ⟨(x / 1024).toNat, by omega⟩ ⟨(y / 1024).toNat, by omega⟩ ⟨(clamp (x + dx) 0 (c * 1024 - 1) / 1024).toNat, by omega⟩ ⟨(clamp (y + dy) 0 (r * 1024 - 1) / 1024).toNat, by omega⟩
  simp only at hn
  have e2 : (ofV c r x y).toNat = (y / 1024).toNat * c.toNat + (x / 1024).toNat := by
    apply Int.ofNat.inj
    show ((ofV c r x y).toNat : Int) = (((y / 1024).toNat * c.toNat + (x / 1024).toNat : Nat) : Int)
    rw [Int.natCast_add, Int.natCast_mul, Int.toNat_of_nonneg ho.1, Int.toNat_of_nonneg hyb.1, Int.toNat_of_nonneg (show 0 ≤ c by omega), Int.toNat_of_nonneg hxb.1, e1]
  have e3 : (((clamp (y + dy) 0 (r * 1024 - 1) / 1024).toNat * c.toNat + (clamp (x + dx) 0 (c * 1024 - 1) / 1024).toNat : Nat) : Int) = ofV c r (x + dx) (y + dy) := by
    rw [Int.natCast_add, Int.natCast_mul, Int.toNat_of_nonneg hi2.1, Int.toNat_of_nonneg (show 0 ≤ c by omega), Int.toNat_of_nonneg hi2.2.2.1]; rfl
  rw [e2, ← e3]
  congr 1
  rcases hn with e | e | e | e | e | e | e | e | e
  all_goals first | exact e | (exfalso; omega)
end Go.Proofs.Ytilfmlaojabloaa.PureGridPlaces
