/- The printed law MovingNear is true for all numbers: whoever is right, and goes, is right, and in the region where it was, or in a near one. Condition: each number within its kind. -/
import Derived.Test.YtjnjcdaecdnkoaaPMovingNeary
import Derived.Test.YtjnjcdaecdnkoaaGdsMovingNear
import Derived.OpenShut
namespace Go.Proofs.Ytjnjcdaecdnkoaa.PureMovingNear
set_option linter.unusedVariables false
open Go Go.RowKit Go.Proofs.Ytjnjcdaecdnkoaa.PMovingNear Go.Proofs.Ytjnjcdaecdnkoaa.GdsMovingNear Go.Proofs.YtjnjcdaecdnkoaaW.PrintWords Go.Proofs.YtjnjcdaecdnkoaaW.PrintLast
theorem wr {i : Int} (h0 : -9223372036854775808 ≤ i) (h1 : i < 9223372036854775808) : wrap64 i = i := by unfold wrap64; omega
theorem uw (i : Int) : IntKind.u64.wrap i = i % 18446744073709551616 := by simp [IntKind.wrap, IntKind.signed, IntKind.bits]
/-- a number brought below another one, as Go's int(uint(x) % uint(m)) does it -/
theorem umod (x m : Int) (h0 : 1 ≤ m) (h1 : m ≤ 4611686018427387904) : 0 ≤ wrap64 (Int.tmod (IntKind.u64.wrap x) (IntKind.u64.wrap m)) ∧ wrap64 (Int.tmod (IntKind.u64.wrap x) (IntKind.u64.wrap m)) < m := by
  rw [uw, uw]
  have e : m % 18446744073709551616 = m := by omega
  rw [e]
  have hx : 0 ≤ x % 18446744073709551616 := by omega
  have a := Int.tmod_nonneg m hx
  have b := Int.tmod_lt_of_pos (x % 18446744073709551616) (show 0 < m by omega)
  rw [wr (by omega) (by omega)]
  exact ⟨a, b⟩
theorem umod1 (x m : Int) (h0 : 1 ≤ m) (h1 : m ≤ 4611686018427387904) : 0 ≤ wrap64 (Int.tmod (IntKind.u64.wrap x) m) ∧ wrap64 (Int.tmod (IntKind.u64.wrap x) m) < m := by
  have h := umod x m h0 h1
  rw [uw m, show m % 18446744073709551616 = m by omega] at h
  exact h

theorem at_rounds {α : Type} {g : Nat → Option α} (h : ∀ k, LeO (g k) (g (k + 1))) {k k' : Nat} (hk : k ≤ k') {r : α} (hr : g k = some r) : g k' = some r := by
  induction hk with
  | refl => exact hr
  | step _ ih => exact h _ _ ih

/-- may an arena be -/
def R (c r p w : Int) : Prop := (1 ≤ c ∧ c ≤ 4) ∧ (1 ≤ r ∧ r ≤ 4) ∧ (1 ≤ p ∧ p ≤ 6) ∧ (1 ≤ w ∧ w ≤ 16)
instance (c r p w : Int) : Decidable (R c r p w) := by unfold R; infer_instance
theorem gwithin_eq (a lo hi : Int) : grid_within.f a lo hi = some (decide (lo ≤ a ∧ a ≤ hi)) := by
  unfold grid_within.f
  by_cases h : lo ≤ a <;> simp [h]
theorem right_eq (c r p w s : Int) : grid_right.f c r p w s = some (decide (R c r p w)) := by
  unfold grid_right.f R
  simp only [gwithin_eq, Option.bind_some]
  by_cases h1 : 1 ≤ c ∧ c ≤ 4 <;> by_cases h2 : 1 ≤ r ∧ r ≤ 4 <;> by_cases h3 : 1 ≤ p ∧ p ≤ 6 <;> by_cases h4 : 1 ≤ w ∧ w ≤ 16 <;> simp [h1, h2, h3, h4]
theorem size_eq {c r p w : Int} (s : Int) (h : R c r p w) : grid_Grid_size.f c r p w s = some (c, r) := by
  unfold grid_Grid_size.f
  rw [right_eq, Option.bind_some, decide_eq_true h, if_pos rfl]
theorem size_no {c r p w : Int} (s : Int) (h : ¬ R c r p w) : grid_Grid_size.f c r p w s = some (0, 0) := by
  unfold grid_Grid_size.f
  rw [right_eq, Option.bind_some, decide_eq_false h, if_neg (by decide)]
theorem cr_bound {c r p w : Int} (h : R c r p w) : 1 ≤ c * r ∧ c * r ≤ 16 := by
  obtain ⟨⟨h1, h2⟩, ⟨h3, h4⟩, _⟩ := h
  have hc : c = 1 ∨ c = 2 ∨ c = 3 ∨ c = 4 := by omega
  rcases hc with rfl | rfl | rfl | rfl <;> omega
theorem new_eq {c r p w : Int} (s : Int) (h : R c r p w) : grid_New.f c r p w s = some (c, r, p, w, s, 0) := by
  unfold grid_New.f
  rw [right_eq, Option.bind_some, decide_eq_true h, if_pos rfl]
theorem new_no {c r p w : Int} (s : Int) (h : ¬ R c r p w) : grid_New.f c r p w s = some (0, 0, 0, 0, 0, 10) := by
  unfold grid_New.f
  rw [right_eq, Option.bind_some, decide_eq_false h, if_neg (by decide)]

/-- the regions near one, of c columns and r rows -/
def nearL (c r x : Nat) : List Int := ((List.range (c * r)).filter fun n => decide (n % c ≤ x % c + 1 ∧ x % c ≤ n % c + 1 ∧ n / c ≤ x / c + 1 ∧ x / c ≤ n / c + 1)).map fun n => ((n : Nat) : Int)
theorem nearL_len : ∀ c r : Fin 5, ∀ x : Fin 16, (nearL c.val r.val x.val).length ≤ 9 := by decide +kernel

theorem width_eq {c r p w : Int} (s : Int) (h : R c r p w) : grid_Grid_Width.f c r p w s = some (c * 1024) := by
  unfold grid_Grid_Width.f
  have h1 := h.1
  rw [size_eq s h, Option.bind_some, wr (by simp; omega) (by simp; omega)]
theorem width_no {c r p w : Int} (s : Int) (h : ¬ R c r p w) : grid_Grid_Width.f c r p w s = some 0 := by
  unfold grid_Grid_Width.f
  rw [size_no s h, Option.bind_some]; decide +kernel
theorem height_eq {c r p w : Int} (s : Int) (h : R c r p w) : grid_Grid_Height.f c r p w s = some (r * 1024) := by
  unfold grid_Grid_Height.f
  have h1 := h.2.1
  rw [size_eq s h, Option.bind_some, wr (by simp; omega) (by simp; omega)]
theorem height_no {c r p w : Int} (s : Int) (h : ¬ R c r p w) : grid_Grid_Height.f c r p w s = some 0 := by
  unfold grid_Grid_Height.f
  rw [size_no s h, Option.bind_some]; decide +kernel
theorem inside_eq {c r p w : Int} (s x y : Int) (h : R c r p w) : grid_Grid_Inside.f c r p w s x y = some (decide ((0 ≤ x ∧ x < c * 1024) ∧ (0 ≤ y ∧ y < r * 1024))) := by
  unfold grid_Grid_Inside.f
  have h1 := h.1
  have h2 := h.2.1
  rw [width_eq s h, Option.bind_some, wr (by omega) (by omega), gwithin_eq, Option.bind_some]
  by_cases hx : 0 ≤ x ∧ x < c * 1024
  · rw [decide_eq_true (show 0 ≤ x ∧ x ≤ c * 1024 - 1 by omega), if_pos rfl, height_eq s h, Option.bind_some, wr (by omega) (by omega), gwithin_eq, Option.bind_some]
    congr 1
    rw [decide_eq_decide]
    omega
  · rw [decide_eq_false (show ¬ (0 ≤ x ∧ x ≤ c * 1024 - 1) by omega), if_neg (by decide)]
    congr 1
    symm
    rw [decide_eq_false_iff_not]
    omega
theorem inside_no {c r p w : Int} (s x y : Int) (h : ¬ R c r p w) : grid_Grid_Inside.f c r p w s x y = some false := by
  unfold grid_Grid_Inside.f
  rw [width_no s h, Option.bind_some, wr (by omega) (by omega), gwithin_eq, Option.bind_some, decide_eq_false (by omega), if_neg (by decide)]
/-- a number brought within bounds -/
def clamp (v lo hi : Int) : Int := if v < lo then lo else if v > hi then hi else v
theorem clamp_in (v lo hi : Int) (h : lo ≤ hi) : lo ≤ clamp v lo hi ∧ clamp v lo hi ≤ hi := by unfold clamp; split <;> (try split) <;> omega
theorem fclamp_eq (v lo hi : Int) : fixed_Clamp.f v lo hi = some (clamp v lo hi) := by
  unfold fixed_Clamp.f clamp
  split <;> (try split) <;> rfl
/-- the region of a place -/
def ofV (c r x y : Int) : Int := clamp y 0 (r * 1024 - 1) / 1024 * c + clamp x 0 (c * 1024 - 1) / 1024
theorem ofV_in {c r : Int} (x y : Int) (h1 : 1 ≤ c ∧ c ≤ 4) (h2 : 1 ≤ r ∧ r ≤ 4) : 0 ≤ clamp y 0 (r * 1024 - 1) / 1024 ∧ clamp y 0 (r * 1024 - 1) / 1024 < r ∧ 0 ≤ clamp x 0 (c * 1024 - 1) / 1024 ∧ clamp x 0 (c * 1024 - 1) / 1024 < c := by
  have a := clamp_in y 0 (r * 1024 - 1) (by omega)
  have b := clamp_in x 0 (c * 1024 - 1) (by omega)
  omega
theorem mul4 {q c : Int} (h1 : 0 ≤ q ∧ q < 4) (h2 : 1 ≤ c ∧ c ≤ 4) : 0 ≤ q * c ∧ q * c ≤ 12 := by
  have : c = 1 ∨ c = 2 ∨ c = 3 ∨ c = 4 := by omega
  rcases this with rfl | rfl | rfl | rfl <;> omega
theorem of_form {c r : Int} (x y : Int) (h1 : 1 ≤ c ∧ c ≤ 4) (h2 : 1 ≤ r ∧ r ≤ 4) : wrap64 ((wrap64 ((wrap64 (Int.tdiv (clamp y 0 (r * 1024 - 1)) 1024)) * c)) + (wrap64 (Int.tdiv (clamp x 0 (c * 1024 - 1)) 1024))) = ofV c r x y := by
  have a := clamp_in y 0 (r * 1024 - 1) (by omega)
  have b := clamp_in x 0 (c * 1024 - 1) (by omega)
  have i := ofV_in x y h1 h2
  have e1 := Int.tdiv_eq_ediv_of_nonneg (b := 1024) a.1
  have e2 := Int.tdiv_eq_ediv_of_nonneg (b := 1024) b.1
  have m := mul4 (q := clamp y 0 (r * 1024 - 1) / 1024) (c := c) (by omega) h1
  rw [e1, e2, wr (show _ ≤ clamp y 0 (r * 1024 - 1) / 1024 by omega) (by omega), wr (show _ ≤ clamp x 0 (c * 1024 - 1) / 1024 by omega) (by omega), wr (show _ ≤ clamp y 0 (r * 1024 - 1) / 1024 * c by omega) (by omega), wr (by omega) (by omega)]
  rfl
theorem rright_eq (c r p w s : Int) : joustref03_Right.f c r p w s = some (decide (R c r p w)) := by
  unfold joustref03_Right.f R
  by_cases h1 : 1 ≤ c <;> by_cases h2 : c ≤ 4 <;> simp [h1, h2] <;> by_cases h3 : 1 ≤ r <;> by_cases h4 : r ≤ 4 <;> simp [h3, h4] <;> by_cases h5 : 1 ≤ p <;> by_cases h6 : p ≤ 6 <;> simp [h5, h6] <;> by_cases h7 : 1 ≤ w <;> simp [h7]

/-- an arena that is not too great -/
def Q (c r p w : Int) : Prop := (1 ≤ c ∧ c ≤ 3) ∧ (1 ≤ r ∧ r ≤ 3) ∧ (1 ≤ p ∧ p ≤ 4) ∧ (1 ≤ w ∧ w ≤ 16)
theorem Q.R {c r p w : Int} (h : Q c r p w) : R c r p w := by unfold Q at h; unfold PureMovingNear.R; omega
theorem config_eq (c r p w s : Int) : ∃ c' r' p' w', joustplay_Config.f c r p w s = some (c', r', p', w', s) ∧ Q c' r' p' w' := by
  unfold joustplay_Config.f
  rw [rright_eq, Option.bind_some]
  have h1 := umod1 c 3 (by decide) (by decide)
  have h2 := umod1 r 3 (by decide) (by decide)
  have h3 := umod1 p 4 (by decide) (by decide)
  have h4 := umod1 w 8 (by decide) (by decide)
  have hq : Q (wrap64 (1 + (wrap64 (Int.tmod (IntKind.u64.wrap c) 3)))) (wrap64 (1 + (wrap64 (Int.tmod (IntKind.u64.wrap r) 3)))) (wrap64 (1 + (wrap64 (Int.tmod (IntKind.u64.wrap p) 4)))) (wrap64 (1 + (wrap64 (Int.tmod (IntKind.u64.wrap w) 8)))) := by
    generalize wrap64 (Int.tmod (IntKind.u64.wrap c) 3) = x1 at h1 ⊢
    generalize wrap64 (Int.tmod (IntKind.u64.wrap r) 3) = x2 at h2 ⊢
    generalize wrap64 (Int.tmod (IntKind.u64.wrap p) 4) = x3 at h3 ⊢
    generalize wrap64 (Int.tmod (IntKind.u64.wrap w) 8) = x4 at h4 ⊢
    rw [wr (show _ ≤ 1 + x1 by omega) (by omega), wr (show _ ≤ 1 + x2 by omega) (by omega), wr (show _ ≤ 1 + x3 by omega) (by omega), wr (show _ ≤ 1 + x4 by omega) (by omega)]
    unfold Q; omega
  by_cases h : R c r p w
  · rw [decide_eq_true h, if_pos rfl]
    by_cases e1 : c ≤ 3
    · rw [if_pos e1]
      by_cases e2 : r ≤ 3
      · rw [if_pos e2]
        by_cases e3 : p ≤ 4
        · rw [if_pos e3]
          exact ⟨c, r, p, w, rfl, by unfold PureMovingNear.R at h; unfold Q; omega⟩
        · rw [if_neg e3]; exact ⟨_, _, _, _, rfl, hq⟩
      · rw [if_neg e2]; exact ⟨_, _, _, _, rfl, hq⟩
    · rw [if_neg e1]; exact ⟨_, _, _, _, rfl, hq⟩
  · rw [decide_eq_false h, if_neg (by decide)]; exact ⟨_, _, _, _, rfl, hq⟩

theorem rregions_eq {c r p w : Int} (s : Int) (h : R c r p w) : joustref03_Regions.f c r p w s = some (c * r) := by
  unfold joustref03_Regions.f
  have := cr_bound h
  rw [rright_eq, Option.bind_some, decide_eq_true h, if_pos rfl, wr (by omega) (by omega)]
theorem rregions_no {c r p w : Int} (s : Int) (h : ¬ R c r p w) : joustref03_Regions.f c r p w s = some 0 := by
  unfold joustref03_Regions.f
  rw [rright_eq, Option.bind_some, decide_eq_false h, if_neg (by decide)]
theorem ris_eq {c r p w : Int} (s x : Int) (h : R c r p w) : joustref03_Is.f c r p w s x = some (decide (0 ≤ x ∧ x < c * r)) := by
  unfold joustref03_Is.f
  by_cases hx : x ≥ 0
  · rw [if_pos hx, rregions_eq s h, Option.bind_some]
    congr 1
    rw [decide_eq_decide]
    omega
  · rw [if_neg hx]
    congr 1
    symm
    rw [decide_eq_false_iff_not]
    omega
theorem ris_no {c r p w : Int} (s x : Int) (h : ¬ R c r p w) : joustref03_Is.f c r p w s x = some false := by
  unfold joustref03_Is.f
  by_cases hx : x ≥ 0
  · rw [if_pos hx, rregions_no s h, Option.bind_some, decide_eq_false (by omega)]
  · rw [if_neg hx]

theorem R.plain {c r p w : Int} (h : R c r p w) : R c r 1 1 := ⟨h.1, h.2.1, by decide, by decide⟩
theorem rnear_l {c r p w : Int} (s : Int) (h : R c r p w) : ∀ k, (∀ x1 l x6, joustref03_Near.l0 k x1 l x6 c r p w s = joustref03_Near.l0 k x1 l x6 c r 1 1 0) ∧ (∀ x1 l x6 x7, joustref03_Near.j1 k x1 l x6 x7 c r p w s = joustref03_Near.j1 k x1 l x6 x7 c r 1 1 0) := by
  intro k
  induction k with
  | zero => exact ⟨fun _ _ _ => rfl, fun _ _ _ _ => rfl⟩
  | succ k ih =>
    refine ⟨fun x1 l x6 => ?_, fun x1 l x6 x7 => ?_⟩
    · simp only [joustref03_Near.l0]
      rw [rregions_eq s h, rregions_eq 0 h.plain, Option.bind_some, Option.bind_some, ris_eq s x1 h, ris_eq 0 x1 h.plain, Option.bind_some, Option.bind_some, ih.2, ih.2]
    · simp only [joustref03_Near.j1]
      rw [ih.1, ih.1]
theorem rnear_fin : ∀ c r : Fin 5, ∀ x : Fin 16, decide (c.val = 0 ∨ r.val = 0 ∨ c.val * r.val ≤ x.val ∨ joustref03_Near.l0 60 (x.val : Int) [] 0 (c.val : Int) (r.val : Int) 1 1 0 = some (nearL c.val r.val x.val)) = true := by decide +kernel
theorem rnear_at {c r p w x : Int} (s : Int) {k : Nat} (hk : 60 ≤ k) (h : R c r p w) (hx : 0 ≤ x ∧ x < c * r) : joustref03_Near.f k c r p w s x = some (nearL c.toNat r.toNat x.toNat) := by
  unfold joustref03_Near.f
  rw [(rnear_l s h k).1]
  have hb := cr_bound h
  obtain ⟨⟨h1, h2⟩, ⟨h3, h4⟩, _⟩ := h
  have e := of_decide_eq_true (rnear_fin ⟨c.toNat, by omega⟩ ⟨r.toNat, by omega⟩ ⟨x.toNat, by omega⟩)
  simp only at e
  have e1 : ((c.toNat : Nat) : Int) = c := by omega
  have e2 : ((r.toNat : Nat) : Int) = r := by omega
  have e3 : ((x.toNat : Nat) : Int) = x := by omega
  have e4 : ((c.toNat * r.toNat : Nat) : Int) = c * r := by rw [Int.natCast_mul, e1, e2]
  rcases e with e | e | e | e
  · omega
  · omega
  · omega
  · rw [e1, e2, e3] at e
    exact at_rounds (fun k => (joustref03_Near.mono_l k).1 _ _ _ _ _ _ _ _) hk e
theorem rnear_no {c r p w x : Int} (s : Int) {k : Nat} (hk : 2 ≤ k) (h : R c r p w) (hx : ¬ (0 ≤ x ∧ x < c * r)) : joustref03_Near.f k c r p w s x = some [] := by
  obtain ⟨k, rfl⟩ : ∃ m, k = m + 2 := ⟨k - 2, by omega⟩
  have hb := cr_bound h
  unfold joustref03_Near.f
  simp only [joustref03_Near.l0, joustref03_Near.j1]
  rw [rregions_eq s h, Option.bind_some, if_pos (by omega), ris_eq s x h, Option.bind_some, decide_eq_false hx, if_neg (by decide)]
theorem rnear_none {c r p w : Int} (s x : Int) {k : Nat} (hk : 2 ≤ k) (h : ¬ R c r p w) : joustref03_Near.f k c r p w s x = some [] := by
  obtain ⟨k, rfl⟩ : ∃ m, k = m + 2 := ⟨k - 2, by omega⟩
  unfold joustref03_Near.f
  simp only [joustref03_Near.l0, joustref03_Near.j1]
  rw [rregions_no s h, Option.bind_some, if_neg (by decide), if_neg (by decide)]

theorem rinside_eq {c r p w : Int} (s x y : Int) (h : R c r p w) : joustref03_Inside.f c r p w s x y = some (decide ((0 ≤ x ∧ x < c * 1024) ∧ (0 ≤ y ∧ y < r * 1024))) := by
  unfold joustref03_Inside.f
  have h1 := h.1
  have h2 := h.2.1
  rw [rright_eq, Option.bind_some, decide_eq_true h, if_pos rfl, wr (by omega) (by omega), wr (by omega) (by omega)]
  by_cases a : x ≥ 0
  · rw [if_pos a]
    by_cases b : x < c * 1024
    · rw [if_pos b]
      by_cases d : y ≥ 0
      · rw [if_pos d]
        congr 1
        rw [decide_eq_decide]
        omega
      · rw [if_neg d, decide_eq_false (by omega)]
    · rw [if_neg b, decide_eq_false (by omega)]
  · rw [if_neg a, decide_eq_false (by omega)]
theorem rinside_no {c r p w : Int} (s x y : Int) (h : ¬ R c r p w) : joustref03_Inside.f c r p w s x y = some false := by
  unfold joustref03_Inside.f
  rw [rright_eq, Option.bind_some, decide_eq_false h, if_neg (by decide)]
theorem rclamp_eq (v lo hi : Int) : joustref01_Clamp.f v lo hi = some (clamp v lo hi) := by
  unfold joustref01_Clamp.f clamp
  split <;> (try split) <;> rfl
theorem rof_eq {c r p w : Int} (s x y : Int) (h : R c r p w) : joustref03_Of.f c r p w s x y = some (ofV c r x y) := by
  unfold joustref03_Of.f
  have h1 := h.1
  have h2 := h.2.1
  rw [rright_eq, Option.bind_some, decide_eq_true h, if_pos rfl, wr (show _ ≤ c * 1024 by omega) (by omega), wr (show _ ≤ c * 1024 - 1 by omega) (by omega), rclamp_eq, Option.bind_some, wr (show _ ≤ r * 1024 by omega) (by omega), wr (show _ ≤ r * 1024 - 1 by omega) (by omega), rclamp_eq, Option.bind_some, of_form x y h1 h2]
theorem rof_no {c r p w : Int} (s x y : Int) (h : ¬ R c r p w) : joustref03_Of.f c r p w s x y = some 0 := by
  unfold joustref03_Of.f
  rw [rright_eq, Option.bind_some, decide_eq_false h, if_neg (by decide)]

theorem ewithin_eq (a lo hi : Int) : entity_within.f a lo hi = some (decide (lo ≤ a ∧ a ≤ hi)) := by
  unfold entity_within.f
  by_cases h : lo ≤ a <;> simp [h]
theorem epace_eq (a : Int) : entity_pace.f a = some (decide (a = 0 ∨ a = 160 ∨ a = -160)) := by
  unfold entity_pace.f
  by_cases h : a = 0
  · simp [h]
  · by_cases h2 : a = 160
    · simp [h2]
    · rw [if_neg h, if_neg h2]
      congr 1
      rw [Bool.eq_iff_iff, beq_iff_eq, decide_eq_true_eq]
      omega
/-- may an entity be, that is in the arena -/
def ER2 (p e0 e1 e4 e5 e6 e7 e8 : Int) : Prop :=
  (e1 = 1 ∧ 1 ≤ e0 ∧ e0 ≤ p ∧ -64 ≤ e4 ∧ e4 ≤ 64 ∧ -64 ≤ e5 ∧ e5 ≤ 64 ∧ 1 ≤ e6 ∧ e6 ≤ 100 ∧ 0 ≤ e7 ∧ e7 ≤ 6 ∧ e8 = 0) ∨
   (e1 = 2 ∧ 1000 ≤ e0 ∧ e0 ≤ 2147483647 ∧ (e4 = 0 ∨ e4 = 160 ∨ e4 = -160) ∧ (e5 = 0 ∨ e5 = 160 ∨ e5 = -160) ∧ ¬ (e4 = 0 ∧ e5 = 0) ∧ e6 = 1 ∧ 0 ≤ e7 ∧ e7 ≤ 12 ∧ 1 ≤ e8 ∧ e8 ≤ p) ∨
   (e1 = 3 ∧ 1000 ≤ e0 ∧ e0 ≤ 2147483647 ∧ e4 = 0 ∧ e5 = 0 ∧ e6 = 1 ∧ e7 = 0 ∧ e8 = 0)
instance (p e0 e1 e4 e5 e6 e7 e8 : Int) : Decidable (ER2 p e0 e1 e4 e5 e6 e7 e8) := by unfold ER2; infer_instance
/-- may an entity be -/
def ER (c r p e0 e1 e2 e3 e4 e5 e6 e7 e8 : Int) : Prop := ((0 ≤ e2 ∧ e2 < c * 1024) ∧ (0 ≤ e3 ∧ e3 < r * 1024)) ∧ ER2 p e0 e1 e4 e5 e6 e7 e8
instance (c r p e0 e1 e2 e3 e4 e5 e6 e7 e8 : Int) : Decidable (ER c r p e0 e1 e2 e3 e4 e5 e6 e7 e8) := by unfold ER; infer_instance
set_option maxHeartbeats 4000000 in
theorem eright_eq {c r p w : Int} (s e0 e1 e2 e3 e4 e5 e6 e7 e8 : Int) (h : R c r p w) {k : Nat} (hk : 1 ≤ k) : entity_Right.f k c r p w s e0 e1 e2 e3 e4 e5 e6 e7 e8 = some (decide (ER c r p e0 e1 e2 e3 e4 e5 e6 e7 e8)) := by
  obtain ⟨k, rfl⟩ : ∃ m, k = m + 1 := ⟨k - 1, by omega⟩
  unfold entity_Right.f
  rw [inside_eq s e2 e3 h, Option.bind_some]
  by_cases hin : (0 ≤ e2 ∧ e2 < c * 1024) ∧ (0 ≤ e3 ∧ e3 < r * 1024)
  · rw [decide_eq_true hin, if_pos rfl, ewithin_eq, Option.bind_some]
    have hER : ER c r p e0 e1 e2 e3 e4 e5 e6 e7 e8 ↔ ER2 p e0 e1 e4 e5 e6 e7 e8 := and_iff_right hin
    rw [show decide (ER c r p e0 e1 e2 e3 e4 e5 e6 e7 e8) = decide (ER2 p e0 e1 e4 e5 e6 e7 e8) from decide_eq_decide.2 hER]
    simp only [entity_Right.j0, ewithin_eq, epace_eq, Option.bind_some, decide_eq_true_eq, beq_iff_eq, Bool.false_eq_true, if_false]
    repeat' split
    all_goals first | (congr 1; symm; rw [decide_eq_false_iff_not]; unfold ER2; omega) | (congr 1; rw [Bool.eq_iff_iff]; simp only [decide_eq_true_eq, beq_iff_eq]; unfold ER2; omega) | omega
  · rw [decide_eq_false hin, if_neg (by decide), decide_eq_false (fun h => hin h.1)]
theorem held_eq {v : Int} (h : -2147483647 ≤ v ∧ v ≤ 2147483647) : fixed_Held.f v = some v := by
  unfold fixed_Held.f
  rw [fclamp_eq, Option.bind_some]
  unfold clamp
  rw [if_neg (by omega), if_neg (by omega)]
theorem sum_eq {a b : Int} (ha : -100000 ≤ a ∧ a ≤ 100000) (hb : -100000 ≤ b ∧ b ≤ 100000) {k : Nat} (hk : 3 ≤ k) : moving_sum.f k [a, b] = some (a + b) := by
  obtain ⟨k, rfl⟩ : ∃ m, k = m + 3 := ⟨k - 3, by omega⟩
  unfold moving_sum.f fixed_Add.f
  simp only [fixed_Add.l0]
  have e0 : rd [a, b] 0 = a := rfl
  have e1 : rd [a, b] 1 = b := rfl
  rw [if_pos (by simp), if_pos (by simp), if_pos (by simp), e0, held_eq (by omega), Option.bind_some, wr (show _ ≤ 0 + a by omega) (by omega), held_eq (by omega), Option.bind_some, wr (show _ ≤ (0 : Int) + 1 by omega) (by omega), if_pos (by simp), if_pos (by simp), if_pos (by simp)]
  rw [show (0 : Int) + 1 = 1 from rfl, e1, held_eq (by omega), Option.bind_some, Int.zero_add, wr (show _ ≤ a + b by omega) (by omega), held_eq (by omega), Option.bind_some, wr (show _ ≤ (1 : Int) + 1 by omega) (by omega), if_neg (by simp), Option.bind_some]
/-- an entity that goes on; false: it is gone -/
def goF (c r e0 e1 e2 e3 e4 e5 e6 e7 e8 : Int) : Int × Int × Int × Int × Int × Int × Int × Int × Int × Bool :=
  if e1 = 2 then (if e7 + 1 > 12 ∨ ¬ ((0 ≤ e2 + e4 ∧ e2 + e4 < c * 1024) ∧ (0 ≤ e3 + e5 ∧ e3 + e5 < r * 1024)) then (0, 0, 0, 0, 0, 0, 0, 0, 0, false)
    else (e0, e1, clamp (e2 + e4) 0 (c * 1024 - 1), clamp (e3 + e5) 0 (r * 1024 - 1), e4, e5, e6, e7 + 1, e8, true))
  else (e0, e1, clamp (e2 + e4) 0 (c * 1024 - 1), clamp (e3 + e5) 0 (r * 1024 - 1), e4, e5, e6, e7, e8, true)
theorem go_eq {c r p w : Int} (s : Int) {e0 e1 e2 e3 e4 e5 e6 e7 e8 : Int} (h : R c r p w) (he : ER c r p e0 e1 e2 e3 e4 e5 e6 e7 e8) {k : Nat} (hk : 5 ≤ k) : moving_Go.f k c r p w s e0 e1 e2 e3 e4 e5 e6 e7 e8 = some (goF c r e0 e1 e2 e3 e4 e5 e6 e7 e8) := by
  obtain ⟨k, rfl⟩ : ∃ m, k = m + 1 := ⟨k - 1, by omega⟩
  have h1 := h.1
  have h2 := h.2.1
  unfold moving_Go.f goF
  rw [eright_eq s _ _ _ _ _ _ _ _ _ h (by omega), Option.bind_some, decide_eq_true he, if_pos rfl]
  unfold ER ER2 at he
  rw [sum_eq (by omega) (by omega) (by omega), Option.bind_some, sum_eq (by omega) (by omega) (by omega), Option.bind_some]
  have j : ∀ a b e7', moving_Go.j0 (k + 1) a b c r p w s e0 e1 e2 e3 e4 e5 e6 e7' e8 = some (e0, e1, clamp a 0 (c * 1024 - 1), clamp b 0 (r * 1024 - 1), e4, e5, e6, e7', e8, true) := by
    intro a b e7'
    simp only [moving_Go.j0]
    rw [width_eq s h, Option.bind_some, wr (show _ ≤ c * 1024 - 1 by omega) (by omega), fclamp_eq, Option.bind_some, height_eq s h, Option.bind_some, wr (show _ ≤ r * 1024 - 1 by omega) (by omega), fclamp_eq, Option.bind_some]
  by_cases hs : e1 = 2
  · rw [if_pos hs, if_pos hs, wr (show _ ≤ e7 + 1 by omega) (by omega)]
    by_cases h12 : e7 + 1 > 12
    · rw [if_pos h12, if_pos (.inl h12)]
    · rw [if_neg h12, inside_eq s _ _ h, Option.bind_some]
      by_cases hin : (0 ≤ e2 + e4 ∧ e2 + e4 < c * 1024) ∧ (0 ≤ e3 + e5 ∧ e3 + e5 < r * 1024)
      · rw [decide_eq_true hin, if_pos rfl, j, if_neg (by omega)]
      · rw [decide_eq_false hin, if_neg (by decide), if_pos (.inr hin)]
  · rw [if_neg hs, if_neg hs, j]
theorem go_no {c r p w : Int} (s : Int) {e0 e1 e2 e3 e4 e5 e6 e7 e8 : Int} (h : R c r p w) (he : ¬ ER c r p e0 e1 e2 e3 e4 e5 e6 e7 e8) {k : Nat} (hk : 5 ≤ k) : moving_Go.f k c r p w s e0 e1 e2 e3 e4 e5 e6 e7 e8 = some (0, 0, 0, 0, 0, 0, 0, 0, 0, false) := by
  unfold moving_Go.f
  rw [eright_eq s _ _ _ _ _ _ _ _ _ h (by omega), Option.bind_some, decide_eq_false he, if_neg (by decide)]
theorem iright_eq (a b : Int) (c : Bool) : input_Right.f a b c = some (decide (-2 ≤ a ∧ a ≤ 2 ∧ -2 ≤ b ∧ b ≤ 2)) := by
  unfold input_Right.f
  by_cases h1 : -2 ≤ a <;> by_cases h2 : a ≤ 2 <;> by_cases h3 : -2 ≤ b <;> by_cases h4 : b ≤ 2 <;> simp [h1, h2, h3, h4]
/-- a steered entity; does it shoot -/
def steerF (e0 e1 e2 e3 e4 e5 e6 e7 e8 i0 i1 : Int) (i2 : Bool) : Int × Int × Int × Int × Int × Int × Int × Int × Int × Bool :=
  if e1 = 1 ∧ -2 ≤ i0 ∧ i0 ≤ 2 ∧ -2 ≤ i1 ∧ i1 ≤ 2 then (if i2 = true ∧ e7 = 0 then (e0, e1, e2, e3, i0 * 32, i1 * 32, e6, 6, e8, true) else (e0, e1, e2, e3, i0 * 32, i1 * 32, e6, mx e7 1 - 1, e8, false))
  else (e0, e1, e2, e3, e4, e5, e6, e7, e8, false)
theorem steer_eq (e0 e1 e2 e3 e4 e5 e6 e7 e8 i0 i1 : Int) (i2 : Bool) (h7 : -9223372036854775808 ≤ e7 ∧ e7 ≤ 9223372036854775807) {k : Nat} (hk : 1 ≤ k) : moving_Steer.f k e0 e1 e2 e3 e4 e5 e6 e7 e8 i0 i1 i2 = some (steerF e0 e1 e2 e3 e4 e5 e6 e7 e8 i0 i1 i2) := by
  obtain ⟨k, rfl⟩ : ∃ m, k = m + 1 := ⟨k - 1, by omega⟩
  unfold moving_Steer.f steerF
  rw [iright_eq, Option.bind_some]
  simp only [moving_Steer.j0]
  have hm : wrap64 (mx e7 1 - 1) = mx e7 1 - 1 := by unfold mx; rw [wr (by omega) (by omega)]
  by_cases h1 : e1 = 1
  · rw [if_pos h1]
    by_cases hr : -2 ≤ i0 ∧ i0 ≤ 2 ∧ -2 ≤ i1 ∧ i1 ≤ 2
    · rw [decide_eq_true hr, if_neg (by decide), wr (show _ ≤ i0 * 32 by omega) (by omega), wr (show _ ≤ i1 * 32 by omega) (by omega), hm, if_pos (show e1 = 1 ∧ -2 ≤ i0 ∧ i0 ≤ 2 ∧ -2 ≤ i1 ∧ i1 ≤ 2 from ⟨h1, hr⟩)]
      by_cases h2 : i2 = true
      · by_cases h3 : e7 = 0
        · rw [if_pos h2, if_pos h3, if_pos (show i2 = true ∧ e7 = 0 from ⟨h2, h3⟩)]
        · rw [if_pos h2, if_neg h3, if_neg (show ¬ (i2 = true ∧ e7 = 0) from fun h => h3 h.2)]
      · rw [if_neg h2, if_neg (show ¬ (i2 = true ∧ e7 = 0) from fun h => h2 h.1)]
    · rw [decide_eq_false hr, if_pos (by decide), if_neg (fun h => hr h.2)]
  · rw [if_neg h1, if_pos trivial, if_neg (show ¬ (e1 = 1 ∧ -2 ≤ i0 ∧ i0 ≤ 2 ∧ -2 ≤ i1 ∧ i1 ≤ 2) from fun h => h1 h.1)]
theorem pace_eq (a : Int) : moving_pace.f a = some (clamp a (-1) 1 * 160) := by
  unfold moving_pace.f
  have := clamp_in a (-1) 1 (by decide)
  rw [fclamp_eq, Option.bind_some, wr (by omega) (by omega)]
/-- a shot -/
def shootF (e0 e2 e3 i0 i1 id : Int) : Int × Int × Int × Int × Int × Int × Int × Int × Int :=
  (id, 2, e2, e3, if clamp i0 (-1) 1 * 160 = 0 ∧ clamp i1 (-1) 1 * 160 = 0 then 160 else clamp i0 (-1) 1 * 160, clamp i1 (-1) 1 * 160, 1, 0, e0)
theorem shoot_eq (e0 e1 e2 e3 e4 e5 e6 e7 e8 i0 i1 : Int) (i2 : Bool) (id : Int) : moving_Shoot.f e0 e1 e2 e3 e4 e5 e6 e7 e8 i0 i1 i2 id = some (shootF e0 e2 e3 i0 i1 id) := by
  unfold moving_Shoot.f shootF
  rw [pace_eq, Option.bind_some, pace_eq, Option.bind_some]
  by_cases h1 : clamp i0 (-1) 1 * 160 = 0
  · by_cases h2 : clamp i1 (-1) 1 * 160 = 0
    · rw [if_pos h1, if_pos h2, if_pos ⟨h1, h2⟩]
    · rw [if_pos h1, if_neg h2, if_neg (fun h => h2 h.2)]
  · rw [if_neg h1, if_neg (fun h => h1 h.1)]

theorem rwithin_eq (a lo hi : Int) : joustref05_within.f a lo hi = some (decide (lo ≤ a ∧ a ≤ hi)) := by
  unfold joustref05_within.f
  by_cases h : lo ≤ a <;> simp [h]
theorem rstep_eq (a : Int) : joustref05_step.f a = some (decide (a = 0 ∨ a = 160 ∨ a = -160)) := by
  unfold joustref05_step.f
  by_cases h : a = -160
  · simp [h]
  · by_cases h2 : a = 0
    · simp [h2]
    · rw [if_neg h, if_neg h2]
      congr 1
      rw [Bool.eq_iff_iff, beq_iff_eq, decide_eq_true_eq]
      omega
set_option maxHeartbeats 4000000 in
theorem reright_eq {c r p w : Int} (s e0 e1 e2 e3 e4 e5 e6 e7 e8 : Int) (h : R c r p w) : joustref05_Right.f c r p w s e0 e1 e2 e3 e4 e5 e6 e7 e8 = some (decide (ER c r p e0 e1 e2 e3 e4 e5 e6 e7 e8)) := by
  unfold joustref05_Right.f
  rw [rinside_eq s e2 e3 h, Option.bind_some]
  by_cases hin : (0 ≤ e2 ∧ e2 < c * 1024) ∧ (0 ≤ e3 ∧ e3 < r * 1024)
  · rw [decide_eq_true hin, if_pos rfl, rwithin_eq, Option.bind_some]
    have hER : ER c r p e0 e1 e2 e3 e4 e5 e6 e7 e8 ↔ ER2 p e0 e1 e4 e5 e6 e7 e8 := and_iff_right hin
    rw [show decide (ER c r p e0 e1 e2 e3 e4 e5 e6 e7 e8) = decide (ER2 p e0 e1 e4 e5 e6 e7 e8) from decide_eq_decide.2 hER]
    simp only [rwithin_eq, rstep_eq, Option.bind_some, decide_eq_true_eq]
    repeat' split
    all_goals first | (congr 1; symm; rw [decide_eq_false_iff_not]; unfold ER2; omega) | (congr 1; rw [Bool.eq_iff_iff]; simp only [decide_eq_true_eq, beq_iff_eq]; unfold ER2; omega) | omega
  · rw [decide_eq_false hin, if_neg (by decide), decide_eq_false (fun h => hin h.1)]

theorem rinput_eq (a b : Int) (c : Bool) : joustref05_Input.f a b c = some (decide (-2 ≤ a ∧ a ≤ 2 ∧ -2 ≤ b ∧ b ≤ 2)) := by
  unfold joustref05_Input.f
  by_cases h1 : -2 ≤ a <;> by_cases h2 : a ≤ 2 <;> by_cases h3 : -2 ≤ b <;> by_cases h4 : b ≤ 2 <;> simp [h1, h2, h3, h4]
theorem pinput_eq (a b : Int) (c : Bool) : ∃ i0 i1, joustplay_Input.f a b c = some (i0, i1, c) ∧ (-2 ≤ i0 ∧ i0 ≤ 2 ∧ -2 ≤ i1 ∧ i1 ≤ 2) := by
  unfold joustplay_Input.f
  rw [rinput_eq, Option.bind_some]
  by_cases h : -2 ≤ a ∧ a ≤ 2 ∧ -2 ≤ b ∧ b ≤ 2
  · rw [decide_eq_true h, if_pos rfl]
    exact ⟨a, b, rfl, h⟩
  · rw [decide_eq_false h, if_neg (by decide)]
    have h1 := umod1 a 5 (by decide) (by decide)
    have h2 := umod1 b 5 (by decide) (by decide)
    refine ⟨_, _, rfl, ?_⟩
    generalize wrap64 (Int.tmod (IntKind.u64.wrap a) 5) = x at *
    generalize wrap64 (Int.tmod (IntKind.u64.wrap b) 5) = y at *
    rw [wr (show _ ≤ x - 2 by omega) (by omega), wr (show _ ≤ y - 2 by omega) (by omega)]
    omega

theorem awake_eq {k : Nat} (hk : 1 ≤ k) : joustlaw07_awake.f k = some true := by
  unfold joustlaw07_awake.f
  rw [steer_eq _ _ _ _ _ _ _ _ _ _ _ _ (by decide) hk, Option.bind_some]
  have e : steerF 1 1 0 0 0 0 0 0 0 1 0 true = (1, 1, 0, 0, 32, 0, 0, 6, 0, true) := by unfold steerF; rw [if_pos (by decide), if_pos (by decide)]; rfl
  rw [e]
  simp only
  rw [if_pos trivial, if_pos trivial, if_pos trivial, shoot_eq, Option.bind_some]
  decide

theorem near_of : ∀ c r : Fin 4, ∀ a q : Fin 3, ∀ a' q' : Fin 3, c.val ≤ a.val ∨ c.val ≤ a'.val ∨ r.val ≤ q.val ∨ r.val ≤ q'.val ∨ a.val + 1 < a'.val ∨ a'.val + 1 < a.val ∨ q.val + 1 < q'.val ∨ q'.val + 1 < q.val ∨ (nearL c.val r.val (q.val * c.val + a.val)).contains (((q'.val * c.val + a'.val : Nat)) : Int) = true := by decide +kernel
theorem clamp_same {c x : Int} (hx : 0 ≤ x ∧ x < c * 1024) : clamp x 0 (c * 1024 - 1) = x := by unfold clamp; rw [if_neg (by omega), if_neg (by omega)]
theorem ofV_same {c r x y : Int} (hx : 0 ≤ x ∧ x < c * 1024) (hy : 0 ≤ y ∧ y < r * 1024) : ofV c r x y = y / 1024 * c + x / 1024 := by unfold ofV; rw [clamp_same hx, clamp_same hy]
theorem ofV_at {c r x y : Int} (hc : 1 ≤ c ∧ c ≤ 3) (hr : 1 ≤ r ∧ r ≤ 3) (hx : 0 ≤ x ∧ x < c * 1024) (hy : 0 ≤ y ∧ y < r * 1024) : 0 ≤ ofV c r x y ∧ ofV c r x y < c * r := by
  rw [ofV_same hx hy]
  have hxb : 0 ≤ x / 1024 ∧ x / 1024 < c := by omega
  have hyb : 0 ≤ y / 1024 ∧ y / 1024 < r := by omega
  generalize y / 1024 = q at *
  generalize x / 1024 = a at *
  have : c = 1 ∨ c = 2 ∨ c = 3 := by omega
  rcases this with rfl | rfl | rfl <;> omega
theorem near_move {c r x y x' y' : Int} (hc : 1 ≤ c ∧ c ≤ 3) (hr : 1 ≤ r ∧ r ≤ 3) (hx : 0 ≤ x ∧ x < c * 1024) (hy : 0 ≤ y ∧ y < r * 1024) (hx' : 0 ≤ x' ∧ x' < c * 1024) (hy' : 0 ≤ y' ∧ y' < r * 1024) (dx : x ≤ x' + 1023 ∧ x' ≤ x + 1023) (dy : y ≤ y' + 1023 ∧ y' ≤ y + 1023) :
    (nearL c.toNat r.toNat (ofV c r x y).toNat).contains (ofV c r x' y') = true := by
  have ho := ofV_at hc hr hx hy
  have e1 := ofV_same hx hy
  have e1' := ofV_same hx' hy'
  have hxb : 0 ≤ x / 1024 ∧ x / 1024 < c := by omega
  have hyb : 0 ≤ y / 1024 ∧ y / 1024 < r := by omega
  have hxb' : 0 ≤ x' / 1024 ∧ x' / 1024 < c := by omega
  have hyb' : 0 ≤ y' / 1024 ∧ y' / 1024 < r := by omega
  have s1 : x / 1024 ≤ x' / 1024 + 1 ∧ x' / 1024 ≤ x / 1024 + 1 := by omega
  have s2 : y / 1024 ≤ y' / 1024 + 1 ∧ y' / 1024 ≤ y / 1024 + 1 := by omega
  generalize y / 1024 = q at *
  generalize x / 1024 = a at *
  generalize y' / 1024 = q' at *
  generalize x' / 1024 = a' at *
  have hn := near_of ⟨c.toNat, by omega⟩ ⟨r.toNat, by omega⟩ ⟨a.toNat, by omega⟩ ⟨q.toNat, by omega⟩ ⟨a'.toNat, by omega⟩ ⟨q'.toNat, by omega⟩
  simp only at hn
  have hc0 : 0 ≤ c := by omega
  have e2 : (ofV c r x y).toNat = q.toNat * c.toNat + a.toNat := by
    apply Int.ofNat.inj
    show ((ofV c r x y).toNat : Int) = ((q.toNat * c.toNat + a.toNat : Nat) : Int)
    rw [Int.natCast_add, Int.natCast_mul, Int.toNat_of_nonneg ho.1, Int.toNat_of_nonneg hyb.1, Int.toNat_of_nonneg hc0, Int.toNat_of_nonneg hxb.1, e1]
  have e3 : ((q'.toNat * c.toNat + a'.toNat : Nat) : Int) = ofV c r x' y' := by
    rw [Int.natCast_add, Int.natCast_mul, Int.toNat_of_nonneg hyb'.1, Int.toNat_of_nonneg hc0, Int.toNat_of_nonneg hxb'.1, e1']
  rw [e2, ← e3]
  rcases hn with e | e | e | e | e | e | e | e | e
  all_goals first | exact e | (exfalso; omega)
theorem mn_loop (l : List Int) (tt : Int) (hb : l.length < 4611686018427387904) (c r p w s e0 e1 e2 e3 e4 e5 e6 e7 e8 x0 x1 x2 x3 x4 x5 x6 x7 x8 : Int) (hF : joustref05_Right.f c r p w s x0 x1 x2 x3 x4 x5 x6 x7 x8 = some true) (q0 : x0 = e0) (q1 : x1 = e1) (q6 : x6 = e6) : ∀ (d k i : Nat) (b : Bool), i + d = l.length → d < k → (b = true ∨ (l.drop i).contains tt = true) → joustlaw07_MovingNear.l0 k tt l b (i : Int) c r p w s e0 e1 e2 e3 e4 e5 e6 e7 e8 x0 x1 x2 x3 x4 x5 x6 x7 x8 = some true := by
  intro d
  induction d with
  | zero =>
    intro k i b hi hk h
    obtain ⟨k, rfl⟩ : ∃ m, k = m + 1 := ⟨k - 1, by omega⟩
    have hbt : b = true := by
      rcases h with h | h
      · exact h
      · rw [List.drop_of_length_le (by omega)] at h; simp at h
    simp only [joustlaw07_MovingNear.l0]
    rw [if_neg (by omega), if_pos hbt, hF, Option.bind_some, if_pos rfl, if_pos q0, if_pos q1, q6, beq_self_eq_true]
  | succ d ih =>
    intro k i b hi hk h
    obtain ⟨k, rfl⟩ : ∃ m, k = m + 1 := ⟨k - 1, by omega⟩
    simp only [joustlaw07_MovingNear.l0]
    have h1 : i < l.length := by omega
    have e3 : wrap64 ((i : Int) + 1) = ((i + 1 : Nat) : Int) := by rw [wr (by omega) (by omega)]; rfl
    rw [if_pos (by omega), e3]
    by_cases hbt : b = true
    · rw [if_pos hbt]
      exact ih k (i + 1) true (by omega) (by omega) (.inl rfl)
    · rw [if_neg hbt, if_pos (show (0 : Int) ≤ (i : Int) from Int.natCast_nonneg i)]
      have e1 : rd l (i : Int) = l[i] := by simp [rd, List.getD_eq_getElem?_getD, h1]
      refine ih k (i + 1) _ (by omega) (by omega) ?_
      rcases h with h | h
      · exact absurd h hbt
      · rw [List.drop_eq_getElem_cons h1, List.contains_cons, Bool.or_eq_true] at h
        rcases h with h | h
        · exact .inl (by rw [e1]; rw [beq_iff_eq] at h ⊢; exact h.symm)
        · exact .inr h
set_option maxHeartbeats 4000000 in
theorem steer_er {c r p e0 e1 e2 e3 e4 e5 e6 e7 e8 i0 i1 : Int} {i2 : Bool} (hi : -2 ≤ i0 ∧ i0 ≤ 2 ∧ -2 ≤ i1 ∧ i1 ≤ 2) (he : ER c r p e0 e1 e2 e3 e4 e5 e6 e7 e8) :
    ∃ v4 v5 v7 b, steerF e0 e1 e2 e3 e4 e5 e6 e7 e8 i0 i1 i2 = (e0, e1, e2, e3, v4, v5, e6, v7, e8, b) ∧ ER c r p e0 e1 e2 e3 v4 v5 e6 v7 e8 := by
  unfold steerF
  by_cases h1 : e1 = 1
  · rw [if_pos ⟨h1, hi⟩]
    by_cases h2 : i2 = true ∧ e7 = 0
    · rw [if_pos h2]
      refine ⟨_, _, _, _, rfl, ?_⟩
      unfold ER ER2 at *
      omega
    · rw [if_neg h2]
      refine ⟨_, _, _, _, rfl, ?_⟩
      unfold ER ER2 mx at *
      omega
  · rw [if_neg (fun h => h1 h.1)]
    exact ⟨_, _, _, _, rfl, he⟩
set_option maxHeartbeats 4000000 in
theorem go_er {c r p e0 e1 e2 e3 e4 e5 e6 e7 e8 : Int} (hc : 1 ≤ c ∧ c ≤ 3) (hr : 1 ≤ r ∧ r ≤ 3) (he : ER c r p e0 e1 e2 e3 e4 e5 e6 e7 e8) :
    (goF c r e0 e1 e2 e3 e4 e5 e6 e7 e8 = (0, 0, 0, 0, 0, 0, 0, 0, 0, false) ∧ e1 = 2) ∨
    ∃ x y v7, goF c r e0 e1 e2 e3 e4 e5 e6 e7 e8 = (e0, e1, x, y, e4, e5, e6, v7, e8, true) ∧ ER c r p e0 e1 x y e4 e5 e6 v7 e8 ∧ (e2 ≤ x + 1023 ∧ x ≤ e2 + 1023) ∧ (e3 ≤ y + 1023 ∧ y ≤ e3 + 1023) := by
  have c1 := clamp_in (e2 + e4) 0 (c * 1024 - 1) (by omega)
  have c2 := clamp_in (e3 + e5) 0 (r * 1024 - 1) (by omega)
  unfold ER ER2 at he
  have b4 : -160 ≤ e4 ∧ e4 ≤ 160 := by omega
  have b5 : -160 ≤ e5 ∧ e5 ≤ 160 := by omega
  have d2 : e2 ≤ clamp (e2 + e4) 0 (c * 1024 - 1) + 1023 ∧ clamp (e2 + e4) 0 (c * 1024 - 1) ≤ e2 + 1023 := by
    have := he.1.1
    clear he c2
    unfold clamp; split <;> (try split) <;> omega
  have d3 : e3 ≤ clamp (e3 + e5) 0 (r * 1024 - 1) + 1023 ∧ clamp (e3 + e5) 0 (r * 1024 - 1) ≤ e3 + 1023 := by
    have := he.1.2
    clear he c1 d2
    unfold clamp; split <;> (try split) <;> omega
  unfold goF
  by_cases h2 : e1 = 2
  · rw [if_pos h2]
    by_cases h3 : e7 + 1 > 12 ∨ ¬ ((0 ≤ e2 + e4 ∧ e2 + e4 < c * 1024) ∧ (0 ≤ e3 + e5 ∧ e3 + e5 < r * 1024))
    · rw [if_pos h3]; exact .inl ⟨rfl, h2⟩
    · rw [if_neg h3]
      refine .inr ⟨_, _, _, rfl, ?_, d2, d3⟩
      have h7 : ¬ e7 + 1 > 12 := fun h => h3 (.inl h)
      clear h3 d2 d3 b4 b5
      unfold ER ER2
      generalize clamp (e2 + e4) 0 (c * 1024 - 1) = X at *
      generalize clamp (e3 + e5) 0 (r * 1024 - 1) = Y at *
      refine ⟨⟨⟨c1.1, by omega⟩, ⟨c2.1, by omega⟩⟩, ?_⟩
      have := he.2
      omega
  · rw [if_neg h2]
    refine .inr ⟨_, _, _, rfl, ?_, d2, d3⟩
    clear d2 d3 b4 b5
    unfold ER ER2
    generalize clamp (e2 + e4) 0 (c * 1024 - 1) = X at *
    generalize clamp (e3 + e5) 0 (r * 1024 - 1) = Y at *
    exact ⟨⟨⟨c1.1, by omega⟩, ⟨c2.1, by omega⟩⟩, he.2⟩
set_option maxHeartbeats 1000000 in
theorem MovingNear (a0 : (Int × (Int × (Int × (Int × Int))))) (a1 : (Int × (Int × (Int × (Int × (Int × (Int × (Int × (Int × Int))))))))) (a2 : (Int × (Int × Bool))) (g0 : G0 a0) (g1 : G1 a1) (g2 : G2 a2) : ∃ k, joustlaw07_MovingNear.f k a0.1 a0.2.1 a0.2.2.1 a0.2.2.2.1 a0.2.2.2.2 a1.1 a1.2.1 a1.2.2.1 a1.2.2.2.1 a1.2.2.2.2.1 a1.2.2.2.2.2.1 a1.2.2.2.2.2.2.1 a1.2.2.2.2.2.2.2.1 a1.2.2.2.2.2.2.2.2 a2.1 a2.2.1 a2.2.2 = some true := by
  obtain ⟨c0, r0, p0, w0, s⟩ := a0
  obtain ⟨e0, e1, e2, e3, e4, e5, e6, e7, e8⟩ := a1
  obtain ⟨j0, j1, i2⟩ := a2
  obtain ⟨c, r, p, w, hc, hq⟩ := config_eq c0 r0 p0 w0 s
  have h := hq.R
  have h7 := bounds_i64 g1.2.2.2.2.2.2.2.1
  simp only at h7
  refine ⟨101, ?_⟩
  unfold joustlaw07_MovingNear.f
  simp only
  rw [hc, Option.bind_some, new_eq s h, Option.bind_some, awake_eq (by decide), Option.bind_some, if_pos rfl]
  simp only [joustlaw07_MovingNear.j0]
  rw [if_pos trivial, reright_eq s _ _ _ _ _ _ _ _ _ h, Option.bind_some]
  by_cases he : ER c r p e0 e1 e2 e3 e4 e5 e6 e7 e8
  · rw [decide_eq_true he, if_neg (by decide)]
    unfold Q at hq
    obtain ⟨hq1, hq2, _⟩ := hq
    obtain ⟨i0, i1, hin, hib⟩ := pinput_eq j0 j1 i2
    obtain ⟨v4, v5, v7, b, hst, he2⟩ := steer_er (i2 := i2) hib he
    rw [hin, Option.bind_some, steer_eq _ _ _ _ _ _ _ _ _ _ _ _ (by omega) (by decide), Option.bind_some]
    simp only [hst]
    rw [go_eq s h he2 (by decide), Option.bind_some]
    have hx : 0 ≤ e2 ∧ e2 < c * 1024 := he.1.1
    have hy : 0 ≤ e3 ∧ e3 < r * 1024 := he.1.2
    rcases go_er hq1 hq2 he2 with ⟨hg, h2⟩ | ⟨x, y, u7, hg, he3, hdx, hdy⟩
    · rw [hg]
      simp only
      rw [if_neg (by decide), if_pos h2]
      rfl
    · rw [hg]
      simp only
      have hx' : 0 ≤ x ∧ x < c * 1024 := he3.1.1
      have hy' : 0 ≤ y ∧ y < r * 1024 := he3.1.2
      rw [if_pos trivial, rof_eq s _ _ h, Option.bind_some, rof_eq s _ _ h, Option.bind_some, rnear_at s (by decide) h (ofV_at hq1 hq2 hx hy), Option.bind_some]
      have l1 := nearL_len ⟨c.toNat, by omega⟩ ⟨r.toNat, by omega⟩ ⟨(ofV c r e2 e3).toNat, by have := ofV_at hq1 hq2 hx hy; have := cr_bound h; omega⟩
      simp only at l1
      exact mn_loop _ _ (by omega) c r p w s e0 e1 e2 e3 e4 e5 e6 e7 e8 e0 e1 x y v4 v5 e6 u7 e8 (by rw [reright_eq s _ _ _ _ _ _ _ _ _ h, decide_eq_true he3]) rfl rfl rfl _ 100 0 false (Nat.zero_add _) (by omega) (.inr (by rw [List.drop_zero]; exact near_move hq1 hq2 hx hy hx' hy' hdx hdy))
  · rw [decide_eq_false he, if_pos (by decide), awake_eq (by decide), Option.bind_some, if_pos rfl]
    rfl
end Go.Proofs.Ytjnjcdaecdnkoaa.PureMovingNear
