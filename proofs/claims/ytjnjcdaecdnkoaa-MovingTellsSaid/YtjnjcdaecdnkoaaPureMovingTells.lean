/- The printed law MovingTells is true for all numbers: how any entity is steered, shoots, and goes. Condition: each number within its kind. -/
import Derived.Test.YtjnjcdaecdnkoaaPMovingTellsy
import Derived.Test.YtjnjcdaecdnkoaaGdsMovingTells
import Derived.OpenShut
namespace Go.Proofs.Ytjnjcdaecdnkoaa.PureMovingTells
set_option linter.unusedVariables false
open Go Go.RowKit Go.Proofs.Ytjnjcdaecdnkoaa.PMovingTells Go.Proofs.Ytjnjcdaecdnkoaa.GdsMovingTells Go.Proofs.YtjnjcdaecdnkoaaW.PrintWords Go.Proofs.YtjnjcdaecdnkoaaW.PrintLast
variable {c r p w : Int}
theorem wr {i : Int} (h0 : -9223372036854775808 ≤ i) (h1 : i < 9223372036854775808) : wrap64 i = i := by unfold wrap64; omega
def R (c r p w : Int) : Prop := (1 ≤ c ∧ c ≤ 4) ∧ (1 ≤ r ∧ r ≤ 4) ∧ (1 ≤ p ∧ p ≤ 6) ∧ (1 ≤ w ∧ w ≤ 16)
instance (c r p w : Int) : Decidable (R c r p w) := by unfold R; infer_instance
theorem gwithin_eq (a lo hi : Int) : grid_within.f a lo hi = some (decide (lo ≤ a ∧ a ≤ hi)) := by
  unfold grid_within.f
  by_cases h : lo ≤ a <;> simp [h]
theorem right_eq (c r p w s : Int) : grid_right.f c r p w s = some (decide (R c r p w)) := by
  unfold grid_right.f R
  simp only [gwithin_eq, Option.bind_some]
  by_cases h1 : 1 ≤ c ∧ c ≤ 4 <;> by_cases h2 : 1 ≤ r ∧ r ≤ 4 <;> by_cases h3 : 1 ≤ p ∧ p ≤ 6 <;> by_cases h4 : 1 ≤ w ∧ w ≤ 16 <;> simp [h1, h2, h3, h4]
theorem size_eq (s : Int) (h : R c r p w) : grid_Grid_size.f c r p w s = some (c, r) := by
  unfold grid_Grid_size.f
  rw [right_eq, Option.bind_some, decide_eq_true h, if_pos rfl]
theorem size_no (s : Int) (h : ¬ R c r p w) : grid_Grid_size.f c r p w s = some (0, 0) := by
  unfold grid_Grid_size.f
  rw [right_eq, Option.bind_some, decide_eq_false h, if_neg (by decide)]
theorem new_eq (s : Int) (h : R c r p w) : grid_New.f c r p w s = some (c, r, p, w, s, 0) := by
  unfold grid_New.f
  rw [right_eq, Option.bind_some, decide_eq_true h, if_pos rfl]
theorem new_no (s : Int) (h : ¬ R c r p w) : grid_New.f c r p w s = some (0, 0, 0, 0, 0, 10) := by
  unfold grid_New.f
  rw [right_eq, Option.bind_some, decide_eq_false h, if_neg (by decide)]

theorem width_eq (s : Int) (h : R c r p w) : grid_Grid_Width.f c r p w s = some (c * 1024) := by
  unfold grid_Grid_Width.f
  have h1 := h.1
  rw [size_eq s h, Option.bind_some, wr (by simp; omega) (by simp; omega)]
theorem width_no (s : Int) (h : ¬ R c r p w) : grid_Grid_Width.f c r p w s = some 0 := by
  unfold grid_Grid_Width.f
  rw [size_no s h, Option.bind_some]; decide +kernel
theorem height_eq (s : Int) (h : R c r p w) : grid_Grid_Height.f c r p w s = some (r * 1024) := by
  unfold grid_Grid_Height.f
  have h1 := h.2.1
  rw [size_eq s h, Option.bind_some, wr (by simp; omega) (by simp; omega)]
theorem inside_eq (s x y : Int) (h : R c r p w) : grid_Grid_Inside.f c r p w s x y = some (decide ((0 ≤ x ∧ x < c * 1024) ∧ (0 ≤ y ∧ y < r * 1024))) := by
  unfold grid_Grid_Inside.f
  have h1 := h.1
  have h2 := h.2.1
  rw [width_eq s h, Option.bind_some, wr (by omega) (by omega), gwithin_eq, Option.bind_some]
  by_cases hx : 0 ≤ x ∧ x < c * 1024
  · rw [decide_eq_true (show 0 ≤ x ∧ x ≤ c * 1024 - 1 by omega), if_pos rfl, height_eq s h, Option.bind_some, wr (by omega) (by omega), gwithin_eq, Option.bind_some]
    congr 1
    rw [decide_eq_decide]
    omega
  · rw [decide_eq_false (show ¬ (0 ≤ x ∧ x ≤ c * 1024 - 1) by omega), if_neg (by decide)]
    congr 1
    symm
    rw [decide_eq_false_iff_not]
    omega
theorem inside_no (s x y : Int) (h : ¬ R c r p w) : grid_Grid_Inside.f c r p w s x y = some false := by
  unfold grid_Grid_Inside.f
  rw [width_no s h, Option.bind_some, wr (by omega) (by omega), gwithin_eq, Option.bind_some, decide_eq_false (by omega), if_neg (by decide)]
def clamp (v lo hi : Int) : Int := if v < lo then lo else if v > hi then hi else v
theorem clamp_in (v lo hi : Int) (h : lo ≤ hi) : lo ≤ clamp v lo hi ∧ clamp v lo hi ≤ hi := by unfold clamp; split <;> (try split) <;> omega
theorem fclamp_eq (v lo hi : Int) : fixed_Clamp.f v lo hi = some (clamp v lo hi) := by
  unfold fixed_Clamp.f clamp
  split <;> (try split) <;> rfl
theorem rright_eq (c r p w s : Int) : joustref03_Right.f c r p w s = some (decide (R c r p w)) := by
  unfold joustref03_Right.f R
  by_cases h1 : 1 ≤ c <;> by_cases h2 : c ≤ 4 <;> simp [h1, h2] <;> by_cases h3 : 1 ≤ r <;> by_cases h4 : r ≤ 4 <;> simp [h3, h4] <;> by_cases h5 : 1 ≤ p <;> by_cases h6 : p ≤ 6 <;> simp [h5, h6] <;> by_cases h7 : 1 ≤ w <;> simp [h7]

theorem rinside_eq (s x y : Int) (h : R c r p w) : joustref03_Inside.f c r p w s x y = some (decide ((0 ≤ x ∧ x < c * 1024) ∧ (0 ≤ y ∧ y < r * 1024))) := by
  unfold joustref03_Inside.f
  have h1 := h.1
  have h2 := h.2.1
  rw [rright_eq, Option.bind_some, decide_eq_true h, if_pos rfl, wr (by omega) (by omega), wr (by omega) (by omega)]
  by_cases a : x ≥ 0
  · rw [if_pos a]
    by_cases b : x < c * 1024
    · rw [if_pos b]
      by_cases d : y ≥ 0
      · rw [if_pos d]
        congr 1
        rw [decide_eq_decide]
        omega
      · rw [if_neg d, decide_eq_false (by omega)]
    · rw [if_neg b, decide_eq_false (by omega)]
  · rw [if_neg a, decide_eq_false (by omega)]
theorem rinside_no (s x y : Int) (h : ¬ R c r p w) : joustref03_Inside.f c r p w s x y = some false := by
  unfold joustref03_Inside.f
  rw [rright_eq, Option.bind_some, decide_eq_false h, if_neg (by decide)]
theorem rclamp_eq (v lo hi : Int) : joustref01_Clamp.f v lo hi = some (clamp v lo hi) := by
  unfold joustref01_Clamp.f clamp
  split <;> (try split) <;> rfl
theorem ewithin_eq (a lo hi : Int) : entity_within.f a lo hi = some (decide (lo ≤ a ∧ a ≤ hi)) := by
  unfold entity_within.f
  by_cases h : lo ≤ a <;> simp [h]
theorem epace_eq (a : Int) : entity_pace.f a = some (decide (a = 0 ∨ a = 160 ∨ a = -160)) := by
  unfold entity_pace.f
  by_cases h : a = 0
  · simp [h]
  · by_cases h2 : a = 160
    · simp [h2]
    · rw [if_neg h, if_neg h2]
      congr 1
      rw [Bool.eq_iff_iff, beq_iff_eq, decide_eq_true_eq]
      omega
def ER2 (p e0 e1 e4 e5 e6 e7 e8 : Int) : Prop :=
  (e1 = 1 ∧ 1 ≤ e0 ∧ e0 ≤ p ∧ -64 ≤ e4 ∧ e4 ≤ 64 ∧ -64 ≤ e5 ∧ e5 ≤ 64 ∧ 1 ≤ e6 ∧ e6 ≤ 100 ∧ 0 ≤ e7 ∧ e7 ≤ 6 ∧ e8 = 0) ∨
   (e1 = 2 ∧ 1000 ≤ e0 ∧ e0 ≤ 2147483647 ∧ (e4 = 0 ∨ e4 = 160 ∨ e4 = -160) ∧ (e5 = 0 ∨ e5 = 160 ∨ e5 = -160) ∧ ¬ (e4 = 0 ∧ e5 = 0) ∧ e6 = 1 ∧ 0 ≤ e7 ∧ e7 ≤ 12 ∧ 1 ≤ e8 ∧ e8 ≤ p) ∨
   (e1 = 3 ∧ 1000 ≤ e0 ∧ e0 ≤ 2147483647 ∧ e4 = 0 ∧ e5 = 0 ∧ e6 = 1 ∧ e7 = 0 ∧ e8 = 0)
instance (p e0 e1 e4 e5 e6 e7 e8 : Int) : Decidable (ER2 p e0 e1 e4 e5 e6 e7 e8) := by unfold ER2; infer_instance
def ER (c r p e0 e1 e2 e3 e4 e5 e6 e7 e8 : Int) : Prop := ((0 ≤ e2 ∧ e2 < c * 1024) ∧ (0 ≤ e3 ∧ e3 < r * 1024)) ∧ ER2 p e0 e1 e4 e5 e6 e7 e8
instance (c r p e0 e1 e2 e3 e4 e5 e6 e7 e8 : Int) : Decidable (ER c r p e0 e1 e2 e3 e4 e5 e6 e7 e8) := by unfold ER; infer_instance
set_option maxHeartbeats 4000000 in
theorem eright_eq (s e0 e1 e2 e3 e4 e5 e6 e7 e8 : Int) (h : R c r p w) {k : Nat} (hk : 1 ≤ k) : entity_Right.f k c r p w s e0 e1 e2 e3 e4 e5 e6 e7 e8 = some (decide (ER c r p e0 e1 e2 e3 e4 e5 e6 e7 e8)) := by
  obtain ⟨k, rfl⟩ : ∃ m, k = m + 1 := ⟨k - 1, by omega⟩
  unfold entity_Right.f
  rw [inside_eq s e2 e3 h, Option.bind_some]
  by_cases hin : (0 ≤ e2 ∧ e2 < c * 1024) ∧ (0 ≤ e3 ∧ e3 < r * 1024)
  · rw [decide_eq_true hin, if_pos rfl, ewithin_eq, Option.bind_some]
    have hER : ER c r p e0 e1 e2 e3 e4 e5 e6 e7 e8 ↔ ER2 p e0 e1 e4 e5 e6 e7 e8 := and_iff_right hin
    rw [show decide (ER c r p e0 e1 e2 e3 e4 e5 e6 e7 e8) = decide (ER2 p e0 e1 e4 e5 e6 e7 e8) from decide_eq_decide.2 hER]
    simp only [entity_Right.j0, ewithin_eq, epace_eq, Option.bind_some, decide_eq_true_eq, beq_iff_eq, Bool.false_eq_true, if_false]
    repeat' split
    all_goals first | (congr 1; symm; rw [decide_eq_false_iff_not]; unfold ER2; omega) | (congr 1; rw [Bool.eq_iff_iff]; simp only [decide_eq_true_eq, beq_iff_eq]; unfold ER2; omega) | omega
  · rw [decide_eq_false hin, if_neg (by decide), decide_eq_false (fun h => hin h.1)]
theorem held_eq {v : Int} (h : -2147483647 ≤ v ∧ v ≤ 2147483647) : fixed_Held.f v = some v := by
  unfold fixed_Held.f
  rw [fclamp_eq, Option.bind_some]
  unfold clamp
  rw [if_neg (by omega), if_neg (by omega)]
theorem sum_eq {a b : Int} (ha : -100000 ≤ a ∧ a ≤ 100000) (hb : -100000 ≤ b ∧ b ≤ 100000) {k : Nat} (hk : 3 ≤ k) : moving_sum.f k [a, b] = some (a + b) := by
  obtain ⟨k, rfl⟩ : ∃ m, k = m + 3 := ⟨k - 3, by omega⟩
  unfold moving_sum.f fixed_Add.f
  simp only [fixed_Add.l0]
  have e0 : rd [a, b] 0 = a := rfl
  have e1 : rd [a, b] 1 = b := rfl
  rw [if_pos (by simp), if_pos (by simp), if_pos (by simp), e0, held_eq (by omega), Option.bind_some, wr (show _ ≤ 0 + a by omega) (by omega), held_eq (by omega), Option.bind_some, wr (show _ ≤ (0 : Int) + 1 by omega) (by omega), if_pos (by simp), if_pos (by simp), if_pos (by simp)]
  rw [show (0 : Int) + 1 = 1 from rfl, e1, held_eq (by omega), Option.bind_some, Int.zero_add, wr (show _ ≤ a + b by omega) (by omega), held_eq (by omega), Option.bind_some, wr (show _ ≤ (1 : Int) + 1 by omega) (by omega), if_neg (by simp), Option.bind_some]
def goF (c r e0 e1 e2 e3 e4 e5 e6 e7 e8 : Int) : Int × Int × Int × Int × Int × Int × Int × Int × Int × Bool :=
  if e1 = 2 then (if e7 + 1 > 12 ∨ ¬ ((0 ≤ e2 + e4 ∧ e2 + e4 < c * 1024) ∧ (0 ≤ e3 + e5 ∧ e3 + e5 < r * 1024)) then (0, 0, 0, 0, 0, 0, 0, 0, 0, false)
    else (e0, e1, clamp (e2 + e4) 0 (c * 1024 - 1), clamp (e3 + e5) 0 (r * 1024 - 1), e4, e5, e6, e7 + 1, e8, true))
  else (e0, e1, clamp (e2 + e4) 0 (c * 1024 - 1), clamp (e3 + e5) 0 (r * 1024 - 1), e4, e5, e6, e7, e8, true)
theorem go_eq (s : Int) {e0 e1 e2 e3 e4 e5 e6 e7 e8 : Int} (h : R c r p w) (he : ER c r p e0 e1 e2 e3 e4 e5 e6 e7 e8) {k : Nat} (hk : 5 ≤ k) : moving_Go.f k c r p w s e0 e1 e2 e3 e4 e5 e6 e7 e8 = some (goF c r e0 e1 e2 e3 e4 e5 e6 e7 e8) := by
  obtain ⟨k, rfl⟩ : ∃ m, k = m + 1 := ⟨k - 1, by omega⟩
  have h1 := h.1
  have h2 := h.2.1
  unfold moving_Go.f goF
  rw [eright_eq s _ _ _ _ _ _ _ _ _ h (by omega), Option.bind_some, decide_eq_true he, if_pos rfl]
  unfold ER ER2 at he
  rw [sum_eq (by omega) (by omega) (by omega), Option.bind_some, sum_eq (by omega) (by omega) (by omega), Option.bind_some]
  have j : ∀ a b e7', moving_Go.j0 (k + 1) a b c r p w s e0 e1 e2 e3 e4 e5 e6 e7' e8 = some (e0, e1, clamp a 0 (c * 1024 - 1), clamp b 0 (r * 1024 - 1), e4, e5, e6, e7', e8, true) := by
    intro a b e7'
    simp only [moving_Go.j0]
    rw [width_eq s h, Option.bind_some, wr (show _ ≤ c * 1024 - 1 by omega) (by omega), fclamp_eq, Option.bind_some, height_eq s h, Option.bind_some, wr (show _ ≤ r * 1024 - 1 by omega) (by omega), fclamp_eq, Option.bind_some]
  by_cases hs : e1 = 2
  · rw [if_pos hs, if_pos hs, wr (show _ ≤ e7 + 1 by omega) (by omega)]
    by_cases h12 : e7 + 1 > 12
    · rw [if_pos h12, if_pos (.inl h12)]
    · rw [if_neg h12, inside_eq s _ _ h, Option.bind_some]
      by_cases hin : (0 ≤ e2 + e4 ∧ e2 + e4 < c * 1024) ∧ (0 ≤ e3 + e5 ∧ e3 + e5 < r * 1024)
      · rw [decide_eq_true hin, if_pos rfl, j, if_neg (by omega)]
      · rw [decide_eq_false hin, if_neg (by decide), if_pos (.inr hin)]
  · rw [if_neg hs, if_neg hs, j]
theorem go_no (s : Int) {e0 e1 e2 e3 e4 e5 e6 e7 e8 : Int} (h : R c r p w) (he : ¬ ER c r p e0 e1 e2 e3 e4 e5 e6 e7 e8) {k : Nat} (hk : 5 ≤ k) : moving_Go.f k c r p w s e0 e1 e2 e3 e4 e5 e6 e7 e8 = some (0, 0, 0, 0, 0, 0, 0, 0, 0, false) := by
  unfold moving_Go.f
  rw [eright_eq s _ _ _ _ _ _ _ _ _ h (by omega), Option.bind_some, decide_eq_false he, if_neg (by decide)]
theorem iright_eq (a b : Int) (c : Bool) : input_Right.f a b c = some (decide (-2 ≤ a ∧ a ≤ 2 ∧ -2 ≤ b ∧ b ≤ 2)) := by
  unfold input_Right.f
  by_cases h1 : -2 ≤ a <;> by_cases h2 : a ≤ 2 <;> by_cases h3 : -2 ≤ b <;> by_cases h4 : b ≤ 2 <;> simp [h1, h2, h3, h4]
def steerF (e0 e1 e2 e3 e4 e5 e6 e7 e8 i0 i1 : Int) (i2 : Bool) : Int × Int × Int × Int × Int × Int × Int × Int × Int × Bool :=
  if e1 = 1 ∧ -2 ≤ i0 ∧ i0 ≤ 2 ∧ -2 ≤ i1 ∧ i1 ≤ 2 then (if i2 = true ∧ e7 = 0 then (e0, e1, e2, e3, i0 * 32, i1 * 32, e6, 6, e8, true) else (e0, e1, e2, e3, i0 * 32, i1 * 32, e6, mx e7 1 - 1, e8, false))
  else (e0, e1, e2, e3, e4, e5, e6, e7, e8, false)
theorem steer_eq (e0 e1 e2 e3 e4 e5 e6 e7 e8 i0 i1 : Int) (i2 : Bool) (h7 : -9223372036854775808 ≤ e7 ∧ e7 ≤ 9223372036854775807) {k : Nat} (hk : 1 ≤ k) : moving_Steer.f k e0 e1 e2 e3 e4 e5 e6 e7 e8 i0 i1 i2 = some (steerF e0 e1 e2 e3 e4 e5 e6 e7 e8 i0 i1 i2) := by
  obtain ⟨k, rfl⟩ : ∃ m, k = m + 1 := ⟨k - 1, by omega⟩
  unfold moving_Steer.f steerF
  rw [iright_eq, Option.bind_some]
  simp only [moving_Steer.j0]
  have hm : wrap64 (mx e7 1 - 1) = mx e7 1 - 1 := by unfold mx; rw [wr (by omega) (by omega)]
  by_cases h1 : e1 = 1
  · rw [if_pos h1]
    by_cases hr : -2 ≤ i0 ∧ i0 ≤ 2 ∧ -2 ≤ i1 ∧ i1 ≤ 2
    · rw [decide_eq_true hr, if_neg (by decide), wr (show _ ≤ i0 * 32 by omega) (by omega), wr (show _ ≤ i1 * 32 by omega) (by omega), hm, if_pos (show e1 = 1 ∧ -2 ≤ i0 ∧ i0 ≤ 2 ∧ -2 ≤ i1 ∧ i1 ≤ 2 from ⟨h1, hr⟩)]
      by_cases h2 : i2 = true
      · by_cases h3 : e7 = 0
        · rw [if_pos h2, if_pos h3, if_pos (show i2 = true ∧ e7 = 0 from ⟨h2, h3⟩)]
        · rw [if_pos h2, if_neg h3, if_neg (show ¬ (i2 = true ∧ e7 = 0) from fun h => h3 h.2)]
      · rw [if_neg h2, if_neg (show ¬ (i2 = true ∧ e7 = 0) from fun h => h2 h.1)]
    · rw [decide_eq_false hr, if_pos (by decide), if_neg (fun h => hr h.2)]
  · rw [if_neg h1, if_pos trivial, if_neg (show ¬ (e1 = 1 ∧ -2 ≤ i0 ∧ i0 ≤ 2 ∧ -2 ≤ i1 ∧ i1 ≤ 2) from fun h => h1 h.1)]
theorem pace_eq (a : Int) : moving_pace.f a = some (clamp a (-1) 1 * 160) := by
  unfold moving_pace.f
  have := clamp_in a (-1) 1 (by decide)
  rw [fclamp_eq, Option.bind_some, wr (by omega) (by omega)]
def shootF (e0 e2 e3 i0 i1 id : Int) : Int × Int × Int × Int × Int × Int × Int × Int × Int :=
  (id, 2, e2, e3, if clamp i0 (-1) 1 * 160 = 0 ∧ clamp i1 (-1) 1 * 160 = 0 then 160 else clamp i0 (-1) 1 * 160, clamp i1 (-1) 1 * 160, 1, 0, e0)
theorem shoot_eq (e0 e1 e2 e3 e4 e5 e6 e7 e8 i0 i1 : Int) (i2 : Bool) (id : Int) : moving_Shoot.f e0 e1 e2 e3 e4 e5 e6 e7 e8 i0 i1 i2 id = some (shootF e0 e2 e3 i0 i1 id) := by
  unfold moving_Shoot.f shootF
  rw [pace_eq, Option.bind_some, pace_eq, Option.bind_some]
  by_cases h1 : clamp i0 (-1) 1 * 160 = 0
  · by_cases h2 : clamp i1 (-1) 1 * 160 = 0
    · rw [if_pos h1, if_pos h2, if_pos ⟨h1, h2⟩]
    · rw [if_pos h1, if_neg h2, if_neg (fun h => h2 h.2)]
  · rw [if_neg h1, if_neg (fun h => h1 h.1)]

theorem rwithin_eq (a lo hi : Int) : joustref05_within.f a lo hi = some (decide (lo ≤ a ∧ a ≤ hi)) := by
  unfold joustref05_within.f
  by_cases h : lo ≤ a <;> simp [h]
theorem rstep_eq (a : Int) : joustref05_step.f a = some (decide (a = 0 ∨ a = 160 ∨ a = -160)) := by
  unfold joustref05_step.f
  by_cases h : a = -160
  · simp [h]
  · by_cases h2 : a = 0
    · simp [h2]
    · rw [if_neg h, if_neg h2]
      congr 1
      rw [Bool.eq_iff_iff, beq_iff_eq, decide_eq_true_eq]
      omega
set_option maxHeartbeats 4000000 in
theorem reright_eq (s e0 e1 e2 e3 e4 e5 e6 e7 e8 : Int) (h : R c r p w) : joustref05_Right.f c r p w s e0 e1 e2 e3 e4 e5 e6 e7 e8 = some (decide (ER c r p e0 e1 e2 e3 e4 e5 e6 e7 e8)) := by
  unfold joustref05_Right.f
  rw [rinside_eq s e2 e3 h, Option.bind_some]
  by_cases hin : (0 ≤ e2 ∧ e2 < c * 1024) ∧ (0 ≤ e3 ∧ e3 < r * 1024)
  · rw [decide_eq_true hin, if_pos rfl, rwithin_eq, Option.bind_some]
    have hER : ER c r p e0 e1 e2 e3 e4 e5 e6 e7 e8 ↔ ER2 p e0 e1 e4 e5 e6 e7 e8 := and_iff_right hin
    rw [show decide (ER c r p e0 e1 e2 e3 e4 e5 e6 e7 e8) = decide (ER2 p e0 e1 e4 e5 e6 e7 e8) from decide_eq_decide.2 hER]
    simp only [rwithin_eq, rstep_eq, Option.bind_some, decide_eq_true_eq]
    repeat' split
    all_goals first | (congr 1; symm; rw [decide_eq_false_iff_not]; unfold ER2; omega) | (congr 1; rw [Bool.eq_iff_iff]; simp only [decide_eq_true_eq, beq_iff_eq]; unfold ER2; omega) | omega
  · rw [decide_eq_false hin, if_neg (by decide), decide_eq_false (fun h => hin h.1)]

theorem rinput_eq (a b : Int) (c : Bool) : joustref05_Input.f a b c = some (decide (-2 ≤ a ∧ a ≤ 2 ∧ -2 ≤ b ∧ b ≤ 2)) := by
  unfold joustref05_Input.f
  by_cases h1 : -2 ≤ a <;> by_cases h2 : a ≤ 2 <;> by_cases h3 : -2 ≤ b <;> by_cases h4 : b ≤ 2 <;> simp [h1, h2, h3, h4]

theorem awake_eq {k : Nat} (hk : 1 ≤ k) : joustlaw07_awake.f k = some true := by
  unfold joustlaw07_awake.f
  rw [steer_eq _ _ _ _ _ _ _ _ _ _ _ _ (by decide) hk, Option.bind_some]
  have e : steerF 1 1 0 0 0 0 0 0 0 1 0 true = (1, 1, 0, 0, 32, 0, 0, 6, 0, true) := by unfold steerF; rw [if_pos (by decide), if_pos (by decide)]; rfl
  rw [e]
  simp only
  rw [if_pos trivial, if_pos trivial, if_pos trivial, shoot_eq, Option.bind_some]
  decide

theorem eright_no (s e0 e1 e2 e3 e4 e5 e6 e7 e8 : Int) (h : ¬ R c r p w) {k : Nat} (hk : 1 ≤ k) : entity_Right.f k c r p w s e0 e1 e2 e3 e4 e5 e6 e7 e8 = some false := by
  obtain ⟨k, rfl⟩ : ∃ m, k = m + 1 := ⟨k - 1, by omega⟩
  unfold entity_Right.f
  rw [inside_no s e2 e3 h, Option.bind_some, if_neg (by decide)]
theorem go_none (s e0 e1 e2 e3 e4 e5 e6 e7 e8 : Int) (h : ¬ R c r p w) {k : Nat} (hk : 5 ≤ k) : moving_Go.f k c r p w s e0 e1 e2 e3 e4 e5 e6 e7 e8 = some (0, 0, 0, 0, 0, 0, 0, 0, 0, false) := by
  unfold moving_Go.f
  rw [eright_no s _ _ _ _ _ _ _ _ _ h (by omega), Option.bind_some, if_neg (by decide)]
theorem rgo_none (s e0 e1 e2 e3 e4 e5 e6 e7 e8 : Int) (h : ¬ R c r p w) : joustref09_Go.f c r p w s e0 e1 e2 e3 e4 e5 e6 e7 e8 = some (0, 0, 0, 0, 0, 0, 0, 0, 0, false) := by
  have : joustref05_Right.f c r p w s e0 e1 e2 e3 e4 e5 e6 e7 e8 = some false := by
    unfold joustref05_Right.f
    rw [rinside_no s e2 e3 h, Option.bind_some, if_neg (by decide)]
  unfold joustref09_Go.f
  rw [this, Option.bind_some, if_neg (by decide)]
theorem rgo_no (s e0 e1 e2 e3 e4 e5 e6 e7 e8 : Int) (h : R c r p w) (he : ¬ ER c r p e0 e1 e2 e3 e4 e5 e6 e7 e8) : joustref09_Go.f c r p w s e0 e1 e2 e3 e4 e5 e6 e7 e8 = some (0, 0, 0, 0, 0, 0, 0, 0, 0, false) := by
  unfold joustref09_Go.f
  rw [reright_eq s _ _ _ _ _ _ _ _ _ h, Option.bind_some, decide_eq_false he, if_neg (by decide)]
theorem clamp_same {c x : Int} (hx : 0 ≤ x ∧ x < c * 1024) : clamp x 0 (c * 1024 - 1) = x := by unfold clamp; rw [if_neg (by omega), if_neg (by omega)]
set_option maxHeartbeats 4000000 in
theorem rgo_eq (s e0 e1 e2 e3 e4 e5 e6 e7 e8 : Int) (h : R c r p w) (he : ER c r p e0 e1 e2 e3 e4 e5 e6 e7 e8) : joustref09_Go.f c r p w s e0 e1 e2 e3 e4 e5 e6 e7 e8 = some (goF c r e0 e1 e2 e3 e4 e5 e6 e7 e8) := by
  unfold joustref09_Go.f goF
  rw [reright_eq s _ _ _ _ _ _ _ _ _ h, Option.bind_some, decide_eq_true he, if_pos rfl]
  have h1 := h.1
  have h2 := h.2.1
  unfold ER ER2 at he
  have b2 : -100000 ≤ e2 + e4 ∧ e2 + e4 ≤ 100000 := by omega
  have b3 : -100000 ≤ e3 + e5 ∧ e3 + e5 ≤ 100000 := by omega
  rw [wr (show _ ≤ e2 + e4 by omega) (by omega), wr (show _ ≤ e3 + e5 by omega) (by omega)]
  by_cases k1 : e1 = 1
  · rw [if_pos k1, if_neg (show ¬ e1 = 2 by omega), wr (show _ ≤ c * 1024 by omega) (by omega), wr (show _ ≤ c * 1024 - 1 by omega) (by omega), wr (show _ ≤ r * 1024 by omega) (by omega), wr (show _ ≤ r * 1024 - 1 by omega) (by omega), rclamp_eq, Option.bind_some, rclamp_eq, Option.bind_some]
  · rw [if_neg k1]
    by_cases k2 : e1 = 2
    · have b7 : 0 ≤ e7 ∧ e7 ≤ 12 := by omega
      rw [if_pos k2, if_pos k2, wr (show _ ≤ e7 + 1 by omega) (by omega)]
      by_cases h12 : e7 + 1 > 12
      · rw [if_pos h12, if_pos (.inl h12)]
      · rw [if_neg h12, rinside_eq s _ _ h, Option.bind_some]
        by_cases hin : (0 ≤ e2 + e4 ∧ e2 + e4 < c * 1024) ∧ (0 ≤ e3 + e5 ∧ e3 + e5 < r * 1024)
        · rw [decide_eq_true hin, if_pos rfl, if_neg (fun h => h.elim h12 (fun h => h hin)), clamp_same hin.1, clamp_same hin.2]
        · rw [decide_eq_false hin, if_neg (by decide), if_pos (.inr hin)]
    · have z4 : e4 = 0 := by omega
      have z5 : e5 = 0 := by omega
      have i2 : 0 ≤ e2 ∧ e2 < c * 1024 := by omega
      have i3 : 0 ≤ e3 ∧ e3 < r * 1024 := by omega
      rw [if_neg k2, if_neg k2, z4, z5, Int.add_zero, Int.add_zero, clamp_same i2, clamp_same i3]
theorem rsteer_eq (e0 e1 e2 e3 e4 e5 e6 e7 e8 i0 i1 : Int) (i2 : Bool) (h7 : -9223372036854775808 ≤ e7 ∧ e7 ≤ 9223372036854775807) {k : Nat} (hk : 1 ≤ k) : joustref09_Steer.f k e0 e1 e2 e3 e4 e5 e6 e7 e8 i0 i1 i2 = some (steerF e0 e1 e2 e3 e4 e5 e6 e7 e8 i0 i1 i2) := by
  obtain ⟨k, rfl⟩ : ∃ m, k = m + 1 := ⟨k - 1, by omega⟩
  unfold joustref09_Steer.f steerF
  rw [rinput_eq, Option.bind_some]
  simp only [joustref09_Steer.j0]
  have hm : wrap64 (mx 1 e7 - 1) = mx e7 1 - 1 := by unfold mx; rw [wr (by omega) (by omega)]; omega
  by_cases h1 : e1 = 1
  · rw [if_pos h1]
    by_cases hr : -2 ≤ i0 ∧ i0 ≤ 2 ∧ -2 ≤ i1 ∧ i1 ≤ 2
    · rw [decide_eq_true hr, if_neg (by decide), wr (show _ ≤ i0 * 32 by omega) (by omega), wr (show _ ≤ i1 * 32 by omega) (by omega), hm, if_pos (show e1 = 1 ∧ -2 ≤ i0 ∧ i0 ≤ 2 ∧ -2 ≤ i1 ∧ i1 ≤ 2 from ⟨h1, hr⟩)]
      by_cases h2 : i2 = true
      · by_cases h3 : e7 = 0
        · rw [if_pos h2, if_pos h3, if_pos (show i2 = true ∧ e7 = 0 from ⟨h2, h3⟩)]
        · rw [if_pos h2, if_neg h3, if_neg (show ¬ (i2 = true ∧ e7 = 0) from fun h => h3 h.2)]
      · rw [if_neg h2, if_neg (show ¬ (i2 = true ∧ e7 = 0) from fun h => h2 h.1)]
    · rw [decide_eq_false hr, if_pos (by decide), if_neg (fun h => hr h.2)]
  · rw [if_neg h1, if_pos trivial, if_neg (show ¬ (e1 = 1 ∧ -2 ≤ i0 ∧ i0 ≤ 2 ∧ -2 ≤ i1 ∧ i1 ≤ 2) from fun h => h1 h.1)]
theorem sign_eq (a : Int) : joustref09_sign.f a = some (clamp a (-1) 1) := by
  unfold joustref09_sign.f clamp
  by_cases h1 : a < 0
  · rw [if_pos h1]
    congr 1
    split <;> (try split) <;> omega
  · rw [if_neg h1]
    by_cases h2 : a > 0
    · rw [if_pos h2]
      congr 1
      split <;> (try split) <;> omega
    · rw [if_neg h2]
      congr 1
      split <;> (try split) <;> omega
theorem rshoot_eq (e0 e1 e2 e3 e4 e5 e6 e7 e8 i0 i1 : Int) (i2 : Bool) (id : Int) : joustref09_Shoot.f e0 e1 e2 e3 e4 e5 e6 e7 e8 i0 i1 i2 id = some (shootF e0 e2 e3 i0 i1 id) := by
  unfold joustref09_Shoot.f shootF
  have c0 := clamp_in i0 (-1) 1 (by decide)
  have c1 := clamp_in i1 (-1) 1 (by decide)
  rw [sign_eq, Option.bind_some, sign_eq, Option.bind_some, wr (show _ ≤ clamp i0 (-1) 1 * 160 by omega) (by omega), wr (show _ ≤ clamp i1 (-1) 1 * 160 by omega) (by omega)]
  by_cases h1 : clamp i0 (-1) 1 * 160 = 0
  · by_cases h2 : clamp i1 (-1) 1 * 160 = 0
    · rw [if_pos h1, if_pos h2, if_pos ⟨h1, h2⟩]
    · rw [if_pos h1, if_neg h2, if_neg (fun h => h2 h.2)]
  · rw [if_neg h1, if_neg (fun h => h1 h.1)]
theorem MovingTells (a0 : (Int × (Int × (Int × (Int × Int))))) (a1 : (Int × (Int × (Int × (Int × (Int × (Int × (Int × (Int × Int))))))))) (a2 : (Int × (Int × Bool))) (a3 : Int) (g0 : G0 a0) (g1 : G1 a1) (g2 : G2 a2) (g3 : G3 a3) : ∃ k, joustlaw07_MovingTells.f k a0.1 a0.2.1 a0.2.2.1 a0.2.2.2.1 a0.2.2.2.2 a1.1 a1.2.1 a1.2.2.1 a1.2.2.2.1 a1.2.2.2.2.1 a1.2.2.2.2.2.1 a1.2.2.2.2.2.2.1 a1.2.2.2.2.2.2.2.1 a1.2.2.2.2.2.2.2.2 a2.1 a2.2.1 a2.2.2 a3 = some true := by
  obtain ⟨c, r, p, w, s⟩ := a0
  obtain ⟨e0, e1, e2, e3, e4, e5, e6, e7, e8⟩ := a1
  obtain ⟨i0, i1, i2⟩ := a2
  have h7 := bounds_i64 g1.2.2.2.2.2.2.2.1
  simp only at h7
  refine ⟨22, ?_⟩
  unfold joustlaw07_MovingTells.f
  simp only
  have e : ∃ a b d f g z x : _, grid_New.f c r p w s = some (a, b, d, f, g, z) ∧ moving_Go.f 22 a b d f g e0 e1 e2 e3 e4 e5 e6 e7 e8 = some x ∧ joustref09_Go.f c r p w s e0 e1 e2 e3 e4 e5 e6 e7 e8 = some x := by
    by_cases h : R c r p w
    · by_cases he : ER c r p e0 e1 e2 e3 e4 e5 e6 e7 e8
      · exact ⟨_, _, _, _, _, _, _, new_eq s h, go_eq s h he (by decide), rgo_eq s _ _ _ _ _ _ _ _ _ h he⟩
      · exact ⟨_, _, _, _, _, _, _, new_eq s h, go_no s h he (by decide), rgo_no s _ _ _ _ _ _ _ _ _ h he⟩
    · exact ⟨_, _, _, _, _, _, _, new_no s h, go_none 0 _ _ _ _ _ _ _ _ _ (by decide) (by decide), rgo_none s _ _ _ _ _ _ _ _ _ h⟩
  obtain ⟨a, b, d, f, g, z, x, hn, hg, hr⟩ := e
  rw [hn, Option.bind_some, steer_eq _ _ _ _ _ _ _ _ _ _ _ _ (by omega) (by decide), Option.bind_some, rsteer_eq _ _ _ _ _ _ _ _ _ _ _ _ (by omega) (by decide), Option.bind_some, hg, Option.bind_some, hr, Option.bind_some, awake_eq (by decide), Option.bind_some, if_pos rfl, shoot_eq, rshoot_eq]
  simp only [beq_self_eq_true, Bool.and_self, if_true, Option.bind_some]
end Go.Proofs.Ytjnjcdaecdnkoaa.PureMovingTells
