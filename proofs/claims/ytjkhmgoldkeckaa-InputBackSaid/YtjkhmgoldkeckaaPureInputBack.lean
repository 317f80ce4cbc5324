/- The printed law InputBack is true for all numbers: each right input has its code, and each code up to 49 its input. Condition: each number within its kind. -/
import Derived.Test.YtjkhmgoldkeckaaPInputBackx
import Derived.Test.YtjkhmgoldkeckaaGdsInputBack
import Derived.OpenShut
namespace Go.Proofs.Ytjkhmgoldkeckaa.PureInputBack
open Go Go.RowKit Go.Proofs.Ytjkhmgoldkeckaa.PInputBack Go.Proofs.Ytjkhmgoldkeckaa.GdsInputBack Go.Proofs.YtjkhmgoldkeckaaW.PrintWords Go.Proofs.YtjkhmgoldkeckaaW.PrintLast
theorem wr {i : Int} (h0 : -9223372036854775808 ≤ i) (h1 : i < 9223372036854775808) : wrap64 i = i := by unfold wrap64; omega
/-- all inputs, code by code -/
def tbl : List S23 := (List.range 50).map fun i => ⟨(i / 10 : Nat) - 2, (i % 10 / 2 : Nat) - 2, i % 2 == 1⟩
theorem all_eq : input_all.f 60 = some tbl := by kernel_rfl
theorem all_eq' (k : Nat) : input_all.f (60 + k) = some tbl := at_rounds input_all.mono (Nat.le_add_right _ _) all_eq
theorem code_none (xs : List S23) (a b : Int) (c : Bool) (hn : xs.length ≤ 50) (h : ∀ x ∈ xs, ¬ (x.f0 = a ∧ x.f1 = b ∧ x.f2 = c)) : ∀ (d k i : Nat), i + d = xs.length → d < k → input_Code.l0 k xs (xs.length : Int) i a b c = some 0 := by
  intro d
  induction d with
  | zero =>
    intro k i hi hk
    obtain ⟨k, rfl⟩ : ∃ m, k = m + 1 := ⟨k - 1, by omega⟩
    simp only [input_Code.l0]
    rw [if_neg (by omega)]
  | succ d ih =>
    intro k i hi hk
    obtain ⟨k, rfl⟩ : ∃ m, k = m + 1 := ⟨k - 1, by omega⟩
    simp only [input_Code.l0]
    rw [if_pos (by omega), if_pos (by omega), if_pos (by omega)]
    have hm : rd_T23 xs i ∈ xs := by
      unfold rd_T23
      have hl : (i : Int).toNat < xs.length := by omega
      rw [List.getD_eq_getElem?_getD, List.getElem?_eq_getElem hl]
      exact List.getElem_mem hl
    have hx := h _ hm
    rw [if_neg (by simpa using hx), wr (by omega) (by omega)]
    have := ih k (i + 1) (by omega) (by omega)
    simpa using this
theorem tbl_in : ∀ x ∈ tbl, -2 ≤ x.f0 ∧ x.f0 ≤ 2 ∧ -2 ≤ x.f1 ∧ x.f1 ≤ 2 := by decide +kernel
theorem code_eq : ∀ (a b : Int) (c : Bool), input_Code.f 120 a b c = some (if -2 ≤ a ∧ a ≤ 2 ∧ -2 ≤ b ∧ b ≤ 2 then (a + 2) * 10 + (b + 2) * 2 + (if c = true then 1 else 0) else 0) := by
  intro a b c
  by_cases h : -2 ≤ a ∧ a ≤ 2 ∧ -2 ≤ b ∧ b ≤ 2
  · rw [if_pos h]
    obtain ⟨h1, h2, h3, h4⟩ := h
    have ha : a = -2 ∨ a = -1 ∨ a = 0 ∨ a = 1 ∨ a = 2 := by omega
    have hb : b = -2 ∨ b = -1 ∨ b = 0 ∨ b = 1 ∨ b = 2 := by omega
    rcases ha with rfl | rfl | rfl | rfl | rfl <;> rcases hb with rfl | rfl | rfl | rfl | rfl <;> cases c <;> decide +kernel
  · rw [if_neg h]
    unfold input_Code.f
    rw [show (120 : Nat) = 60 + 60 from rfl, all_eq' 60]
    simp only [Option.bind_some]
    exact code_none tbl a b c (by decide) (fun x hx e => h (by have := tbl_in x hx; omega)) tbl.length _ 0 (by simp) (by decide)
theorem awake_eq : joustlaw04_awake.f 120 = some true := by
  unfold joustlaw04_awake.f
  rw [code_eq 0 0 false]
  rfl
theorem right_eq (a b : Int) (c : Bool) : input_Right.f a b c = some (decide (-2 ≤ a ∧ a ≤ 2 ∧ -2 ≤ b ∧ b ≤ 2)) := by
  unfold input_Right.f
  by_cases h1 : -2 ≤ a <;> by_cases h2 : a ≤ 2 <;> by_cases h3 : -2 ≤ b <;> by_cases h4 : b ≤ 2 <;> simp [h1, h2, h3, h4]

/-- the input of a code -/
def fr (n : Nat) : Int × Int × Bool × Bool := if n ≤ 49 then ((n / 10 : Nat) - 2, (n % 10 / 2 : Nat) - 2, n % 2 == 1, true) else (0, 0, false, false)
theorem from_fin : ∀ n : Fin 256, decide (input_FromCode.f 120 (n.val : Int) = some (fr n.val)) = true := by decide +kernel
theorem from_eq (n : Nat) (h : n < 256) : input_FromCode.f 120 (n : Int) = some (fr n) := of_decide_eq_true (from_fin ⟨n, h⟩)
/-- what is told of it -/
def frOk (n : Nat) : Bool := ((fr n).2.2.2 == decide (n ≤ 49)) && (!decide (n ≤ 49) || (decide (-2 ≤ (fr n).1 ∧ (fr n).1 ≤ 2 ∧ -2 ≤ (fr n).2.1 ∧ (fr n).2.1 ≤ 2) && decide (((fr n).1 + 2) * 10 + ((fr n).2.1 + 2) * 2 + (if (fr n).2.2.1 = true then 1 else 0) = (n : Int))))
theorem fr_fin : ∀ n : Fin 256, frOk n.val = true := by decide +kernel
theorem fr_ok (n : Nat) (h : n < 256) : frOk n = true := fr_fin ⟨n, h⟩

theorem code_back (a b : Int) (c : Bool) : ∃ (n : Nat), n ≤ 49 ∧ (if -2 ≤ a ∧ a ≤ 2 ∧ -2 ≤ b ∧ b ≤ 2 then (a + 2) * 10 + (b + 2) * 2 + (if c = true then 1 else 0) else 0) = (n : Int) ∧ (fr n).2.2.2 = true ∧
    ((-2 ≤ a ∧ a ≤ 2 ∧ -2 ≤ b ∧ b ≤ 2) → (fr n).1 = a ∧ (fr n).2.1 = b ∧ (fr n).2.2.1 = c) := by
  by_cases h : -2 ≤ a ∧ a ≤ 2 ∧ -2 ≤ b ∧ b ≤ 2
  · rw [if_pos h]
    obtain ⟨h1, h2, h3, h4⟩ := h
    have ha : a = -2 ∨ a = -1 ∨ a = 0 ∨ a = 1 ∨ a = 2 := by omega
    have hb : b = -2 ∨ b = -1 ∨ b = 0 ∨ b = 1 ∨ b = 2 := by omega
    refine ⟨((a + 2) * 10 + (b + 2) * 2 + (if c = true then 1 else 0)).toNat, ?_, ?_, ?_, ?_⟩
    all_goals (rcases ha with rfl | rfl | rfl | rfl | rfl <;> rcases hb with rfl | rfl | rfl | rfl | rfl <;> cases c <;> decide)
  · rw [if_neg h]
    exact ⟨0, by omega, rfl, rfl, fun h' => absurd h' h⟩
theorem input_eq (a b : Int) (c : Bool) : joustref05_Input.f a b c = some (decide (-2 ≤ a ∧ a ≤ 2 ∧ -2 ≤ b ∧ b ≤ 2)) := by
  unfold joustref05_Input.f
  by_cases h1 : -2 ≤ a <;> by_cases h2 : a ≤ 2 <;> by_cases h3 : -2 ≤ b <;> by_cases h4 : b ≤ 2 <;> simp [h1, h2, h3, h4]
theorem InputBack (a0 : (Int × (Int × Bool))) (a1 : Int) (_ : G0 a0) (g1 : G1 a1) : ∃ k, joustlaw04_InputBack.f k a0.1 a0.2.1 a0.2.2 a1 = some true := by
  obtain ⟨a, b, c⟩ := a0
  have hb := bounds_u8 g1
  obtain ⟨n, hn, rfl⟩ : ∃ n : Nat, n < 256 ∧ a1 = n := ⟨a1.toNat, by omega, by omega⟩
  obtain ⟨m, hm, hc, hm2, hm3⟩ := code_back a b c
  have h1 := from_eq m (by omega)
  have h2 := from_eq n hn
  have h3 := fr_ok n hn
  simp only [frOk, Bool.and_eq_true, Bool.or_eq_true, beq_iff_eq, decide_eq_true_eq, Bool.not_eq_true', decide_eq_false_iff_not] at h3
  obtain ⟨h4, h5⟩ := h3
  refine ⟨120, ?_⟩
  unfold joustlaw04_InputBack.f
  have hcode := code_eq a b c
  rw [hc] at hcode
  have hcode2 := code_eq (fr n).1 (fr n).2.1 (fr n).2.2.1
  have haw := awake_eq
  have hR := right_eq
  have hI := input_eq
  show ((input_Code.f 120 a b c).bind _) = some true
  generalize input_Code.f 120 = C at *
  generalize input_FromCode.f 120 = F at *
  generalize joustlaw04_awake.f 120 = W at *
  generalize input_Right.f = R at *
  generalize joustref05_Input.f = I at *
  generalize fr m = fm at *
  generalize fr n = fn at *
  rw [hcode, Option.bind_some, h1, Option.bind_some, h2, Option.bind_some, haw, Option.bind_some, if_pos rfl, if_pos hm2, hI, Option.bind_some, hR, hcode2]
  have hl : ((n : Int) ≤ 49) = (n ≤ 49) := by simp; omega
  by_cases hr : -2 ≤ a ∧ a ≤ 2 ∧ -2 ≤ b ∧ b ≤ 2
  · obtain ⟨e1, e2, e3⟩ := hm3 hr
    by_cases hk : n ≤ 49
    · rcases h5 with h5 | ⟨h5, h6⟩
      · exact absurd hk h5
      · rw [if_pos h5, h6] at hcode2
        simp [hr, e1, e2, e3, h4, hk, hl, h5]
        exact h6
    · simp [hr, e1, e2, e3, h4, hk, hl]
  · by_cases hk : n ≤ 49
    · rcases h5 with h5 | ⟨h5, h6⟩
      · exact absurd hk h5
      · rw [if_pos h5, h6] at hcode2
        simp [hr, h4, hk, hl, h5]
        exact h6
    · simp [hr, h4, hk, hl]
end Go.Proofs.Ytjkhmgoldkeckaa.PureInputBack
