/- The printed law InputCodes is true for all numbers: codes are unlike where right inputs are, and at most 49. Condition: each number within its kind. -/
import Derived.Test.YtjkhmgoldkeckaaPInputCodesx
import Derived.Test.YtjkhmgoldkeckaaGdsInputCodes
import Derived.OpenShut
namespace Go.Proofs.Ytjkhmgoldkeckaa.PureInputCodes
open Go Go.RowKit Go.Proofs.Ytjkhmgoldkeckaa.PInputCodes Go.Proofs.Ytjkhmgoldkeckaa.GdsInputCodes Go.Proofs.YtjkhmgoldkeckaaW.PrintWords Go.Proofs.YtjkhmgoldkeckaaW.PrintLast
theorem wr {i : Int} (h0 : -9223372036854775808 ≤ i) (h1 : i < 9223372036854775808) : wrap64 i = i := by unfold wrap64; omega
/-- all inputs, code by code -/
def tbl : List S23 := (List.range 50).map fun i => ⟨(i / 10 : Nat) - 2, (i % 10 / 2 : Nat) - 2, i % 2 == 1⟩
theorem all_eq : input_all.f 60 = some tbl := by kernel_rfl
theorem all_eq' (k : Nat) : input_all.f (60 + k) = some tbl := at_rounds input_all.mono (Nat.le_add_right _ _) all_eq
theorem code_none (xs : List S23) (a b : Int) (c : Bool) (hn : xs.length ≤ 50) (h : ∀ x ∈ xs, ¬ (x.f0 = a ∧ x.f1 = b ∧ x.f2 = c)) : ∀ (d k i : Nat), i + d = xs.length → d < k → input_Code.l0 k xs (xs.length : Int) i a b c = some 0 := by
  intro d
  induction d with
  | zero =>
    intro k i hi hk
    obtain ⟨k, rfl⟩ : ∃ m, k = m + 1 := ⟨k - 1, by omega⟩
    simp only [input_Code.l0]
    rw [if_neg (by omega)]
  | succ d ih =>
    intro k i hi hk
    obtain ⟨k, rfl⟩ : ∃ m, k = m + 1 := ⟨k - 1, by omega⟩
    simp only [input_Code.l0]
    rw [if_pos (by omega), if_pos (by omega), if_pos (by omega)]
    have hm : rd_T23 xs i ∈ xs := by
      unfold rd_T23
      have hl : (i : Int).toNat < xs.length := by omega
      rw [List.getD_eq_getElem?_getD, List.getElem?_eq_getElem hl]
      exact List.getElem_mem hl
    have hx := h _ hm
    rw [if_neg (by simpa using hx), wr (by omega) (by omega)]
    have := ih k (i + 1) (by omega) (by omega)
    simpa using this
theorem tbl_in : ∀ x ∈ tbl, -2 ≤ x.f0 ∧ x.f0 ≤ 2 ∧ -2 ≤ x.f1 ∧ x.f1 ≤ 2 := by decide +kernel
theorem code_eq : ∀ (a b : Int) (c : Bool), input_Code.f 120 a b c = some (if -2 ≤ a ∧ a ≤ 2 ∧ -2 ≤ b ∧ b ≤ 2 then (a + 2) * 10 + (b + 2) * 2 + (if c = true then 1 else 0) else 0) := by
  intro a b c
  by_cases h : -2 ≤ a ∧ a ≤ 2 ∧ -2 ≤ b ∧ b ≤ 2
  · rw [if_pos h]
    obtain ⟨h1, h2, h3, h4⟩ := h
    have ha : a = -2 ∨ a = -1 ∨ a = 0 ∨ a = 1 ∨ a = 2 := by omega
    have hb : b = -2 ∨ b = -1 ∨ b = 0 ∨ b = 1 ∨ b = 2 := by omega
    rcases ha with rfl | rfl | rfl | rfl | rfl <;> rcases hb with rfl | rfl | rfl | rfl | rfl <;> cases c <;> decide +kernel
  · rw [if_neg h]
    unfold input_Code.f
    rw [show (120 : Nat) = 60 + 60 from rfl, all_eq' 60]
    simp only [Option.bind_some]
    exact code_none tbl a b c (by decide) (fun x hx e => h (by have := tbl_in x hx; omega)) tbl.length _ 0 (by simp) (by decide)
theorem awake_eq : joustlaw04_awake.f 120 = some true := by
  unfold joustlaw04_awake.f
  rw [code_eq 0 0 false]
  rfl
theorem right_eq (a b : Int) (c : Bool) : input_Right.f a b c = some (decide (-2 ≤ a ∧ a ≤ 2 ∧ -2 ≤ b ∧ b ≤ 2)) := by
  unfold input_Right.f
  by_cases h1 : -2 ≤ a <;> by_cases h2 : a ≤ 2 <;> by_cases h3 : -2 ≤ b <;> by_cases h4 : b ≤ 2 <;> simp [h1, h2, h3, h4]

theorem InputCodes (a0 : (Int × (Int × Bool))) (a1 : (Int × (Int × Bool))) (_ : G0 a0) (_ : G1 a1) : ∃ k, joustlaw04_InputCodes.f k a0.1 a0.2.1 a0.2.2 a1.1 a1.2.1 a1.2.2 = some true := by
  obtain ⟨a, b, c⟩ := a0
  obtain ⟨x, y, z⟩ := a1
  refine ⟨120, ?_⟩
  unfold joustlaw04_InputCodes.f
  rw [code_eq, code_eq, right_eq, right_eq, awake_eq]
  simp only [Option.bind_some, if_true]
  by_cases h : -2 ≤ a ∧ a ≤ 2 ∧ -2 ≤ b ∧ b ≤ 2 <;> by_cases h' : -2 ≤ x ∧ x ≤ 2 ∧ -2 ≤ y ∧ y ≤ 2
  · rw [if_pos h, if_pos h', decide_eq_true h, decide_eq_true h']
    have e1 : (a + 2) * 10 + (b + 2) * 2 + (if c = true then 1 else 0) ≤ 49 := by cases c <;> simp <;> omega
    have e2 : (x + 2) * 10 + (y + 2) * 2 + (if z = true then 1 else 0) ≤ 49 := by cases z <;> simp <;> omega
    simp only [if_true]
    rw [if_pos e1, if_pos e2]
    have e3 : (((a + 2) * 10 + (b + 2) * 2 + (if c = true then 1 else 0) : Int) == (x + 2) * 10 + (y + 2) * 2 + (if z = true then 1 else 0)) = (a == x && (b == y && (c == z))) := by
      rw [Bool.eq_iff_iff]
      simp only [beq_iff_eq, Bool.and_eq_true]
      cases c <;> cases z <;> simp <;> omega
    rw [e3]
    simp
  · rw [if_pos h, if_neg h', decide_eq_true h, decide_eq_false h']
    have e1 : (a + 2) * 10 + (b + 2) * 2 + (if c = true then 1 else 0) ≤ 49 := by cases c <;> simp <;> omega
    simp only [if_true]
    rw [if_pos e1]
    simp
  · rw [if_neg h, if_pos h', decide_eq_false h]
    have e2 : (x + 2) * 10 + (y + 2) * 2 + (if z = true then 1 else 0) ≤ 49 := by cases z <;> simp <;> omega
    simp [e2]
  · rw [if_neg h, if_neg h', decide_eq_false h]
    simp
end Go.Proofs.Ytjkhmgoldkeckaa.PureInputCodes
