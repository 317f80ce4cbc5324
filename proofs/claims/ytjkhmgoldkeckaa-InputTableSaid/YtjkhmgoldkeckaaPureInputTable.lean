/- The printed law InputTable is true for each byte: from it on, fifty codes of 256 are inputs, all unlike, each with its code; the others are none. Condition: the number is a byte. -/
import Derived.Test.YtjkhmgoldkeckaaPInputTabley
import Derived.Test.YtjkhmgoldkeckaaGdsInputTable
import Derived.OpenShut
namespace Go.Proofs.Ytjkhmgoldkeckaa.PureInputTable
open Go Go.RowKit Go.Proofs.Ytjkhmgoldkeckaa.PInputTable Go.Proofs.Ytjkhmgoldkeckaa.GdsInputTable Go.Proofs.YtjkhmgoldkeckaaW.PrintWords Go.Proofs.YtjkhmgoldkeckaaW.PrintLast
theorem wr {i : Int} (h0 : -9223372036854775808 ≤ i) (h1 : i < 9223372036854775808) : wrap64 i = i := by unfold wrap64; omega
/-- all inputs, code by code -/
def tbl : List S23 := (List.range 50).map fun i => ⟨(i / 10 : Nat) - 2, (i % 10 / 2 : Nat) - 2, i % 2 == 1⟩
theorem all_eq : input_all.f 60 = some tbl := by kernel_rfl
theorem all_eq' (k : Nat) : input_all.f (60 + k) = some tbl := at_rounds input_all.mono (Nat.le_add_right _ _) all_eq
theorem code_none (xs : List S23) (a b : Int) (c : Bool) (hn : xs.length ≤ 50) (h : ∀ x ∈ xs, ¬ (x.f0 = a ∧ x.f1 = b ∧ x.f2 = c)) : ∀ (d k i : Nat), i + d = xs.length → d < k → input_Code.l0 k xs (xs.length : Int) i a b c = some 0 := by
  intro d
  induction d with
  | zero =>
    intro k i hi hk
    obtain ⟨k, rfl⟩ : ∃ m, k = m + 1 := ⟨k - 1, by omega⟩
    simp only [input_Code.l0]
    rw [if_neg (by omega)]
  | succ d ih =>
    intro k i hi hk
    obtain ⟨k, rfl⟩ : ∃ m, k = m + 1 := ⟨k - 1, by omega⟩
    simp only [input_Code.l0]
    rw [if_pos (by omega), if_pos (by omega), if_pos (by omega)]
    have hm : rd_T23 xs i ∈ xs := by
      unfold rd_T23
      have hl : (i : Int).toNat < xs.length := by omega
      rw [List.getD_eq_getElem?_getD, List.getElem?_eq_getElem hl]
      exact List.getElem_mem hl
    have hx := h _ hm
    rw [if_neg (by simpa using hx), wr (by omega) (by omega)]
    have := ih k (i + 1) (by omega) (by omega)
    simpa using this
theorem tbl_in : ∀ x ∈ tbl, -2 ≤ x.f0 ∧ x.f0 ≤ 2 ∧ -2 ≤ x.f1 ∧ x.f1 ≤ 2 := by decide +kernel
theorem code_eq : ∀ (a b : Int) (c : Bool), input_Code.f 120 a b c = some (if -2 ≤ a ∧ a ≤ 2 ∧ -2 ≤ b ∧ b ≤ 2 then (a + 2) * 10 + (b + 2) * 2 + (if c = true then 1 else 0) else 0) := by
  intro a b c
  by_cases h : -2 ≤ a ∧ a ≤ 2 ∧ -2 ≤ b ∧ b ≤ 2
  · rw [if_pos h]
    obtain ⟨h1, h2, h3, h4⟩ := h
    have ha : a = -2 ∨ a = -1 ∨ a = 0 ∨ a = 1 ∨ a = 2 := by omega
    have hb : b = -2 ∨ b = -1 ∨ b = 0 ∨ b = 1 ∨ b = 2 := by omega
    rcases ha with rfl | rfl | rfl | rfl | rfl <;> rcases hb with rfl | rfl | rfl | rfl | rfl <;> cases c <;> decide +kernel
  · rw [if_neg h]
    unfold input_Code.f
    rw [show (120 : Nat) = 60 + 60 from rfl, all_eq' 60]
    simp only [Option.bind_some]
    exact code_none tbl a b c (by decide) (fun x hx e => h (by have := tbl_in x hx; omega)) tbl.length _ 0 (by simp) (by decide)
theorem awake_eq : joustlaw04_awake.f 120 = some true := by
  unfold joustlaw04_awake.f
  rw [code_eq 0 0 false]
  rfl
theorem right_eq (a b : Int) (c : Bool) : input_Right.f a b c = some (decide (-2 ≤ a ∧ a ≤ 2 ∧ -2 ≤ b ∧ b ≤ 2)) := by
  unfold input_Right.f
  by_cases h1 : -2 ≤ a <;> by_cases h2 : a ≤ 2 <;> by_cases h3 : -2 ≤ b <;> by_cases h4 : b ≤ 2 <;> simp [h1, h2, h3, h4]

/-- the input of a code -/
def fr (n : Nat) : Int × Int × Bool × Bool := if n ≤ 49 then ((n / 10 : Nat) - 2, (n % 10 / 2 : Nat) - 2, n % 2 == 1, true) else (0, 0, false, false)
theorem from_fin : ∀ n : Fin 256, decide (input_FromCode.f 120 (n.val : Int) = some (fr n.val)) = true := by decide +kernel
theorem from_eq (n : Nat) (h : n < 256) : input_FromCode.f 120 (n : Int) = some (fr n) := of_decide_eq_true (from_fin ⟨n, h⟩)
/-- what is told of it -/
def frOk (n : Nat) : Bool := ((fr n).2.2.2 == decide (n ≤ 49)) && (!decide (n ≤ 49) || (decide (-2 ≤ (fr n).1 ∧ (fr n).1 ≤ 2 ∧ -2 ≤ (fr n).2.1 ∧ (fr n).2.1 ≤ 2) && decide (((fr n).1 + 2) * 10 + ((fr n).2.1 + 2) * 2 + (if (fr n).2.2.1 = true then 1 else 0) = (n : Int))))
theorem fr_fin : ∀ n : Fin 256, frOk n.val = true := by decide +kernel
theorem fr_ok (n : Nat) (h : n < 256) : frOk n = true := fr_fin ⟨n, h⟩

theorem from_at {k n : Nat} (hk : 120 ≤ k) (h : n < 256) : input_FromCode.f k (n : Int) = some (fr n) := at_rounds (input_FromCode.mono _) hk (from_eq n h)
theorem code_at {k : Nat} (hk : 120 ≤ k) (a b : Int) (c : Bool) : input_Code.f k a b c = some (if -2 ≤ a ∧ a ≤ 2 ∧ -2 ≤ b ∧ b ≤ 2 then (a + 2) * 10 + (b + 2) * 2 + (if c = true then 1 else 0) else 0) := at_rounds (input_Code.mono _ _ _) hk (code_eq a b c)
def cnt (a : Nat) : Nat → Nat
  | 0 => 0
  | i + 1 => cnt a i + (if (a + i) % 256 ≤ 49 then 1 else 0)
theorem cnt_fin : ∀ n : Fin 256, cnt n.val 256 = 50 := by decide +kernel
theorem cnt_le (a i : Nat) : cnt a i ≤ i := by
  induction i with
  | zero => exact Nat.le_refl _
  | succ i ih => unfold cnt; split <;> omega
theorem code_of {n : Nat} (h : n ≤ 49) {k : Nat} (hk : 120 ≤ k) : input_Code.f k (fr n).1 (fr n).2.1 (fr n).2.2.1 = some (n : Int) ∧ (fr n).1 ≤ 2 ∧ (fr n).2.2.2 = true := by
  have h3 := fr_ok n (by omega)
  simp only [frOk, Bool.and_eq_true, Bool.or_eq_true, beq_iff_eq, decide_eq_true_eq, Bool.not_eq_true', decide_eq_false_iff_not] at h3
  obtain ⟨h4, h5⟩ := h3
  rcases h5 with h5 | ⟨h5, h6⟩
  · exact absurd h h5
  · refine ⟨?_, h5.2.1, by rw [h4]; simpa using h⟩
    rw [code_at hk, if_pos h5, h6]
theorem fr_above {n : Nat} (h : 49 < n) : fr n = (0, 0, false, false) := by unfold fr; rw [if_neg (by omega)]
theorem fr_inj {m n : Nat} (hm : m ≤ 49) (hn : n ≤ 49) (h1 : (fr m).1 = (fr n).1) (h2 : (fr m).2.1 = (fr n).2.1) (h3 : (fr m).2.2.1 = (fr n).2.2.1) : m = n := by
  have a := (code_of hm (Nat.le_refl 120)).1
  have b := (code_of hn (Nat.le_refl 120)).1
  rw [h1, h2, h3, b] at a
  have := Option.some.inj a
  omega
theorem loop (a : Nat) (d : Nat) : ∀ (k i : Nat) (x y : Int) (z : Bool), i + d = 256 → 121 + 2 * d ≤ k → ((x = 9) ∨ ∃ m j, j < i ∧ m ≤ 49 ∧ m = (a + j) % 256 ∧ x = (fr m).1 ∧ y = (fr m).2.1 ∧ z = (fr m).2.2.1) →
    joustlaw04_InputTable.l0 k (a : Int) (cnt a i : Int) (i : Int) x y z = some (decide (cnt a 256 = 50)) := by
  induction d with
  | zero =>
    intro k i x y z hi hk _
    obtain ⟨k, rfl⟩ : ∃ m, k = m + 1 := ⟨k - 1, by omega⟩
    have : i = 256 := by omega
    subst this
    simp only [joustlaw04_InputTable.l0]
    rw [if_neg (by omega), at_rounds joustlaw04_awake.mono (show 120 ≤ k by omega) awake_eq, Option.bind_some, if_pos rfl]
    congr 1
    rw [Bool.eq_iff_iff, beq_iff_eq, decide_eq_true_eq]
    omega
  | succ d ih =>
    intro k i x y z hi hk hl
    obtain ⟨k, rfl⟩ : ∃ m, k = m + 2 := ⟨k - 2, by omega⟩
    have hc := cnt_le a i
    have e1 : ((a : Int) + (i : Int) % 256) % 256 = ((a + i) % 256 : Nat) := by omega
    have e2 : wrap64 ((i : Int) + 1) = ((i + 1 : Nat) : Int) := by rw [wr (by omega) (by omega)]; rfl
    have e3 : wrap64 ((cnt a i : Int) + 1) = ((cnt a i + 1 : Nat) : Int) := by rw [wr (by omega) (by omega)]; rfl
    have hn : (a + i) % 256 < 256 := Nat.mod_lt _ (by omega)
    have e4 : (((((a + i) % 256 : Nat) : Int)) ≤ 49) = ((a + i) % 256 ≤ 49) := by simp only [eq_iff_iff]; omega
    simp only [joustlaw04_InputTable.l0]
    rw [if_pos (by omega), e1, from_at (by omega) hn, Option.bind_some]
    simp only [joustlaw04_InputTable.j1, e2, e3, e4]
    by_cases h : (a + i) % 256 ≤ 49
    · obtain ⟨h1, h2, h3⟩ := code_of h (k := k + 1) (by omega)
      have hne : ¬ (((fr ((a + i) % 256)).1 == x && ((fr ((a + i) % 256)).2.1 == y && ((fr ((a + i) % 256)).2.2.1 == z))) = true) := by
        intro e
        simp only [Bool.and_eq_true, beq_iff_eq] at e
        obtain ⟨e5, e6, e7⟩ := e
        rcases hl with hl | ⟨m, j, hj, hm, hmj, hx, hy, hz⟩
        · omega
        · have := fr_inj h hm (e5.trans hx) (e6.trans hy) (e7.trans hz)
          omega
      have hi' := ih k (i + 1) (fr ((a + i) % 256)).1 (fr ((a + i) % 256)).2.1 (fr ((a + i) % 256)).2.2.1 (by omega) (by omega) (.inr ⟨(a + i) % 256, i, by omega, h, rfl, rfl, rfl, rfl⟩)
      have hcs : cnt a (i + 1) = cnt a i + 1 := by
        show cnt a i + _ = _
        rw [if_pos h]
      rw [hcs] at hi'
      rw [h3, decide_eq_true h, if_neg (by decide), if_pos rfl, if_neg hne, h1, Option.bind_some, if_pos rfl, if_neg (by decide), if_pos rfl]
      exact hi'
    · have hi' := ih k (i + 1) x y z (by omega) (by omega) (by
        rcases hl with hl | ⟨m, j, hj, hm⟩
        · exact .inl hl
        · exact .inr ⟨m, j, by omega, hm⟩)
      have hcs : cnt a (i + 1) = cnt a i := by
        show cnt a i + _ = _
        rw [if_neg h]; rfl
      rw [hcs] at hi'
      rw [fr_above (by omega), decide_eq_false h]
      simpa using hi'
theorem InputTable (a0 : Int) (g0 : G0 a0) : ∃ k, joustlaw04_InputTable.f k a0 = some true := by
  have hb := bounds_u8 g0
  obtain ⟨n, hn, rfl⟩ : ∃ n : Nat, n < 256 ∧ a0 = n := ⟨a0.toNat, by omega, by omega⟩
  refine ⟨121 + 2 * 256, ?_⟩
  have h := loop n 256 (121 + 2 * 256) 0 9 0 false rfl (Nat.le_refl _) (.inl rfl)
  rw [cnt_fin ⟨n, hn⟩] at h
  exact h
end Go.Proofs.Ytjkhmgoldkeckaa.PureInputTable
