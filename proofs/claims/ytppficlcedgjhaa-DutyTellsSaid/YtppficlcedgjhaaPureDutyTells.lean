/- The printed law DutyTells is true for all numbers and lists: who keeps any region, whoever is gone, and which regions anybody keeps; what is handed in stays. Condition: each number within its kind. -/
import Derived.Test.YtppficlcedgjhaaPDutyTellsz
import Derived.Test.YtppficlcedgjhaaGdsDutyTells
import Derived.OpenShut
namespace Go.Proofs.Ytppficlcedgjhaa.PureDutyTells
set_option linter.unusedVariables false
open Go Go.RowKit Go.Proofs.Ytppficlcedgjhaa.PDutyTells Go.Proofs.Ytppficlcedgjhaa.GdsDutyTells Go.Proofs.YtppficlcedgjhaaW.PrintWords Go.Proofs.YtppficlcedgjhaaW.PrintLast
theorem wr {i : Int} (h0 : -9223372036854775808 ≤ i) (h1 : i < 9223372036854775808) : wrap64 i = i := by unfold wrap64; omega
theorem uw (i : Int) : IntKind.u64.wrap i = i % 18446744073709551616 := by simp [IntKind.wrap, IntKind.signed, IntKind.bits]
/-- a number brought below another one, as Go's int(uint(x) % uint(m)) does it -/
theorem umod (x m : Int) (h0 : 1 ≤ m) (h1 : m ≤ 4611686018427387904) : 0 ≤ wrap64 (Int.tmod (IntKind.u64.wrap x) (IntKind.u64.wrap m)) ∧ wrap64 (Int.tmod (IntKind.u64.wrap x) (IntKind.u64.wrap m)) < m := by
  rw [uw, uw]
  have e : m % 18446744073709551616 = m := by omega
  rw [e]
  have hx : 0 ≤ x % 18446744073709551616 := by omega
  have a := Int.tmod_nonneg m hx
  have b := Int.tmod_lt_of_pos (x % 18446744073709551616) (show 0 < m by omega)
  rw [wr (by omega) (by omega)]
  exact ⟨a, b⟩
theorem umod1 (x m : Int) (h0 : 1 ≤ m) (h1 : m ≤ 4611686018427387904) : 0 ≤ wrap64 (Int.tmod (IntKind.u64.wrap x) m) ∧ wrap64 (Int.tmod (IntKind.u64.wrap x) m) < m := by
  have h := umod x m h0 h1
  rw [uw m, show m % 18446744073709551616 = m by omega] at h
  exact h

/-- may an arena be -/
def R (c r p w : Int) : Prop := (1 ≤ c ∧ c ≤ 4) ∧ (1 ≤ r ∧ r ≤ 4) ∧ (1 ≤ p ∧ p ≤ 6) ∧ (1 ≤ w ∧ w ≤ 16)
instance (c r p w : Int) : Decidable (R c r p w) := by unfold R; infer_instance
theorem gwithin_eq (a lo hi : Int) : grid_within.f a lo hi = some (decide (lo ≤ a ∧ a ≤ hi)) := by
  unfold grid_within.f
  by_cases h : lo ≤ a <;> simp [h]
theorem right_eq (c r p w s : Int) : grid_right.f c r p w s = some (decide (R c r p w)) := by
  unfold grid_right.f R
  simp only [gwithin_eq, Option.bind_some]
  by_cases h1 : 1 ≤ c ∧ c ≤ 4 <;> by_cases h2 : 1 ≤ r ∧ r ≤ 4 <;> by_cases h3 : 1 ≤ p ∧ p ≤ 6 <;> by_cases h4 : 1 ≤ w ∧ w ≤ 16 <;> simp [h1, h2, h3, h4]
theorem size_eq {c r p w : Int} (s : Int) (h : R c r p w) : grid_Grid_size.f c r p w s = some (c, r) := by
  unfold grid_Grid_size.f
  rw [right_eq, Option.bind_some, decide_eq_true h, if_pos rfl]
theorem size_no {c r p w : Int} (s : Int) (h : ¬ R c r p w) : grid_Grid_size.f c r p w s = some (0, 0) := by
  unfold grid_Grid_size.f
  rw [right_eq, Option.bind_some, decide_eq_false h, if_neg (by decide)]
theorem cr_bound {c r p w : Int} (h : R c r p w) : 1 ≤ c * r ∧ c * r ≤ 16 := by
  obtain ⟨⟨h1, h2⟩, ⟨h3, h4⟩, _⟩ := h
  have hc : c = 1 ∨ c = 2 ∨ c = 3 ∨ c = 4 := by omega
  rcases hc with rfl | rfl | rfl | rfl <;> omega
theorem regions_eq {c r p w : Int} (s : Int) (h : R c r p w) : grid_Grid_Regions.f c r p w s = some (c * r) := by
  unfold grid_Grid_Regions.f
  have := cr_bound h
  rw [size_eq s h, Option.bind_some, wr (by simp; omega) (by simp; omega)]
theorem regions_no {c r p w : Int} (s : Int) (h : ¬ R c r p w) : grid_Grid_Regions.f c r p w s = some 0 := by
  unfold grid_Grid_Regions.f
  rw [size_no s h, Option.bind_some]; decide +kernel

theorem new_eq {c r p w : Int} (s : Int) (h : R c r p w) : grid_New.f c r p w s = some (c, r, p, w, s, 0) := by
  unfold grid_New.f
  rw [right_eq, Option.bind_some, decide_eq_true h, if_pos rfl]
theorem new_no {c r p w : Int} (s : Int) (h : ¬ R c r p w) : grid_New.f c r p w s = some (0, 0, 0, 0, 0, 10) := by
  unfold grid_New.f
  rw [right_eq, Option.bind_some, decide_eq_false h, if_neg (by decide)]

theorem in_loop (xs : List Int) (x : Int) (hb : xs.length < 4611686018427387904) : ∀ (d k i : Nat), i + d = xs.length → d < k → jousthelp_In_int.l0 k xs x (i : Int) = some ((xs.drop i).contains x) := by
  intro d
  induction d with
  | zero =>
    intro k i hi hk
    obtain ⟨k, rfl⟩ : ∃ m, k = m + 1 := ⟨k - 1, by omega⟩
    simp only [jousthelp_In_int.l0]
    rw [if_neg (by omega), List.drop_of_length_le (by omega)]; rfl
  | succ d ih =>
    intro k i hi hk
    obtain ⟨k, rfl⟩ : ∃ m, k = m + 1 := ⟨k - 1, by omega⟩
    simp only [jousthelp_In_int.l0]
    have h1 : i < xs.length := by omega
    rw [if_pos (by omega), if_pos (by omega), wr (by omega) (by omega)]
    have e1 : rd xs (i : Int) = xs[i] := by simp [rd, List.getD_eq_getElem?_getD, h1]
    have hi' := ih k (i + 1) (by omega) (by omega)
    have e3 : ((i : Int) + 1) = ((i + 1 : Nat) : Int) := rfl
    rw [e1, e3, hi', List.drop_eq_getElem_cons h1, List.contains_cons]
    by_cases e : xs[i] = x
    · simp [e]
    · rw [if_neg e]
      have : (x == xs[i]) = false := by simpa using fun h => e h.symm
      rw [this, Bool.false_or]
theorem in_eq (xs : List Int) (x : Int) (hb : xs.length < 4611686018427387904) {k : Nat} (hk : xs.length < k) : jousthelp_In_int.f k xs x = some (xs.contains x) := by
  unfold jousthelp_In_int.f
  exact in_loop xs x hb xs.length k 0 (by omega) hk

theorem same_loop (xs ys : List Int) (hl : xs.length = ys.length) (hb : xs.length < 4611686018427387904) : ∀ (d k i : Nat), i + d = xs.length → d < k → jousthelp_Same_int.l0 k xs ys (i : Int) = some (decide (xs.drop i = ys.drop i)) := by
  intro d
  induction d with
  | zero =>
    intro k i hi hk
    obtain ⟨k, rfl⟩ : ∃ m, k = m + 1 := ⟨k - 1, by omega⟩
    simp only [jousthelp_Same_int.l0]
    rw [if_neg (by omega), List.drop_of_length_le (by omega), List.drop_of_length_le (by omega), decide_eq_true rfl]
  | succ d ih =>
    intro k i hi hk
    obtain ⟨k, rfl⟩ : ∃ m, k = m + 1 := ⟨k - 1, by omega⟩
    simp only [jousthelp_Same_int.l0]
    have h1 : i < xs.length := by omega
    have h2 : i < ys.length := by omega
    rw [if_pos (by omega), if_pos (by omega), if_pos (by omega), wr (by omega) (by omega)]
    have e1 : rd xs (i : Int) = xs[i] := by simp [rd, List.getD_eq_getElem?_getD, h1]
    have e2 : rd ys (i : Int) = ys[i] := by simp [rd, List.getD_eq_getElem?_getD, h2]
    have hi' := ih k (i + 1) (by omega) (by omega)
    unfold jousthelp_Plain_int_1.f
    rw [Option.bind_some, e1, e2, List.drop_eq_getElem_cons h1, List.drop_eq_getElem_cons h2]
    by_cases e : xs[i] = ys[i]
    · rw [if_pos (by simpa using e)]
      have : ((i : Int) + 1) = ((i + 1 : Nat) : Int) := rfl
      rw [this, hi']
      congr 1
      rw [decide_eq_decide, List.cons.injEq]
      exact ⟨fun h => ⟨e, h⟩, fun h => h.2⟩
    · rw [if_neg (by simpa using e), decide_eq_false (fun h => e (List.cons.inj h).1)]
theorem plain_eq (xs ys : List Int) (hb : xs.length < 4611686018427387904) {k : Nat} (hk : xs.length < k) : jousthelp_Plain_int.f k xs ys = some (decide (xs = ys)) := by
  unfold jousthelp_Plain_int.f jousthelp_Same_int.f
  by_cases hl : xs.length = ys.length
  · rw [if_pos (by omega), show (0 : Int) = ((0 : Nat) : Int) from rfl, same_loop xs ys hl hb xs.length k 0 (by omega) hk]
    rfl
  · rw [if_neg (by omega), Option.bind_some, decide_eq_false (fun e => hl (by rw [e]))]

theorem rright_eq (c r p w s : Int) : joustref03_Right.f c r p w s = some (decide (R c r p w)) := by
  unfold joustref03_Right.f R
  by_cases h1 : 1 ≤ c <;> by_cases h2 : c ≤ 4 <;> simp [h1, h2] <;> by_cases h3 : 1 ≤ r <;> by_cases h4 : r ≤ 4 <;> simp [h3, h4] <;> by_cases h5 : 1 ≤ p <;> by_cases h6 : p ≤ 6 <;> simp [h5, h6] <;> by_cases h7 : 1 ≤ w <;> simp [h7]

theorem rregions_eq {c r p w : Int} (s : Int) (h : R c r p w) : joustref03_Regions.f c r p w s = some (c * r) := by
  unfold joustref03_Regions.f
  have := cr_bound h
  rw [rright_eq, Option.bind_some, decide_eq_true h, if_pos rfl, wr (by omega) (by omega)]
theorem rregions_no {c r p w : Int} (s : Int) (h : ¬ R c r p w) : joustref03_Regions.f c r p w s = some 0 := by
  unfold joustref03_Regions.f
  rw [rright_eq, Option.bind_some, decide_eq_false h, if_neg (by decide)]
theorem ris_eq {c r p w : Int} (s x : Int) (h : R c r p w) : joustref03_Is.f c r p w s x = some (decide (0 ≤ x ∧ x < c * r)) := by
  unfold joustref03_Is.f
  by_cases hx : x ≥ 0
  · rw [if_pos hx, rregions_eq s h, Option.bind_some]
    congr 1
    rw [decide_eq_decide]
    omega
  · rw [if_neg hx]
    congr 1
    symm
    rw [decide_eq_false_iff_not]
    omega
theorem ris_no {c r p w : Int} (s x : Int) (h : ¬ R c r p w) : joustref03_Is.f c r p w s x = some false := by
  unfold joustref03_Is.f
  by_cases hx : x ≥ 0
  · rw [if_pos hx, rregions_no s h, Option.bind_some, decide_eq_false (by omega)]
  · rw [if_neg hx]

theorem idx_loop (xs : List Int) (x : Int) (hb : xs.length < 4611686018427387904) : ∀ (d k i : Nat), i + d = xs.length → d < k → ∃ r, slices_Index_int_int.l0 k xs x (xs.length : Int) (i : Int) = some r ∧ decide (r ≥ 0) = (xs.drop i).contains x := by
  intro d
  induction d with
  | zero =>
    intro k i hi hk
    obtain ⟨k, rfl⟩ : ∃ m, k = m + 1 := ⟨k - 1, by omega⟩
    simp only [slices_Index_int_int.l0]
    exact ⟨-1, by rw [if_neg (by omega)], by rw [List.drop_of_length_le (by omega)]; rfl⟩
  | succ d ih =>
    intro k i hi hk
    obtain ⟨k, rfl⟩ : ∃ m, k = m + 1 := ⟨k - 1, by omega⟩
    simp only [slices_Index_int_int.l0]
    have h1 : i < xs.length := by omega
    rw [if_pos (by omega), if_pos (by omega), if_pos (by omega), wr (by omega) (by omega)]
    have e1 : rd xs (i : Int) = xs[i] := by simp [rd, List.getD_eq_getElem?_getD, h1]
    obtain ⟨r, hr, hc⟩ := ih k (i + 1) (by omega) (by omega)
    have e3 : ((i : Int) + 1) = ((i + 1 : Nat) : Int) := rfl
    rw [e1, e3, hr, List.drop_eq_getElem_cons h1, List.contains_cons]
    by_cases e : x = xs[i]
    · exact ⟨i, by rw [if_pos e], by rw [decide_eq_true (by omega)]; simp [e]⟩
    · refine ⟨r, by rw [if_neg e], ?_⟩
      have : (x == xs[i]) = false := by simpa using e
      rw [this, Bool.false_or, hc]
theorem contains_eq (xs : List Int) (x : Int) (hb : xs.length < 4611686018427387904) {k : Nat} (hk : xs.length < k) : slices_Contains_int_int.f k xs x = some (xs.contains x) := by
  unfold slices_Contains_int_int.f slices_Index_int_int.f
  obtain ⟨r, hr, hc⟩ := idx_loop xs x hb xs.length k 0 (by omega) hk
  rw [show (0 : Int) = ((0 : Nat) : Int) from rfl, hr, Option.bind_some]
  exact congrArg some hc
/-- the peers, from the i-th of d more on, who may keep region x -/
def orderF (p x : Int) (gone : List Int) : Nat → Int → List Int
  | 0, _ => []
  | d + 1, i => if gone.contains ((x + i) % p) = true then orderF p x gone d (i + 1) else (x + i) % p :: orderF p x gone d (i + 1)
theorem orderF_len (p x : Int) (gone : List Int) : ∀ (d : Nat) (i : Int), (orderF p x gone d i).length ≤ d := by
  intro d
  induction d with
  | zero => exact fun _ => Nat.le_refl _
  | succ d ih =>
    intro i
    have := ih (i + 1)
    unfold orderF
    split
    · omega
    · simp only [List.length_cons]; omega
theorem orderF_congr {p x : Int} {g1 g2 : List Int} (hp : 1 ≤ p) (h : ∀ q, 0 ≤ q → q < p → g1.contains q = g2.contains q) : ∀ (d : Nat) (i : Int), orderF p x g1 d i = orderF p x g2 d i := by
  intro d
  induction d with
  | zero => exact fun _ => rfl
  | succ d ih =>
    intro i
    unfold orderF
    rw [h ((x + i) % p) (Int.emod_nonneg _ (by omega)) (Int.emod_lt_of_pos _ (by omega)), ih (i + 1)]
theorem order_loop {c r p w : Int} (s x : Int) (gone : List Int) (h : R c r p w) (hx : 0 ≤ x ∧ x < 16) (hg : gone.length < 4611686018427387904) : ∀ (d k : Nat) (i : Int) (acc : List Int), 0 ≤ i → i + d = p → gone.length + d + 1 < k → acc.length + d ≤ 100 →
    duty_order.l0 k x gone acc p i c r p w s = some (acc ++ orderF p x gone d i) := by
  have h3 := h.2.2.1
  intro d
  induction d with
  | zero =>
    intro k i acc h0 hi hk ha
    obtain ⟨k, rfl⟩ : ∃ m, k = m + 1 := ⟨k - 1, by omega⟩
    simp only [duty_order.l0]
    rw [if_neg (by omega)]
    simp [orderF]
  | succ d ih =>
    intro k i acc h0 hi hk ha
    obtain ⟨k, rfl⟩ : ∃ m, k = m + 1 := ⟨k - 1, by omega⟩
    simp only [duty_order.l0]
    rw [if_pos (by omega), if_neg (by omega), wr (show _ ≤ x + i by omega) (by omega), Int.tmod_eq_emod_of_nonneg (by omega), contains_eq gone _ hg (by omega), Option.bind_some, wr (by omega) (by omega)]
    unfold orderF
    by_cases e : gone.contains ((x + i) % p) = true
    · rw [if_pos e, if_pos e]
      exact ih k (i + 1) acc (by omega) (by omega) (by omega) (by omega)
    · rw [if_neg e, if_neg e, if_pos (by omega), ih k (i + 1) _ (by omega) (by omega) (by omega) (by simp; omega)]
      simp
theorem order_eq {c r p w x : Int} (s : Int) (gone : List Int) (h : R c r p w) (hx : 0 ≤ x ∧ x < c * r) (hg : gone.length < 4611686018427387904) {k : Nat} (hk : gone.length + 10 ≤ k) : duty_order.f k c r p w s x gone = some (orderF p x gone p.toNat 0) := by
  have h3 := h.2.2.1
  have hb := cr_bound h
  obtain ⟨k, rfl⟩ : ∃ m, k = m + 1 := ⟨k - 1, by omega⟩
  unfold duty_order.f
  rw [if_neg (by omega), regions_eq s h, Option.bind_some]
  simp only [duty_order.j0]
  rw [if_neg (by simp; omega), order_loop s x gone h (by omega) hg p.toNat k 0 [] (by omega) (by omega) (by omega) (by simp; omega)]
  rfl
theorem order_out {c r p w x : Int} (s : Int) (gone : List Int) (h : R c r p w) (hx : ¬ (0 ≤ x ∧ x < c * r)) {k : Nat} (hk : 1 ≤ k) : duty_order.f k c r p w s x gone = some [] := by
  obtain ⟨k, rfl⟩ : ∃ m, k = m + 1 := ⟨k - 1, by omega⟩
  unfold duty_order.f
  simp only [duty_order.j0]
  by_cases e : x < 0
  · rw [if_pos e, if_pos trivial]
  · rw [if_neg e, regions_eq s h, Option.bind_some, if_pos (by simp; omega)]
theorem order_no {c r p w : Int} (s x : Int) (gone : List Int) (h : ¬ R c r p w) {k : Nat} (hk : 1 ≤ k) : duty_order.f k c r p w s x gone = some [] := by
  obtain ⟨k, rfl⟩ : ∃ m, k = m + 1 := ⟨k - 1, by omega⟩
  unfold duty_order.f
  simp only [duty_order.j0]
  by_cases e : x < 0
  · rw [if_pos e, if_pos trivial]
  · rw [if_neg e, regions_no s h, Option.bind_some, if_pos (by simp; omega)]
theorem nth_eq (l : List Int) (n : Nat) : duty_nth.f l (n : Int) = some (l.getD n (-1)) := by
  unfold duty_nth.f
  by_cases e : (n : Int) ≥ (l.length : Int)
  · rw [if_pos e]
    simp [List.getD_eq_getElem?_getD, List.getElem?_eq_none (show l.length ≤ n by omega)]
  · rw [if_neg e, if_pos (by omega), if_pos (by omega)]
    have h1 : n < l.length := by omega
    simp [rd, List.getD_eq_getElem?_getD, h1]
/-- who keeps region x; who keeps it, too -/
def hostF (p x : Int) (gone : List Int) : Int := (orderF p x gone p.toNat 0).getD 0 (-1)
def depF (p x : Int) (gone : List Int) : Int := (orderF p x gone p.toNat 0).getD 1 (-1)
theorem host_eq {c r p w x : Int} (s : Int) (gone : List Int) (h : R c r p w) (hx : 0 ≤ x ∧ x < c * r) (hg : gone.length < 4611686018427387904) {k : Nat} (hk : gone.length + 10 ≤ k) : duty_Host.f k c r p w s x gone = some (hostF p x gone) := by
  unfold duty_Host.f
  rw [order_eq s gone h hx hg hk, Option.bind_some, show (0 : Int) = ((0 : Nat) : Int) from rfl, nth_eq, Option.bind_some]; rfl
theorem deputy_eq {c r p w x : Int} (s : Int) (gone : List Int) (h : R c r p w) (hx : 0 ≤ x ∧ x < c * r) (hg : gone.length < 4611686018427387904) {k : Nat} (hk : gone.length + 10 ≤ k) : duty_Deputy.f k c r p w s x gone = some (depF p x gone) := by
  unfold duty_Deputy.f
  rw [order_eq s gone h hx hg hk, Option.bind_some, show (1 : Int) = ((1 : Nat) : Int) from rfl, nth_eq, Option.bind_some]; rfl

/-- does a peer keep region x? -/
def keepsF (p : Int) (gone : List Int) (peer x : Int) : Bool := decide (peer ≥ 0) && (hostF p x gone == peer || depF p x gone == peer)
/-- the regions that a peer keeps, of d regions from the i-th on -/
def dutyF (p : Int) (gone : List Int) (peer : Int) : Nat → Int → List Int
  | 0, _ => []
  | d + 1, i => if keepsF p gone peer i = true then i :: dutyF p gone peer d (i + 1) else dutyF p gone peer d (i + 1)
theorem dutyF_succ (p : Int) (gone : List Int) (peer : Int) (d : Nat) (i : Int) : dutyF p gone peer (d + 1) i = if keepsF p gone peer i = true then i :: dutyF p gone peer d (i + 1) else dutyF p gone peer d (i + 1) := rfl
theorem dutyF_len (p : Int) (gone : List Int) (peer : Int) : ∀ (d : Nat) (i : Int), (dutyF p gone peer d i).length ≤ d := by
  intro d
  induction d with
  | zero => exact fun _ => Nat.le_refl _
  | succ d ih =>
    intro i
    have := ih (i + 1)
    unfold dutyF
    split
    · simp only [List.length_cons]; omega
    · omega
theorem duty_loop {c r p w : Int} (s peer : Int) (gone : List Int) (h : R c r p w) (hg : gone.length < 4611686018427387904) : ∀ (d k : Nat) (i : Int) (acc : List Int), 0 ≤ i → i + d = c * r → gone.length + d + 11 < k → acc.length + d ≤ 100 →
    duty_Of.l0 k peer gone acc (c * r) i c r p w s = some (acc ++ dutyF p gone peer d i) := by
  have hb := cr_bound h
  intro d
  induction d with
  | zero =>
    intro k i acc h0 hi hk ha
    obtain ⟨k, rfl⟩ : ∃ m, k = m + 1 := ⟨k - 1, by omega⟩
    simp only [duty_Of.l0]
    rw [if_neg (by omega)]
    simp [dutyF]
  | succ d ih =>
    intro k i acc h0 hi hk ha
    obtain ⟨k, rfl⟩ : ∃ m, k = m + 1 := ⟨k - 1, by omega⟩
    simp only [duty_Of.l0]
    have i1 := ih k (i + 1) acc (by omega) (by omega) (by omega) (by omega)
    have i2 := ih k (i + 1) (acc ++ [i]) (by omega) (by omega) (by omega) (by simp; omega)
    rw [if_pos (by omega), wr (by omega) (by omega), host_eq s gone h (by omega) hg (by omega), deputy_eq s gone h (by omega) hg (by omega), Option.bind_some, Option.bind_some, i1, i2, dutyF_succ]
    unfold keepsF
    by_cases e1 : peer ≥ 0
    · rw [if_pos e1, decide_eq_true e1, Bool.true_and, if_pos (show acc.length < 17592186044416 by omega)]
      by_cases e2 : hostF p i gone = peer
      · simp [e2]
      · by_cases e3 : depF p i gone = peer
        · simp [e2, e3]
        · simp [e2, e3]
    · rw [if_neg e1, decide_eq_false e1]; simp
theorem of_duty {c r p w : Int} (s peer : Int) (gone : List Int) (h : R c r p w) (hg : gone.length < 4611686018427387904) {k : Nat} (hk : gone.length + 30 ≤ k) : duty_Of.f k c r p w s peer gone = some (dutyF p gone peer (c * r).toNat 0) := by
  have hb := cr_bound h
  unfold duty_Of.f
  rw [regions_eq s h, Option.bind_some, duty_loop s peer gone h hg (c * r).toNat k 0 [] (by omega) (by omega) (by omega) (by simp; omega)]
  rfl

theorem host_out {c r p w x : Int} (s : Int) (gone : List Int) (h : R c r p w) (hx : ¬ (0 ≤ x ∧ x < c * r)) {k : Nat} (hk : 1 ≤ k) : duty_Host.f k c r p w s x gone = some (-1) := by
  unfold duty_Host.f
  rw [order_out s gone h hx hk, Option.bind_some, show (0 : Int) = ((0 : Nat) : Int) from rfl, nth_eq, Option.bind_some]; rfl
theorem deputy_out {c r p w x : Int} (s : Int) (gone : List Int) (h : R c r p w) (hx : ¬ (0 ≤ x ∧ x < c * r)) {k : Nat} (hk : 1 ≤ k) : duty_Deputy.f k c r p w s x gone = some (-1) := by
  unfold duty_Deputy.f
  rw [order_out s gone h hx hk, Option.bind_some, show (1 : Int) = ((1 : Nat) : Int) from rfl, nth_eq, Option.bind_some]; rfl
theorem host_no {c r p w : Int} (s x : Int) (gone : List Int) (h : ¬ R c r p w) {k : Nat} (hk : 1 ≤ k) : duty_Host.f k c r p w s x gone = some (-1) := by
  unfold duty_Host.f
  rw [order_no s x gone h hk, Option.bind_some, show (0 : Int) = ((0 : Nat) : Int) from rfl, nth_eq, Option.bind_some]; rfl
theorem deputy_no {c r p w : Int} (s x : Int) (gone : List Int) (h : ¬ R c r p w) {k : Nat} (hk : 1 ≤ k) : duty_Deputy.f k c r p w s x gone = some (-1) := by
  unfold duty_Deputy.f
  rw [order_no s x gone h hk, Option.bind_some, show (1 : Int) = ((1 : Nat) : Int) from rfl, nth_eq, Option.bind_some]; rfl
theorem of_no_duty {c r p w : Int} (s peer : Int) (gone : List Int) (h : ¬ R c r p w) {k : Nat} (hk : 1 ≤ k) : duty_Of.f k c r p w s peer gone = some [] := by
  obtain ⟨k, rfl⟩ : ∃ m, k = m + 1 := ⟨k - 1, by omega⟩
  unfold duty_Of.f
  rw [regions_no s h, Option.bind_some]
  simp only [duty_Of.l0]
  rw [if_neg (by decide)]
theorem rorder_loop {c r p w : Int} (s x : Int) (gone : List Int) (h : R c r p w) (hx : 0 ≤ x ∧ x < c * r) (hg : gone.length < 4611686018427387904) : ∀ (d k : Nat) (i : Int) (acc : List Int), 0 ≤ i → i + d = p → gone.length + 2 * d + 2 < k → acc.length + d ≤ 100 →
    joustref03_order.l0 k x gone acc i c r p w s = some (acc ++ orderF p x gone d i) := by
  have h3 := h.2.2.1
  have hb := cr_bound h
  intro d
  induction d with
  | zero =>
    intro k i acc h0 hi hk ha
    obtain ⟨k, rfl⟩ : ∃ m, k = m + 2 := ⟨k - 2, by omega⟩
    simp only [joustref03_order.l0, joustref03_order.j1]
    rw [if_neg (by omega), if_neg (by decide)]
    simp [orderF]
  | succ d ih =>
    intro k i acc h0 hi hk ha
    obtain ⟨k, rfl⟩ : ∃ m, k = m + 2 := ⟨k - 2, by omega⟩
    simp only [joustref03_order.l0, joustref03_order.j1]
    rw [if_pos (by omega), ris_eq s x h, Option.bind_some, decide_eq_true hx, if_pos rfl, if_neg (by omega), wr (show _ ≤ x + i by omega) (by omega), Int.tmod_eq_emod_of_nonneg (by omega), in_eq gone _ hg (by omega), Option.bind_some, wr (by omega) (by omega)]
    unfold orderF
    by_cases e : gone.contains ((x + i) % p) = true
    · rw [if_pos e, if_pos e]
      exact ih k (i + 1) acc (by omega) (by omega) (by omega) (by omega)
    · rw [if_neg e, if_neg e, if_pos (by omega), ih k (i + 1) _ (by omega) (by omega) (by omega) (by simp; omega)]
      simp
theorem rorder_eq {c r p w x : Int} (s : Int) (gone : List Int) (h : R c r p w) (hx : 0 ≤ x ∧ x < c * r) (hg : gone.length < 4611686018427387904) {k : Nat} (hk : gone.length + 20 ≤ k) : joustref03_order.f k c r p w s x gone = some (orderF p x gone p.toNat 0) := by
  have h3 := h.2.2.1
  unfold joustref03_order.f
  rw [rorder_loop s x gone h hx hg p.toNat k 0 [] (by omega) (by omega) (by omega) (by simp; omega)]
  rfl
theorem rorder_out {c r p w x : Int} (s : Int) (gone : List Int) (h : R c r p w) (hx : ¬ (0 ≤ x ∧ x < c * r)) {k : Nat} (hk : 2 ≤ k) : joustref03_order.f k c r p w s x gone = some [] := by
  have h3 := h.2.2.1
  obtain ⟨k, rfl⟩ : ∃ m, k = m + 2 := ⟨k - 2, by omega⟩
  unfold joustref03_order.f
  simp only [joustref03_order.l0, joustref03_order.j1]
  rw [if_pos (by omega), ris_eq s x h, Option.bind_some, decide_eq_false hx, if_neg (by decide)]
theorem rhost_of {c r p w x : Int} {s : Int} {gone l : List Int} {k : Nat} (h : joustref03_order.f k c r p w s x gone = some l) : joustref03_Host.f k c r p w s x gone = some (l.getD 0 (-1)) := by
  unfold joustref03_Host.f
  rw [h, Option.bind_some]
  cases l with
  | nil => rfl
  | cons a l => rw [if_neg (by simp only [List.length_cons]; omega), if_pos (by simp only [List.length_cons]; omega)]; rfl
theorem rdeputy_of {c r p w x : Int} {s : Int} {gone l : List Int} {k : Nat} (h : joustref03_order.f k c r p w s x gone = some l) : joustref03_Deputy.f k c r p w s x gone = some (l.getD 1 (-1)) := by
  unfold joustref03_Deputy.f
  rw [h, Option.bind_some]
  match l with
  | [] => rfl
  | [a] => rfl
  | a :: b :: l => rw [if_neg (by simp only [List.length_cons]; omega), if_pos (by simp only [List.length_cons]; omega)]; rfl
theorem rduty_loop {c r p w : Int} (s peer : Int) (gone : List Int) (h : R c r p w) (hg : gone.length < 4611686018427387904) : ∀ (d k : Nat) (i : Int) (acc : List Int), 0 ≤ i → i + d = c * r → gone.length + d + 21 < k → acc.length + d ≤ 100 →
    joustref03_Duties.l0 k peer gone acc i c r p w s = some (acc ++ dutyF p gone peer d i) := by
  have hb := cr_bound h
  intro d
  induction d with
  | zero =>
    intro k i acc h0 hi hk ha
    obtain ⟨k, rfl⟩ : ∃ m, k = m + 1 := ⟨k - 1, by omega⟩
    simp only [joustref03_Duties.l0]
    rw [rregions_eq s h, Option.bind_some, if_neg (by omega)]
    simp [dutyF]
  | succ d ih =>
    intro k i acc h0 hi hk ha
    obtain ⟨k, rfl⟩ : ∃ m, k = m + 1 := ⟨k - 1, by omega⟩
    simp only [joustref03_Duties.l0]
    have i1 := ih k (i + 1) acc (by omega) (by omega) (by omega) (by omega)
    have i2 := ih k (i + 1) (acc ++ [i]) (by omega) (by omega) (by omega) (by simp; omega)
    have ho := rorder_eq (x := i) s gone h (by omega) hg (show gone.length + 20 ≤ k by omega)
    have hh : joustref03_Host.f k c r p w s i gone = some (hostF p i gone) := rhost_of ho
    have hd : joustref03_Deputy.f k c r p w s i gone = some (depF p i gone) := rdeputy_of ho
    rw [rregions_eq s h, Option.bind_some, if_pos (by omega), wr (by omega) (by omega), hh, hd, Option.bind_some, Option.bind_some, i1, i2, dutyF_succ]
    unfold keepsF
    by_cases e1 : peer ≥ 0
    · rw [if_pos e1, decide_eq_true e1, Bool.true_and, if_pos (show acc.length < 17592186044416 by omega)]
      by_cases e2 : hostF p i gone = peer
      · simp [e2]
      · by_cases e3 : depF p i gone = peer
        · simp [e2, e3]
        · simp [e2, e3]
    · rw [if_neg e1, decide_eq_false e1]; simp
theorem rduty_eq {c r p w : Int} (s peer : Int) (gone : List Int) (h : R c r p w) (hg : gone.length < 4611686018427387904) {k : Nat} (hk : gone.length + 40 ≤ k) : joustref03_Duties.f k c r p w s peer gone = some (dutyF p gone peer (c * r).toNat 0) := by
  have hb := cr_bound h
  unfold joustref03_Duties.f
  rw [rduty_loop s peer gone h hg (c * r).toNat k 0 [] (by omega) (by omega) (by omega) (by simp; omega)]
  rfl

theorem awake_eq {k : Nat} (hk : 20 ≤ k) : joustlaw22_awake.f k = some true := by
  unfold joustlaw22_awake.f
  have h : R 3 2 3 1 := by decide
  rw [new_eq 0 h, Option.bind_some]
  simp only
  rw [host_eq 0 [] h (by decide) (by decide) (by simp; omega), Option.bind_some, if_pos (by decide +kernel), deputy_eq 0 [] h (by decide) (by decide) (by simp; omega), Option.bind_some, if_pos (by decide +kernel), host_eq 0 [1] h (by decide) (by decide) (by simp; omega), Option.bind_some]
  decide +kernel

set_option maxHeartbeats 1000000 in
theorem DutyTells (a0 : (Int × (Int × (Int × (Int × Int))))) (a1 : Int) (a2 : Int) (a3 : (List Int)) (g0 : G0 a0) (g1 : G1 a1) (g2 : G2 a2) (g3 : G3 a3) : ∃ k, joustlaw22_DutyTells.f k a0.1 a0.2.1 a0.2.2.1 a0.2.2.2.1 a0.2.2.2.2 a1 a2 a3 = some true := by
  obtain ⟨c, r, p, w, s⟩ := a0
  obtain ⟨K, hK⟩ : ∃ K : Nat, 200 ≤ K := ⟨200, Nat.le_refl _⟩
  refine ⟨K, ?_⟩
  unfold joustlaw22_DutyTells.f
  simp only
  by_cases hl : (a3.length : Int) > 30
  · rw [if_pos hl, awake_eq (by omega), Option.bind_some]
  · have h30 : a3.length ≤ 30 := by omega
    rw [if_neg hl]
    by_cases h : R c r p w
    · have hown : jousthelp_Own_int.f a3 71 = some (a3 ++ [71, 71, 71]) := by unfold jousthelp_Own_int.f; rw [if_pos (by omega)]
      have htk : (a3 ++ [71, 71, 71]).take ((a3.length : Int) : Int).toNat = a3 := by rw [Int.toNat_natCast]; exact List.take_left' rfl
      have hll : (a3 ++ [71, 71, 71]).length = a3.length + 3 := by simp
      have hkept : jousthelp_Kept_int.f (a3 ++ [71, 71, 71]) a3 a3 71 = some true := by unfold jousthelp_Kept_int.f; rw [if_pos ⟨by omega, rfl, rfl⟩]
      rw [new_eq s h, Option.bind_some, rright_eq, Option.bind_some, decide_eq_true h, if_pos rfl, hown, Option.bind_some, htk, if_pos (by omega), if_pos (by omega), Option.bind_some, awake_eq (by omega), Option.bind_some, if_pos rfl]
      have hd := dutyF_len p a3 a2 (c * r).toNat 0
      have hb := cr_bound h
      have hh : ∃ v, duty_Host.f K c r p w s a1 a3 = some v ∧ joustref03_Host.f K c r p w s a1 a3 = some v := by
        by_cases hx : 0 ≤ a1 ∧ a1 < c * r
        · exact ⟨_, host_eq s a3 h hx (by omega) (by omega), rhost_of (rorder_eq s a3 h hx (by omega) (by omega))⟩
        · exact ⟨_, host_out s a3 h hx (by omega), rhost_of (rorder_out s a3 h hx (by omega))⟩
      have hp : ∃ v, duty_Deputy.f K c r p w s a1 a3 = some v ∧ joustref03_Deputy.f K c r p w s a1 a3 = some v := by
        by_cases hx : 0 ≤ a1 ∧ a1 < c * r
        · exact ⟨_, deputy_eq s a3 h hx (by omega) (by omega), rdeputy_of (rorder_eq s a3 h hx (by omega) (by omega))⟩
        · exact ⟨_, deputy_out s a3 h hx (by omega), rdeputy_of (rorder_out s a3 h hx (by omega))⟩
      obtain ⟨v1, h1, h2⟩ := hh
      obtain ⟨v2, h3, h4⟩ := hp
      rw [h1, Option.bind_some, h2, Option.bind_some, if_pos rfl, h3, Option.bind_some, h4, Option.bind_some, if_pos rfl, of_duty s a2 a3 h (by omega) (by omega), Option.bind_some, rduty_eq s a2 a3 h (by omega) (by omega), Option.bind_some, plain_eq _ _ (by omega) (by omega), Option.bind_some, decide_eq_true rfl, if_pos rfl, hkept, Option.bind_some]
    · have h0 : ¬ R 0 0 0 0 := by decide
      rw [new_no s h, Option.bind_some, rright_eq, Option.bind_some, decide_eq_false h, if_neg (by decide), awake_eq (by omega), Option.bind_some, if_pos rfl, host_no 0 a1 a3 h0 (by omega), Option.bind_some, if_pos rfl, deputy_no 0 a1 a3 h0 (by omega), Option.bind_some, if_pos rfl, of_no_duty 0 a2 a3 h0 (by omega), Option.bind_some]
      rfl
end Go.Proofs.Ytppficlcedgjhaa.PureDutyTells
