/- The printed law DutyShares is true for all numbers: each region is kept by two, where two are there; all regions are shared out. Condition: each number within its kind. -/
import Derived.Test.YtppficlcedgjhaaPDutySharesy
import Derived.Test.YtppficlcedgjhaaGdsDutyShares
import Derived.OpenShut
namespace Go.Proofs.Ytppficlcedgjhaa.PureDutyShares
set_option linter.unusedVariables false
open Go Go.RowKit Go.Proofs.Ytppficlcedgjhaa.PDutyShares Go.Proofs.Ytppficlcedgjhaa.GdsDutyShares Go.Proofs.YtppficlcedgjhaaW.PrintWords Go.Proofs.YtppficlcedgjhaaW.PrintLast
theorem wr {i : Int} (h0 : -9223372036854775808 ≤ i) (h1 : i < 9223372036854775808) : wrap64 i = i := by unfold wrap64; omega
theorem uw (i : Int) : IntKind.u64.wrap i = i % 18446744073709551616 := by simp [IntKind.wrap, IntKind.signed, IntKind.bits]
/-- a number brought below another one, as Go's int(uint(x) % uint(m)) does it -/
theorem umod (x m : Int) (h0 : 1 ≤ m) (h1 : m ≤ 4611686018427387904) : 0 ≤ wrap64 (Int.tmod (IntKind.u64.wrap x) (IntKind.u64.wrap m)) ∧ wrap64 (Int.tmod (IntKind.u64.wrap x) (IntKind.u64.wrap m)) < m := by
  rw [uw, uw]
  have e : m % 18446744073709551616 = m := by omega
  rw [e]
  have hx : 0 ≤ x % 18446744073709551616 := by omega
  have a := Int.tmod_nonneg m hx
  have b := Int.tmod_lt_of_pos (x % 18446744073709551616) (show 0 < m by omega)
  rw [wr (by omega) (by omega)]
  exact ⟨a, b⟩
theorem umod1 (x m : Int) (h0 : 1 ≤ m) (h1 : m ≤ 4611686018427387904) : 0 ≤ wrap64 (Int.tmod (IntKind.u64.wrap x) m) ∧ wrap64 (Int.tmod (IntKind.u64.wrap x) m) < m := by
  have h := umod x m h0 h1
  rw [uw m, show m % 18446744073709551616 = m by omega] at h
  exact h

/-- may an arena be -/
def R (c r p w : Int) : Prop := (1 ≤ c ∧ c ≤ 4) ∧ (1 ≤ r ∧ r ≤ 4) ∧ (1 ≤ p ∧ p ≤ 6) ∧ (1 ≤ w ∧ w ≤ 16)
instance (c r p w : Int) : Decidable (R c r p w) := by unfold R; infer_instance
theorem gwithin_eq (a lo hi : Int) : grid_within.f a lo hi = some (decide (lo ≤ a ∧ a ≤ hi)) := by
  unfold grid_within.f
  by_cases h : lo ≤ a <;> simp [h]
theorem right_eq (c r p w s : Int) : grid_right.f c r p w s = some (decide (R c r p w)) := by
  unfold grid_right.f R
  simp only [gwithin_eq, Option.bind_some]
  by_cases h1 : 1 ≤ c ∧ c ≤ 4 <;> by_cases h2 : 1 ≤ r ∧ r ≤ 4 <;> by_cases h3 : 1 ≤ p ∧ p ≤ 6 <;> by_cases h4 : 1 ≤ w ∧ w ≤ 16 <;> simp [h1, h2, h3, h4]
theorem size_eq {c r p w : Int} (s : Int) (h : R c r p w) : grid_Grid_size.f c r p w s = some (c, r) := by
  unfold grid_Grid_size.f
  rw [right_eq, Option.bind_some, decide_eq_true h, if_pos rfl]
theorem size_no {c r p w : Int} (s : Int) (h : ¬ R c r p w) : grid_Grid_size.f c r p w s = some (0, 0) := by
  unfold grid_Grid_size.f
  rw [right_eq, Option.bind_some, decide_eq_false h, if_neg (by decide)]
theorem cr_bound {c r p w : Int} (h : R c r p w) : 1 ≤ c * r ∧ c * r ≤ 16 := by
  obtain ⟨⟨h1, h2⟩, ⟨h3, h4⟩, _⟩ := h
  have hc : c = 1 ∨ c = 2 ∨ c = 3 ∨ c = 4 := by omega
  rcases hc with rfl | rfl | rfl | rfl <;> omega
theorem regions_eq {c r p w : Int} (s : Int) (h : R c r p w) : grid_Grid_Regions.f c r p w s = some (c * r) := by
  unfold grid_Grid_Regions.f
  have := cr_bound h
  rw [size_eq s h, Option.bind_some, wr (by simp; omega) (by simp; omega)]
theorem regions_no {c r p w : Int} (s : Int) (h : ¬ R c r p w) : grid_Grid_Regions.f c r p w s = some 0 := by
  unfold grid_Grid_Regions.f
  rw [size_no s h, Option.bind_some]; decide +kernel

theorem new_eq {c r p w : Int} (s : Int) (h : R c r p w) : grid_New.f c r p w s = some (c, r, p, w, s, 0) := by
  unfold grid_New.f
  rw [right_eq, Option.bind_some, decide_eq_true h, if_pos rfl]
theorem new_no {c r p w : Int} (s : Int) (h : ¬ R c r p w) : grid_New.f c r p w s = some (0, 0, 0, 0, 0, 10) := by
  unfold grid_New.f
  rw [right_eq, Option.bind_some, decide_eq_false h, if_neg (by decide)]

theorem rright_eq (c r p w s : Int) : joustref03_Right.f c r p w s = some (decide (R c r p w)) := by
  unfold joustref03_Right.f R
  by_cases h1 : 1 ≤ c <;> by_cases h2 : c ≤ 4 <;> simp [h1, h2] <;> by_cases h3 : 1 ≤ r <;> by_cases h4 : r ≤ 4 <;> simp [h3, h4] <;> by_cases h5 : 1 ≤ p <;> by_cases h6 : p ≤ 6 <;> simp [h5, h6] <;> by_cases h7 : 1 ≤ w <;> simp [h7]

/-- an arena that is not too great -/
def Q (c r p w : Int) : Prop := (1 ≤ c ∧ c ≤ 3) ∧ (1 ≤ r ∧ r ≤ 3) ∧ (1 ≤ p ∧ p ≤ 4) ∧ (1 ≤ w ∧ w ≤ 16)
theorem Q.R {c r p w : Int} (h : Q c r p w) : R c r p w := by unfold Q at h; unfold PureDutyShares.R; omega
theorem config_eq (c r p w s : Int) : ∃ c' r' p' w', joustplay_Config.f c r p w s = some (c', r', p', w', s) ∧ Q c' r' p' w' := by
  unfold joustplay_Config.f
  rw [rright_eq, Option.bind_some]
  have h1 := umod1 c 3 (by decide) (by decide)
  have h2 := umod1 r 3 (by decide) (by decide)
  have h3 := umod1 p 4 (by decide) (by decide)
  have h4 := umod1 w 8 (by decide) (by decide)
  have hq : Q (wrap64 (1 + (wrap64 (Int.tmod (IntKind.u64.wrap c) 3)))) (wrap64 (1 + (wrap64 (Int.tmod (IntKind.u64.wrap r) 3)))) (wrap64 (1 + (wrap64 (Int.tmod (IntKind.u64.wrap p) 4)))) (wrap64 (1 + (wrap64 (Int.tmod (IntKind.u64.wrap w) 8)))) := by
    generalize wrap64 (Int.tmod (IntKind.u64.wrap c) 3) = x1 at h1 ⊢
    generalize wrap64 (Int.tmod (IntKind.u64.wrap r) 3) = x2 at h2 ⊢
    generalize wrap64 (Int.tmod (IntKind.u64.wrap p) 4) = x3 at h3 ⊢
    generalize wrap64 (Int.tmod (IntKind.u64.wrap w) 8) = x4 at h4 ⊢
    rw [wr (show _ ≤ 1 + x1 by omega) (by omega), wr (show _ ≤ 1 + x2 by omega) (by omega), wr (show _ ≤ 1 + x3 by omega) (by omega), wr (show _ ≤ 1 + x4 by omega) (by omega)]
    unfold Q; omega
  by_cases h : R c r p w
  · rw [decide_eq_true h, if_pos rfl]
    by_cases e1 : c ≤ 3
    · rw [if_pos e1]
      by_cases e2 : r ≤ 3
      · rw [if_pos e2]
        by_cases e3 : p ≤ 4
        · rw [if_pos e3]
          exact ⟨c, r, p, w, rfl, by unfold PureDutyShares.R at h; unfold Q; omega⟩
        · rw [if_neg e3]; exact ⟨_, _, _, _, rfl, hq⟩
      · rw [if_neg e2]; exact ⟨_, _, _, _, rfl, hq⟩
    · rw [if_neg e1]; exact ⟨_, _, _, _, rfl, hq⟩
  · rw [decide_eq_false h, if_neg (by decide)]; exact ⟨_, _, _, _, rfl, hq⟩

theorem idx_loop (xs : List Int) (x : Int) (hb : xs.length < 4611686018427387904) : ∀ (d k i : Nat), i + d = xs.length → d < k → ∃ r, slices_Index_int_int.l0 k xs x (xs.length : Int) (i : Int) = some r ∧ decide (r ≥ 0) = (xs.drop i).contains x := by
  intro d
  induction d with
  | zero =>
    intro k i hi hk
    obtain ⟨k, rfl⟩ : ∃ m, k = m + 1 := ⟨k - 1, by omega⟩
    simp only [slices_Index_int_int.l0]
    exact ⟨-1, by rw [if_neg (by omega)], by rw [List.drop_of_length_le (by omega)]; rfl⟩
  | succ d ih =>
    intro k i hi hk
    obtain ⟨k, rfl⟩ : ∃ m, k = m + 1 := ⟨k - 1, by omega⟩
    simp only [slices_Index_int_int.l0]
    have h1 : i < xs.length := by omega
    rw [if_pos (by omega), if_pos (by omega), if_pos (by omega), wr (by omega) (by omega)]
    have e1 : rd xs (i : Int) = xs[i] := by simp [rd, List.getD_eq_getElem?_getD, h1]
    obtain ⟨r, hr, hc⟩ := ih k (i + 1) (by omega) (by omega)
    have e3 : ((i : Int) + 1) = ((i + 1 : Nat) : Int) := rfl
    rw [e1, e3, hr, List.drop_eq_getElem_cons h1, List.contains_cons]
    by_cases e : x = xs[i]
    · exact ⟨i, by rw [if_pos e], by rw [decide_eq_true (by omega)]; simp [e]⟩
    · refine ⟨r, by rw [if_neg e], ?_⟩
      have : (x == xs[i]) = false := by simpa using e
      rw [this, Bool.false_or, hc]
theorem contains_eq (xs : List Int) (x : Int) (hb : xs.length < 4611686018427387904) {k : Nat} (hk : xs.length < k) : slices_Contains_int_int.f k xs x = some (xs.contains x) := by
  unfold slices_Contains_int_int.f slices_Index_int_int.f
  obtain ⟨r, hr, hc⟩ := idx_loop xs x hb xs.length k 0 (by omega) hk
  rw [show (0 : Int) = ((0 : Nat) : Int) from rfl, hr, Option.bind_some]
  exact congrArg some hc
/-- the peers, from the i-th of d more on, who may keep region x -/
def orderF (p x : Int) (gone : List Int) : Nat → Int → List Int
  | 0, _ => []
  | d + 1, i => if gone.contains ((x + i) % p) = true then orderF p x gone d (i + 1) else (x + i) % p :: orderF p x gone d (i + 1)
theorem orderF_len (p x : Int) (gone : List Int) : ∀ (d : Nat) (i : Int), (orderF p x gone d i).length ≤ d := by
  intro d
  induction d with
  | zero => exact fun _ => Nat.le_refl _
  | succ d ih =>
    intro i
    have := ih (i + 1)
    unfold orderF
    split
    · omega
    · simp only [List.length_cons]; omega
theorem orderF_congr {p x : Int} {g1 g2 : List Int} (hp : 1 ≤ p) (h : ∀ q, 0 ≤ q → q < p → g1.contains q = g2.contains q) : ∀ (d : Nat) (i : Int), orderF p x g1 d i = orderF p x g2 d i := by
  intro d
  induction d with
  | zero => exact fun _ => rfl
  | succ d ih =>
    intro i
    unfold orderF
    rw [h ((x + i) % p) (Int.emod_nonneg _ (by omega)) (Int.emod_lt_of_pos _ (by omega)), ih (i + 1)]
theorem order_loop {c r p w : Int} (s x : Int) (gone : List Int) (h : R c r p w) (hx : 0 ≤ x ∧ x < 16) (hg : gone.length < 4611686018427387904) : ∀ (d k : Nat) (i : Int) (acc : List Int), 0 ≤ i → i + d = p → gone.length + d + 1 < k → acc.length + d ≤ 100 →
    duty_order.l0 k x gone acc p i c r p w s = some (acc ++ orderF p x gone d i) := by
  have h3 := h.2.2.1
  intro d
  induction d with
  | zero =>
    intro k i acc h0 hi hk ha
    obtain ⟨k, rfl⟩ : ∃ m, k = m + 1 := ⟨k - 1, by omega⟩
    simp only [duty_order.l0]
    rw [if_neg (by omega)]
    simp [orderF]
  | succ d ih =>
    intro k i acc h0 hi hk ha
    obtain ⟨k, rfl⟩ : ∃ m, k = m + 1 := ⟨k - 1, by omega⟩
    simp only [duty_order.l0]
    rw [if_pos (by omega), if_neg (by omega), wr (show _ ≤ x + i by omega) (by omega), Int.tmod_eq_emod_of_nonneg (by omega), contains_eq gone _ hg (by omega), Option.bind_some, wr (by omega) (by omega)]
    unfold orderF
    by_cases e : gone.contains ((x + i) % p) = true
    · rw [if_pos e, if_pos e]
      exact ih k (i + 1) acc (by omega) (by omega) (by omega) (by omega)
    · rw [if_neg e, if_neg e, if_pos (by omega), ih k (i + 1) _ (by omega) (by omega) (by omega) (by simp; omega)]
      simp
theorem order_eq {c r p w x : Int} (s : Int) (gone : List Int) (h : R c r p w) (hx : 0 ≤ x ∧ x < c * r) (hg : gone.length < 4611686018427387904) {k : Nat} (hk : gone.length + 10 ≤ k) : duty_order.f k c r p w s x gone = some (orderF p x gone p.toNat 0) := by
  have h3 := h.2.2.1
  have hb := cr_bound h
  obtain ⟨k, rfl⟩ : ∃ m, k = m + 1 := ⟨k - 1, by omega⟩
  unfold duty_order.f
  rw [if_neg (by omega), regions_eq s h, Option.bind_some]
  simp only [duty_order.j0]
  rw [if_neg (by simp; omega), order_loop s x gone h (by omega) hg p.toNat k 0 [] (by omega) (by omega) (by omega) (by simp; omega)]
  rfl
theorem order_out {c r p w x : Int} (s : Int) (gone : List Int) (h : R c r p w) (hx : ¬ (0 ≤ x ∧ x < c * r)) {k : Nat} (hk : 1 ≤ k) : duty_order.f k c r p w s x gone = some [] := by
  obtain ⟨k, rfl⟩ : ∃ m, k = m + 1 := ⟨k - 1, by omega⟩
  unfold duty_order.f
  simp only [duty_order.j0]
  by_cases e : x < 0
  · rw [if_pos e, if_pos trivial]
  · rw [if_neg e, regions_eq s h, Option.bind_some, if_pos (by simp; omega)]
theorem order_no {c r p w : Int} (s x : Int) (gone : List Int) (h : ¬ R c r p w) {k : Nat} (hk : 1 ≤ k) : duty_order.f k c r p w s x gone = some [] := by
  obtain ⟨k, rfl⟩ : ∃ m, k = m + 1 := ⟨k - 1, by omega⟩
  unfold duty_order.f
  simp only [duty_order.j0]
  by_cases e : x < 0
  · rw [if_pos e, if_pos trivial]
  · rw [if_neg e, regions_no s h, Option.bind_some, if_pos (by simp; omega)]
theorem nth_eq (l : List Int) (n : Nat) : duty_nth.f l (n : Int) = some (l.getD n (-1)) := by
  unfold duty_nth.f
  by_cases e : (n : Int) ≥ (l.length : Int)
  · rw [if_pos e]
    simp [List.getD_eq_getElem?_getD, List.getElem?_eq_none (show l.length ≤ n by omega)]
  · rw [if_neg e, if_pos (by omega), if_pos (by omega)]
    have h1 : n < l.length := by omega
    simp [rd, List.getD_eq_getElem?_getD, h1]
/-- who keeps region x; who keeps it, too -/
def hostF (p x : Int) (gone : List Int) : Int := (orderF p x gone p.toNat 0).getD 0 (-1)
def depF (p x : Int) (gone : List Int) : Int := (orderF p x gone p.toNat 0).getD 1 (-1)
theorem host_eq {c r p w x : Int} (s : Int) (gone : List Int) (h : R c r p w) (hx : 0 ≤ x ∧ x < c * r) (hg : gone.length < 4611686018427387904) {k : Nat} (hk : gone.length + 10 ≤ k) : duty_Host.f k c r p w s x gone = some (hostF p x gone) := by
  unfold duty_Host.f
  rw [order_eq s gone h hx hg hk, Option.bind_some, show (0 : Int) = ((0 : Nat) : Int) from rfl, nth_eq, Option.bind_some]; rfl
theorem deputy_eq {c r p w x : Int} (s : Int) (gone : List Int) (h : R c r p w) (hx : 0 ≤ x ∧ x < c * r) (hg : gone.length < 4611686018427387904) {k : Nat} (hk : gone.length + 10 ≤ k) : duty_Deputy.f k c r p w s x gone = some (depF p x gone) := by
  unfold duty_Deputy.f
  rw [order_eq s gone h hx hg hk, Option.bind_some, show (1 : Int) = ((1 : Nat) : Int) from rfl, nth_eq, Option.bind_some]; rfl

/-- does a peer keep region x? -/
def keepsF (p : Int) (gone : List Int) (peer x : Int) : Bool := decide (peer ≥ 0) && (hostF p x gone == peer || depF p x gone == peer)
/-- the regions that a peer keeps, of d regions from the i-th on -/
def dutyF (p : Int) (gone : List Int) (peer : Int) : Nat → Int → List Int
  | 0, _ => []
  | d + 1, i => if keepsF p gone peer i = true then i :: dutyF p gone peer d (i + 1) else dutyF p gone peer d (i + 1)
theorem dutyF_succ (p : Int) (gone : List Int) (peer : Int) (d : Nat) (i : Int) : dutyF p gone peer (d + 1) i = if keepsF p gone peer i = true then i :: dutyF p gone peer d (i + 1) else dutyF p gone peer d (i + 1) := rfl
theorem dutyF_len (p : Int) (gone : List Int) (peer : Int) : ∀ (d : Nat) (i : Int), (dutyF p gone peer d i).length ≤ d := by
  intro d
  induction d with
  | zero => exact fun _ => Nat.le_refl _
  | succ d ih =>
    intro i
    have := ih (i + 1)
    unfold dutyF
    split
    · simp only [List.length_cons]; omega
    · omega
theorem duty_loop {c r p w : Int} (s peer : Int) (gone : List Int) (h : R c r p w) (hg : gone.length < 4611686018427387904) : ∀ (d k : Nat) (i : Int) (acc : List Int), 0 ≤ i → i + d = c * r → gone.length + d + 11 < k → acc.length + d ≤ 100 →
    duty_Of.l0 k peer gone acc (c * r) i c r p w s = some (acc ++ dutyF p gone peer d i) := by
  have hb := cr_bound h
  intro d
  induction d with
  | zero =>
    intro k i acc h0 hi hk ha
    obtain ⟨k, rfl⟩ : ∃ m, k = m + 1 := ⟨k - 1, by omega⟩
    simp only [duty_Of.l0]
    rw [if_neg (by omega)]
    simp [dutyF]
  | succ d ih =>
    intro k i acc h0 hi hk ha
    obtain ⟨k, rfl⟩ : ∃ m, k = m + 1 := ⟨k - 1, by omega⟩
    simp only [duty_Of.l0]
    have i1 := ih k (i + 1) acc (by omega) (by omega) (by omega) (by omega)
    have i2 := ih k (i + 1) (acc ++ [i]) (by omega) (by omega) (by omega) (by simp; omega)
    rw [if_pos (by omega), wr (by omega) (by omega), host_eq s gone h (by omega) hg (by omega), deputy_eq s gone h (by omega) hg (by omega), Option.bind_some, Option.bind_some, i1, i2, dutyF_succ]
    unfold keepsF
    by_cases e1 : peer ≥ 0
    · rw [if_pos e1, decide_eq_true e1, Bool.true_and, if_pos (show acc.length < 17592186044416 by omega)]
      by_cases e2 : hostF p i gone = peer
      · simp [e2]
      · by_cases e3 : depF p i gone = peer
        · simp [e2, e3]
        · simp [e2, e3]
    · rw [if_neg e1, decide_eq_false e1]; simp
theorem of_duty {c r p w : Int} (s peer : Int) (gone : List Int) (h : R c r p w) (hg : gone.length < 4611686018427387904) {k : Nat} (hk : gone.length + 30 ≤ k) : duty_Of.f k c r p w s peer gone = some (dutyF p gone peer (c * r).toNat 0) := by
  have hb := cr_bound h
  unfold duty_Of.f
  rw [regions_eq s h, Option.bind_some, duty_loop s peer gone h hg (c * r).toNat k 0 [] (by omega) (by omega) (by omega) (by simp; omega)]
  rfl

theorem awake_eq {k : Nat} (hk : 20 ≤ k) : joustlaw22_awake.f k = some true := by
  unfold joustlaw22_awake.f
  have h : R 3 2 3 1 := by decide
  rw [new_eq 0 h, Option.bind_some]
  simp only
  rw [host_eq 0 [] h (by decide) (by decide) (by simp; omega), Option.bind_some, if_pos (by decide +kernel), deputy_eq 0 [] h (by decide) (by decide) (by simp; omega), Option.bind_some, if_pos (by decide +kernel), host_eq 0 [1] h (by decide) (by decide) (by simp; omega), Option.bind_some]
  decide +kernel

/-- each region of a peer's is one, is kept by it, and they rise -/
def okL (n p q : Int) (l : List Int) : Bool := (List.range l.length).all fun j => decide (0 ≤ l.getD j 0 ∧ l.getD j 0 < n) && ((hostF p (l.getD j 0) [] == q || depF p (l.getD j 0) [] == q) && (j == 0 || decide (l.getD (j - 1) 0 < l.getD j 0)))
theorem ok_fin : ∀ n : Fin 10, ∀ p : Fin 5, ∀ q : Fin 4, p.val = 0 ∨ p.val ≤ q.val ∨ okL n.val p.val q.val (dutyF p.val [] q.val n.val 0) = true := by decide +kernel
def tot (n : Nat) (p : Int) : Nat → Nat
  | 0 => 0
  | q + 1 => tot n p q + (dutyF p [] q n 0).length
theorem tot_fin : ∀ n : Fin 10, ∀ p : Fin 5, p.val = 0 ∨ n.val = 0 ∨ (tot n.val p.val p.val = (if p.val < 2 then p.val else 2) * n.val ∧ (dutyF p.val [] (-1) n.val 0).length = 0 ∧ (dutyF p.val [] p.val n.val 0).length = 0) := by decide +kernel
theorem tot_le (n : Nat) (p : Int) (q : Nat) : tot n p q ≤ q * n := by
  induction q with
  | zero => exact Nat.zero_le _
  | succ q ih =>
    have := dutyF_len p [] q n 0
    unfold tot
    rw [Nat.succ_mul]; omega
theorem rd_at (l : List Int) (i : Nat) : rd l (i : Int) = l.getD i 0 := by simp [rd]
theorem l1_eq {c r p w : Int} (s : Int) (h : R c r p w) (x5 q : Int) (l : List Int) (hl : l.length ≤ 100) (ok : okL (c * r) p q l = true) (y0 y1 y3 y4 : Int) : ∀ (d k i : Nat), i + d = l.length → 12 ≤ k →
    joustlaw22_DutyShares.l1 (k + d + 1) x5 q l (i : Int) y0 y1 p y3 y4 c r p w s = joustlaw22_DutyShares.l0 k x5 (wrap64 (q + 1)) y0 y1 p y3 y4 c r p w s := by
  intro d
  induction d with
  | zero =>
    intro k i hi hk
    simp only [joustlaw22_DutyShares.l1]
    rw [if_neg (by omega)]
  | succ d ih =>
    intro k i hi hk
    have o := List.all_eq_true.1 ok i (List.mem_range.2 (by omega))
    simp only [Bool.and_eq_true, Bool.or_eq_true, beq_iff_eq, decide_eq_true_eq] at o
    obtain ⟨o1, o2, o3⟩ := o
    have i' := ih k (i + 1) (by omega) hk
    have e3 : wrap64 ((i : Int) + 1) = ((i + 1 : Nat) : Int) := by rw [wr (by omega) (by omega)]; rfl
    obtain ⟨m, hm⟩ : ∃ m, m = k + d + 1 := ⟨_, rfl⟩
    rw [← hm] at i'
    rw [show k + (d + 1) + 1 = m + 1 by omega]
    simp only [joustlaw22_DutyShares.l1]
    rw [if_pos (by omega), if_pos (by omega), e3, i', rd_at, host_eq s [] h o1 (by decide) (by simp; omega), deputy_eq s [] h o1 (by decide) (by simp; omega), Option.bind_some, Option.bind_some]
    have tail : (if (i : Int) > 0 then (if 0 ≤ (wrap64 ((i : Int) - 1)) then (if (wrap64 ((i : Int) - 1)) < (l.length : Int) then (if l.getD i 0 ≤ (rd l (wrap64 ((i : Int) - 1))) then (some false) else joustlaw22_DutyShares.l0 k x5 (wrap64 (q + 1)) y0 y1 p y3 y4 c r p w s) else none) else none) else joustlaw22_DutyShares.l0 k x5 (wrap64 (q + 1)) y0 y1 p y3 y4 c r p w s) = joustlaw22_DutyShares.l0 k x5 (wrap64 (q + 1)) y0 y1 p y3 y4 c r p w s := by
      by_cases e : (i : Int) > 0
      · rw [if_pos e, wr (by omega) (by omega), if_pos (by omega), if_pos (by omega)]
        have e4 : (i : Int) - 1 = ((i - 1 : Nat) : Int) := by omega
        rw [e4, rd_at, if_neg (by
          rcases o3 with o3 | o3
          · omega
          · omega)]
      · rw [if_neg e]
    by_cases eh : hostF p (l.getD i 0) [] = q
    · rw [if_pos eh]; exact tail
    · rw [if_neg eh, if_pos (by rcases o2 with o2 | o2
                                · exact absurd o2 eh
                                · exact o2)]
      exact tail
theorem l0_eq {c r p w : Int} (s : Int) (h : R c r p w) (hn : c * r ≤ 9) (hp : p ≤ 4) (y0 y1 y3 y4 : Int) : ∀ (e k q : Nat), (q : Int) + e = p → 60 + 20 * e ≤ k →
    joustlaw22_DutyShares.l0 k (tot (c * r).toNat p q : Int) (q : Int) y0 y1 p y3 y4 c r p w s = some true := by
  have hb := cr_bound h
  have h3 := h.2.2.1
  intro e
  induction e with
  | zero =>
    intro k q hq hk
    obtain ⟨k, rfl⟩ : ∃ m, k = m + 1 := ⟨k - 1, by omega⟩
    have hqp : (q : Int) = p := by omega
    have t := tot_fin ⟨(c * r).toNat, by omega⟩ ⟨p.toNat, by omega⟩
    simp only at t
    have e2 : ((p.toNat : Nat) : Int) = p := by omega
    have e4 : p.toNat = q := by omega
    rw [e2, e4] at t
    rcases t with t | t | ⟨t1, t2, t3⟩
    · omega
    · omega
    simp only [joustlaw22_DutyShares.l0]
    rw [if_neg (by omega), regions_eq s h, Option.bind_some]
    have e5 : (tot (c * r).toNat p q : Int) = wrap64 (mn 2 p * (c * r)) := by
      rw [t1, Int.natCast_mul, Int.toNat_of_nonneg (by omega)]
      have e6 : mn 2 p = ((if q < 2 then q else 2 : Nat) : Int) := by unfold mn; split <;> split <;> omega
      rw [e6]
      have e7 : (if q < 2 then q else 2 : Nat) = 0 ∨ (if q < 2 then q else 2 : Nat) = 1 ∨ (if q < 2 then q else 2 : Nat) = 2 := by split <;> omega
      rcases e7 with e7 | e7 | e7 <;> rw [e7] <;> rw [wr (by omega) (by omega)]
    rw [if_pos e5, of_duty s _ [] h (by decide) (by simp; omega), Option.bind_some, t2, if_pos (by decide), of_duty s _ [] h (by decide) (by simp; omega), Option.bind_some, t3]
    rfl
  | succ e ih =>
    intro k q hq hk
    obtain ⟨k, rfl⟩ : ∃ m, k = m + 1 := ⟨k - 1, by omega⟩
    have hl := dutyF_len p [] q (c * r).toNat 0
    simp only [joustlaw22_DutyShares.l0]
    rw [if_pos (by omega), of_duty s _ [] h (by decide) (by simp; omega), Option.bind_some]
    have o := ok_fin ⟨(c * r).toNat, by omega⟩ ⟨p.toNat, by omega⟩ ⟨q, by omega⟩
    simp only at o
    have e2 : ((p.toNat : Nat) : Int) = p := by omega
    have e3 : (((c * r).toNat : Nat) : Int) = c * r := by omega
    rw [e2, e3] at o
    have ok : okL (c * r) p q (dutyF p [] q (c * r).toNat 0) = true := by
      rcases o with o | o | o
      · omega
      · omega
      · exact o
    have tl := tot_le (c * r).toNat p q
    have tl2 : q * (c * r).toNat ≤ 4 * 9 := Nat.mul_le_mul (by omega) (by omega)
    have e8 : wrap64 ((tot (c * r).toNat p q : Int) + ((dutyF p [] q (c * r).toNat 0).length : Int)) = (tot (c * r).toNat p (q + 1) : Int) := by
      rw [wr (by omega) (by omega)]
      show _ = ((tot (c * r).toNat p q + (dutyF p [] q (c * r).toNat 0).length : Nat) : Int)
      omega
    rw [e8]
    obtain ⟨m, hm, hkm⟩ : ∃ m, 60 + 20 * e ≤ m ∧ k = m + (dutyF p [] q (c * r).toNat 0).length + 1 := ⟨k - (dutyF p [] q (c * r).toNat 0).length - 1, by omega, by omega⟩
    subst hkm
    have l1' := l1_eq s h (tot (c * r).toNat p (q + 1) : Int) q _ (by omega) ok y0 y1 y3 y4 (dutyF p [] q (c * r).toNat 0).length m 0 (by omega) (by omega)
    rw [show (((0 : Nat)) : Int) = 0 from rfl] at l1'
    rw [l1']
    have e9 : wrap64 ((q : Int) + 1) = ((q + 1 : Nat) : Int) := by rw [wr (by omega) (by omega)]; rfl
    rw [e9]
    exact ih m (q + 1) (by omega) hm
theorem DutyShares (a0 : (Int × (Int × (Int × (Int × Int))))) (_ : G0 a0) : ∃ k, joustlaw22_DutyShares.f k a0.1 a0.2.1 a0.2.2.1 a0.2.2.2.1 a0.2.2.2.2 = some true := by
  obtain ⟨c0, r0, p0, w0, s⟩ := a0
  obtain ⟨c, r, p, w, hc, hq⟩ := config_eq c0 r0 p0 w0 s
  have h := hq.R
  have hb := cr_bound h
  refine ⟨301, ?_⟩
  unfold joustlaw22_DutyShares.f
  simp only
  rw [hc, Option.bind_some, new_eq s h, Option.bind_some, awake_eq (by decide), Option.bind_some, if_pos rfl]
  simp only [joustlaw22_DutyShares.j0]
  unfold Q at hq
  obtain ⟨hq1, hq2, hq3, _⟩ := hq
  rw [if_neg (by decide)]
  have h9 : c * r ≤ 9 := by
    have : c = 1 ∨ c = 2 ∨ c = 3 := by omega
    rcases this with rfl | rfl | rfl <;> omega
  exact l0_eq s h h9 (by omega) c r w s p.toNat 300 0 (by omega) (by omega)
end Go.Proofs.Ytppficlcedgjhaa.PureDutyShares
