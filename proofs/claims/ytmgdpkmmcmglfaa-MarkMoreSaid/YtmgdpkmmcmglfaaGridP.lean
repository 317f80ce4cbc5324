/- What is near, told plainly. No condition. -/
import Derived.Test.YtmgdpkmmcmglfaaMarkF
namespace Go.Proofs.Ytmgdpkmmcmglfaa.GridP
open Go Go.RowKit Go.Proofs.Ytmgdpkmmcmglfaa.GridW Go.Proofs.YtmgdpkmmcmglfaaW.PrintWords Go.Proofs.YtmgdpkmmcmglfaaW.PrintLast
set_option linter.unusedVariables false
set_option linter.unusedSimpArgs false
theorem wr {i : Int} (h0 : -9223372036854775808 ≤ i) (h1 : i < 9223372036854775808) : wrap64 i = i := by unfold wrap64; omega
theorem uw (i : Int) : IntKind.u64.wrap i = i % 18446744073709551616 := by simp [IntKind.wrap, IntKind.signed, IntKind.bits]
/-- may an arena be -/
def R (c r p w : Int) : Prop := (1 ≤ c ∧ c ≤ 4) ∧ (1 ≤ r ∧ r ≤ 4) ∧ (1 ≤ p ∧ p ≤ 6) ∧ (1 ≤ w ∧ w ≤ 16)
instance (c r p w : Int) : Decidable (R c r p w) := by unfold R; infer_instance
theorem gwithin_eq (a lo hi : Int) : grid_within.f a lo hi = some (decide (lo ≤ a ∧ a ≤ hi)) := by
  unfold grid_within.f
  by_cases h : lo ≤ a <;> simp [h]
theorem right_eq (c r p w s : Int) : grid_right.f c r p w s = some (decide (R c r p w)) := by
  unfold grid_right.f R
  simp only [gwithin_eq, Option.bind_some]
  by_cases h1 : 1 ≤ c ∧ c ≤ 4 <;> by_cases h2 : 1 ≤ r ∧ r ≤ 4 <;> by_cases h3 : 1 ≤ p ∧ p ≤ 6 <;> by_cases h4 : 1 ≤ w ∧ w ≤ 16 <;> simp [h1, h2, h3, h4]
theorem size_eq {c r p w : Int} (s : Int) (h : R c r p w) : grid_Grid_size.f c r p w s = some (c, r) := by
  unfold grid_Grid_size.f
  rw [right_eq, Option.bind_some, decide_eq_true h, if_pos rfl]
theorem size_no {c r p w : Int} (s : Int) (h : ¬ R c r p w) : grid_Grid_size.f c r p w s = some (0, 0) := by
  unfold grid_Grid_size.f
  rw [right_eq, Option.bind_some, decide_eq_false h, if_neg (by decide)]
theorem cr_bound {c r p w : Int} (h : R c r p w) : 1 ≤ c * r ∧ c * r ≤ 16 := by
  obtain ⟨⟨h1, h2⟩, ⟨h3, h4⟩, _⟩ := h
  have hc : c = 1 ∨ c = 2 ∨ c = 3 ∨ c = 4 := by omega
  rcases hc with rfl | rfl | rfl | rfl <;> omega
theorem regions_eq {c r p w : Int} (s : Int) (h : R c r p w) : grid_Grid_Regions.f c r p w s = some (c * r) := by
  unfold grid_Grid_Regions.f
  have := cr_bound h
  rw [size_eq s h, Option.bind_some, wr (by simp; omega) (by simp; omega)]
theorem regions_no {c r p w : Int} (s : Int) (h : ¬ R c r p w) : grid_Grid_Regions.f c r p w s = some 0 := by
  unfold grid_Grid_Regions.f
  rw [size_no s h, Option.bind_some]; decide +kernel
theorem is_eq {c r p w : Int} (s x : Int) (h : R c r p w) : grid_Grid_is.f c r p w s x = some (decide (0 ≤ x ∧ x < c * r)) := by
  unfold grid_Grid_is.f
  have := cr_bound h
  rw [regions_eq s h, Option.bind_some, wr (by omega) (by omega), gwithin_eq, Option.bind_some]
  congr 1
  rw [decide_eq_decide]
  omega
theorem is_no {c r p w : Int} (s x : Int) (h : ¬ R c r p w) : grid_Grid_is.f c r p w s x = some false := by
  unfold grid_Grid_is.f
  rw [regions_no s h, Option.bind_some, wr (by omega) (by omega), gwithin_eq, Option.bind_some]
  congr 1
  rw [decide_eq_false_iff_not]
  omega
/-- the regions near one, of c columns and r rows -/
def nearL (c r x : Nat) : List Int := ((List.range (c * r)).filter fun n => decide (n % c ≤ x % c + 1 ∧ x % c ≤ n % c + 1 ∧ n / c ≤ x / c + 1 ∧ x / c ≤ n / c + 1)).map fun n => ((n : Nat) : Int)
theorem near_l : ∀ k, (∀ x1 l x6 c r p w s, grid_Grid_Near.l0 k x1 l x6 c r p w s = grid_Grid_Near.l0 k x1 l x6 c r 1 1 0) ∧ (∀ x1 l x6 x7 c r p w s, grid_Grid_Near.l1 k x1 l x6 x7 c r p w s = grid_Grid_Near.l1 k x1 l x6 x7 c r 1 1 0) := by
  intro k
  induction k with
  | zero => exact ⟨fun _ _ _ _ _ _ _ _ => rfl, fun _ _ _ _ _ _ _ _ _ => rfl⟩
  | succ k ih =>
    refine ⟨fun x1 l x6 c r p w s => ?_, fun x1 l x6 x7 c r p w s => ?_⟩
    · simp only [grid_Grid_Near.l0]
      rw [ih.2 x1 l x6 _ c r p w s]
    · simp only [grid_Grid_Near.l1]
      rw [ih.2 x1 _ x6 _ c r p w s, ih.1 x1 l _ c r p w s]
theorem near_fin : ∀ c r : Fin 5, ∀ x : Fin 16, decide (c.val = 0 ∨ r.val = 0 ∨ c.val * r.val ≤ x.val ∨ grid_Grid_Near.l0 60 (x.val : Int) [] (mx (wrap64 ((wrap64 (Int.tdiv (x.val : Int) (c.val : Int))) - 1)) 0) (c.val : Int) (r.val : Int) 1 1 0 = some (nearL c.val r.val x.val)) = true := by decide +kernel
theorem near_at {c r p w x : Int} (s : Int) {k : Nat} (hk : 60 ≤ k) (h : R c r p w) (hx : 0 ≤ x ∧ x < c * r) : grid_Grid_Near.f k c r p w s x = some (nearL c.toNat r.toNat x.toNat) := by
  unfold grid_Grid_Near.f
  rw [is_eq s x h, Option.bind_some, decide_eq_true hx, if_pos rfl, if_neg (by have := h.1; omega), (near_l k).1]
  have hb := cr_bound h
  obtain ⟨⟨h1, h2⟩, ⟨h3, h4⟩, _⟩ := h
  have e := of_decide_eq_true (near_fin ⟨c.toNat, by omega⟩ ⟨r.toNat, by omega⟩ ⟨x.toNat, by omega⟩)
  simp only at e
  have e1 : ((c.toNat : Nat) : Int) = c := by omega
  have e2 : ((r.toNat : Nat) : Int) = r := by omega
  have e3 : ((x.toNat : Nat) : Int) = x := by omega
  have e4 : ((c.toNat * r.toNat : Nat) : Int) = c * r := by rw [Int.natCast_mul, e1, e2]
  rcases e with e | e | e | e
  · omega
  · omega
  · omega
  · rw [e1, e2, e3] at e
    exact at_rounds (fun k => (grid_Grid_Near.mono_l k).1 _ _ _ _ _ _ _ _) hk e
theorem near_no {c r p w x : Int} (s : Int) (k : Nat) (h : R c r p w) (hx : ¬ (0 ≤ x ∧ x < c * r)) : grid_Grid_Near.f k c r p w s x = some [] := by
  unfold grid_Grid_Near.f
  rw [is_eq s x h, Option.bind_some, decide_eq_false hx, if_neg (by decide)]
theorem near_none {c r p w : Int} (s x : Int) (k : Nat) (h : ¬ R c r p w) : grid_Grid_Near.f k c r p w s x = some [] := by
  unfold grid_Grid_Near.f
  rw [is_no s x h, Option.bind_some, if_neg (by decide)]
theorem nearL_len : ∀ c r : Fin 5, ∀ x : Fin 16, (nearL c.val r.val x.val).length ≤ 9 := by decide +kernel
theorem nearL_in : ∀ c r : Fin 5, ∀ x : Fin 16, (c.val = 0 ∨ r.val = 0 ∨ c.val * r.val ≤ x.val ∨ (nearL c.val r.val x.val ≠ [] ∧ ∀ q ∈ nearL c.val r.val x.val, 0 ≤ q ∧ q < 16)) := by decide +kernel
def isR (c r x : Int) : Prop := 0 ≤ x ∧ x < c * r
theorem nearG_eq {c r p w x : Int} (s : Int) (h : R c r p w) (hx : 0 ≤ x ∧ x < c * r) : MarkW.nearG c r p w s x = nearL c.toNat r.toNat x.toNat := by
  unfold MarkW.nearG
  rw [near_at s (by decide) h hx]
  rfl
theorem nearG_no {c r p w x : Int} (s : Int) (h : R c r p w) (hx : ¬ (0 ≤ x ∧ x < c * r)) : MarkW.nearG c r p w s x = [] := by
  unfold MarkW.nearG
  rw [near_no s 100 h hx]
  rfl
theorem near_some {c r p w : Int} (s x : Int) (h : R c r p w) : (grid_Grid_Near.f 100 c r p w s x).isSome = true := by
  by_cases hx : 0 ≤ x ∧ x < c * r
  · rw [near_at s (by decide) h hx]; rfl
  · rw [near_no s 100 h hx]; rfl
theorem near_ne {c r p w x : Int} (s : Int) (h : R c r p w) (hx : 0 ≤ x ∧ x < c * r) : MarkW.nearG c r p w s x ≠ [] ∧ (∀ q ∈ MarkW.nearG c r p w s x, 0 ≤ q ∧ q < 16) ∧ (MarkW.nearG c r p w s x).length ≤ 9 := by
  have hb := cr_bound h
  have h9 := h
  unfold R at h9
  have a := nearL_in ⟨c.toNat, by omega⟩ ⟨r.toNat, by omega⟩ ⟨x.toNat, by omega⟩
  have b := nearL_len ⟨c.toNat, by omega⟩ ⟨r.toNat, by omega⟩ ⟨x.toNat, by omega⟩
  have e4 : ((c.toNat * r.toNat : Nat) : Int) = c * r := by rw [Int.natCast_mul]; congr 1 <;> omega
  rw [nearG_eq s h hx]
  simp only at a b
  rcases a with a | a | a | a
  · omega
  · omega
  · omega
  · exact ⟨a.1, a.2, b⟩
/-- lines that are not too much fit -/
theorem fit_of_few {c r p w : Int} (s : Int) (h : R c r p w) {l : List MarkW.Line} (h1 : l.length ≤ 100) (h2 : ∀ x ∈ l, x.2.2.1.length ≤ 100 ∧ x.2.2.2.length ≤ 100 ∧ MarkW.I64 x.1) : MarkW.fitG c r p w s l := by
  refine ⟨h1, fun x hx => ⟨near_some s x.1 h, ?_⟩⟩
  by_cases hr : 0 ≤ x.1 ∧ x.1 < c * r
  · have := near_ne s h hr
    exact ⟨by omega, fun q hq => by have := this.2.1 q hq; exact ⟨by omega, by omega⟩, (h2 x hx).1, (h2 x hx).2.1, (h2 x hx).2.2⟩
  · rw [nearG_no s h hr]
    exact ⟨by simp, (fun q hq => absurd hq List.not_mem_nil), (h2 x hx).1, (h2 x hx).2.1, (h2 x hx).2.2⟩
end Go.Proofs.Ytmgdpkmmcmglfaa.GridP
