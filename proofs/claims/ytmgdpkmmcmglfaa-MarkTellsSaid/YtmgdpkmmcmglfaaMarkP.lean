/- What the document says of lines, told plainly. Condition: lines as few says. -/
import Derived.Test.YtmgdpkmmcmglfaaPMarkTellsz4
import Derived.Test.YtmgdpkmmcmglfaaPMarkTellsz5
import Derived.Test.YtmgdpkmmcmglfaaGridP
import Derived.OpenShut
namespace Go.Proofs.Ytmgdpkmmcmglfaa.PureM
set_option linter.unusedVariables false
open Go Go.RowKit Go.Proofs.Ytmgdpkmmcmglfaa.PMarkTells Go.Proofs.YtmgdpkmmcmglfaaW.PrintWords Go.Proofs.YtmgdpkmmcmglfaaW.PrintLast
theorem wr {i : Int} (h0 : -9223372036854775808 ≤ i) (h1 : i < 9223372036854775808) : wrap64 i = i := by unfold wrap64; omega
theorem uw (i : Int) : IntKind.u64.wrap i = i % 18446744073709551616 := by simp [IntKind.wrap, IntKind.signed, IntKind.bits]
/-- a number brought below another one, as Go's int(uint(x) % uint(m)) does it -/
theorem umod (x m : Int) (h0 : 1 ≤ m) (h1 : m ≤ 4611686018427387904) : 0 ≤ wrap64 (Int.tmod (IntKind.u64.wrap x) (IntKind.u64.wrap m)) ∧ wrap64 (Int.tmod (IntKind.u64.wrap x) (IntKind.u64.wrap m)) < m := by
  rw [uw, uw]
  have e : m % 18446744073709551616 = m := by omega
  rw [e]
  have hx : 0 ≤ x % 18446744073709551616 := by omega
  have a := Int.tmod_nonneg m hx
  have b := Int.tmod_lt_of_pos (x % 18446744073709551616) (show 0 < m by omega)
  rw [wr (by omega) (by omega)]
  exact ⟨a, b⟩
theorem umod1 (x m : Int) (h0 : 1 ≤ m) (h1 : m ≤ 4611686018427387904) : 0 ≤ wrap64 (Int.tmod (IntKind.u64.wrap x) m) ∧ wrap64 (Int.tmod (IntKind.u64.wrap x) m) < m := by
  have h := umod x m h0 h1
  rw [uw m, show m % 18446744073709551616 = m by omega] at h
  exact h

/-- may an arena be -/
def R (c r p w : Int) : Prop := (1 ≤ c ∧ c ≤ 4) ∧ (1 ≤ r ∧ r ≤ 4) ∧ (1 ≤ p ∧ p ≤ 6) ∧ (1 ≤ w ∧ w ≤ 16)
instance (c r p w : Int) : Decidable (R c r p w) := by unfold R; infer_instance
theorem gwithin_eq (a lo hi : Int) : grid_within.f a lo hi = some (decide (lo ≤ a ∧ a ≤ hi)) := by
  unfold grid_within.f
  by_cases h : lo ≤ a <;> simp [h]
theorem right_eq (c r p w s : Int) : grid_right.f c r p w s = some (decide (R c r p w)) := by
  unfold grid_right.f R
  simp only [gwithin_eq, Option.bind_some]
  by_cases h1 : 1 ≤ c ∧ c ≤ 4 <;> by_cases h2 : 1 ≤ r ∧ r ≤ 4 <;> by_cases h3 : 1 ≤ p ∧ p ≤ 6 <;> by_cases h4 : 1 ≤ w ∧ w ≤ 16 <;> simp [h1, h2, h3, h4]
theorem size_eq {c r p w : Int} (s : Int) (h : R c r p w) : grid_Grid_size.f c r p w s = some (c, r) := by
  unfold grid_Grid_size.f
  rw [right_eq, Option.bind_some, decide_eq_true h, if_pos rfl]
theorem size_no {c r p w : Int} (s : Int) (h : ¬ R c r p w) : grid_Grid_size.f c r p w s = some (0, 0) := by
  unfold grid_Grid_size.f
  rw [right_eq, Option.bind_some, decide_eq_false h, if_neg (by decide)]
theorem cr_bound {c r p w : Int} (h : R c r p w) : 1 ≤ c * r ∧ c * r ≤ 16 := by
  obtain ⟨⟨h1, h2⟩, ⟨h3, h4⟩, _⟩ := h
  have hc : c = 1 ∨ c = 2 ∨ c = 3 ∨ c = 4 := by omega
  rcases hc with rfl | rfl | rfl | rfl <;> omega
theorem regions_eq {c r p w : Int} (s : Int) (h : R c r p w) : grid_Grid_Regions.f c r p w s = some (c * r) := by
  unfold grid_Grid_Regions.f
  have := cr_bound h
  rw [size_eq s h, Option.bind_some, wr (by simp; omega) (by simp; omega)]
theorem regions_no {c r p w : Int} (s : Int) (h : ¬ R c r p w) : grid_Grid_Regions.f c r p w s = some 0 := by
  unfold grid_Grid_Regions.f
  rw [size_no s h, Option.bind_some]; decide +kernel

theorem new_eq {c r p w : Int} (s : Int) (h : R c r p w) : grid_New.f c r p w s = some (c, r, p, w, s, 0) := by
  unfold grid_New.f
  rw [right_eq, Option.bind_some, decide_eq_true h, if_pos rfl]
theorem new_no {c r p w : Int} (s : Int) (h : ¬ R c r p w) : grid_New.f c r p w s = some (0, 0, 0, 0, 0, 10) := by
  unfold grid_New.f
  rw [right_eq, Option.bind_some, decide_eq_false h, if_neg (by decide)]

theorem is_eq {c r p w : Int} (s x : Int) (h : R c r p w) : grid_Grid_is.f c r p w s x = some (decide (0 ≤ x ∧ x < c * r)) := by
  unfold grid_Grid_is.f
  have := cr_bound h
  rw [regions_eq s h, Option.bind_some, wr (by omega) (by omega), gwithin_eq, Option.bind_some]
  congr 1
  rw [decide_eq_decide]
  omega
theorem is_no {c r p w : Int} (s x : Int) (h : ¬ R c r p w) : grid_Grid_is.f c r p w s x = some false := by
  unfold grid_Grid_is.f
  rw [regions_no s h, Option.bind_some, wr (by omega) (by omega), gwithin_eq, Option.bind_some]
  congr 1
  rw [decide_eq_false_iff_not]
  omega

/-- the regions near one, of c columns and r rows -/
def nearL (c r x : Nat) : List Int := ((List.range (c * r)).filter fun n => decide (n % c ≤ x % c + 1 ∧ x % c ≤ n % c + 1 ∧ n / c ≤ x / c + 1 ∧ x / c ≤ n / c + 1)).map fun n => ((n : Nat) : Int)
theorem near_l : ∀ k, (∀ x1 l x6 c r p w s, grid_Grid_Near.l0 k x1 l x6 c r p w s = grid_Grid_Near.l0 k x1 l x6 c r 1 1 0) ∧ (∀ x1 l x6 x7 c r p w s, grid_Grid_Near.l1 k x1 l x6 x7 c r p w s = grid_Grid_Near.l1 k x1 l x6 x7 c r 1 1 0) := by
  intro k
  induction k with
  | zero => exact ⟨fun _ _ _ _ _ _ _ _ => rfl, fun _ _ _ _ _ _ _ _ _ => rfl⟩
  | succ k ih =>
    refine ⟨fun x1 l x6 c r p w s => ?_, fun x1 l x6 x7 c r p w s => ?_⟩
    · simp only [grid_Grid_Near.l0]
      rw [ih.2 x1 l x6 _ c r p w s]
    · simp only [grid_Grid_Near.l1]
      rw [ih.2 x1 _ x6 _ c r p w s, ih.1 x1 l _ c r p w s]
theorem near_fin : ∀ c r : Fin 5, ∀ x : Fin 16, decide (c.val = 0 ∨ r.val = 0 ∨ c.val * r.val ≤ x.val ∨ grid_Grid_Near.l0 60 (x.val : Int) [] (mx (wrap64 ((wrap64 (Int.tdiv (x.val : Int) (c.val : Int))) - 1)) 0) (c.val : Int) (r.val : Int) 1 1 0 = some (nearL c.val r.val x.val)) = true := by decide +kernel
theorem near_at {c r p w x : Int} (s : Int) {k : Nat} (hk : 60 ≤ k) (h : R c r p w) (hx : 0 ≤ x ∧ x < c * r) : grid_Grid_Near.f k c r p w s x = some (nearL c.toNat r.toNat x.toNat) := by
  unfold grid_Grid_Near.f
  rw [is_eq s x h, Option.bind_some, decide_eq_true hx, if_pos rfl, if_neg (by have := h.1; omega), (near_l k).1]
  have hb := cr_bound h
  obtain ⟨⟨h1, h2⟩, ⟨h3, h4⟩, _⟩ := h
  have e := of_decide_eq_true (near_fin ⟨c.toNat, by omega⟩ ⟨r.toNat, by omega⟩ ⟨x.toNat, by omega⟩)
  simp only at e
  have e1 : ((c.toNat : Nat) : Int) = c := by omega
  have e2 : ((r.toNat : Nat) : Int) = r := by omega
  have e3 : ((x.toNat : Nat) : Int) = x := by omega
  have e4 : ((c.toNat * r.toNat : Nat) : Int) = c * r := by rw [Int.natCast_mul, e1, e2]
  rcases e with e | e | e | e
  · omega
  · omega
  · omega
  · rw [e1, e2, e3] at e
    exact at_rounds (fun k => (grid_Grid_Near.mono_l k).1 _ _ _ _ _ _ _ _) hk e
theorem near_no {c r p w x : Int} (s : Int) (k : Nat) (h : R c r p w) (hx : ¬ (0 ≤ x ∧ x < c * r)) : grid_Grid_Near.f k c r p w s x = some [] := by
  unfold grid_Grid_Near.f
  rw [is_eq s x h, Option.bind_some, decide_eq_false hx, if_neg (by decide)]
theorem near_none {c r p w : Int} (s x : Int) (k : Nat) (h : ¬ R c r p w) : grid_Grid_Near.f k c r p w s x = some [] := by
  unfold grid_Grid_Near.f
  rw [is_no s x h, Option.bind_some, if_neg (by decide)]
theorem nearL_len : ∀ c r : Fin 5, ∀ x : Fin 16, (nearL c.val r.val x.val).length ≤ 9 := by decide +kernel

theorem rright_eq (c r p w s : Int) : joustref03_Right.f c r p w s = some (decide (R c r p w)) := by
  unfold joustref03_Right.f R
  by_cases h1 : 1 ≤ c <;> by_cases h2 : c ≤ 4 <;> simp [h1, h2] <;> by_cases h3 : 1 ≤ r <;> by_cases h4 : r ≤ 4 <;> simp [h3, h4] <;> by_cases h5 : 1 ≤ p <;> by_cases h6 : p ≤ 6 <;> simp [h5, h6] <;> by_cases h7 : 1 ≤ w <;> simp [h7]

theorem rregions_eq {c r p w : Int} (s : Int) (h : R c r p w) : joustref03_Regions.f c r p w s = some (c * r) := by
  unfold joustref03_Regions.f
  have := cr_bound h
  rw [rright_eq, Option.bind_some, decide_eq_true h, if_pos rfl, wr (by omega) (by omega)]
theorem rregions_no {c r p w : Int} (s : Int) (h : ¬ R c r p w) : joustref03_Regions.f c r p w s = some 0 := by
  unfold joustref03_Regions.f
  rw [rright_eq, Option.bind_some, decide_eq_false h, if_neg (by decide)]
theorem ris_eq {c r p w : Int} (s x : Int) (h : R c r p w) : joustref03_Is.f c r p w s x = some (decide (0 ≤ x ∧ x < c * r)) := by
  unfold joustref03_Is.f
  by_cases hx : x ≥ 0
  · rw [if_pos hx, rregions_eq s h, Option.bind_some]
    congr 1
    rw [decide_eq_decide]
    omega
  · rw [if_neg hx]
    congr 1
    symm
    rw [decide_eq_false_iff_not]
    omega
theorem ris_no {c r p w : Int} (s x : Int) (h : ¬ R c r p w) : joustref03_Is.f c r p w s x = some false := by
  unfold joustref03_Is.f
  by_cases hx : x ≥ 0
  · rw [if_pos hx, rregions_no s h, Option.bind_some, decide_eq_false (by omega)]
  · rw [if_neg hx]

theorem R.plain {c r p w : Int} (h : R c r p w) : R c r 1 1 := ⟨h.1, h.2.1, by decide, by decide⟩
theorem rnear_l {c r p w : Int} (s : Int) (h : R c r p w) : ∀ k, (∀ x1 l x6, joustref03_Near.l0 k x1 l x6 c r p w s = joustref03_Near.l0 k x1 l x6 c r 1 1 0) ∧ (∀ x1 l x6 x7, joustref03_Near.j1 k x1 l x6 x7 c r p w s = joustref03_Near.j1 k x1 l x6 x7 c r 1 1 0) := by
  intro k
  induction k with
  | zero => exact ⟨fun _ _ _ => rfl, fun _ _ _ _ => rfl⟩
  | succ k ih =>
    refine ⟨fun x1 l x6 => ?_, fun x1 l x6 x7 => ?_⟩
    · simp only [joustref03_Near.l0]
      rw [rregions_eq s h, rregions_eq 0 h.plain, Option.bind_some, Option.bind_some, ris_eq s x1 h, ris_eq 0 x1 h.plain, Option.bind_some, Option.bind_some, ih.2, ih.2]
    · simp only [joustref03_Near.j1]
      rw [ih.1, ih.1]
theorem rnear_fin : ∀ c r : Fin 5, ∀ x : Fin 16, decide (c.val = 0 ∨ r.val = 0 ∨ c.val * r.val ≤ x.val ∨ joustref03_Near.l0 60 (x.val : Int) [] 0 (c.val : Int) (r.val : Int) 1 1 0 = some (nearL c.val r.val x.val)) = true := by decide +kernel
theorem rnear_at {c r p w x : Int} (s : Int) {k : Nat} (hk : 60 ≤ k) (h : R c r p w) (hx : 0 ≤ x ∧ x < c * r) : joustref03_Near.f k c r p w s x = some (nearL c.toNat r.toNat x.toNat) := by
  unfold joustref03_Near.f
  rw [(rnear_l s h k).1]
  have hb := cr_bound h
  obtain ⟨⟨h1, h2⟩, ⟨h3, h4⟩, _⟩ := h
  have e := of_decide_eq_true (rnear_fin ⟨c.toNat, by omega⟩ ⟨r.toNat, by omega⟩ ⟨x.toNat, by omega⟩)
  simp only at e
  have e1 : ((c.toNat : Nat) : Int) = c := by omega
  have e2 : ((r.toNat : Nat) : Int) = r := by omega
  have e3 : ((x.toNat : Nat) : Int) = x := by omega
  have e4 : ((c.toNat * r.toNat : Nat) : Int) = c * r := by rw [Int.natCast_mul, e1, e2]
  rcases e with e | e | e | e
  · omega
  · omega
  · omega
  · rw [e1, e2, e3] at e
    exact at_rounds (fun k => (joustref03_Near.mono_l k).1 _ _ _ _ _ _ _ _) hk e
theorem rnear_no {c r p w x : Int} (s : Int) {k : Nat} (hk : 2 ≤ k) (h : R c r p w) (hx : ¬ (0 ≤ x ∧ x < c * r)) : joustref03_Near.f k c r p w s x = some [] := by
  obtain ⟨k, rfl⟩ : ∃ m, k = m + 2 := ⟨k - 2, by omega⟩
  have hb := cr_bound h
  unfold joustref03_Near.f
  simp only [joustref03_Near.l0, joustref03_Near.j1]
  rw [rregions_eq s h, Option.bind_some, if_pos (by omega), ris_eq s x h, Option.bind_some, decide_eq_false hx, if_neg (by decide)]
theorem rnear_none {c r p w : Int} (s x : Int) {k : Nat} (hk : 2 ≤ k) (h : ¬ R c r p w) : joustref03_Near.f k c r p w s x = some [] := by
  obtain ⟨k, rfl⟩ : ∃ m, k = m + 2 := ⟨k - 2, by omega⟩
  unfold joustref03_Near.f
  simp only [joustref03_Near.l0, joustref03_Near.j1]
  rw [rregions_no s h, Option.bind_some, if_neg (by decide), if_neg (by decide)]

theorem same_loop (xs ys : List Int) (hl : xs.length = ys.length) (hb : xs.length < 4611686018427387904) : ∀ (d k i : Nat), i + d = xs.length → d < k → jousthelp_Same_int.l0 k xs ys (i : Int) = some (decide (xs.drop i = ys.drop i)) := by
  intro d
  induction d with
  | zero =>
    intro k i hi hk
    obtain ⟨k, rfl⟩ : ∃ m, k = m + 1 := ⟨k - 1, by omega⟩
    simp only [jousthelp_Same_int.l0]
    rw [if_neg (by omega), List.drop_of_length_le (by omega), List.drop_of_length_le (by omega), decide_eq_true rfl]
  | succ d ih =>
    intro k i hi hk
    obtain ⟨k, rfl⟩ : ∃ m, k = m + 1 := ⟨k - 1, by omega⟩
    simp only [jousthelp_Same_int.l0]
    have h1 : i < xs.length := by omega
    have h2 : i < ys.length := by omega
    rw [if_pos (by omega), if_pos (by omega), if_pos (by omega), wr (by omega) (by omega)]
    have e1 : rd xs (i : Int) = xs[i] := by simp [rd, List.getD_eq_getElem?_getD, h1]
    have e2 : rd ys (i : Int) = ys[i] := by simp [rd, List.getD_eq_getElem?_getD, h2]
    have hi' := ih k (i + 1) (by omega) (by omega)
    unfold jousthelp_Plain_int_1.f
    rw [Option.bind_some, e1, e2, List.drop_eq_getElem_cons h1, List.drop_eq_getElem_cons h2]
    by_cases e : xs[i] = ys[i]
    · rw [if_pos (by simpa using e)]
      have : ((i : Int) + 1) = ((i + 1 : Nat) : Int) := rfl
      rw [this, hi']
      congr 1
      rw [decide_eq_decide, List.cons.injEq]
      exact ⟨fun h => ⟨e, h⟩, fun h => h.2⟩
    · rw [if_neg (by simpa using e), decide_eq_false (fun h => e (List.cons.inj h).1)]
theorem plain_eq (xs ys : List Int) (hb : xs.length < 4611686018427387904) {k : Nat} (hk : xs.length < k) : jousthelp_Plain_int.f k xs ys = some (decide (xs = ys)) := by
  unfold jousthelp_Plain_int.f jousthelp_Same_int.f
  by_cases hl : xs.length = ys.length
  · rw [if_pos (by omega), show (0 : Int) = ((0 : Nat) : Int) from rfl, same_loop xs ys hl hb xs.length k 0 (by omega) hk]
    rfl
  · rw [if_neg (by omega), Option.bind_some, decide_eq_false (fun e => hl (by rw [e]))]

open Go.Proofs.Ytmgdpkmmcmglfaa.MarkW (Line LineS nearG ofG fitG initM madeP Stuck WfM WfL goesP okK knownP firstL nextL ansO resF phi Le LeO)
theorem RR {c r p w : Int} (h : R c r p w) : GridP.R c r p w := h
def tol (x : S44) : Line := (x.f0, x.f1, x.f2, x.f3)
theorem nearL_same : nearL = GridP.nearL := rfl
/-- what the document calls near is what is near -/
theorem rnear {c r p w : Int} (s : Int) (h : R c r p w) (x : Int) {k : Nat} (hk : 60 ≤ k) : joustref03_Near.f k c r p w s x = some (nearG c r p w s x) := by
  by_cases hx : 0 ≤ x ∧ x < c * r
  · rw [rnear_at s hk h hx, GridP.nearG_eq s (RR h) hx]; rfl
  · rw [rnear_no s (by omega) h hx, GridP.nearG_no s (RR h) hx]
theorem rd_at {l : List S44} {j : Nat} (hj : j < l.length) : rd_T44 l (j : Int) = l[j] := by simp [rd_T44, List.getD_eq_getElem?_getD, hj]
theorem rdi_at {l : List Int} {j : Nat} (hj : j < l.length) : rd l (j : Int) = l[j] := by simp [rd, List.getD_eq_getElem?_getD, hj]
theorem rdL_at {l : List (List Bool)} {j : Nat} (hj : j < l.length) : rd_L2 l (j : Int) = l[j] := by simp [rd_L2, List.getD_eq_getElem?_getD, hj]
theorem rdb_at {l : List Bool} {j : Nat} (hj : j < l.length) : rdOf false l (j : Int) = l[j] := by simp [rdOf, List.getD_eq_getElem?_getD, hj]
/-! #### few -/
def fewP (l : List S44) : Prop := l.length ≤ 20 ∧ ∀ x ∈ l, x.f2.length ≤ 60 ∧ x.f3.length ≤ 60
theorem few_rows {l : List S44} (hl : l.length < 4611686018427387904) : ∀ (d k i m : Nat) (hi : i < l.length), (l[i]).f3.length < 4611686018427387904 → m + d = (l[i]).f3.length → d < k → joustlaw17_few.l1 k l (i : Int) (m : Int) = some false ∨ joustlaw17_few.l1 k l (i : Int) (m : Int) = joustlaw17_few.l0 (k - d - 1) l ((i + 1 : Nat) : Int) := by
  intro d
  induction d with
  | zero =>
    intro k i m hi hb hm hk
    obtain ⟨k, rfl⟩ : ∃ q, k = q + 1 := ⟨k - 1, by omega⟩
    refine .inr ?_
    simp only [joustlaw17_few.l1]
    rw [if_pos (by omega), if_pos (by omega), rd_at hi, if_neg (by omega), wr (by omega) (by omega)]
    rfl
  | succ d ih =>
    intro k i m hi hb hm hk
    obtain ⟨k, rfl⟩ : ∃ q, k = q + 1 := ⟨k - 1, by omega⟩
    simp only [joustlaw17_few.l1]
    rw [if_pos (by omega), if_pos (by omega), rd_at hi, if_pos (by omega), if_pos (by omega)]
    by_cases h : ((rd_L2 (l[i]).f3 (m : Int)).length : Int) > 12
    · rw [if_pos h]
      exact .inl rfl
    · rw [if_neg h, wr (by omega) (by omega)]
      have hv := ih k i (m + 1) hi hb (by omega) (by omega)
      have e : ((m : Int) + 1) = ((m + 1 : Nat) : Int) := rfl
      rw [e]
      rcases hv with hv | hv
      · exact .inl hv
      · refine .inr (hv.trans ?_)
        rw [show k + 1 - (d + 1) - 1 = k - d - 1 from by omega]
def most (l : List S44) : Nat := (l.map fun x => x.f3.length + 3).sum + 1
theorem few_eq {l : List S44} (hl : l.length < 4611686018427387904) (hb : ∀ x ∈ l, x.f2.length < 4611686018427387904 ∧ x.f3.length < 4611686018427387904) : ∀ (d k i : Nat), i + d = l.length → most (l.drop i) ≤ k → (∀ j (hj : j < l.length), j < i → (l[j]).f2.length ≤ 60 ∧ (l[j]).f3.length ≤ 60) → ∃ v, joustlaw17_few.l0 k l (i : Int) = some v ∧ (v = true → fewP l) := by
  intro d
  induction d with
  | zero =>
    intro k i hi hk hp
    obtain ⟨k, rfl⟩ : ∃ q, k = q + 1 := ⟨k - 1, by unfold most at hk; omega⟩
    simp only [joustlaw17_few.l0]
    rw [if_neg (by omega)]
    refine ⟨_, rfl, fun h => ⟨by have := of_decide_eq_true h; omega, fun x hx => ?_⟩⟩
    obtain ⟨j, hj, rfl⟩ := List.getElem_of_mem hx
    exact hp j hj (by omega)
  | succ d ih =>
    intro k i hi hk hp
    have hil : i < l.length := by omega
    have hdr : most (l.drop i) = (l[i]).f3.length + 3 + most (l.drop (i + 1)) := by
      unfold most
      rw [List.drop_eq_getElem_cons hil]
      simp only [List.map_cons, List.sum_cons]
      omega
    have hbi := hb _ (List.getElem_mem hil)
    obtain ⟨k, rfl⟩ : ∃ q, k = q + 1 := ⟨k - 1, by omega⟩
    simp only [joustlaw17_few.l0]
    rw [if_pos (by omega), if_pos (by omega), rd_at hil]
    have stop : ∀ b : Bool, b = true → ∃ v, joustlaw17_few.j1 k l (i : Int) b = some v ∧ (v = true → fewP l) := by
      intro b hb9
      obtain ⟨k, rfl⟩ : ∃ q, k = q + 1 := ⟨k - 1, by omega⟩
      refine ⟨false, ?_, fun h => by cases h⟩
      simp only [joustlaw17_few.j1]
      rw [if_pos hb9]
    by_cases h2 : ((l[i]).f2.length : Int) > 60
    · rw [if_pos h2]
      exact stop true rfl
    · rw [if_neg h2]
      by_cases h3 : ((l[i]).f3.length : Int) > 60
      · exact stop _ (decide_eq_true h3)
      · rw [decide_eq_false h3]
        obtain ⟨k, rfl⟩ : ∃ q, k = q + 1 := ⟨k - 1, by omega⟩
        simp only [joustlaw17_few.j1]
        rw [if_neg (by decide)]
        have hv := few_rows hl (l[i]).f3.length k i 0 hil hbi.2 (by omega) (by omega)
        rw [show ((0 : Nat) : Int) = 0 from rfl] at hv
        rcases hv with hv | hv
        · exact ⟨false, hv, fun h => by cases h⟩
        · rw [hv]
          refine ih _ (i + 1) (by omega) (by omega) (fun j hj hji => ?_)
          rcases Nat.lt_succ_iff_lt_or_eq.1 hji with h9 | h9
          · exact hp j hj h9
          · subst h9
            exact ⟨by omega, by omega⟩
/-! #### what the document says of a line: may it be? -/
theorem rrows (n : Nat) (rows : List (List Bool)) (hl : rows.length ≤ 60) (a b : Int) (f2 : List Bool) : ∀ (d k i : Nat), i + d = rows.length → d < k → joustref15_right.l0 k (n : Int) (i : Int) a b f2 rows = some (decide (∀ j (hj : j < rows.length), i ≤ j → (rows[j]).length = n)) := by
  intro d
  induction d with
  | zero =>
    intro k i hi hk
    obtain ⟨k, rfl⟩ : ∃ q, k = q + 1 := ⟨k - 1, by omega⟩
    simp only [joustref15_right.l0]
    rw [if_neg (by omega), decide_eq_true (fun j hj h => by omega)]
  | succ d ih =>
    intro k i hi hk
    obtain ⟨k, rfl⟩ : ∃ q, k = q + 1 := ⟨k - 1, by omega⟩
    have hil : i < rows.length := by omega
    simp only [joustref15_right.l0]
    rw [if_pos (by omega), if_pos (by omega), rdL_at hil]
    by_cases h : ((rows[i]).length : Int) = (n : Int)
    · rw [if_pos h, wr (by omega) (by omega)]
      have e : ((i : Int) + 1) = ((i + 1 : Nat) : Int) := rfl
      rw [e, ih k (i + 1) (by omega) (by omega)]
      congr 1
      rw [decide_eq_decide]
      refine ⟨fun h9 j hj hij => ?_, fun h9 j hj hij => h9 j hj (by omega)⟩
      rcases Nat.lt_or_eq_of_le hij with h1 | h1
      · exact h9 j hj h1
      · subst h1; omega
    · rw [if_neg h, decide_eq_false (fun h9 => h (by rw [h9 i hil (Nat.le_refl _)]))]
theorem rright {c r p w : Int} (s : Int) (h : R c r p w) (x : S44) (hl : x.f3.length ≤ 60) {k : Nat} (hk : 70 ≤ k) : joustref15_right.f k c r p w s x.f0 x.f1 x.f2 x.f3 = some (madeP (nearG c r p w s x.f0) (tol x)) := by
  obtain ⟨k, rfl⟩ : ∃ q, k = q + 1 := ⟨k - 1, by omega⟩
  unfold joustref15_right.f
  rw [ris_eq s x.f0 h, Option.bind_some]
  have stop : ∀ b : Bool, b = true → madeP (nearG c r p w s x.f0) (tol x) = false → joustref15_right.j0 (k + 1) b c r p w s x.f0 x.f1 x.f2 x.f3 = some (madeP (nearG c r p w s x.f0) (tol x)) := by
    intro b hb9 hm
    simp only [joustref15_right.j0]
    rw [if_pos hb9, hm]
  by_cases hx : 0 ≤ x.f0 ∧ x.f0 < c * r
  · rw [decide_eq_true hx, if_pos rfl]
    by_cases h1 : x.f1 < 0
    · rw [if_pos h1]
      exact stop true rfl (MarkW.madeP_no (.inr (.inl h1)))
    · rw [if_neg h1]
      by_cases h2 : x.f1 > 10000
      · exact stop _ (decide_eq_true h2) (MarkW.madeP_no (.inr (.inr (.inl h2))))
      · rw [decide_eq_false h2]
        simp only [joustref15_right.j0]
        rw [if_neg (by decide), rnear s h x.f0 (by omega), Option.bind_some, show (0 : Int) = ((0 : Nat) : Int) from rfl, rrows _ x.f3 hl _ _ _ x.f3.length k 0 (by omega) (by omega)]
        congr 1
        have hne := (GridP.near_ne s (RR h) hx).1
        by_cases h3 : ∀ j (hj : j < x.f3.length), 0 ≤ j → (x.f3[j]).length = (nearG c r p w s x.f0).length
        · rw [decide_eq_true h3]
          refine (MarkW.madeP_yes hne ⟨by show 0 ≤ x.f1; omega, by show x.f1 ≤ 10000; omega⟩ (fun y hy => ?_)).symm
          obtain ⟨j, hj, rfl⟩ := List.getElem_of_mem hy
          exact h3 j hj (Nat.zero_le _)
        · rw [decide_eq_false h3]
          refine (MarkW.madeP_no (.inr (.inr (.inr ?_)))).symm
          apply Classical.byContradiction
          intro h9
          exact h3 (fun j hj _ => Classical.byContradiction fun h8 => h9 ⟨_, List.getElem_mem hj, h8⟩)
  · rw [decide_eq_false hx, if_neg (by decide)]
    exact stop true rfl (MarkW.madeP_no (.inl (GridP.nearG_no s (RR h) hx)))
/-! #### the document's road, told as ours -/
/-- the lines as they are, and how far they are sure by now -/
structure At (c r p w s : Int) (l : List S44) (x5 : List Int) (ms : List (Option LineS)) : Prop where
  res : x5 = resF ms
  reach : MarkW.Reach (initM (nearG c r p w s) (l.map tol)) ms
  wf : WfM ms
theorem At.len {c r p w s : Int} {l : List S44} {x5 : List Int} {ms : List (Option LineS)} (h : At c r p w s l x5 ms) : ms.length = l.length ∧ x5.length = l.length := by
  have h1 := h.reach.ge.len
  have h2 : ms.length = l.length := by rw [← h1]; simp [initM]
  exact ⟨h2, by rw [h.res]; simp [resF, h2]⟩
theorem At.line {c r p w s : Int} {l : List S44} {x5 : List Int} {ms : List (Option LineS)} (h : At c r p w s l x5 ms) {j : Nat} (hj : j < l.length) {t : LineS} (ht : ms[j]? = some (some t)) : t.x = tol l[j] ∧ t.near = nearG c r p w s l[j].f0 ∧ x5[j]? = some t.sure := by
  have h1 : (initM (nearG c r p w s) (l.map tol))[j]? = some (if madeP (nearG c r p w s (tol l[j]).1) (tol l[j]) = true then some ⟨0, tol l[j], nearG c r p w s (tol l[j]).1, (tol l[j]).2.1⟩ else none) := by
    unfold initM
    rw [List.getElem?_map, List.getElem?_map, List.getElem?_eq_getElem hj]
    rfl
  have h2 := h.reach.ge.at_ j _ _ h1 ht
  have h3 : x5[j]? = some t.sure := by rw [h.res]; unfold resF; rw [List.getElem?_map, ht]; rfl
  by_cases hm : madeP (nearG c r p w s (tol l[j]).1) (tol l[j]) = true
  · rw [if_pos hm] at h2
    exact ⟨h2.1.symm, h2.2.1.symm, h3⟩
  · rw [if_neg hm] at h2
    exact h2.elim
theorem At.none {c r p w s : Int} {l : List S44} {x5 : List Int} {ms : List (Option LineS)} (h : At c r p w s l x5 ms) {j : Nat} (ht : ms[j]? = some none) : x5[j]? = some (-1) := by
  rw [h.res]; unfold resF; rw [List.getElem?_map, ht]; rfl
theorem At.pos {c r p w s : Int} {l : List S44} {x5 : List Int} {ms : List (Option LineS)} (h : At c r p w s l x5 ms) {j : Nat} {t : LineS} (ht : ms[j]? = some (some t)) : 0 ≤ t.sure := by
  have h1 := (h.wf j t ht).base
  have h2 := (h.wf j t ht).sure
  omega
/-! #### is what comes in known? -/
def allFrom (ms : List (Option LineS)) (t : LineS) (i n : Nat) : Bool := decide (∀ n' ∈ List.range t.near.length, n ≤ n' → okK ms t i n' = true)
theorem allFrom_step {ms : List (Option LineS)} {t : LineS} {i n : Nat} (hn : n < t.near.length) : allFrom ms t i n = (if okK ms t i n = true then allFrom ms t i (n + 1) else false) := by
  unfold allFrom
  by_cases h : okK ms t i n = true
  · rw [if_pos h, decide_eq_decide]
    refine ⟨fun h9 n' h1 h2 => h9 n' h1 (by omega), fun h9 n' h1 h2 => ?_⟩
    rcases Nat.lt_or_eq_of_le h2 with h8 | h8
    · exact h9 n' h1 h8
    · subst h8; exact h
  · rw [if_neg h, decide_eq_false (fun h9 => h (h9 n (List.mem_range.2 hn) (Nat.le_refl _)))]
theorem knownP_drop {ms : List (Option LineS)} {m : Nat} {o : Option LineS} (h : ms[m]? = some o) (q f : Int) : knownP (ms.drop m) q f = (match o with
    | none => knownP (ms.drop (m + 1)) q f
    | some t => if t.x.1 = q then decide (t.x.2.1 ≤ f - 1 ∧ f ≤ t.sure) else knownP (ms.drop (m + 1)) q f) := by
  have hl := (List.getElem?_eq_some_iff.1 h).1
  have h1 := (List.getElem?_eq_some_iff.1 h).2
  rw [List.drop_eq_getElem_cons hl, h1]
  cases o with
  | none => rfl
  | some t =>
    unfold knownP firstL
    simp only [List.filterMap_cons, id, List.find?_cons]
    by_cases e : t.x.1 = q
    · rw [decide_eq_true e, if_pos e]
    · rw [decide_eq_false e, if_neg e]
section
variable {c r p w s : Int} {l : List S44} {x5 : List Int} {ms : List (Option LineS)} {j i : Nat} {t : LineS}
theorem known_loops (h : At c r p w s l x5 ms) (hf : fewP l) (hj : j < l.length) (ht : ms[j]? = some (some t)) (hi : (i : Int) = t.sure - t.x.2.1) (hi0 : 0 < i) (hi2 : i < (l[j]).f3.length) (hq : t.near.length ≤ 100) :
    ∀ (d n : Nat), n + d = t.near.length → ∃ K, ∀ k, K ≤ k → joustref15_known.l0 k l x5 (j : Int) (i : Int) t.near t.sure (n : Int) = some (allFrom ms t i n) := by
  have hlen := h.len
  have hl20 := hf.1
  have hln := h.line hj ht
  have hwf := h.wf j t ht
  have hrows : ∀ y ∈ (l[j]).f3, y.length = t.near.length := by
    have := hwf.rows
    rw [hln.1] at this
    exact this
  have hsu : -1000 ≤ t.sure ∧ t.sure ≤ 100000 := by
    have h1 := hwf.base
    have h2 := hwf.sure
    have h3 := hwf.len
    have h4 : t.steps ≤ t.x.2.2.1.length := by unfold LineS.steps; split <;> omega
    omega
  intro d
  induction d with
  | zero =>
    intro n hn
    refine ⟨1, fun k hk => ?_⟩
    obtain ⟨k, rfl⟩ : ∃ q, k = q + 1 := ⟨k - 1, by omega⟩
    simp only [joustref15_known.l0]
    rw [if_neg (by omega)]
    unfold allFrom
    rw [decide_eq_true (fun n' h1 h2 => by have := List.mem_range.1 h1; omega)]
  | succ d ih =>
    intro n hn
    have hnl : n < t.near.length := by omega
    obtain ⟨K0, hK0⟩ := ih (n + 1) (by omega)
    have hrow : ((l[j]).f3[i]).length = t.near.length := hrows _ (List.getElem_mem hi2)
    -- the lines, one behind the other
    have inner : ∀ (dm m : Nat) (b : Bool), m + dm = l.length → ∃ K, ∀ k, K ≤ k → joustref15_known.l1 k l x5 (j : Int) (i : Int) t.near t.sure (n : Int) b (m : Int) = some (if (b || knownP (ms.drop m) t.near[n] t.sure) = true then allFrom ms t i (n + 1) else false) := by
      intro dm
      induction dm with
      | zero =>
        intro m b hm
        refine ⟨K0 + 1, fun k hk => ?_⟩
        obtain ⟨k, rfl⟩ : ∃ q, k = q + 1 := ⟨k - 1, by omega⟩
        have hz : knownP (ms.drop m) t.near[n] t.sure = false := by rw [List.drop_eq_nil_of_le (by omega)]; rfl
        simp only [joustref15_known.l1]
        rw [if_neg (by omega), hz, Bool.or_false]
        cases b with
        | true =>
          rw [if_pos rfl, if_pos rfl, wr (by omega) (by omega)]
          have := hK0 k (by omega)
          rw [show ((n + 1 : Nat) : Int) = (n : Int) + 1 from rfl] at this
          exact this
        | false => rfl
      | succ dm ihm =>
        intro m b hm
        have hml : m < l.length := by omega
        obtain ⟨K1, hK1⟩ := ihm (m + 1) b (by omega)
        refine ⟨K0 + K1 + 1, fun k hk => ?_⟩
        obtain ⟨k, rfl⟩ : ∃ q, k = q + 1 := ⟨k - 1, by omega⟩
        have hx5 : m < x5.length := by omega
        obtain ⟨o, ho⟩ : ∃ o, ms[m]? = some o := ⟨_, List.getElem?_eq_getElem (by omega)⟩
        simp only [joustref15_known.l1]
        rw [if_pos (by omega), if_pos (by omega), if_pos (by omega), rdi_at hx5, rd_at hml]
        have go1 : joustref15_known.l1 k l x5 (j : Int) (i : Int) t.near t.sure (n : Int) b (wrap64 ((m : Int) + 1)) = some (if (b || knownP (ms.drop (m + 1)) t.near[n] t.sure) = true then allFrom ms t i (n + 1) else false) := by
          rw [wr (by omega) (by omega)]
          exact hK1 k (by omega)
        have go0 : joustref15_known.l0 k l x5 (j : Int) (i : Int) t.near t.sure (wrap64 ((n : Int) + 1)) = some (allFrom ms t i (n + 1)) := by
          rw [wr (by omega) (by omega)]
          exact hK0 k (by omega)
        cases o with
        | none =>
          have e := h.none ho
          have hkd : knownP (ms.drop m) t.near[n] t.sure = knownP (ms.drop (m + 1)) t.near[n] t.sure := knownP_drop ho _ _
          rw [hkd]
          rw [List.getElem?_eq_getElem hx5] at e
          rw [Option.some.inj e, if_neg (by omega)]
          exact go1
        | some t' =>
          obtain ⟨e1, e2, e3⟩ := h.line hml ho
          have hp := h.pos ho
          rw [List.getElem?_eq_getElem hx5] at e3
          rw [Option.some.inj e3, if_pos (show t'.sure ≥ 0 by omega), if_pos (by omega), if_pos (by omega), rdi_at hnl]
          have e4 : t'.x.1 = (l[m]).f0 := by rw [e1]; rfl
          have e5 : t'.x.2.1 = (l[m]).f1 := by rw [e1]; rfl
          have hkd : knownP (ms.drop m) t.near[n] t.sure = (if t'.x.1 = t.near[n] then decide (t'.x.2.1 ≤ t.sure - 1 ∧ t.sure ≤ t'.sure) else knownP (ms.drop (m + 1)) t.near[n] t.sure) := knownP_drop ho _ _
          rw [e4, e5] at hkd
          rw [hkd]
          by_cases hq9 : (l[m]).f0 = t.near[n]
          · rw [if_pos hq9, if_pos hq9]
            cases b with
            | true => rw [if_pos rfl, Bool.true_or, if_pos rfl]; exact go0
            | false =>
              rw [if_neg (by decide), Bool.false_or, wr (by omega) (by omega)]
              by_cases h1 : (l[m]).f1 ≤ t.sure - 1
              · rw [if_pos h1]
                by_cases h2 : t'.sure ≥ t.sure
                · rw [if_pos h2, if_pos (decide_eq_true ⟨h1, h2⟩)]
                  exact go0
                · rw [if_neg h2, if_neg (by rw [decide_eq_false (fun h9 => h2 h9.2)]; decide)]
              · rw [if_neg h1, if_neg (by rw [decide_eq_false (fun h9 => h1 h9.1)]; decide)]
          · rw [if_neg hq9, if_neg hq9]
            exact go1
    obtain ⟨K2, hK2⟩ := inner l.length 0 ((l[j]).f3[i][n]'(by rw [hrow]; exact hnl)) (by omega)
    refine ⟨K2 + 1, fun k hk => ?_⟩
    obtain ⟨k, rfl⟩ : ∃ q, k = q + 1 := ⟨k - 1, by omega⟩
    simp only [joustref15_known.l0]
    rw [if_pos (by omega), if_pos (by omega), if_pos (by omega), rd_at hj, if_pos (by omega), if_pos (by omega), if_pos (by omega), rdL_at hi2, if_pos (by rw [hrow]; omega), rdb_at (by rw [hrow]; exact hnl)]
    have := hK2 k (by omega)
    rw [show ((0 : Nat) : Int) = 0 from rfl] at this
    rw [this, allFrom_step hnl]
    have hok : okK ms t i n = ((l[j]).f3[i][n]'(by rw [hrow]; exact hnl) || knownP (ms.drop 0) t.near[n] t.sure) := by
      unfold okK
      have g1 : (t.x.2.2.2.getD i []).getD n false = (l[j]).f3[i][n]'(by rw [hrow]; exact hnl) := by
        rw [hln.1]
        show ((l[j]).f3.getD i []).getD n false = _
        have : (l[j]).f3.getD i [] = (l[j]).f3[i] := by simp [List.getD_eq_getElem?_getD, hi2]
        rw [this]
        simp [List.getD_eq_getElem?_getD, hrow, hnl]
      have g2 : t.near.getD n 0 = t.near[n] := by simp [List.getD_eq_getElem?_getD, hnl]
      rw [g1, g2, decide_eq_false (by omega : ¬ i = 0), Bool.false_or, List.drop_zero]
    rw [hok]
end
theorem goes_eq {ms : List (Option LineS)} {t : LineS} {i : Nat} (hi : (i : Int) = t.sure - t.x.2.1) : goesP ms t = (decide ((i : Int) < t.steps) && t.x.2.2.1.getD i false && allFrom ms t i 0) := by
  unfold goesP
  have e : (t.sure - t.x.2.1).toNat = i := by omega
  rw [e, ← hi]
  congr 1
  unfold allFrom
  rw [Bool.eq_iff_iff]
  simp only [List.all_eq_true, decide_eq_true_eq]
  exact ⟨fun h n hn _ => h n hn, fun h n hn => h n hn (Nat.zero_le _)⟩
theorem known_eq {c r p w s : Int} {l : List S44} {x5 : List Int} {ms : List (Option LineS)} {j i : Nat} {t : LineS} (hR : R c r p w) (h : At c r p w s l x5 ms) (hf : fewP l) (hj : j < l.length) (ht : ms[j]? = some (some t)) (hi : (i : Int) = t.sure - t.x.2.1) (hi0 : 0 < i) (hi2 : i < (l[j]).f3.length) :
    ∃ K, ∀ k, K ≤ k → joustref15_known.f k c r p w s l x5 (j : Int) (i : Int) = some (allFrom ms t i 0) := by
  have hln := h.line hj ht
  have hwf := h.wf j t ht
  obtain ⟨K, hK⟩ := known_loops h hf hj ht hi hi0 hi2 hwf.near.1 t.near.length 0 (by omega)
  refine ⟨K + 60, fun k hk => ?_⟩
  have hb := hwf.base
  have hs := hwf.sure
  have e5 : t.x.2.1 = (l[j]).f1 := by rw [hln.1]; rfl
  have hl20 := hf.1
  unfold joustref15_known.f
  rw [if_pos (by omega), if_pos (by omega), rd_at hj, rnear s hR (l[j]).f0 (by omega), Option.bind_some, ← hln.2.1]
  have hsu : t.sure ≤ 100000 := by
    have h3 := hwf.len
    have h4 : t.steps ≤ t.x.2.2.1.length := by unfold LineS.steps; split <;> omega
    omega
  have e6 : wrap64 ((l[j]).f1 + (i : Int)) = t.sure := by rw [wr (by omega) (by omega)]; omega
  rw [e6]
  exact hK k (by omega)
theorem At.next {c r p w s : Int} {l : List S44} {x5 : List Int} {ms : List (Option LineS)} {j : Nat} {t : LineS} (h : At c r p w s l x5 ms) (ht : ms[j]? = some (some t)) (hg : goesP ms t = true) : At c r p w s l (x5.set j (t.sure + 1)) (ms.set j (some (nextL t))) := by
  refine ⟨?_, h.reach.step ht hg, h.wf.next ht hg⟩
  rw [h.res]
  unfold resF
  rw [List.map_set]
  rfl
end Go.Proofs.Ytmgdpkmmcmglfaa.PureM
