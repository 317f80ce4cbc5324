/- What the law MarkAll needs of numbers and lists: arenas, what is near, and how far one line is sure. No condition. -/
import Derived.Test.YtmgdpkmmcmglfaaPMarkAllz2
import Derived.Test.YtmgdpkmmcmglfaaGridP
import Derived.OpenShut
namespace Go.Proofs.Ytmgdpkmmcmglfaa.PMarkAll
open Go Go.RowKit Go.Proofs.YtmgdpkmmcmglfaaW.PrintWords Go.Proofs.YtmgdpkmmcmglfaaW.PrintLast
open Go.Proofs.Ytmgdpkmmcmglfaa.MarkW (Line LineS nearG ofG fitG initM madeP Stuck WfM WfL goesP okK knownP firstL resF phi nextL I64)
set_option linter.unusedVariables false
set_option linter.unusedSimpArgs false
theorem wr {i : Int} (h0 : -9223372036854775808 ≤ i) (h1 : i < 9223372036854775808) : wrap64 i = i := by unfold wrap64; omega
theorem uw (i : Int) : IntKind.u64.wrap i = i % 18446744073709551616 := by simp [IntKind.wrap, IntKind.signed, IntKind.bits]
theorem umod (x m : Int) (h0 : 1 ≤ m) (h1 : m ≤ 4611686018427387904) : 0 ≤ wrap64 (Int.tmod (IntKind.u64.wrap x) (IntKind.u64.wrap m)) ∧ wrap64 (Int.tmod (IntKind.u64.wrap x) (IntKind.u64.wrap m)) < m := by
  rw [uw, uw]
  have e : m % 18446744073709551616 = m := by omega
  rw [e]
  have hx : 0 ≤ x % 18446744073709551616 := by omega
  have a := Int.tmod_nonneg m hx
  have b := Int.tmod_lt_of_pos (x % 18446744073709551616) (show 0 < m by omega)
  rw [wr (by omega) (by omega)]
  exact ⟨a, b⟩
theorem umod1 (x m : Int) (h0 : 1 ≤ m) (h1 : m ≤ 4611686018427387904) : 0 ≤ wrap64 (Int.tmod (IntKind.u64.wrap x) m) ∧ wrap64 (Int.tmod (IntKind.u64.wrap x) m) < m := by
  have h := umod x m h0 h1
  rw [uw m, show m % 18446744073709551616 = m by omega] at h
  exact h
/-- may an arena be -/
def R (c r p w : Int) : Prop := (1 ≤ c ∧ c ≤ 4) ∧ (1 ≤ r ∧ r ≤ 4) ∧ (1 ≤ p ∧ p ≤ 6) ∧ (1 ≤ w ∧ w ≤ 16)
instance (c r p w : Int) : Decidable (R c r p w) := by unfold R; infer_instance
theorem gwithin_eq (a lo hi : Int) : grid_within.f a lo hi = some (decide (lo ≤ a ∧ a ≤ hi)) := by
  unfold grid_within.f
  by_cases h : lo ≤ a <;> simp [h]
theorem right_eq (c r p w s : Int) : grid_right.f c r p w s = some (decide (R c r p w)) := by
  unfold grid_right.f R
  simp only [gwithin_eq, Option.bind_some]
  by_cases h1 : 1 ≤ c ∧ c ≤ 4 <;> by_cases h2 : 1 ≤ r ∧ r ≤ 4 <;> by_cases h3 : 1 ≤ p ∧ p ≤ 6 <;> by_cases h4 : 1 ≤ w ∧ w ≤ 16 <;> simp [h1, h2, h3, h4]
theorem size_eq {c r p w : Int} (s : Int) (h : R c r p w) : grid_Grid_size.f c r p w s = some (c, r) := by
  unfold grid_Grid_size.f
  rw [right_eq, Option.bind_some, decide_eq_true h, if_pos rfl]
theorem size_no {c r p w : Int} (s : Int) (h : ¬ R c r p w) : grid_Grid_size.f c r p w s = some (0, 0) := by
  unfold grid_Grid_size.f
  rw [right_eq, Option.bind_some, decide_eq_false h, if_neg (by decide)]
theorem cr_bound {c r p w : Int} (h : R c r p w) : 1 ≤ c * r ∧ c * r ≤ 16 := by
  obtain ⟨⟨h1, h2⟩, ⟨h3, h4⟩, _⟩ := h
  have hc : c = 1 ∨ c = 2 ∨ c = 3 ∨ c = 4 := by omega
  rcases hc with rfl | rfl | rfl | rfl <;> omega
theorem regions_eq {c r p w : Int} (s : Int) (h : R c r p w) : grid_Grid_Regions.f c r p w s = some (c * r) := by
  unfold grid_Grid_Regions.f
  have := cr_bound h
  rw [size_eq s h, Option.bind_some, wr (by simp; omega) (by simp; omega)]
theorem regions_no {c r p w : Int} (s : Int) (h : ¬ R c r p w) : grid_Grid_Regions.f c r p w s = some 0 := by
  unfold grid_Grid_Regions.f
  rw [size_no s h, Option.bind_some]; decide +kernel
theorem new_eq {c r p w : Int} (s : Int) (h : R c r p w) : grid_New.f c r p w s = some (c, r, p, w, s, 0) := by
  unfold grid_New.f
  rw [right_eq, Option.bind_some, decide_eq_true h, if_pos rfl]
theorem new_no {c r p w : Int} (s : Int) (h : ¬ R c r p w) : grid_New.f c r p w s = some (0, 0, 0, 0, 0, 10) := by
  unfold grid_New.f
  rw [right_eq, Option.bind_some, decide_eq_false h, if_neg (by decide)]
theorem is_eq {c r p w : Int} (s x : Int) (h : R c r p w) : grid_Grid_is.f c r p w s x = some (decide (0 ≤ x ∧ x < c * r)) := by
  unfold grid_Grid_is.f
  have := cr_bound h
  rw [regions_eq s h, Option.bind_some, wr (by omega) (by omega), gwithin_eq, Option.bind_some]
  congr 1
  rw [decide_eq_decide]
  omega
theorem is_no {c r p w : Int} (s x : Int) (h : ¬ R c r p w) : grid_Grid_is.f c r p w s x = some false := by
  unfold grid_Grid_is.f
  rw [regions_no s h, Option.bind_some, wr (by omega) (by omega), gwithin_eq, Option.bind_some]
  congr 1
  rw [decide_eq_false_iff_not]
  omega
/-- the regions near one, of c columns and r rows -/
def nearL (c r x : Nat) : List Int := ((List.range (c * r)).filter fun n => decide (n % c ≤ x % c + 1 ∧ x % c ≤ n % c + 1 ∧ n / c ≤ x / c + 1 ∧ x / c ≤ n / c + 1)).map fun n => ((n : Nat) : Int)
theorem near_l : ∀ k, (∀ x1 l x6 c r p w s, grid_Grid_Near.l0 k x1 l x6 c r p w s = grid_Grid_Near.l0 k x1 l x6 c r 1 1 0) ∧ (∀ x1 l x6 x7 c r p w s, grid_Grid_Near.l1 k x1 l x6 x7 c r p w s = grid_Grid_Near.l1 k x1 l x6 x7 c r 1 1 0) := by
  intro k
  induction k with
  | zero => exact ⟨fun _ _ _ _ _ _ _ _ => rfl, fun _ _ _ _ _ _ _ _ _ => rfl⟩
  | succ k ih =>
    refine ⟨fun x1 l x6 c r p w s => ?_, fun x1 l x6 x7 c r p w s => ?_⟩
    · simp only [grid_Grid_Near.l0]
      rw [ih.2 x1 l x6 _ c r p w s]
    · simp only [grid_Grid_Near.l1]
      rw [ih.2 x1 _ x6 _ c r p w s, ih.1 x1 l _ c r p w s]
theorem near_fin : ∀ c r : Fin 5, ∀ x : Fin 16, decide (c.val = 0 ∨ r.val = 0 ∨ c.val * r.val ≤ x.val ∨ grid_Grid_Near.l0 60 (x.val : Int) [] (mx (wrap64 ((wrap64 (Int.tdiv (x.val : Int) (c.val : Int))) - 1)) 0) (c.val : Int) (r.val : Int) 1 1 0 = some (nearL c.val r.val x.val)) = true := by decide +kernel
theorem near_at {c r p w x : Int} (s : Int) {k : Nat} (hk : 60 ≤ k) (h : R c r p w) (hx : 0 ≤ x ∧ x < c * r) : grid_Grid_Near.f k c r p w s x = some (nearL c.toNat r.toNat x.toNat) := by
  unfold grid_Grid_Near.f
  rw [is_eq s x h, Option.bind_some, decide_eq_true hx, if_pos rfl, if_neg (by have := h.1; omega), (near_l k).1]
  have hb := cr_bound h
  obtain ⟨⟨h1, h2⟩, ⟨h3, h4⟩, _⟩ := h
  have e := of_decide_eq_true (near_fin ⟨c.toNat, by omega⟩ ⟨r.toNat, by omega⟩ ⟨x.toNat, by omega⟩)
  simp only at e
  have e1 : ((c.toNat : Nat) : Int) = c := by omega
  have e2 : ((r.toNat : Nat) : Int) = r := by omega
  have e3 : ((x.toNat : Nat) : Int) = x := by omega
  have e4 : ((c.toNat * r.toNat : Nat) : Int) = c * r := by rw [Int.natCast_mul, e1, e2]
  rcases e with e | e | e | e
  · omega
  · omega
  · omega
  · rw [e1, e2, e3] at e
    exact at_rounds (fun k => (grid_Grid_Near.mono_l k).1 _ _ _ _ _ _ _ _) hk e
theorem near_no {c r p w x : Int} (s : Int) (k : Nat) (h : R c r p w) (hx : ¬ (0 ≤ x ∧ x < c * r)) : grid_Grid_Near.f k c r p w s x = some [] := by
  unfold grid_Grid_Near.f
  rw [is_eq s x h, Option.bind_some, decide_eq_false hx, if_neg (by decide)]
theorem near_none {c r p w : Int} (s x : Int) (k : Nat) (h : ¬ R c r p w) : grid_Grid_Near.f k c r p w s x = some [] := by
  unfold grid_Grid_Near.f
  rw [is_no s x h, Option.bind_some, if_neg (by decide)]
theorem nearL_len : ∀ c r : Fin 5, ∀ x : Fin 16, (nearL c.val r.val x.val).length ≤ 9 := by decide +kernel
theorem rright_eq (c r p w s : Int) : joustref03_Right.f c r p w s = some (decide (R c r p w)) := by
  unfold joustref03_Right.f R
  by_cases h1 : 1 ≤ c <;> by_cases h2 : c ≤ 4 <;> simp [h1, h2] <;> by_cases h3 : 1 ≤ r <;> by_cases h4 : r ≤ 4 <;> simp [h3, h4] <;> by_cases h5 : 1 ≤ p <;> by_cases h6 : p ≤ 6 <;> simp [h5, h6] <;> by_cases h7 : 1 ≤ w <;> simp [h7]
theorem same_loop (xs ys : List Int) (hl : xs.length = ys.length) (hb : xs.length < 4611686018427387904) : ∀ (d k i : Nat), i + d = xs.length → d < k → jousthelp_Same_int.l0 k xs ys (i : Int) = some (decide (xs.drop i = ys.drop i)) := by
  intro d
  induction d with
  | zero =>
    intro k i hi hk
    obtain ⟨k, rfl⟩ : ∃ m, k = m + 1 := ⟨k - 1, by omega⟩
    simp only [jousthelp_Same_int.l0]
    rw [if_neg (by omega), List.drop_of_length_le (by omega), List.drop_of_length_le (by omega), decide_eq_true rfl]
  | succ d ih =>
    intro k i hi hk
    obtain ⟨k, rfl⟩ : ∃ m, k = m + 1 := ⟨k - 1, by omega⟩
    simp only [jousthelp_Same_int.l0]
    have h1 : i < xs.length := by omega
    have h2 : i < ys.length := by omega
    rw [if_pos (by omega), if_pos (by omega), if_pos (by omega), wr (by omega) (by omega)]
    have e1 : rd xs (i : Int) = xs[i] := by simp [rd, List.getD_eq_getElem?_getD, h1]
    have e2 : rd ys (i : Int) = ys[i] := by simp [rd, List.getD_eq_getElem?_getD, h2]
    have hi' := ih k (i + 1) (by omega) (by omega)
    unfold jousthelp_Plain_int_1.f
    rw [Option.bind_some, e1, e2, List.drop_eq_getElem_cons h1, List.drop_eq_getElem_cons h2]
    by_cases e : xs[i] = ys[i]
    · rw [if_pos (by simpa using e)]
      have : ((i : Int) + 1) = ((i + 1 : Nat) : Int) := rfl
      rw [this, hi']
      congr 1
      rw [decide_eq_decide, List.cons.injEq]
      exact ⟨fun h => ⟨e, h⟩, fun h => h.2⟩
    · rw [if_neg (by simpa using e), decide_eq_false (fun h => e (List.cons.inj h).1)]
theorem plain_eq (xs ys : List Int) (hb : xs.length < 4611686018427387904) {k : Nat} (hk : xs.length < k) : jousthelp_Plain_int.f k xs ys = some (decide (xs = ys)) := by
  unfold jousthelp_Plain_int.f jousthelp_Same_int.f
  by_cases hl : xs.length = ys.length
  · rw [if_pos (by omega), show (0 : Int) = ((0 : Nat) : Int) from rfl, same_loop xs ys hl hb xs.length k 0 (by omega) hk]
    rfl
  · rw [if_neg (by omega), Option.bind_some, decide_eq_false (fun e => hl (by rw [e]))]

/-- an arena that is not too great -/
def Q (c r p w : Int) : Prop := (1 ≤ c ∧ c ≤ 3) ∧ (1 ≤ r ∧ r ≤ 3) ∧ (1 ≤ p ∧ p ≤ 4) ∧ (1 ≤ w ∧ w ≤ 16)
theorem Q.R {c r p w : Int} (h : Q c r p w) : R c r p w := by unfold Q at h; unfold PMarkAll.R; omega
theorem config_eq (c r p w s : Int) : ∃ c' r' p' w', joustplay_Config.f c r p w s = some (c', r', p', w', s) ∧ Q c' r' p' w' := by
  unfold joustplay_Config.f
  rw [rright_eq, Option.bind_some]
  have h1 := umod1 c 3 (by decide) (by decide)
  have h2 := umod1 r 3 (by decide) (by decide)
  have h3 := umod1 p 4 (by decide) (by decide)
  have h4 := umod1 w 8 (by decide) (by decide)
  have hq : Q (wrap64 (1 + (wrap64 (Int.tmod (IntKind.u64.wrap c) 3)))) (wrap64 (1 + (wrap64 (Int.tmod (IntKind.u64.wrap r) 3)))) (wrap64 (1 + (wrap64 (Int.tmod (IntKind.u64.wrap p) 4)))) (wrap64 (1 + (wrap64 (Int.tmod (IntKind.u64.wrap w) 8)))) := by
    generalize wrap64 (Int.tmod (IntKind.u64.wrap c) 3) = x1 at h1 ⊢
    generalize wrap64 (Int.tmod (IntKind.u64.wrap r) 3) = x2 at h2 ⊢
    generalize wrap64 (Int.tmod (IntKind.u64.wrap p) 4) = x3 at h3 ⊢
    generalize wrap64 (Int.tmod (IntKind.u64.wrap w) 8) = x4 at h4 ⊢
    rw [wr (show _ ≤ 1 + x1 by omega) (by omega), wr (show _ ≤ 1 + x2 by omega) (by omega), wr (show _ ≤ 1 + x3 by omega) (by omega), wr (show _ ≤ 1 + x4 by omega) (by omega)]
    unfold Q; omega
  by_cases h : R c r p w
  · rw [decide_eq_true h, if_pos rfl]
    by_cases e1 : c ≤ 3
    · rw [if_pos e1]
      by_cases e2 : r ≤ 3
      · rw [if_pos e2]
        by_cases e3 : p ≤ 4
        · rw [if_pos e3]
          exact ⟨c, r, p, w, rfl, by unfold PMarkAll.R at h; unfold Q; omega⟩
        · rw [if_neg e3]; exact ⟨_, _, _, _, rfl, hq⟩
      · rw [if_neg e2]; exact ⟨_, _, _, _, rfl, hq⟩
    · rw [if_neg e1]; exact ⟨_, _, _, _, rfl, hq⟩
  · rw [decide_eq_false h, if_neg (by decide)]; exact ⟨_, _, _, _, rfl, hq⟩
theorem cfg_eq (c r p wi s : Int) : ∃ c' r' p' wi', joustplay_Config.f c r p wi s = some (c', r', p', wi', s) ∧ GridP.R c' r' p' wi' := by
  obtain ⟨c', r', p', w', h1, h2⟩ := config_eq c r p wi s
  exact ⟨c', r', p', w', h1, h2.R⟩
theorem awake_eq : joustlaw17_awake.f 100 = some true := by
  unfold joustlaw17_awake.f
  have h : R 1 1 1 1 := by decide
  have e : mark_Of.f 1 1 1 1 0 [⟨0, 5, [true, true, false], [[false], [false], [false]]⟩] = some [7] := by
    show MarkW.ofG 1 1 1 1 0 [(0, 5, [true, true, false], [[false], [false], [false]])] = some [7]
    decide +kernel
  rw [new_eq 0 h, Option.bind_some, e, Option.bind_some, plain_eq _ _ (by decide) (by decide), Option.bind_some, decide_eq_true rfl]
theorem plain_f (v : Int) : jousthelp_Plain_int.f 100 [v] [v] = some true := by
  rw [plain_eq [v] [v] (by show 1 < 4611686018427387904; omega) (by show 1 < 100; omega), decide_eq_true rfl]
theorem nearL_same : nearL = GridP.nearL := rfl
theorem near_at' {c r p wi x : Int} (s : Int) (h : GridP.R c r p wi) (hx : 0 ≤ x ∧ x < c * r) : grid_Grid_Near.f 100 c r p wi s x = some (nearG c r p wi s x) := by
  rw [near_at s (by omega) h hx, GridP.nearG_eq s h hx]; rfl
theorem nums (c r p wi s : Int) (h : GridP.R c r p wi) : ∃ m : Nat, grid_Grid_Regions.f c r p wi s = some (m : Int) ∧ 1 ≤ m ∧ m ≤ 16 ∧ (m : Int) = c * r := by
  have hb := cr_bound h
  have e : ((c * r).toNat : Int) = c * r := by omega
  exact ⟨(c * r).toNat, by rw [e]; exact regions_eq s h, by omega, by omega, e⟩
theorem near_eq {c r p wi x : Int} (s : Int) (h : GridP.R c r p wi) (hx : 0 ≤ x ∧ x < c * r) : ∃ l : List Int, grid_Grid_Near.f 100 c r p wi s x = some l ∧ 1 ≤ l.length ∧ l.length ≤ 9 := by
  have := GridP.near_ne s h hx
  refine ⟨_, near_at' s h hx, ?_, this.2.2⟩
  have h1 := this.1
  cases hn : nearG c r p wi s x with
  | nil => exact absurd hn h1
  | cons a l => simp
/-- what is near of one: itself alone, or another one -/
theorem nearL_one : ∀ c r : Fin 5, ∀ x : Fin 16, (c.val = 0 ∨ r.val = 0 ∨ c.val * r.val ≤ x.val ∨ (if (nearL c.val r.val x.val).length = 1 then nearL c.val r.val x.val = [(x.val : Int)] else (nearL c.val r.val x.val).any (fun q => decide (q ≠ (x.val : Int))) = true)) := by decide +kernel
theorem near_one {c r p wi x : Int} (s : Int) (h : GridP.R c r p wi) (hx : 0 ≤ x ∧ x < c * r) : if (nearG c r p wi s x).length = 1 then nearG c r p wi s x = [x] else ∃ q ∈ nearG c r p wi s x, q ≠ x := by
  have hb := cr_bound h
  have h9 := h
  unfold GridP.R at h9
  have a := nearL_one ⟨c.toNat, by omega⟩ ⟨r.toNat, by omega⟩ ⟨x.toNat, by omega⟩
  have e4 : ((c.toNat * r.toNat : Nat) : Int) = c * r := by rw [Int.natCast_mul]; congr 1 <;> omega
  have e3 : ((x.toNat : Nat) : Int) = x := by omega
  rw [GridP.nearG_eq s h hx, ← nearL_same]
  simp only [e3] at a
  rcases a with a | a | a | a
  · omega
  · omega
  · omega
  · split at a
    · rename_i h1
      rw [if_pos h1]
      exact a
    · rename_i h1
      rw [if_neg h1]
      obtain ⟨q, hq, hq2⟩ := List.any_eq_true.1 a
      exact ⟨q, hq, of_decide_eq_true hq2⟩
/-! #### one line alone -/
def ln1 (L : Line) (near : List Int) (v : Int) : LineS := ⟨0, L, near, v⟩
theorem one_reach {L : Line} {near : List Int} {b : Int} : ∀ m : Nat, (∀ j < m, goesP [some (ln1 L near (b + j))] (ln1 L near (b + j)) = true) → MarkW.Reach [some (ln1 L near b)] [some (ln1 L near (b + m))] := by
  intro m
  induction m with
  | zero => intro _; simpa using MarkW.Reach.refl
  | succ m ih =>
    intro h
    have h1 := ih (fun j hj => h j (by omega))
    have h2 := h1.step (j := 0) (s := ln1 L near (b + m)) rfl (h m (by omega))
    have e : nextL (ln1 L near (b + m)) = ln1 L near (b + ((m + 1 : Nat) : Int)) := by
      show (⟨0, L, near, b + m + 1⟩ : LineS) = ⟨0, L, near, b + ((m + 1 : Nat) : Int)⟩
      congr 1
      push_cast
      omega
    rw [e] at h2
    exact h2
theorem one_stuck {L : Line} {near : List Int} {v : Int} (h : goesP [some (ln1 L near v)] (ln1 L near v) = false) : Stuck [some (ln1 L near v)] := by
  intro j s hj
  cases j with
  | zero =>
    obtain rfl : ln1 L near v = s := by simpa using hj
    exact h
  | succ j => simp at hj
theorem one_ends {c r p wi x : Int} {b : Nat} {f2 : List Bool} {f3 : List (List Bool)} (s : Int) (h : GridP.R c r p wi) (hx : 0 ≤ x ∧ x < c * r) (hb : b < 100) (h2 : f2.length < 100) (h3 : f3.length < 100) (hr : ∀ y ∈ f3, y.length = (nearG c r p wi s x).length) (m : Nat)
    (hg : ∀ j < m, goesP [some (ln1 (x, (b : Int), f2, f3) (nearG c r p wi s x) (b + j))] (ln1 (x, (b : Int), f2, f3) (nearG c r p wi s x) (b + j)) = true)
    (hs : goesP [some (ln1 (x, (b : Int), f2, f3) (nearG c r p wi s x) (b + m))] (ln1 (x, (b : Int), f2, f3) (nearG c r p wi s x) (b + m)) = false) : mark_Of.f c r p wi s [⟨x, b, f2, f3⟩] = some [(b : Int) + m] := by
  show ofG c r p wi s [(x, (b : Int), f2, f3)] = some [(b : Int) + m]
  have hb16 := cr_bound h
  have hne := GridP.near_ne s h hx
  have hfit : fitG c r p wi s [(x, (b : Int), f2, f3)] := GridP.fit_of_few s h (by simp) (fun y hy => by
    obtain rfl : y = (x, (b : Int), f2, f3) := by simpa using hy
    exact ⟨by show f2.length ≤ 100; omega, by show f3.length ≤ 100; omega, by show MarkW.I64 x; exact ⟨by omega, by omega⟩⟩)
  obtain ⟨b0, e1, e2, e3⟩ := MarkW.ofG_ends hfit
  have hmade : madeP (nearG c r p wi s x) (x, (b : Int), f2, f3) = true := MarkW.madeP_yes hne.1 ⟨by show (0 : Int) ≤ b; omega, by show (b : Int) ≤ 10000; omega⟩ hr
  have hinit : initM (nearG c r p wi s) [(x, (b : Int), f2, f3)] = [some (ln1 (x, (b : Int), f2, f3) (nearG c r p wi s x) b)] := by
    unfold initM
    rw [List.map_cons, List.map_nil]
    show [if madeP (nearG c r p wi s x) (x, (b : Int), f2, f3) = true then _ else _] = _
    rw [if_pos hmade]
    rfl
  rw [hinit] at e2
  rw [e1, MarkW.ends_one e2 e3 (one_reach m hg) (one_stuck hs)]
  rfl
theorem goes_one {x b : Int} {f2 : List Bool} {f3 : List (List Bool)} {near : List Int} (j : Nat) : goesP [some (ln1 (x, b, f2, f3) near (b + j))] (ln1 (x, b, f2, f3) near (b + j)) = (decide (j < min f2.length f3.length) && f2.getD j false && (List.range near.length).all (fun k => decide (j = 0) || (f3.getD j []).getD k false || (decide (near.getD k 0 = x) && decide (1 ≤ j)))) := by
  unfold goesP
  have e1 : (ln1 (x, b, f2, f3) near (b + j)).sure - (ln1 (x, b, f2, f3) near (b + j)).x.2.1 = j := by show b + j - b = (j : Int); omega
  have e2 : (ln1 (x, b, f2, f3) near (b + j)).steps = ((min f2.length f3.length : Nat) : Int) := by
    unfold LineS.steps
    show (if (f3.length : Int) < f2.length then (f3.length : Int) else f2.length) = _
    split <;> omega
  rw [e1, e2, Int.toNat_natCast]
  congr 1
  · congr 1
    rw [decide_eq_decide]
    omega
  · show (List.range near.length).all _ = _
    congr 1
    funext k
    unfold okK
    congr 1
    unfold knownP firstL
    show (match List.find? _ [ln1 (x, b, f2, f3) near (b + j)] with | none => false | some s => decide (s.x.2.1 ≤ b + j - 1 ∧ b + j ≤ s.sure)) = _
    rw [List.find?_cons]
    show (match (match decide (x = near.getD k 0) with | true => some (ln1 (x, b, f2, f3) near (b + j)) | false => _) with | none => false | some s => decide (s.x.2.1 ≤ b + j - 1 ∧ b + j ≤ s.sure)) = _
    by_cases hq : x = near.getD k 0
    · rw [decide_eq_true hq, decide_eq_true hq.symm, Bool.true_and]
      show decide (b ≤ b + j - 1 ∧ b + j ≤ b + j) = _
      rw [decide_eq_decide]
      omega
    · rw [decide_eq_false hq, decide_eq_false (fun e => hq e.symm), Bool.false_and]
      rfl
theorem of_all {c r p wi x : Int} {bs n : Nat} {nl : List Int} (s : Int) (h : GridP.R c r p wi) (hn : grid_Grid_Near.f 100 c r p wi s x = some nl) (hx : 0 ≤ x ∧ x < c * r) (hn30 : n < 30) (hb : bs < 100) : mark_Of.f c r p wi s [⟨x, bs, List.replicate n true, List.replicate n (List.replicate nl.length true)⟩] = some [(bs : Int) + n] := by
  rw [near_at' s h hx] at hn
  obtain rfl := Option.some.inj hn
  refine one_ends s h hx hb (by simp; omega) (by simp; omega) (fun y hy => by rw [(List.mem_replicate.1 hy).2, List.length_replicate]) n (fun j hj => ?_) ?_
  · rw [goes_one]
    simp only [List.length_replicate, Nat.min_self, hj, decide_true, Bool.true_and]
    have e1 : (List.replicate n true).getD j false = true := by simp [List.getD_eq_getElem?_getD, hj]
    rw [e1, Bool.true_and, List.all_eq_true]
    intro k hk
    have hk2 := List.mem_range.1 hk
    have e2 : ((List.replicate n (List.replicate (nearG c r p wi s x).length true)).getD j []).getD k false = true := by simp [List.getD_eq_getElem?_getD, hj, hk2]
    rw [e2]
    simp
  · rw [goes_one]
    simp
theorem of_none {c r p wi x : Int} {bs n : Nat} {nl : List Int} (s : Int) (h : GridP.R c r p wi) (hn : grid_Grid_Near.f 100 c r p wi s x = some nl) (hx : 0 ≤ x ∧ x < c * r) (hn30 : n < 30) (hb : bs < 100) : mark_Of.f c r p wi s [⟨x, bs, List.replicate n false, List.replicate n (List.replicate nl.length false)⟩] = some [(bs : Int)] := by
  rw [near_at' s h hx] at hn
  obtain rfl := Option.some.inj hn
  have := one_ends s h hx hb (f2 := List.replicate n false) (f3 := List.replicate n (List.replicate (nearG c r p wi s x).length false)) (by simp; omega) (by simp; omega) (fun y hy => by rw [(List.mem_replicate.1 hy).2, List.length_replicate]) 0 (fun j hj => by omega) (by
    rw [goes_one]
    by_cases h0 : 0 < n
    · have e1 : (List.replicate n false).getD 0 false = false := by simp [List.getD_eq_getElem?_getD, h0]
      rw [e1]; simp
    · have : n = 0 := by omega
      subst this
      simp)
  simpa using this
theorem of_first {c r p wi x : Int} {bs n : Nat} {nl : List Int} (s : Int) (h : GridP.R c r p wi) (hn : grid_Grid_Near.f 100 c r p wi s x = some nl) (hx : 0 ≤ x ∧ x < c * r) (hn30 : n < 30) (hb : bs < 100) : mark_Of.f c r p wi s [⟨x, bs, List.replicate n true, List.replicate n (List.replicate nl.length false)⟩] = some [(bs : Int) + ((if nl.length = 1 then n else min n 1 : Nat) : Int)] := by
  rw [near_at' s h hx] at hn
  obtain rfl := Option.some.inj hn
  have h1 := near_one s h hx
  refine one_ends s h hx hb (by simp; omega) (by simp; omega) (fun y hy => by rw [(List.mem_replicate.1 hy).2, List.length_replicate]) _ (fun j hj => ?_) ?_
  · have hjn : j < n := by split at hj <;> omega
    rw [goes_one]
    simp only [List.length_replicate, Nat.min_self, hjn, decide_true, Bool.true_and]
    have e1 : (List.replicate n true).getD j false = true := by simp [List.getD_eq_getElem?_getD, hjn]
    rw [e1, Bool.true_and, List.all_eq_true]
    intro k hk
    have hk2 := List.mem_range.1 hk
    by_cases h0 : j = 0
    · simp [h0]
    · have hl : (nearG c r p wi s x).length = 1 := by
        by_cases hl : (nearG c r p wi s x).length = 1
        · exact hl
        · rw [if_neg hl] at hj; omega
      rw [if_pos hl] at h1
      have hk0 : k = 0 := by omega
      subst hk0
      have e2 : (nearG c r p wi s x).getD 0 0 = x := by rw [h1]; rfl
      rw [e2]
      have : 1 ≤ j := by omega
      simp [this]
  · rw [goes_one]
    by_cases hl : (nearG c r p wi s x).length = 1
    · rw [if_pos hl]
      simp
    · rw [if_neg hl]
      rw [if_neg hl] at h1
      by_cases h0 : n = 0
      · subst h0
        simp
      · have hm : min n 1 = 1 := by omega
        rw [hm]
        obtain ⟨q, hq, hqx⟩ := h1
        obtain ⟨k, hk, rfl⟩ := List.getElem_of_mem hq
        have hall : (List.range (nearG c r p wi s x).length).all (fun k => decide ((1 : Nat) = 0) || ((List.replicate n (List.replicate (nearG c r p wi s x).length false)).getD 1 []).getD k false || (decide ((nearG c r p wi s x).getD k 0 = x) && decide (1 ≤ 1))) = false := by
          rw [List.all_eq_false]
          refine ⟨k, List.mem_range.2 hk, ?_⟩
          have e2 : (nearG c r p wi s x).getD k 0 = (nearG c r p wi s x)[k] := by simp [List.getD_eq_getElem?_getD, hk]
          have e3 : ((List.replicate n (List.replicate (nearG c r p wi s x).length false)).getD 1 []).getD k false = false := by
            by_cases h1n : 1 < n
            · simp [List.getD_eq_getElem?_getD, h1n, hk]
            · simp [List.getD_eq_getElem?_getD, h1n]
          rw [e2, e3]
          simp [hqx]
        rw [hall]
        simp
end Go.Proofs.Ytmgdpkmmcmglfaa.PMarkAll
