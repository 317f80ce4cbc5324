/- Inputs are added to a table. Condition: numbers are within int; rows are no longer than 10000. -/
import Derived.Test.YtkgjokidfbpnbaaInD
import Derived.Deep.RegionLawGrows
import Derived.LoopN
namespace Go.Proofs.Ytkgjokidfbpnbaa.InW
open Go.RowKit Go.Proofs.YtkgjokidfbpnbaaW.PrintWords Go.Proofs.YtkgjokidfbpnbaaW.PrintLast Go.Proofs.YtkgjokidfbpnbaaW.PrintMore Go.Proofs.Ytkgjokidfbpnbaa.Sep
attribute [local go_sem] max2_int min2_int max_two min_two max_three min_three max_four min_four   -- for this text's walks alone
set_option linter.unusedVariables false
set_option linter.unusedSimpArgs false
theorem flat_get : ∀ (l : List In) (j : Nat) (u : Value), (l.flatMap encI)[j]? = some u → ∃ i r, ∃ h : i < l.length, j = i * 3 + r ∧ (encI l[i])[r]? = some u := by
  intro l
  induction l with
  | nil => intro j u h; simp at h
  | cons x l ih =>
    intro j u h
    rw [List.flatMap_cons] at h
    have h3 : (encI x).length = 3 := rfl
    by_cases hj : j < 3
    · rw [List.getElem?_append_left (by omega)] at h
      exact ⟨0, j, by simp, by omega, h⟩
    · rw [List.getElem?_append_right (by omega), h3] at h
      obtain ⟨i, r, hi, e, hu⟩ := ih _ _ h
      exact ⟨i + 1, r, by simpa using hi, by omega, hu⟩
theorem flat_len (l : List In) : (l.flatMap encI).length = l.length * 3 := by
  induction l with
  | nil => rfl
  | cons x l ih => rw [List.flatMap_cons, List.length_append, ih, List.length_cons]; show 3 + _ = _; omega
theorem C_flat {w : World} {A : Option Addr} {l : List In} (h : Kd.C kin w A l.length l) : ∀ b, A = some b → ∀ j u, (l.flatMap encI)[j]? = some u → w.cell? (b.add j) = some u := by
  rintro b rfl j u hu
  obtain ⟨i, r, hi, rfl, hr⟩ := flat_get l j u hu
  obtain ⟨ad, e, x0, x1, x2⟩ := at_in h i hi
  obtain rfl := Option.some.inj e
  have h3 : (encI l[i]).length = 3 := rfl
  have : r < 3 := by have := (List.getElem?_eq_some_iff.1 hr).1; omega
  have : r = 0 ∨ r = 1 ∨ r = 2 := by omega
  rcases this with rfl | rfl | rfl
  · rw [← Option.some.inj hr]; exact x0
  · rw [← Option.some.inj hr]; exact x1
  · rw [← Option.some.inj hr]; exact x2
theorem reps_flat (R : In → List Value → Prop) (hR : ∀ x, R x (encI x)) (l : List In) : Reps R 3 l (l.flatMap encI) := by
  induction l with
  | nil => exact Reps.none _ _
  | cons x l ih =>
    rw [List.flatMap_cons]
    have h1 : Reps R 3 ([] ++ [x]) ([] ++ encI x) := Reps.snoc (Reps.none _ _) (hR x) rfl
    exact Kd.reps_append h1 ih
theorem RowS.ofR {e : Nat} {w : World} {base : Nat} {Z : Nat → Prop} {v : Value} {l : List In} (h : Kd.R kin e w base Z v l) : RowS w Z v l := by
  obtain ⟨A, c, rfl⟩ := Kd.R_slice h
  exact ⟨A, c, rfl, (Kd.R_reads' h).2.1, fun w' hw' => (Kd.R_reads' (Kd.R_move h hw')).2.2⟩
theorem RowS.snoc {w : World} {B n : Nat} {v : Value} {l : List In} {x : In} (h : w.ownsRow B 24 3 v n (l.flatMap encI ++ encI x)) (hn : n = l.length + 1) : RowS w (fun k => B ≤ k ∧ k < w.heap.size) v (l ++ [x]) := by
  have e : l.flatMap encI ++ encI x = (l ++ [x]).flatMap encI := by simp [List.flatMap_append, List.flatMap_cons, List.flatMap_nil]
  rw [e] at h
  have hR : Kd.R kin 24 w B (fun _ => True) v (l ++ [x]) := ⟨fun _ _ => trivial, _, by rw [hn] at h; rw [List.length_append]; exact h, reps_flat _ (fun y => kin_mkM _ _ _ y) _⟩
  exact RowS.ofR (Kd.R_mono (Kd.R_bound hR) (fun k hk => ⟨hk.2.1, hk.2.2.1⟩))
/-- inputs from frame fr on come to a column; n is how many were new -/
def addGo (c : Col) (fr : Int) (i : Nat) : List In → Int → Col × Int
  | [], n => (c, n)
  | x :: r, n =>
    if rightI x = false ∨ (c.l.length : Int) < fr ∨ (c.l.length : Int) - fr < i then (c, n)
    else if (i : Int) < (c.l.length : Int) - fr then addGo c fr (i + 1) r n
    else if (c.d = true ∧ c.e ≤ c.l.length) ∨ 10000 ≤ (c.l.length : Int) then (c, n)
    else addGo ⟨c.l ++ [x], c.e, c.d⟩ fr (i + 1) r (n + 1)
def add_ (cs : List Col) (p fr : Int) (xs : List In) : Int × List Col :=
  if isP cs p ∧ 0 ≤ fr then ((addGo (cAt cs p) fr 0 xs 0).2, cs.set (p.toNat - 1) (addGo (cAt cs p) fr 0 xs 0).1) else (0, cs)
theorem add_no {cs : List Col} {p fr : Int} {xs : List In} (h : ¬ (isP cs p ∧ 0 ≤ fr)) : add_ cs p fr xs = (0, cs) := by unfold add_; rw [if_neg h]
theorem add_yes {cs : List Col} {p fr : Int} {xs : List In} (h1 : isP cs p) (h2 : 0 ≤ fr) : add_ cs p fr xs = ((addGo (cAt cs p) fr 0 xs 0).2, cs.set (p.toNat - 1) (addGo (cAt cs p) fr 0 xs 0).1) := by unfold add_; rw [if_pos ⟨h1, h2⟩]
/-- what holds ahead of a round of Add -/
structure AddI (w0 w W : World) (base g ga : Nat) (Z : Nat → Prop) (cs : List Col) (p fr : Int) (xs : List In) (i : Nat) (n : Int) (c : Col) : Prop where
  below : Below base w0 W
  size : w.heap.size ≤ W.heap.size
  frame : ∀ k, k < w.heap.size → k ≠ ga → W.heap[k]? = w.heap[k]?
  tab : ∃ Z' : Nat → Prop, (∀ k, Z k → Z' k) ∧ (∀ k, Z' k → Z k ∨ w.heap.size ≤ k) ∧ (∀ k, Z' k → k < W.heap.size) ∧ TabG W g ga Z' (cs.set (p.toNat - 1) c)
  go : addGo (cAt cs p) fr 0 xs 0 = addGo c fr i (xs.drop i) n
  n : 0 ≤ n ∧ n ≤ i
  len : c.l.length ≤ 10000 ∧ I64 c.e
section
variable {w0 w W W2 : World} {base g ga : Nat} {Z : Nat → Prop} {cs : List Col} {p fr : Int} {xs : List In} {i : Nat} {n : Int} {c : Col}
theorem AddI.step (h : AddI w0 w W base g ga Z cs p fr xs i n c) (hb : Below W.heap.size W W2) (hbase : base ≤ w.heap.size) (hl : g < w.heap.size ∧ ga < w.heap.size) : AddI w0 w W2 base g ga Z cs p fr xs i n c := by
  obtain ⟨Z', h1, h2, h3, h4⟩ := h.tab
  have hs := h.size
  exact ⟨h.below.trans (hb.mono (by omega)), Nat.le_trans hs hb.size, fun k hk hne => (hb.block k (by omega)).trans (h.frame k hk hne), ⟨Z', h1, h2, fun k hk => Nat.lt_of_lt_of_le (h3 k hk) hb.size, h4.below (hb.block _ (by omega)) (hb.block _ (by omega)) (fun k hk => hb.block k (h3 k hk))⟩, h.go, h.n, h.len⟩
theorem AddI.pl (h : AddI w0 w W base g ga Z cs p fr xs i n c) (hp : isP cs p) : ∃ A cp, W.cell? ⟨ga, (p.toNat - 1) * 3, none⟩ = some (.slice A c.l.length cp) ∧ W.cell? ⟨ga, (p.toNat - 1) * 3 + 1, none⟩ = some (.int .i64 c.e) ∧ W.cell? ⟨ga, (p.toNat - 1) * 3 + 2, none⟩ = some (.bool c.d) ∧ c.l.length ≤ cp ∧ Kd.C kin W A c.l.length c.l ∧ (∀ t, W.frozen? ⟨ga, t, none⟩ = false) := by
  obtain ⟨Z', h1, h2, h3, h4⟩ := h.tab
  have hj : p.toNat - 1 < cs.length := by unfold isP at hp; omega
  have hp' : isP (cs.set (p.toNat - 1) c) p := by unfold isP at hp ⊢; rw [List.length_set]; exact hp
  obtain ⟨A, cp, c1, c2, c3, hc, hr, hf⟩ := h4.pl hp'
  have e : cAt (cs.set (p.toNat - 1) c) p = c := by rw [cAt_get (by rw [List.length_set]; exact hj), List.getElem_set_self]
  rw [e] at c1 c2 c3 hc hr
  exact ⟨A, cp, c1, c2, c3, hc, hr _ (fun _ _ => rfl), hf⟩
/-- the round's end: nothing comes in -/
theorem AddI.next (h : AddI w0 w W base g ga Z cs p fr xs i n c) {x : In} (hi : i < xs.length) (hx : xs[i] = x) (h1 : rightI x = true) (h2 : fr ≤ c.l.length) (h3 : (i : Int) < (c.l.length : Int) - fr) : AddI w0 w W base g ga Z cs p fr xs (i + 1) n c := by
  refine ⟨h.below, h.size, h.frame, h.tab, ?_, ⟨h.n.1, by have := h.n.2; omega⟩, h.len⟩
  rw [h.go, List.drop_eq_getElem_cons hi, hx, addGo, if_neg (by rintro (e | e | e) <;> first | omega | (rw [h1] at e; cases e)), if_pos h3]
theorem AddI.stop (h : AddI w0 w W base g ga Z cs p fr xs i n c) {x : In} (hi : i < xs.length) (hx : xs[i] = x) (h1 : rightI x = false ∨ (c.l.length : Int) < fr ∨ (c.l.length : Int) - fr < i ∨ ((i : Int) = (c.l.length : Int) - fr ∧ ((c.d = true ∧ c.e ≤ c.l.length) ∨ 10000 ≤ (c.l.length : Int)))) : addGo (cAt cs p) fr 0 xs 0 = (c, n) := by
  rw [h.go, List.drop_eq_getElem_cons hi, hx, addGo]
  by_cases h2 : rightI x = false ∨ (c.l.length : Int) < fr ∨ (c.l.length : Int) - fr < i
  · rw [if_pos h2]
  · have h3 : (i : Int) = (c.l.length : Int) - fr ∧ ((c.d = true ∧ c.e ≤ c.l.length) ∨ 10000 ≤ (c.l.length : Int)) := by
      rcases h1 with h1 | h1 | h1 | h1
      · exact absurd (.inl h1) h2
      · exact absurd (.inr (.inl h1)) h2
      · exact absurd (.inr (.inr h1)) h2
      · exact h1
    rw [if_neg h2, if_neg (by omega), if_pos h3.2]
theorem AddI.stop0 (h : AddI w0 w W base g ga Z cs p fr xs i n c) (hi : ¬ i < xs.length) : addGo (cAt cs p) fr 0 xs 0 = (c, n) := by
  rw [h.go, List.drop_of_length_le (by omega), addGo]
/-- an input comes in: W2 is memory behind append; its field is stored -/
theorem AddI.put (h : AddI w0 w W base g ga Z cs p fr xs i n c) (hga : base ≤ ga) (hl : g < w.heap.size ∧ ga < w.heap.size) (hp : isP cs p) {x : In} (hi : i < xs.length) (hx : xs[i] = x) (h1 : rightI x = true) (h2 : fr ≤ c.l.length) (h3 : (i : Int) = (c.l.length : Int) - fr) (h4 : ¬ ((c.d = true ∧ c.e ≤ c.l.length) ∨ 10000 ≤ (c.l.length : Int)))
    {v : Value} {m : Nat} {B : Nat} (hB : w.heap.size ≤ B) (hv : W.ownsRow B 24 3 v m (c.l.flatMap encI ++ encI x)) (hm : m = c.l.length + 1) : AddI w0 w (W.setCell ⟨ga, (p.toNat - 1) * 3, none⟩ v) base g ga Z cs p fr xs (i + 1) (n + 1) ⟨c.l ++ [x], c.e, c.d⟩ := by
  obtain ⟨Z', z1, z2, z3, z4⟩ := h.tab
  have hj : p.toNat - 1 < cs.length := by unfold isP at hp; omega
  refine ⟨h.below.setCell hga _, by simpa [World.setCell] using h.size, fun k hk hne => (far_set k hne).trans (h.frame k hk hne), ⟨fun k => Z' k ∨ (B ≤ k ∧ k < W.heap.size), fun k hk => .inl (z1 k hk), ?_, ?_, ?_⟩, ?_, ⟨by have := h.n.1; omega, by have := h.n.2; omega⟩, ⟨by simp; omega, h.len.2⟩⟩
  · rintro k (hk | hk)
    · exact z2 k hk
    · exact .inr (by omega)
  · rintro k (hk | hk)
    · simpa [World.setCell] using z3 k hk
    · simpa [World.setCell] using hk.2
  · have hT := z4.put0 (Z' := fun k => Z' k ∨ (B ≤ k ∧ k < W.heap.size)) (p.toNat - 1) (by rw [List.length_set]; exact hj) v (c.l ++ [x]) (fun k hk => .inl hk) (fun hk => hk.elim z4.ng (fun h => absurd h.1 (by omega))) (fun hk => hk.elim z4.na (fun h => absurd h.1 (by omega))) ((RowS.snoc hv hm).weak (fun k hk => .inr hk))
    rw [List.getElem_set_self, List.set_set] at hT
    exact hT
  · rw [h.go, List.drop_eq_getElem_cons hi, hx, addGo, if_neg (by rintro (e | e | e) <;> first | omega | (rw [h1] at e; cases e)), if_neg (by omega), if_neg h4]
end
end Go.Proofs.Ytkgjokidfbpnbaa.InW
