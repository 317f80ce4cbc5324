/- A table of inputs in memory: what is told of it, and how its columns lie. No condition. -/
import Derived.Test.YtkgjokidfbpnbaaSep
import Derived.LoopN
import Derived.Deep.RegionHeld3
import Derived.Deep.RegionLawGrows
namespace Go.Proofs.Ytkgjokidfbpnbaa.InW
open Go.RowKit Go.Proofs.YtkgjokidfbpnbaaW.PrintWords Go.Proofs.YtkgjokidfbpnbaaW.PrintLast Go.Proofs.YtkgjokidfbpnbaaW.PrintMore Go.Proofs.Ytkgjokidfbpnbaa.Sep
attribute [local go_sem] max2_int min2_int max_two min_two max_three min_three max_four min_four   -- for this text's walks alone
set_option linter.unusedVariables false
set_option linter.unusedSimpArgs false
/-- an input: its two steps, and fire -/
abbrev In := Int × Int × Bool
def kin : Kd In := Kd.pair (Kd.int .i64) (Kd.pair (Kd.int .i64) Kd.bool)
def encI (x : In) : List Value := [.int .i64 x.1, .int .i64 x.2.1, .bool x.2.2]
/-- what one has of a player: the inputs, the end, is it known -/
structure Col where
  l : List In
  e : Int
  d : Bool
theorem kin_K {w : World} {x : In} {cs : List Value} (h : kin.K w x cs) : cs = encI x := by
  obtain ⟨_, _, rfl, rfl, ⟨_, _, rfl, rfl, rfl⟩⟩ := h
  rfl
theorem kin_mk (w : World) (x : In) : kin.K w x (encI x) := ⟨[.int .i64 x.1], [.int .i64 x.2.1, .bool x.2.2], rfl, rfl, ⟨[.int .i64 x.2.1], [.bool x.2.2], rfl, rfl, rfl⟩⟩
theorem kin_mkM (w : World) (base : Nat) (ok : Nat → Prop) (x : In) : kin.M w base ok x (encI x) := ⟨[.int .i64 x.1], [.int .i64 x.2.1, .bool x.2.2], rfl, rfl, ⟨[.int .i64 x.2.1], [.bool x.2.2], rfl, rfl, rfl⟩⟩
theorem kin_sz : kin.sz = 3 := rfl
/-- the cells of element j of a row of inputs -/
theorem at_in {w : World} {A : Option Addr} {n : Nat} {l : List In} (h : Kd.C kin w A n l) (j : Nat) (hj : j < l.length) : ∃ ad, A = some ad ∧ w.cell? (ad.add (j * 3)) = some (.int .i64 l[j].1) ∧ w.cell? (ad.add (j * 3 + 1)) = some (.int .i64 l[j].2.1) ∧ w.cell? (ad.add (j * 3 + 2)) = some (.bool l[j].2.2) := by
  obtain ⟨hl, _, hn⟩ := h
  obtain ⟨ad, rfl, hc⟩ := hn (by omega)
  obtain ⟨cs, hcs, hK, hcc⟩ := hc j l[j] (List.getElem?_eq_getElem hj)
  have e := kin_K hK
  subst e
  exact ⟨ad, rfl, hcc 0 _ rfl, hcc 1 _ rfl, hcc 2 _ rfl⟩
/-- a row that reads in every world that agrees on Z -/
def RowS (w : World) (Z : Nat → Prop) (v : Value) (l : List In) : Prop := ∃ A c, v = .slice A l.length c ∧ l.length ≤ c ∧ ∀ w' : World, (∀ k, Z k → w'.heap[k]? = w.heap[k]?) → Kd.C kin w' A l.length l
theorem RowS.step {w w' : World} {Z Z' : Nat → Prop} {v : Value} {l : List In} (h : RowS w Z v l) (hz : ∀ k, Z k → Z' k) (hw : ∀ k, Z k → w'.heap[k]? = w.heap[k]?) : RowS w' Z' v l := by
  obtain ⟨A, c, e, hc, hr⟩ := h
  exact ⟨A, c, e, hc, fun w2 h2 => hr w2 (fun k hk => (h2 k (hz k hk)).trans (hw k hk))⟩
theorem RowS.nil (w : World) (Z : Nat → Prop) : RowS w Z (.slice none 0 0) [] := ⟨none, 0, rfl, Nat.le_refl _, fun w' _ => Kd.C_nil _ _⟩
/-- the cells of columns, one behind the other -/
def flatC : List (Value × Int × Bool) → List Value
  | [] => []
  | x :: r => x.1 :: .int .i64 x.2.1 :: .bool x.2.2 :: flatC r
theorem flatC_len : ∀ vs : List (Value × Int × Bool), (flatC vs).length = 3 * vs.length := by
  intro vs
  induction vs with
  | nil => rfl
  | cons x r ih => simp only [flatC, List.length_cons, ih]; omega
theorem flatC_get : ∀ (vs : List (Value × Int × Bool)) (j : Nat) (h : j < vs.length), (flatC vs)[3 * j]? = some vs[j].1 ∧ (flatC vs)[3 * j + 1]? = some (.int .i64 vs[j].2.1) ∧ (flatC vs)[3 * j + 2]? = some (.bool vs[j].2.2) := by
  intro vs
  induction vs with
  | nil => intro j h; simp at h
  | cons x r ih =>
    intro j h
    cases j with
    | zero => exact ⟨rfl, rfl, rfl⟩
    | succ j =>
      obtain ⟨h1, h2, h3⟩ := ih j (by simpa using h)
      refine ⟨?_, ?_, ?_⟩
      · rw [show 3 * (j + 1) = 3 * j + 1 + 1 + 1 from by omega]; simpa [flatC] using h1
      · rw [show 3 * (j + 1) + 1 = 3 * j + 1 + 1 + 1 + 1 from by omega]; simpa [flatC] using h2
      · rw [show 3 * (j + 1) + 2 = 3 * j + 2 + 1 + 1 + 1 from by omega]; simpa [flatC] using h3
theorem flatC_set0 : ∀ (vs : List (Value × Int × Bool)) (j : Nat) (h : j < vs.length) (v : Value), (flatC vs).set (3 * j) v = flatC (vs.set j (v, vs[j].2)) := by
  intro vs
  induction vs with
  | nil => intro j h; simp at h
  | cons x r ih =>
    intro j h v
    cases j with
    | zero => rfl
    | succ j =>
      rw [show 3 * (j + 1) = 3 * j + 1 + 1 + 1 from by omega]
      simp only [flatC, List.set_cons_succ, List.getElem_cons_succ]
      rw [ih j (by simpa using h)]
theorem flatC_set1 : ∀ (vs : List (Value × Int × Bool)) (j : Nat) (h : j < vs.length) (e : Int), (flatC vs).set (3 * j + 1) (.int .i64 e) = flatC (vs.set j (vs[j].1, e, vs[j].2.2)) := by
  intro vs
  induction vs with
  | nil => intro j h; simp at h
  | cons x r ih =>
    intro j h v
    cases j with
    | zero => rfl
    | succ j =>
      rw [show 3 * (j + 1) + 1 = 3 * j + 1 + 1 + 1 + 1 from by omega]
      simp only [flatC, List.set_cons_succ, List.getElem_cons_succ]
      rw [ih j (by simpa using h)]
theorem flatC_set2 : ∀ (vs : List (Value × Int × Bool)) (j : Nat) (h : j < vs.length) (d : Bool), (flatC vs).set (3 * j + 2) (.bool d) = flatC (vs.set j (vs[j].1, vs[j].2.1, d)) := by
  intro vs
  induction vs with
  | nil => intro j h; simp at h
  | cons x r ih =>
    intro j h v
    cases j with
    | zero => rfl
    | succ j =>
      rw [show 3 * (j + 1) + 2 = 3 * j + 2 + 1 + 1 + 1 from by omega]
      simp only [flatC, List.set_cons_succ, List.getElem_cons_succ]
      rw [ih j (by simpa using h)]
/-- a table at block g, its columns at block ga; their rows read within Z -/
structure TabG (w : World) (g ga : Nat) (Z : Nat → Prop) (cs : List Col) : Prop where
  ne : g ≠ ga
  ng : ¬ Z g
  na : ¬ Z ga
  tbl : ∃ c, w.heap[g]? = some (.cells #[.slice (some ⟨ga, 0, none⟩) cs.length c] 57 (0, 0)) ∧ cs.length ≤ c
  cols : ∃ (vs : List (Value × Int × Bool)) (zs : List Value), w.heap[ga]? = some (.cells (flatC vs ++ zs).toArray 62 (0, 0)) ∧ vs.length = cs.length ∧ ∀ j (h1 : j < vs.length) (h2 : j < cs.length), vs[j].2.1 = cs[j].e ∧ vs[j].2.2 = cs[j].d ∧ RowS w Z vs[j].1 cs[j].l
/-- a table, and nobody shares what it leads to -/
def tab (g : Nat) (cs : List Col) : Asr where
  P w S := (∀ k, S k → k < w.heap.size) ∧ S g ∧ ∃ ga, S ga ∧ TabG w g ga (fun k => S k ∧ k ≠ g ∧ k ≠ ga) cs
  loc := by
    rintro w w' S ⟨h1, h2, ga, h3, h4⟩ hz hs
    refine ⟨fun k hk => Nat.lt_of_lt_of_le (h1 k hk) hz, h2, ga, h3, h4.ne, h4.ng, h4.na, ?_, ?_⟩
    · obtain ⟨c, h5, h6⟩ := h4.tbl
      exact ⟨c, (hs g h2).trans h5, h6⟩
    · obtain ⟨vs, zs, h5, h6, h7⟩ := h4.cols
      exact ⟨vs, zs, (hs ga h3).trans h5, h6, fun j a b => ⟨(h7 j a b).1, (h7 j a b).2.1, (h7 j a b).2.2.step (fun k hk => hk) (fun k hk => hs k hk.1)⟩⟩
  lt := fun h => h.1
/-- the cells of a column -/
theorem TabG.cell {w : World} {g ga : Nat} {Z : Nat → Prop} {cs : List Col} (h : TabG w g ga Z cs) (j : Nat) (hj : j < cs.length) : ∃ v, w.cell? ⟨ga, j * 3, none⟩ = some v ∧ w.cell? ⟨ga, j * 3 + 1, none⟩ = some (.int .i64 cs[j].e) ∧ w.cell? ⟨ga, j * 3 + 2, none⟩ = some (.bool cs[j].d) ∧ RowS w Z v cs[j].l ∧ (∀ t, w.frozen? ⟨ga, t, none⟩ = false) := by
  obtain ⟨vs, zs, h5, h6, h7⟩ := h.cols
  have hjv : j < vs.length := by omega
  obtain ⟨c1, c2, c3⟩ := flatC_get vs j hjv
  rw [Nat.mul_comm 3 j] at c1 c2 c3
  obtain ⟨r1, r2, r3⟩ := h7 j hjv hj
  have hl := flatC_len vs
  have look : ∀ t u, (flatC vs)[t]? = some u → w.cell? ⟨ga, t, none⟩ = some u := by
    intro t u hu
    have ht : t < (flatC vs).length := (List.getElem?_eq_some_iff.1 hu).1
    have := blk_cell h5 t
    rw [this]
    simp [List.getElem?_append_left ht, hu]
  exact ⟨vs[j].1, look _ _ c1, by rw [← r1]; exact look _ _ c2, by rw [← r2]; exact look _ _ c3, r3, fun t => blk_frozen h5 t⟩
end Go.Proofs.Ytkgjokidfbpnbaa.InW
