/- What the law BytesRead comes to: true of all bytes, and whatever is asked for. No condition. -/
import Derived.Test.YtoibgnhfpcaejaaPBytesReadz3
import Derived.Test.YtoibgnhfpcaejaaBytesAwake
import Derived.Test.YtoibgnhfpcaejaaBytesV
import Derived.StillTailTactics
namespace Go.Proofs.Ytoibgnhfpcaejaa.PBytesRead
open Go.RowKit Go.Proofs.YtoibgnhfpcaejaaW.PrintWords Go.Proofs.YtoibgnhfpcaejaaW.PrintLast Go.Proofs.YtoibgnhfpcaejaaW.PrintMore Go.Proofs.Ytoibgnhfpcaejaa.BytesW Go.Proofs.Ytoibgnhfpcaejaa.Sep
attribute [local go_sem] max2_int min2_int max_two min_two max_three min_three max_four min_four   -- for this text's walks alone
set_option linter.unusedVariables false
set_option linter.unusedSimpArgs false
theorem ruw64 (i : Int) : IntKind.u64.wrap i = i % 18446744073709551616 := by simp [IntKind.wrap, IntKind.signed, IntKind.bits]
theorem w64 {i : Int} (h0 : -9223372036854775808 ≤ i) (h1 : i ≤ 9223372036854775807) : wrap64 i = i := by unfold wrap64; omega
/-- what the document's reader answers, where it stands then, and what is wrong -/
def refInt (B : List Int) (a : Nat) (e : Int) : Int × Nat × Int :=
  if e ≠ 0 then (0, a, e) else
  match endAt (B.drop a) with
  | none => (0, a, 5)
  | some n => if 9 ≤ n ∨ (0 < n ∧ (B.drop a).getD n 0 = 0) then (0, a, 4) else (unzig (valB ((B.drop a).take (n + 1))), a + (n + 1), 0)
theorem rd_at {B : List Int} {i : Nat} (h : i < B.length) : rd B (i : Int) = B[i] := by simp [rd, List.getD_eq_getElem?_getD, h]
theorem ref_l0 (B : List Int) (a : Nat) (hB : B.length ≤ 1000000) : ∀ (d k i : Nat), (∀ j (h : j < B.length), i ≤ j → j < i + d → 128 ≤ B[j]) → i + d ≤ B.length → joustref12_Reader_Int.l0 (k + d) (i : Int) B (a : Int) 0 = joustref12_Reader_Int.l0 k ((i + d : Nat) : Int) B (a : Int) 0 := by
  intro d
  induction d with
  | zero => intro k i _ _; rfl
  | succ d ih =>
    intro k i h1 h2
    have hi : i < B.length := by omega
    have e1 : joustref12_Reader_Int.l0 (k + d + 1) (i : Int) B (a : Int) 0 = joustref12_Reader_Int.l0 (k + d) ((i + 1 : Nat) : Int) B (a : Int) 0 := by
      simp only [joustref12_Reader_Int.l0]
      rw [if_pos (by omega), if_pos (by omega), rd_at hi, if_pos (h1 i hi (Nat.le_refl _) (by omega)), w64 (by omega) (by omega)]
      rfl
    rw [← Nat.add_assoc, e1, ih k (i + 1) (fun j h hj1 hj2 => h1 j h (by omega) (by omega)) (by omega), show i + 1 + d = i + (d + 1) from by omega]
theorem ref_l1 (B : List Int) (a : Nat) (hB : B.length ≤ 1000000) (hx : ∀ x ∈ B, 0 ≤ x ∧ x < 256) (n : Nat) (hn : a + n < B.length) (hn8 : n ≤ 8) : ∀ (m t k : Nat), m + t = n + 1 →
    joustref12_Reader_Int.l1 (k + m + 1) ((a + n : Nat) : Int) ((valB ((B.drop (a + m)).take t) : Nat) : Int) (((a + m : Nat) : Int) - 1) B (a : Int) 0 = some (unzig (valB ((B.drop a).take (n + 1))), ((a + (n + 1) : Nat) : Int), 0) := by
  intro m
  induction m with
  | zero =>
    intro t k ht
    obtain ⟨u, hu⟩ : ∃ u, valB ((B.drop a).take (n + 1)) = u := ⟨_, rfl⟩
    have ht' : t = n + 1 := by omega
    subst ht'
    simp only [Nat.add_zero]
    rw [hu]
    have hlt : u < 9223372036854775808 := by
      rw [← hu]
      refine Nat.lt_of_lt_of_le (valB_lt _) ?_
      rw [List.length_take]
      exact Nat.le_trans (Nat.pow_le_pow_right (by decide) (show min (n + 1) (B.drop a).length ≤ 9 by omega)) (by decide)
    simp only [joustref12_Reader_Int.l1]
    rw [if_neg (by omega)]
    have e2 : IntKind.u64.wrap (Int.tdiv (u : Int) 2) = ((u / 2 : Nat) : Int) := by
      rw [ruw64, Int.tdiv_eq_ediv_of_nonneg (by omega)]
      omega
    have e3 : Int.tmod (u : Int) 2 = ((u % 2 : Nat) : Int) := by
      rw [Int.tmod_eq_emod_of_nonneg (by omega)]; omega
    rw [e2, e3, w64 (show -9223372036854775808 ≤ ((u / 2 : Nat) : Int) by omega) (by omega), w64 (show -9223372036854775808 ≤ ((a + n : Nat) : Int) + 1 by omega) (by omega)]
    unfold unzig
    by_cases hp : u % 2 = 1
    · rw [if_pos (by omega), if_pos hp, w64 (show -9223372036854775808 ≤ -((u / 2 : Nat) : Int) by omega) (by omega), w64 (show -9223372036854775808 ≤ -((u / 2 : Nat) : Int) - 1 by omega) (by omega)]
      rfl
    · rw [if_neg (by omega), if_neg hp]
      rfl
  | succ m ih =>
    intro t k ht
    have hl : a + m < B.length := by omega
    have hv : valB ((B.drop (a + (m + 1))).take t) < 72057594037927936 := by
      refine Nat.lt_of_lt_of_le (valB_lt _) ?_
      rw [List.length_take]
      exact Nat.le_trans (Nat.pow_le_pow_right (by decide) (show min t (B.drop (a + (m + 1))).length ≤ 8 by omega)) (by decide)
    obtain ⟨u, hu⟩ : ∃ u, valB ((B.drop (a + (m + 1))).take t) = u := ⟨_, rfl⟩
    have hxx := hx _ (List.getElem_mem hl)
    have hstep : valB ((B.drop (a + m)).take (t + 1)) = B[a + m].toNat % 128 + 128 * u := by
      rw [List.drop_eq_getElem_cons hl, List.take_succ_cons, valB, show a + m + 1 = a + (m + 1) from by omega, hu]
    rw [hu] at hv ⊢
    have e0 : ((a + (m + 1) : Nat) : Int) - 1 = ((a + m : Nat) : Int) := by omega
    rw [e0]
    have e1 : ∀ K : Nat, joustref12_Reader_Int.l1 (K + 1) ((a + n : Nat) : Int) (u : Int) ((a + m : Nat) : Int) B (a : Int) 0 = joustref12_Reader_Int.l1 K ((a + n : Nat) : Int) ((B[a + m].toNat % 128 + 128 * u : Nat) : Int) (((a + m : Nat) : Int) - 1) B (a : Int) 0 := by
      intro K
      simp only [joustref12_Reader_Int.l1]
      rw [if_pos (by omega), if_pos (by omega), if_pos (by omega), rd_at hl, w64 (show -9223372036854775808 ≤ ((a + m : Nat) : Int) - 1 by omega) (by omega)]
      have e4 : IntKind.u64.wrap (IntKind.u64.wrap ((u : Int) * 128) + IntKind.u64.wrap (Int.tmod B[a + m] 128)) = ((B[a + m].toNat % 128 + 128 * u : Nat) : Int) := by
        rw [Int.tmod_eq_emod_of_nonneg hxx.1, ruw64, ruw64, ruw64]
        omega
      rw [e4]
    rw [e1, show k + (m + 1) = k + m + 1 from by omega, ← hstep, ih (t + 1) k (by omega)]
theorem refInt_eq (B : List Int) (a : Nat) (e : Int) (hB : B.length ≤ 1000000) (ha : a ≤ B.length) (hx : ∀ x ∈ B, 0 ≤ x ∧ x < 256) :
    joustref12_Reader_Int.f (B.length + 20) B (a : Int) e = some ((refInt B a e).1, ((refInt B a e).2.1 : Int), (refInt B a e).2.2) := by
  unfold joustref12_Reader_Int.f refInt
  by_cases he : e = 0
  · subst he
    rw [if_pos rfl, if_neg (by decide)]
    cases hE : endAt (B.drop a) with
    | none =>
      have h1 := endAt_no _ hE
      have hsc := ref_l0 B a hB (B.length - a) (20 + a) a (fun j h hj1 hj2 => by
        have := h1 (j - a) (by rw [List.length_drop]; omega)
        rw [List.getElem_drop] at this
        simpa [show a + (j - a) = j from by omega] using this) (by omega)
      rw [show B.length + 20 = 20 + a + (B.length - a) from by omega, hsc, show a + (B.length - a) = B.length from by omega]
      simp only [joustref12_Reader_Int.l0, joustref12_Reader_Int.j1, joustref12_Reader_fail.f]
      rw [show 20 + a = 19 + a + 1 from by omega]
      simp only [joustref12_Reader_Int.l0]
      rw [if_neg (by omega), show 19 + a = 18 + a + 1 from by omega]
      simp only [joustref12_Reader_Int.j1, joustref12_Reader_fail.f]
      rw [if_pos (by omega), if_pos trivial]
      rfl
    | some n =>
      obtain ⟨hn, h1, h2⟩ := endAt_spec _ _ hE
      rw [List.length_drop] at hn
      rw [List.getElem_drop] at h1
      have hal : a + n < B.length := by omega
      have hsc := ref_l0 B a hB n (B.length + 20 - n) a (fun j h hj1 hj2 => by
        have := h2 (j - a) (by rw [List.length_drop]; omega) (by omega)
        rw [List.getElem_drop] at this
        simpa [show a + (j - a) = j from by omega] using this) (by omega)
      have hgd : (B.drop a).getD n 0 = B[a + n] := by
        rw [List.getD_eq_getElem?_getD, List.getElem?_drop, List.getElem?_eq_getElem hal]; rfl
      rw [show B.length + 20 = B.length + 20 - n + n from by omega, hsc]
      obtain ⟨K, hK⟩ : ∃ K, B.length + 20 - n = K + 13 := ⟨B.length + 20 - n - 13, by omega⟩
      rw [hK]
      dsimp only
      simp only [joustref12_Reader_Int.l0]
      rw [if_pos (by omega), if_pos (by omega), rd_at hal, if_neg (by omega)]
      simp only [joustref12_Reader_Int.j1]
      have ew : wrap64 (wrap64 (((a + n : Nat) : Int) - (a : Int)) + 1) = (n : Int) + 1 := by rw [w64 (show -9223372036854775808 ≤ ((a + n : Nat) : Int) - (a : Int) by omega) (by omega), w64 (show -9223372036854775808 ≤ ((a + n : Nat) : Int) - (a : Int) + 1 by omega) (by omega)]; omega
      rw [if_neg (by omega), ew]
      have hfin : ¬ 9 ≤ n → joustref12_Reader_Int.l1 (K + 10) ((a + n : Nat) : Int) 0 ((a + n : Nat) : Int) B (a : Int) 0 = some (unzig (valB ((B.drop a).take (n + 1))), ((a + (n + 1) : Nat) : Int), 0) := by
        intro h9
        have := ref_l1 B a hB hx n hal (by omega) (n + 1) 0 (K + 10 - (n + 1) - 1) (by omega)
        rw [show K + 10 - (n + 1) - 1 + (n + 1) + 1 = K + 10 from by omega, List.take_zero, show ((a + (n + 1) : Nat) : Int) - 1 = ((a + n : Nat) : Int) from by omega] at this
        exact this
      by_cases h9 : 9 ≤ n
      · rw [if_pos (by omega), if_pos (.inl h9)]
        simp only [joustref12_Reader_Int.j2, joustref12_Reader_fail.f]
        rw [if_pos trivial, if_pos trivial]
        rfl
      · rw [if_neg (by omega)]
        by_cases h0 : 0 < n
        · rw [if_pos (by omega), if_pos (by omega), if_pos (by omega)]
          by_cases hz : B[a + n] = 0
          · rw [if_pos (.inr ⟨h0, hgd.trans hz⟩), rd_at hal, hz]
            simp only [joustref12_Reader_Int.j2, joustref12_Reader_fail.f]
            (first | rw [if_pos (by decide), if_pos trivial] | rw [if_pos trivial])
            rfl
          · rw [if_neg (by rw [hgd]; omega)]
            simp only [joustref12_Reader_Int.j2]
            rw [rd_at hal, if_neg (by simpa using hz)]
            exact hfin h9
        · rw [if_neg (by omega), if_neg (by rw [hgd]; omega)]
          simp only [joustref12_Reader_Int.j2]
          rw [if_neg (by decide)]
          exact hfin h9
  · rw [if_neg he, if_pos he]
/-- the document's reader at block g: its bytes came in by w0 -/
def refr (w0 : World) (g : Nat) (B : List Int) (a : Nat) (e : Int) : Asr where
  P w S := (∀ k, S k → k < w.heap.size) ∧ S g ∧ IsS47 w0 w g B (a : Int) e
  loc := by
    rintro w w' S ⟨h1, h2, A, c, h3, h4⟩ hz hs
    exact ⟨fun k hk => Nat.lt_of_lt_of_le (h1 k hk) hz, h2, A, c, (hs g h2).trans h3, h4⟩
  lt := fun h => h.1
theorem refr_step {w0 w w' : World} {g : Nat} {B : List Int} {a a2 : Nat} {e e2 : Int} {F : List Asr} (h : Has w0 w0.heap.size w (refr w0 g B a e :: F)) (hI : IsS47 w0 w' g B (a2 : Int) e2) (hB : Below w0.heap.size w0 w') (hk : KeepBut w w' g none) : Has w0 w0.heap.size w' (refr w0 g B a2 e2 :: F) := by
  obtain ⟨S1, ⟨h1, h2, _⟩, hS, hout⟩ := h.out
  exact hout w' (refr w0 g B a2 e2) S1 hB hk.1 ⟨fun k hk' => Nat.lt_of_lt_of_le (h1 k hk') hk.1, h2, hI⟩ (fun k hk => .inl hk) (fun k hlt hn => hk.2 k hlt (fun e => hn (e ▸ h2)) (by simp))
theorem refr_is {w0 w : World} {g : Nat} {B : List Int} {a : Nat} {e : Int} {F : List Asr} (h : Has w0 w0.heap.size w (refr w0 g B a e :: F)) : IsS47 w0 w g B (a : Int) e := by
  obtain ⟨S1, h1, _⟩ := h.first
  exact h1.2.2
theorem refInt.calls (g : Nat) (B : List Int) (a : Nat) (e : Int) (F : List Asr) (w0 w : World) (hB : B.length ≤ 1000000) (ha : a ≤ B.length) (hx : ∀ x ∈ B, 0 ≤ x ∧ x < 256) (h : Has w0 w0.heap.size w (refr w0 g B a e :: F)) :
    Calls Try.prog 21 #[.pointer (some ⟨g, 0, none⟩)] w fun e' w' => e' = .returned (.int .i64 (refInt B a e).1) ∧ Has w0 w0.heap.size w' (refr w0 g B (refInt B a e).2.1 (refInt B a e).2.2 :: F) := by
  refine (joustref12_Reader_Int.calls _ g B a e _ _ _ w0 w (refr_is h) h.below (refInt_eq B a e hB ha hx)).mono ?_
  rintro e' w' ⟨rfl, hI, hB', hk⟩
  exact ⟨rfl, refr_step h hI hB' hk⟩
def refCount (most : Int) (B : List Int) (a : Nat) (e : Int) : Int × Nat × Int :=
  if (refInt B a e).2.2 = 0 then (if (refInt B a e).1 < 0 ∨ most < (refInt B a e).1 then (0, (refInt B a e).2.1, 4) else refInt B a e) else (0, (refInt B a e).2)
theorem refCount_eq (most : Int) (B : List Int) (a : Nat) (e : Int) (hB : B.length ≤ 1000000) (ha : a ≤ B.length) (hx : ∀ x ∈ B, 0 ≤ x ∧ x < 256) :
    joustref12_Reader_Count.f (B.length + 20) B (a : Int) e most = some ((refCount most B a e).1, ((refCount most B a e).2.1 : Int), (refCount most B a e).2.2) := by
  obtain ⟨v, a2, e2, hI⟩ : ∃ v a2 e2, refInt B a e = (v, a2, e2) := ⟨_, _, _, rfl⟩
  unfold joustref12_Reader_Count.f refCount
  rw [refInt_eq B a e hB ha hx, hI]
  simp only [Option.bind_some]
  rw [show B.length + 20 = B.length + 19 + 1 from rfl]
  by_cases he : e2 = 0
  · subst he
    rw [if_pos rfl, if_pos rfl]
    by_cases h1 : v < 0
    · rw [if_pos h1, if_pos (.inl h1)]
      simp only [joustref12_Reader_Count.j0, joustref12_Reader_fail.f]
      simp
    · rw [if_neg h1]
      by_cases h2 : most < v
      · rw [if_pos (.inr h2)]
        simp only [joustref12_Reader_Count.j0, joustref12_Reader_fail.f]
        simp [h2]
      · rw [if_neg (by omega)]
        simp only [joustref12_Reader_Count.j0, joustref12_Reader_fail.f]
        simp [h2]
  · rw [if_neg he, if_neg he]
    simp only [joustref12_Reader_Count.j0]
    simp [he]
theorem refCount.calls (g : Nat) (most : Int) (B : List Int) (a : Nat) (e : Int) (F : List Asr) (w0 w : World) (hB : B.length ≤ 1000000) (ha : a ≤ B.length) (hx : ∀ x ∈ B, 0 ≤ x ∧ x < 256) (h : Has w0 w0.heap.size w (refr w0 g B a e :: F)) :
    Calls Try.prog 24 #[.pointer (some ⟨g, 0, none⟩), .int .i64 most] w fun e' w' => e' = .returned (.int .i64 (refCount most B a e).1) ∧ Has w0 w0.heap.size w' (refr w0 g B (refCount most B a e).2.1 (refCount most B a e).2.2 :: F) := by
  refine (joustref12_Reader_Count.calls _ g B a e most _ _ _ w0 w (refr_is h) h.below (refCount_eq most B a e hB ha hx)).mono ?_
  rintro e' w' ⟨rfl, hI, hB', hk⟩
  exact ⟨rfl, refr_step h hI hB' hk⟩
theorem refLeft.calls (g : Nat) (B : List Int) (a : Nat) (e : Int) (F : List Asr) (w0 w : World) (hB : B.length ≤ 1000000) (ha : a ≤ B.length) (h : Has w0 w0.heap.size w (refr w0 g B a e :: F)) :
    Calls Try.prog 25 #[.pointer (some ⟨g, 0, none⟩)] w fun e' w' => e' = .returned (.int .i64 (if e = 0 then ((B.length - a : Nat) : Int) else 0)) ∧ Has w0 w0.heap.size w' (refr w0 g B a e :: F) := by
  have hl : joustref12_Reader_Left.f B (a : Int) e = some ((if e = 0 then ((B.length - a : Nat) : Int) else 0), (a : Int), e) := by
    unfold joustref12_Reader_Left.f
    by_cases he : e = 0
    · rw [if_pos he, if_pos he, w64 (by omega) (by omega), show (B.length : Int) - (a : Int) = ((B.length - a : Nat) : Int) from by omega]
    · rw [if_neg he, if_neg he]
  refine (joustref12_Reader_Left.calls g B a e _ _ _ w0 w (refr_is h) h.below hl).mono ?_
  rintro e' w' ⟨rfl, hI, hB', hk⟩
  exact ⟨rfl, refr_step h hI hB' hk⟩
def refRaw (B : List Int) (a : Nat) (e : Int) : List Int × Nat × Int :=
  if (refInt B a e).2.2 ≠ 0 then ([], (refInt B a e).2) else if (refInt B a e).1 < 0 then ([], (refInt B a e).2.1, 4) else if ((B.length - (refInt B a e).2.1 : Nat) : Int) < (refInt B a e).1 then ([], (refInt B a e).2.1, 5)
  else ((B.drop (refInt B a e).2.1).take (refInt B a e).1.toNat, (refInt B a e).2.1 + (refInt B a e).1.toNat, 0)
theorem refInt_le (B : List Int) (a : Nat) (e : Int) (ha : a ≤ B.length) : (refInt B a e).2.1 ≤ B.length := by
  unfold refInt
  split
  · exact ha
  · cases hE : endAt (B.drop a) with
    | none => exact ha
    | some n =>
      obtain ⟨hn, _⟩ := endAt_spec _ _ hE
      rw [List.length_drop] at hn
      dsimp only
      split
      · exact ha
      · show a + (n + 1) ≤ B.length
        omega
/-- the two readers stand alike -/
def Alike (B b : List Int) (a : Nat) (e : Int) : Prop := a ≤ B.length ∧ (e = 0 → b = B.drop a) ∧ (e ≠ 0 → b = [])
theorem alike_int {B b : List Int} {a : Nat} {e : Int} (h : Alike B b a e) : (intB b e).1 = (refInt B a e).1 ∧ (intB b e).2.2 = (refInt B a e).2.2 ∧ Alike B (intB b e).2.1 (refInt B a e).2.1 (refInt B a e).2.2 := by
  obtain ⟨ha, h0, h1⟩ := h
  unfold intB refInt
  by_cases he : e = 0
  · subst he
    obtain rfl := h0 rfl
    rw [if_neg (by decide), if_neg (by decide)]
    cases hE : endAt (B.drop a) with
    | none =>
      dsimp only
      exact ⟨rfl, rfl, ha, (fun h => by first | exact absurd (show (4 : Int) = 0 from h) (by decide) | exact absurd (show (5 : Int) = 0 from h) (by decide)), fun _ => rfl⟩
    | some n =>
      obtain ⟨hn, _⟩ := endAt_spec _ _ hE
      rw [List.length_drop] at hn
      dsimp only
      by_cases hc : 9 ≤ n ∨ 0 < n ∧ (B.drop a).getD n 0 = 0
      · rw [if_pos hc, if_pos hc]
        exact ⟨rfl, rfl, ha, (fun h => by first | exact absurd (show (4 : Int) = 0 from h) (by decide) | exact absurd (show (5 : Int) = 0 from h) (by decide)), fun _ => rfl⟩
      · rw [if_neg hc, if_neg hc]
        exact ⟨rfl, rfl, by show a + (n + 1) ≤ B.length; omega, fun _ => by simp [List.drop_drop], fun h => absurd rfl h⟩
  · rw [if_pos he, if_pos he]
    exact ⟨rfl, rfl, ha, fun h => absurd h he, fun h => h1 h⟩
theorem alike_count {B b : List Int} {a : Nat} {e : Int} (most : Int) (h : Alike B b a e) : (countB most b e).1 = (refCount most B a e).1 ∧ (countB most b e).2.2 = (refCount most B a e).2.2 ∧ Alike B (countB most b e).2.1 (refCount most B a e).2.1 (refCount most B a e).2.2 := by
  obtain ⟨h1, h2, h3⟩ := alike_int h
  have hv : (refInt B a e).2.2 ≠ 0 → (refInt B a e).1 = 0 := by
    unfold refInt
    intro hh
    by_cases he : e = 0
    · rw [if_neg (by simpa using he)] at hh ⊢
      cases hE : endAt (B.drop a) with
      | none => rfl
      | some n =>
        rw [hE] at hh
        dsimp only at hh ⊢
        by_cases hc : 9 ≤ n ∨ 0 < n ∧ (B.drop a).getD n 0 = 0
        · rw [if_pos hc]
        · rw [if_neg hc] at hh; exact absurd rfl hh
    · rw [if_pos he]
  unfold countB refCount
  rw [h1, h2]
  by_cases he : (refInt B a e).2.2 = 0
  · rw [if_pos he]
    by_cases hc : (refInt B a e).1 < 0 ∨ most < (refInt B a e).1
    · rw [if_pos ⟨he, hc⟩, if_pos hc]
      exact ⟨rfl, rfl, h3.1, (fun h => by first | exact absurd (show (4 : Int) = 0 from h) (by decide) | exact absurd (show (5 : Int) = 0 from h) (by decide)), fun _ => rfl⟩
    · rw [if_neg (fun h => hc h.2), if_neg hc]
      exact ⟨h1, h2, h3⟩
  · rw [if_neg (fun h => he h.1), if_neg he]
    exact ⟨h1.trans (hv he), h2, h3⟩
theorem alike_raw {B b : List Int} {a : Nat} {e : Int} (h : Alike B b a e) : (rawB b e).1 = (refRaw B a e).1 ∧ (rawB b e).2.2 = (refRaw B a e).2.2 ∧ Alike B (rawB b e).2.1 (refRaw B a e).2.1 (refRaw B a e).2.2 := by
  obtain ⟨h1, h2, h3⟩ := alike_int h
  unfold rawB refRaw
  obtain ⟨v, b2, e2, hI⟩ : ∃ v b2 e2, intB b e = (v, b2, e2) := ⟨_, _, _, rfl⟩
  obtain ⟨v', a2, e2', hJ⟩ : ∃ v a2 e2, refInt B a e = (v, a2, e2) := ⟨_, _, _, rfl⟩
  rw [hI, hJ] at h1 h2 h3
  rw [hI, hJ]
  dsimp only at h1 h2 h3 ⊢
  subst h1 h2
  obtain ⟨g1, g2, g3⟩ := h3
  by_cases he : e2 = 0
  · subst he
    obtain rfl := g2 rfl
    rw [if_neg (show ¬ ((0 : Int) ≠ 0) from fun h => h rfl), if_neg (show ¬ ((0 : Int) ≠ 0) from fun h => h rfl), List.length_drop]
    by_cases hn : v < 0
    · rw [if_pos hn, if_pos hn]
      exact ⟨rfl, rfl, g1, (fun h => by first | exact absurd (show (4 : Int) = 0 from h) (by decide) | exact absurd (show (5 : Int) = 0 from h) (by decide)), fun _ => rfl⟩
    · rw [if_neg hn, if_neg hn]
      by_cases hm : ((B.length - a2 : Nat) : Int) < v
      · rw [if_pos hm, if_pos hm]
        exact ⟨rfl, rfl, g1, (fun h => by first | exact absurd (show (4 : Int) = 0 from h) (by decide) | exact absurd (show (5 : Int) = 0 from h) (by decide)), fun _ => rfl⟩
      · rw [if_neg hm, if_neg hm]
        exact ⟨rfl, rfl, by show a2 + v.toNat ≤ B.length; omega, fun _ => by simp [List.drop_drop], fun h => absurd rfl h⟩
  · rw [if_pos he, if_pos he]
    exact ⟨rfl, rfl, g1, g2, g3⟩
theorem refr_at {w0 w : World} {g : Nat} {B : List Int} {a a2 : Nat} {e : Int} {F : List Asr} (h : Has w0 w0.heap.size w (refr w0 g B a e :: F)) {z : Int} (hz : z = (a2 : Int)) : Has w0 w0.heap.size (w.setCell ⟨g, 1, none⟩ (.int .i64 z)) (refr w0 g B a2 e :: F) := by
  subst hz
  have hI := refr_is h
  have hg := hI.ge
  exact refr_step h (hI.set_1 (a2 : Int)) (h.below.setCell hg _) ((KeepBut.refl w g none).set_ 1 _)
theorem alike_left {B b : List Int} {a : Nat} {e : Int} (h : Alike B b a e) : (b.length : Int) = if e = 0 then ((B.length - a : Nat) : Int) else 0 := by
  obtain ⟨ha, h0, h1⟩ := h
  by_cases he : e = 0
  · rw [if_pos he, h0 he, List.length_drop]
  · rw [if_neg he, h1 he]; rfl
set_option maxHeartbeats 8000000 in
set_option maxRecDepth 100000 in
theorem refRaw.calls (g : Nat) (B : List Int) (a : Nat) (e : Int) (F : List Asr) (w0 w : World) (hB : B.length ≤ 1000000) (ha : a ≤ B.length) (hx : ∀ x ∈ B, 0 ≤ x ∧ x < 256) (h : Has w0 w0.heap.size w (refr w0 g B a e :: F)) :
    Calls Try.prog 22 #[.pointer (some ⟨g, 0, none⟩)] w fun e' w' => ∃ v, e' = .returned v ∧ Has w0 w0.heap.size w' (row (Kd.int .u8) 5 v (refRaw B a e).1 :: refr w0 g B (refRaw B a e).2.1 (refRaw B a e).2.2 :: F) := by
  obtain ⟨v, a2, e2, hI⟩ : ∃ v a2 e2, refInt B a e = (v, a2, e2) := ⟨_, _, _, rfl⟩
  have hle := refInt_le B a e ha
  have hcall := refInt.calls g B a e F w0 w hB ha hx h
  have hcb : refRaw B a e = if e2 ≠ 0 then ([], a2, e2) else if v < 0 then ([], a2, 4) else if ((B.length - a2 : Nat) : Int) < v then ([], a2, 5) else ((B.drop a2).take v.toNat, a2 + v.toNat, 0) := by unfold refRaw; rw [hI]
  simp only [hI] at hcall hle
  rw [hcb]
  have HC := Aside0.mk hcall
  have hnil : ∀ {w1 : World} {L : List Asr}, Has w0 w0.heap.size w1 L → Has w0 w0.heap.size w1 (row (Kd.int .u8) 5 (.slice none 0 0) [] :: L) := fun h => h.newRow (Below.refl _ _) (ok := fun _ => True) (Kd.R_nil _ _ _ _ _)
  have HNIL := Aside0.mk @hnil
  have HLE := Aside0.mk (And.intro hle hB)
  clear hcall hcb hI h hnil hle hB hx ha
  have hways : e2 ≠ 0 ∨ e2 = 0 ∧ v < 0 ∨ e2 = 0 ∧ ¬ v < 0 ∧ ((B.length - a2 : Nat) : Int) < v ∨ e2 = 0 ∧ ¬ v < 0 ∧ ¬ ((B.length - a2 : Nat) : Int) < v := by omega
  rcases hways with he | ⟨he, hn⟩ | ⟨he, hn, hm⟩ | ⟨he, hn, hm⟩
  · rw [if_pos he]
    have d1 : (e2 == 0) = false := by simpa using he
    have d2 : (e2 != 0) = true := by simpa using he
    clear he
    go_enter Try.func22, Try.ntmps22
    go_wp2_with (first | (go_at_call 21; (refine (HC.out).mono ?_); rintro e1 w1 ⟨rfl, hw1⟩; obtain ⟨A1, c1, bk1, hg1, hC1, hcp1⟩ := refr_is hw1; have HCP := Aside0.mk hcp1; clear hcp1; have hc0 : w1.cell? ⟨g, 0, none⟩ = some (.slice A1 B.length c1) := (blk_cell bk1 0).trans rfl; have hc1 : w1.cell? ⟨g, 1, none⟩ = some (.int .i64 (a2 : Int)) := (blk_cell bk1 1).trans rfl; have hc2 : w1.cell? ⟨g, 2, none⟩ = some (.int .i64 e2) := (blk_cell bk1 2).trans rfl; have hf1 := blk_frozen bk1 1; have hf2 := blk_frozen bk1 2; have HW := Aside0.mk hw1; have BK := Aside0.mk bk1; have HC1 := Aside0.mk hC1; clear hw1 bk1 hC1))
    go_ret
    exact ⟨_, rfl, HNIL.out HW.out⟩
  · subst he
    rw [if_neg (by decide), if_pos hn]
    have d1 : decide (v < 0) = true := decide_eq_true hn
    clear hn
    go_enter Try.func22, Try.ntmps22
    go_wp2_with (first | (go_at_call 21; (refine (HC.out).mono ?_); rintro e1 w1 ⟨rfl, hw1⟩; obtain ⟨A1, c1, bk1, hg1, hC1, hcp1⟩ := refr_is hw1; have HCP := Aside0.mk hcp1; clear hcp1; have hc0 : w1.cell? ⟨g, 0, none⟩ = some (.slice A1 B.length c1) := (blk_cell bk1 0).trans rfl; have hc1 : w1.cell? ⟨g, 1, none⟩ = some (.int .i64 (a2 : Int)) := (blk_cell bk1 1).trans rfl; have hc2 : w1.cell? ⟨g, 2, none⟩ = some (.int .i64 0) := (blk_cell bk1 2).trans rfl; have hf1 := blk_frozen bk1 1; have hf2 := blk_frozen bk1 2; have HW := Aside0.mk hw1; have BK := Aside0.mk bk1; have HC1 := Aside0.mk hC1; clear hw1 bk1 hC1) | (go_at_call 33; (refine (joustref12_Reader_fail.calls g B (a2 : Int) 0 4 _ _ w0 _ (refr_is HW.out) HW.out.below (by unfold joustref12_Reader_fail.f; rw [if_pos rfl])).mono ?_); rintro e3 w3 ⟨rfl, hI3, hB3, hk3⟩; have hw3 := refr_step HW.out hI3 hB3 hk3; obtain ⟨A3, c3, bk3, _⟩ := hI3; have hcz : w3.cell? ⟨g, 2, none⟩ = some (.int .i64 4) := (blk_cell bk3 2).trans rfl; have HW2 := Aside0.mk hw3; clear hw3 hB3 hk3 bk3))
    go_ret
    exact ⟨_, rfl, HNIL.out HW2.out⟩
  · subst he
    rw [if_neg (by decide), if_neg hn, if_pos hm]
    have d1 : decide (v < 0) = false := decide_eq_false hn
    have hwr : IntKind.i64.wrap ((B.length : Int) - (a2 : Int)) = ((B.length - a2 : Nat) : Int) := by rw [Go.IntKind.wrap_i64]; have := HLE.out; omega
    have d3 : decide (((B.length - a2 : Nat) : Int) < v) = true := decide_eq_true hm
    clear hn hm
    go_enter Try.func22, Try.ntmps22
    go_wp2_with (first | (go_at_call 21; (refine (HC.out).mono ?_); rintro e1 w1 ⟨rfl, hw1⟩; obtain ⟨A1, c1, bk1, hg1, hC1, hcp1⟩ := refr_is hw1; have HCP := Aside0.mk hcp1; clear hcp1; have hc0 : w1.cell? ⟨g, 0, none⟩ = some (.slice A1 B.length c1) := (blk_cell bk1 0).trans rfl; have hc1 : w1.cell? ⟨g, 1, none⟩ = some (.int .i64 (a2 : Int)) := (blk_cell bk1 1).trans rfl; have hc2 : w1.cell? ⟨g, 2, none⟩ = some (.int .i64 0) := (blk_cell bk1 2).trans rfl; have hf1 := blk_frozen bk1 1; have hf2 := blk_frozen bk1 2; have HW := Aside0.mk hw1; have BK := Aside0.mk bk1; have HC1 := Aside0.mk hC1; clear hw1 bk1 hC1) | (go_at_call 33; (refine (joustref12_Reader_fail.calls g B (a2 : Int) 0 5 _ _ w0 _ (refr_is HW.out.drew) HW.out.drew.below (by unfold joustref12_Reader_fail.f; rw [if_pos rfl])).mono ?_); rintro e3 w3 ⟨rfl, hI3, hB3, hk3⟩; have hw3 := refr_step HW.out.drew hI3 hB3 hk3; obtain ⟨A3, c3, bk3, _⟩ := hI3; have hcz : w3.cell? ⟨g, 2, none⟩ = some (.int .i64 5) := (blk_cell bk3 2).trans rfl; have HW2 := Aside0.mk hw3; clear hw3 hB3 hk3 bk3))
    refine wp_region_held_drew (S := (fun w' => w'.cell? ⟨g, 0, none⟩ = some (.slice A1 B.length c1) ∧ w'.cell? ⟨g, 1, none⟩ = some (.int .i64 (a2 : Int)))) (by kernel_rfl) ?r1S (fun hHeld => ?_)
    case r1S => (exact ⟨hc0, hc1⟩)
    refine takeW (i := 0) (v := ?r1v0) rfl rfl (by kernel_rfl) (by kernel_rfl) (by kernel_rfl) (fun _ _ _ h => h) (by rfl) ?r1y0 hHeld ?_
    case r1y0 => (intro w hSw; (try dsimp only at hSw); go_simp <;> (try with_reducible rfl))
    (try simp only [Act.put, List.setIfInBounds_toArray, List.set_cons_zero, List.set_cons_succ])
    refine takeW (i := 1) (v := ?r1v1) rfl rfl (by kernel_rfl) (by kernel_rfl) (by kernel_rfl) (fun _ _ _ h => h) (by rfl) ?r1y1 hHeld ?_
    case r1y1 => (intro w hSw; (try dsimp only at hSw); go_simp <;> (try with_reducible rfl))
    (try simp only [Act.put, List.setIfInBounds_toArray, List.set_cons_zero, List.set_cons_succ])
    refine takeW (i := 2) (v := ?r1v2) rfl rfl (by kernel_rfl) (by kernel_rfl) (by kernel_rfl) (fun _ _ _ h => h) (by rfl) ?r1y2 hHeld ?_
    case r1y2 => (intro w hSw; (try dsimp only at hSw); go_simp <;> (try with_reducible rfl))
    (try simp only [Act.put, List.setIfInBounds_toArray, List.set_cons_zero, List.set_cons_succ])
    refine takeW (i := 3) (v := ?r1v3) rfl rfl (by kernel_rfl) (by kernel_rfl) (by kernel_rfl) (fun _ _ _ h => h) (by rfl) ?r1y3 hHeld ?_
    case r1y3 => (intro w hSw; (try dsimp only at hSw); go_simp <;> (try with_reducible rfl))
    (try simp only [Act.put, List.setIfInBounds_toArray, List.set_cons_zero, List.set_cons_succ])
    refine takeW (i := 4) (v := ?r1v4) rfl rfl (by kernel_rfl) (by kernel_rfl) (by kernel_rfl) (fun _ _ _ h => h) (by rfl) ?r1y4 hHeld ?_
    case r1y4 => (intro w hSw; (try dsimp only at hSw); go_simp <;> (try with_reducible rfl))
    (try simp only [Act.put, List.setIfInBounds_toArray, List.set_cons_zero, List.set_cons_succ])
    refine takeW (i := 5) (v := ?r1v5) rfl rfl (by kernel_rfl) (by kernel_rfl) (by kernel_rfl) (fun _ _ _ h => h) (by rfl) ?r1y5 hHeld ?_
    case r1y5 => (intro w hSw; (try dsimp only at hSw); go_simp <;> (try with_reducible rfl))
    (try simp only [Act.put, List.setIfInBounds_toArray, List.set_cons_zero, List.set_cons_succ])
    refine takeW (i := 6) (v := ?r1v6) rfl rfl (by kernel_rfl) (by kernel_rfl) (by kernel_rfl) (fun _ _ _ h => h) (by rfl) ?r1y6 hHeld ?_
    case r1y6 => (intro w hSw; (try dsimp only at hSw); go_simp <;> (try with_reducible rfl))
    (try simp only [Act.put, List.setIfInBounds_toArray, List.set_cons_zero, List.set_cons_succ])
    refine takeW (i := 7) (v := ?r1v7) rfl rfl (by kernel_rfl) (by kernel_rfl) (by kernel_rfl) (fun _ _ _ h => h) (by rfl) ?r1y7 hHeld ?_
    case r1y7 => (intro w hSw; (try dsimp only at hSw); go_simp <;> (try with_reducible rfl))
    (try simp only [Act.put, List.setIfInBounds_toArray, List.set_cons_zero, List.set_cons_succ])
    refine takeW (i := 8) (v := ?r1v8) rfl rfl (by kernel_rfl) (by kernel_rfl) (by kernel_rfl) (fun _ _ _ h => h) (by rfl) ?r1y8 hHeld ?_
    case r1y8 => (intro w hSw; (try dsimp only at hSw); go_simp <;> (try with_reducible rfl))
    (try simp only [Act.put, List.setIfInBounds_toArray, List.set_cons_zero, List.set_cons_succ])
    refine takeW (i := 9) (v := ?r1v9) rfl rfl (by kernel_rfl) (by kernel_rfl) (by kernel_rfl) (fun _ _ _ h => h) (by rfl) ?r1y9 hHeld ?_
    case r1y9 => (intro w hSw; (try dsimp only at hSw); go_simp <;> (try with_reducible rfl))
    (try simp only [Act.put, List.setIfInBounds_toArray, List.set_cons_zero, List.set_cons_succ])
    refine takeW (i := 10) (v := ?r1v10) rfl rfl (by kernel_rfl) (by kernel_rfl) (by kernel_rfl) (fun _ _ _ h => h) (by rfl) ?r1y10 hHeld ?_
    case r1y10 => (intro w hSw; (try dsimp only at hSw); go_simp <;> (try with_reducible rfl))
    (try simp only [Act.put, List.setIfInBounds_toArray, List.set_cons_zero, List.set_cons_succ])
    refine takeW (i := 11) (v := ?r1v11) rfl rfl (by kernel_rfl) (by kernel_rfl) (by kernel_rfl) (fun _ _ _ h => h) (by rfl) ?r1y11 hHeld ?_
    case r1y11 => (intro w hSw; (try dsimp only at hSw); go_simp <;> (try with_reducible rfl))
    (try simp only [Act.put, List.setIfInBounds_toArray, List.set_cons_zero, List.set_cons_succ])
    refine takeW (i := 12) (v := ?r1v12) rfl rfl (by kernel_rfl) (by kernel_rfl) (by kernel_rfl) (fun _ _ _ h => h) (by rfl) ?r1y12 hHeld ?_
    case r1y12 => (intro w hSw; (try dsimp only at hSw); go_simp <;> (try with_reducible rfl))
    (try simp only [Act.put, List.setIfInBounds_toArray, List.set_cons_zero, List.set_cons_succ])
    refine wpAnyH_done (by kernel_rfl) ?_ _
    go_wp2_with (first | (go_at_call 21; (refine (HC.out).mono ?_); rintro e1 w1 ⟨rfl, hw1⟩; obtain ⟨A1, c1, bk1, hg1, hC1, hcp1⟩ := refr_is hw1; have HCP := Aside0.mk hcp1; clear hcp1; have hc0 : w1.cell? ⟨g, 0, none⟩ = some (.slice A1 B.length c1) := (blk_cell bk1 0).trans rfl; have hc1 : w1.cell? ⟨g, 1, none⟩ = some (.int .i64 (a2 : Int)) := (blk_cell bk1 1).trans rfl; have hc2 : w1.cell? ⟨g, 2, none⟩ = some (.int .i64 0) := (blk_cell bk1 2).trans rfl; have hf1 := blk_frozen bk1 1; have hf2 := blk_frozen bk1 2; have HW := Aside0.mk hw1; have BK := Aside0.mk bk1; have HC1 := Aside0.mk hC1; clear hw1 bk1 hC1) | (go_at_call 33; (refine (joustref12_Reader_fail.calls g B (a2 : Int) 0 5 _ _ w0 _ (refr_is HW.out.drew) HW.out.drew.below (by unfold joustref12_Reader_fail.f; rw [if_pos rfl])).mono ?_); rintro e3 w3 ⟨rfl, hI3, hB3, hk3⟩; have hw3 := refr_step HW.out.drew hI3 hB3 hk3; obtain ⟨A3, c3, bk3, _⟩ := hI3; have hcz : w3.cell? ⟨g, 2, none⟩ = some (.int .i64 5) := (blk_cell bk3 2).trans rfl; have HW2 := Aside0.mk hw3; clear hw3 hB3 hk3 bk3))
    go_ret
    exact ⟨_, rfl, HNIL.out HW2.out⟩
  · subst he
    obtain ⟨m, rfl⟩ : ∃ m : Nat, v = (m : Int) := ⟨v.toNat, by omega⟩
    rw [if_neg (by decide), if_neg hn, if_neg hm, Int.toNat_natCast]
    have d1 : decide ((m : Int) < 0) = false := decide_eq_false hn
    have hwr : IntKind.i64.wrap ((B.length : Int) - (a2 : Int)) = ((B.length - a2 : Nat) : Int) := by rw [Go.IntKind.wrap_i64]; have := HLE.out; omega
    have d3 : decide (((B.length - a2 : Nat) : Int) < (m : Int)) = false := decide_eq_false hm
    have d4 : decide (B.length - a2 < m) = false := decide_eq_false (by omega)
    have hmb : a2 + m ≤ 1000000 := by have := HLE.out; omega
    have HM := Aside0.mk (show a2 + m ≤ B.length by have := HLE.out.1; omega)
    clear hn hm
    go_enter Try.func22, Try.ntmps22
    go_wp2_with (first | (go_at_call 21; (refine (HC.out).mono ?_); rintro e1 w1 ⟨rfl, hw1⟩; obtain ⟨A1, c1, bk1, hg1, hC1, hcp1⟩ := refr_is hw1; have HCP := Aside0.mk hcp1; clear hcp1; have hc0 : w1.cell? ⟨g, 0, none⟩ = some (.slice A1 B.length c1) := (blk_cell bk1 0).trans rfl; have hc1 : w1.cell? ⟨g, 1, none⟩ = some (.int .i64 (a2 : Int)) := (blk_cell bk1 1).trans rfl; have hc2 : w1.cell? ⟨g, 2, none⟩ = some (.int .i64 0) := (blk_cell bk1 2).trans rfl; have hf1 := blk_frozen bk1 1; have hf2 := blk_frozen bk1 2; have HW := Aside0.mk hw1; have BK := Aside0.mk bk1; have HC1 := Aside0.mk hC1; clear hw1 bk1 hC1) | (go_at_call 33; (refine (joustref12_Reader_fail.calls g B (a2 : Int) 0 5 _ _ w0 _ (refr_is HW.out.drew) HW.out.drew.below (by unfold joustref12_Reader_fail.f; rw [if_pos rfl])).mono ?_); rintro e3 w3 ⟨rfl, hI3, hB3, hk3⟩; have hw3 := refr_step HW.out.drew hI3 hB3 hk3; obtain ⟨A3, c3, bk3, _⟩ := hI3; have hcz : w3.cell? ⟨g, 2, none⟩ = some (.int .i64 5) := (blk_cell bk3 2).trans rfl; have HW2 := Aside0.mk hw3; clear hw3 hB3 hk3 bk3))
    refine wp_region_held_drew (S := (fun w' => w'.cell? ⟨g, 0, none⟩ = some (.slice A1 B.length c1) ∧ w'.cell? ⟨g, 1, none⟩ = some (.int .i64 (a2 : Int)))) (by kernel_rfl) ?r2S (fun hHeld => ?_)
    case r2S => (exact ⟨hc0, hc1⟩)
    refine takeW (i := 0) (v := ?r2v0) rfl rfl (by kernel_rfl) (by kernel_rfl) (by kernel_rfl) (fun _ _ _ h => h) (by rfl) ?r2y0 hHeld ?_
    case r2y0 => (intro w hSw; (try dsimp only at hSw); go_simp <;> (try with_reducible rfl))
    (try simp only [Act.put, List.setIfInBounds_toArray, List.set_cons_zero, List.set_cons_succ])
    refine takeW (i := 1) (v := ?r2v1) rfl rfl (by kernel_rfl) (by kernel_rfl) (by kernel_rfl) (fun _ _ _ h => h) (by rfl) ?r2y1 hHeld ?_
    case r2y1 => (intro w hSw; (try dsimp only at hSw); go_simp <;> (try with_reducible rfl))
    (try simp only [Act.put, List.setIfInBounds_toArray, List.set_cons_zero, List.set_cons_succ])
    refine takeW (i := 2) (v := ?r2v2) rfl rfl (by kernel_rfl) (by kernel_rfl) (by kernel_rfl) (fun _ _ _ h => h) (by rfl) ?r2y2 hHeld ?_
    case r2y2 => (intro w hSw; (try dsimp only at hSw); go_simp <;> (try with_reducible rfl))
    (try simp only [Act.put, List.setIfInBounds_toArray, List.set_cons_zero, List.set_cons_succ])
    refine takeW (i := 3) (v := ?r2v3) rfl rfl (by kernel_rfl) (by kernel_rfl) (by kernel_rfl) (fun _ _ _ h => h) (by rfl) ?r2y3 hHeld ?_
    case r2y3 => (intro w hSw; (try dsimp only at hSw); go_simp <;> (try with_reducible rfl))
    (try simp only [Act.put, List.setIfInBounds_toArray, List.set_cons_zero, List.set_cons_succ])
    refine takeW (i := 4) (v := ?r2v4) rfl rfl (by kernel_rfl) (by kernel_rfl) (by kernel_rfl) (fun _ _ _ h => h) (by rfl) ?r2y4 hHeld ?_
    case r2y4 => (intro w hSw; (try dsimp only at hSw); go_simp <;> (try with_reducible rfl))
    (try simp only [Act.put, List.setIfInBounds_toArray, List.set_cons_zero, List.set_cons_succ])
    refine takeW (i := 5) (v := ?r2v5) rfl rfl (by kernel_rfl) (by kernel_rfl) (by kernel_rfl) (fun _ _ _ h => h) (by rfl) ?r2y5 hHeld ?_
    case r2y5 => (intro w hSw; (try dsimp only at hSw); go_simp <;> (try with_reducible rfl))
    (try simp only [Act.put, List.setIfInBounds_toArray, List.set_cons_zero, List.set_cons_succ])
    refine takeW (i := 6) (v := ?r2v6) rfl rfl (by kernel_rfl) (by kernel_rfl) (by kernel_rfl) (fun _ _ _ h => h) (by rfl) ?r2y6 hHeld ?_
    case r2y6 => (intro w hSw; (try dsimp only at hSw); go_simp <;> (try with_reducible rfl))
    (try simp only [Act.put, List.setIfInBounds_toArray, List.set_cons_zero, List.set_cons_succ])
    refine takeW (i := 7) (v := ?r2v7) rfl rfl (by kernel_rfl) (by kernel_rfl) (by kernel_rfl) (fun _ _ _ h => h) (by rfl) ?r2y7 hHeld ?_
    case r2y7 => (intro w hSw; (try dsimp only at hSw); go_simp <;> (try with_reducible rfl))
    (try simp only [Act.put, List.setIfInBounds_toArray, List.set_cons_zero, List.set_cons_succ])
    refine takeW (i := 8) (v := ?r2v8) rfl rfl (by kernel_rfl) (by kernel_rfl) (by kernel_rfl) (fun _ _ _ h => h) (by rfl) ?r2y8 hHeld ?_
    case r2y8 => (intro w hSw; (try dsimp only at hSw); go_simp <;> (try with_reducible rfl))
    (try simp only [Act.put, List.setIfInBounds_toArray, List.set_cons_zero, List.set_cons_succ])
    refine takeW (i := 9) (v := ?r2v9) rfl rfl (by kernel_rfl) (by kernel_rfl) (by kernel_rfl) (fun _ _ _ h => h) (by rfl) ?r2y9 hHeld ?_
    case r2y9 => (intro w hSw; (try dsimp only at hSw); go_simp <;> (try with_reducible rfl))
    (try simp only [Act.put, List.setIfInBounds_toArray, List.set_cons_zero, List.set_cons_succ])
    refine takeW (i := 10) (v := ?r2v10) rfl rfl (by kernel_rfl) (by kernel_rfl) (by kernel_rfl) (fun _ _ _ h => h) (by rfl) ?r2y10 hHeld ?_
    case r2y10 => (intro w hSw; (try dsimp only at hSw); go_simp <;> (try with_reducible rfl))
    (try simp only [Act.put, List.setIfInBounds_toArray, List.set_cons_zero, List.set_cons_succ])
    refine takeW (i := 11) (v := ?r2v11) rfl rfl (by kernel_rfl) (by kernel_rfl) (by kernel_rfl) (fun _ _ _ h => h) (by rfl) ?r2y11 hHeld ?_
    case r2y11 => (intro w hSw; (try dsimp only at hSw); go_simp <;> (try with_reducible rfl))
    (try simp only [Act.put, List.setIfInBounds_toArray, List.set_cons_zero, List.set_cons_succ])
    refine takeW (i := 12) (v := ?r2v12) rfl rfl (by kernel_rfl) (by kernel_rfl) (by kernel_rfl) (fun _ _ _ h => h) (by rfl) ?r2y12 hHeld ?_
    case r2y12 => (intro w hSw; (try dsimp only at hSw); go_simp <;> (try with_reducible rfl))
    (try simp only [Act.put, List.setIfInBounds_toArray, List.set_cons_zero, List.set_cons_succ])
    refine wpAnyH_done (by kernel_rfl) ?_ _
    go_wp2
    obtain ⟨i5, hi5, hz5, hsz5, hby5⟩ := info_parts info5
    have HW3 := Aside0.mk (refr_at (a2 := a2 + m) HW.out (z := (a2 : Int) + (m : Int)) (by omega)).drew.drew
    have hws : IntKind.i64.wrap (a2 : Int) = (a2 : Int) := by rw [Go.IntKind.wrap_i64]; omega
    have hB5 := HLE.out.2
    have hcle := HCP.out
    have hcut := cut_mid (P := Try.prog) 22 5 .i64 .i64 Try.underlying22 hi5 1 hsz5 A1 B.length c1 (a2 : Int) ((a2 : Int) + (m : Int)) (by omega) (by omega) (by have := HM.out; omega) hcle
    have hle15 : ((B.take (a2 + m)).drop a2).length ≤ 1000000 := by have := HLE.out.2; rw [List.length_drop, List.length_take]; omega
    obtain ⟨A5, hA5⟩ : ∃ A5, (if c1 = a2 then A1 else A1.map (·.add (a2 * 1))) = A5 := ⟨_, rfl⟩
    have hC5 := Kd.C_mid (lo := a2) (hi := a2 + m) (c := c1) HC1.out (by omega) HM.out hcle
    have hsz1 : (Kd.int .u8).sz = 1 := rfl
    rw [hsz1, hA5] at hC5
    have e5 : (B.take (a2 + m)).drop a2 = (B.drop a2).take m := by rw [List.drop_take, Nat.add_sub_cancel_left]
    have hlm : ((B.drop a2).take m).length = m := by rw [List.length_take, List.length_drop]; have := HM.out; omega
    rw [e5] at hC5 hle15
    have e6 : ((a2 : Int)).toNat = a2 := by omega
    have e7 : ((a2 : Int) + (m : Int)).toNat - a2 = m := by omega
    rw [e6, e7, hA5] at hcut
    have HC5 := Aside0.mk hC5
    have HL5 := Aside0.mk (And.intro hle15 hlm)
    clear hC5 hle15 e5 hlm e6 e7 hA5 hsz1
    have hz0 : ((w1.setCell ⟨g, 1, none⟩ (.int .i64 ((a2 : Int) + (m : Int)))).drew.drew).cell? ⟨g, 0, none⟩ = some (.slice A1 B.length c1) := by go_simp
    have hz1 : ((w1.setCell ⟨g, 1, none⟩ (.int .i64 ((a2 : Int) + (m : Int)))).drew.drew).cell? ⟨g, 1, none⟩ = some (.int .i64 ((a2 : Int) + (m : Int))) := by go_simp
    have HZ0 := Aside0.mk hz0
    have HZ1 := Aside0.mk hz1
    clear hz0 hz1
    refine wp_region_held_drew (S := (fun w' => w'.cell? ⟨g, 0, none⟩ = some (.slice A1 B.length c1) ∧ w'.cell? ⟨g, 1, none⟩ = some (.int .i64 ((a2 : Int) + (m : Int))))) (by kernel_rfl) ?r3S (fun hHeld => ?_)
    case r3S => (exact ⟨by go_simp, by go_simp⟩)
    refine takeW (i := 0) (v := ?r3v0) rfl rfl (by kernel_rfl) (by kernel_rfl) (by kernel_rfl) (fun _ _ _ h => h) (by rfl) ?r3y0 hHeld ?_
    case r3y0 => (intro w hSw; (try dsimp only at hSw); go_simp <;> (try with_reducible rfl))
    (try simp only [Act.put, List.setIfInBounds_toArray, List.set_cons_zero, List.set_cons_succ])
    refine takeW (i := 1) (v := ?r3v1) rfl rfl (by kernel_rfl) (by kernel_rfl) (by kernel_rfl) (fun _ _ _ h => h) (by rfl) ?r3y1 hHeld ?_
    case r3y1 => (intro w hSw; (try dsimp only at hSw); go_simp <;> (try with_reducible rfl))
    (try simp only [Act.put, List.setIfInBounds_toArray, List.set_cons_zero, List.set_cons_succ])
    refine takeW (i := 2) (v := ?r3v2) rfl rfl (by kernel_rfl) (by kernel_rfl) (by kernel_rfl) (fun _ _ _ h => h) (by rfl) ?r3y2 hHeld ?_
    case r3y2 => (intro w hSw; (try dsimp only at hSw); go_simp <;> (try with_reducible rfl))
    (try simp only [Act.put, List.setIfInBounds_toArray, List.set_cons_zero, List.set_cons_succ])
    refine takeW (i := 3) (v := ?r3v3) rfl rfl (by kernel_rfl) (by kernel_rfl) (by kernel_rfl) (fun _ _ _ h => h) (by rfl) ?r3y3 hHeld ?_
    case r3y3 => (intro w hSw; (try dsimp only at hSw); go_simp <;> (try with_reducible rfl))
    (try simp only [Act.put, List.setIfInBounds_toArray, List.set_cons_zero, List.set_cons_succ])
    refine takeW (i := 4) (v := ?r3v4) rfl rfl (by kernel_rfl) (by kernel_rfl) (by kernel_rfl) (fun _ _ _ h => h) (by rfl) ?r3y4 hHeld ?_
    case r3y4 => (intro w hSw; (try dsimp only at hSw); go_simp <;> (try with_reducible rfl))
    (try simp only [Act.put, List.setIfInBounds_toArray, List.set_cons_zero, List.set_cons_succ])
    refine takeW (i := 5) (v := ?r3v5) rfl rfl (by kernel_rfl) (by kernel_rfl) (by kernel_rfl) (fun _ _ _ h => h) (by rfl) ?r3y5 hHeld ?_
    case r3y5 => (intro w hSw; (try dsimp only at hSw); go_simp <;> (try with_reducible rfl))
    (try simp only [Act.put, List.setIfInBounds_toArray, List.set_cons_zero, List.set_cons_succ])
    refine takeW (i := 6) (v := ?r3v6) rfl rfl (by kernel_rfl) (by kernel_rfl) (by kernel_rfl) (fun _ _ _ h => h) (by rfl) ?r3y6 hHeld ?_
    case r3y6 => (intro w hSw; (try dsimp only at hSw); go_simp <;> (try with_reducible rfl))
    (try simp only [Act.put, List.setIfInBounds_toArray, List.set_cons_zero, List.set_cons_succ])
    refine takeW (i := 7) (v := ?r3v7) rfl rfl (by kernel_rfl) (by kernel_rfl) (by kernel_rfl) (fun _ _ _ h => h) (by rfl) ?r3y7 hHeld ?_
    case r3y7 => (intro w hSw; (try dsimp only at hSw); go_simp <;> (try with_reducible rfl))
    (try simp only [Act.put, List.setIfInBounds_toArray, List.set_cons_zero, List.set_cons_succ])
    refine takeW (i := 8) (v := ?r3v8) rfl rfl (by kernel_rfl) (by kernel_rfl) (by kernel_rfl) (fun _ _ _ h => h) (by rfl) ?r3y8 hHeld ?_
    case r3y8 => (intro w hSw; (try dsimp only at hSw); go_simp <;> (try with_reducible rfl))
    (try simp only [Act.put, List.setIfInBounds_toArray, List.set_cons_zero, List.set_cons_succ])
    refine takeW (i := 9) (v := ?r3v9) rfl rfl (by kernel_rfl) (by kernel_rfl) (by kernel_rfl) (fun _ _ _ h => h) (by rfl) ?r3y9 hHeld ?_
    case r3y9 => (intro w hSw; (try dsimp only at hSw); go_simp <;> (try with_reducible rfl))
    (try simp only [Act.put, List.setIfInBounds_toArray, List.set_cons_zero, List.set_cons_succ])
    refine takeW (i := 10) (v := ?r3v10) rfl rfl (by kernel_rfl) (by kernel_rfl) (by kernel_rfl) (fun _ _ _ h => h) (by rfl) ?r3y10 hHeld ?_
    case r3y10 => (intro w hSw; (try dsimp only at hSw); go_simp <;> (try with_reducible rfl))
    (try simp only [Act.put, List.setIfInBounds_toArray, List.set_cons_zero, List.set_cons_succ])
    refine takeW (i := 11) (v := ?r3v11) rfl rfl (by kernel_rfl) (by kernel_rfl) (by kernel_rfl) (fun _ _ _ h => h) (by rfl) ?r3y11 hHeld ?_
    case r3y11 => (intro w hSw; (try dsimp only at hSw); go_simp <;> (try with_reducible rfl))
    (try simp only [Act.put, List.setIfInBounds_toArray, List.set_cons_zero, List.set_cons_succ])
    refine takeW (i := 12) (v := ?r3v12) rfl rfl (by kernel_rfl) (by kernel_rfl) (by kernel_rfl) (fun _ _ _ h => h) (by rfl) ?r3y12 hHeld ?_
    case r3y12 => (intro w hSw; (try dsimp only at hSw); go_simp <;> (try with_reducible rfl))
    (try simp only [Act.put, List.setIfInBounds_toArray, List.set_cons_zero, List.set_cons_succ])
    refine takeW (i := 13) (v := ?r3v13) rfl rfl (by kernel_rfl) (by kernel_rfl) (by kernel_rfl) (fun _ _ _ h => h) (by rfl) ?r3y13 hHeld ?_
    case r3y13 => (intro w hSw; (try dsimp only at hSw); go_simp <;> (try with_reducible rfl))
    (try simp only [Act.put, List.setIfInBounds_toArray, List.set_cons_zero, List.set_cons_succ])
    refine takeW (i := 14) (v := ?r3v14) rfl rfl (by kernel_rfl) (by kernel_rfl) (by kernel_rfl) (fun _ _ _ h => h) (by rfl) ?r3y14 hHeld ?_
    case r3y14 => (intro w hSw; (try dsimp only at hSw); go_simp <;> (try with_reducible rfl))
    (try simp only [Act.put, List.setIfInBounds_toArray, List.set_cons_zero, List.set_cons_succ])
    refine callC (i := 15) rfl (by kernel_rfl) (by rfl) (fun K hK => ?_)
    clear hHeld
    (refine wp_of_list (ops := #[]) (by rfl) ?_; (refine Kd.R_append_rows (Kd.int .u8) (w0 := ((w1.setCell ⟨g, 1, none⟩ (.int .i64 ((a2 : Int) + (m : Int)))).drew.drew)) ((w1.setCell ⟨g, 1, none⟩ (.int .i64 ((a2 : Int) + (m : Int)))).drew.drew).heap.size rfl (.const (.slice none 0 0)) (.tmp 60) 22 5 (.int .u8 0) 1 rfl Try.underlying22 info5 rfl (by decide) (by omega) (.slice none 0 0) ([] : List Int) ((B.drop a2).take m) A5 m (c1 - a2) (fun _ => True) (fun _ => False) rfl rfl ?aO ?aR (fun _ _ h => h) (fun _ h => h.elim) ?aF ?aB ?aS ?aL ?_; (case aR => have h_ := Kd.C_below HC5.out HW3.out.below; rw [HL5.out.2] at h_; exact h_); (case aB => exact Below.refl _ _); (case aF => exact fun _ _ => trivial); (case aO => exact Kd.R_nil _ _ _ _ _); (case aS => exact Nat.le_refl _); (case aL => have := HL5.out.1; simp; omega); intro v5 w5 ho5 hb5 hg5 hat5; rw [List.nil_append] at ho5; have hbn := Below.grown (Below.refl _ _) hg5 (Nat.le_refl _) (fun k e => by cases e); have k0 := (hbn.cell (World.block_lt_of_cell? _ _ HZ0.out)).trans HZ0.out; have k1 := (hbn.cell (World.block_lt_of_cell? _ _ HZ1.out)).trans HZ1.out; have HW5 := Aside0.mk (HW3.out.newRow hbn ho5); clear ho5 hb5 hg5 hat5 hbn); change K _ _)
    refine hK.out _ _ ?r3k15 (fun hHeld => ?_)
    case r3k15 => (exact ⟨k0, k1⟩)
    clear hK K
    (try simp only [Act.put, List.setIfInBounds_toArray, List.set_cons_zero, List.set_cons_succ])
    refine takeW (i := 16) (v := ?r3v16) rfl rfl (by kernel_rfl) (by kernel_rfl) (by kernel_rfl) (fun _ _ _ h => h) (by rfl) ?r3y16 hHeld ?_
    case r3y16 => (intro w hSw; (try dsimp only at hSw); go_simp <;> (try with_reducible rfl))
    (try simp only [Act.put, List.setIfInBounds_toArray, List.set_cons_zero, List.set_cons_succ])
    refine wpAnyH_done (by kernel_rfl) ?_ _
    go_wp2
    go_ret
    exact ⟨_, rfl, HW5.out⟩
def joustlaw11_BytesRead.f (l0 : List Int) (l1 : List Int) : Option Bool := if (∀ x ∈ l0, 0 ≤ x ∧ x < 256) then some true else none
set_option maxHeartbeats 8000000 in
set_option maxRecDepth 100000 in
theorem joustlaw11_BytesRead.calls (A0 : Option Addr) (c0 : Nat) (l0 : List Int) (A1 : Option Addr) (c1 : Nat) (l1 : List Int) (r : Bool) (w : World) (hr_ : Aside0 (r = true)) (hr0 : Kd.C (Kd.int .u8) w A0 l0.length l0) (hc0 : l0.length ≤ c0) (hr1 : Kd.C (Kd.int .i64) w A1 l1.length l1) (hc1 : l1.length ≤ c1) (h : joustlaw11_BytesRead.f l0 l1 = some r) :
    Calls Try.prog 6 #[.slice A0 l0.length c0, .slice A1 l1.length c1] w fun e w' => e = .returned (.bool r) ∧ Below w.heap.size w w' := by
  obtain rfl := hr_.out
  have hx : ∀ x ∈ l0, 0 ≤ x ∧ x < 256 := by
    unfold joustlaw11_BytesRead.f at h
    by_cases hc : ∀ x ∈ l0, 0 ≤ x ∧ x < 256
    · exact hc
    · rw [if_neg hc] at h; cases h
  clear h hr_
  by_cases hbig : 2000 < l0.length
  · have d1 : decide (2000 < l0.length) = true := decide_eq_true hbig
    have d2 : decide ((2000 : Int) < (l0.length : Int)) = true := decide_eq_true (by omega)
    clear hbig hx hr0 hr1
    go_enter Try.func6, Try.ntmps6
    go_wp2_with (first | (go_at_call 12; ((refine (awake.calls _).mono ?_); rintro e w1 ⟨rfl, hb1⟩)))
    go_ret
    exact ⟨rfl, hb1⟩
  · have d1 : decide (2000 < l0.length) = false := decide_eq_false hbig
    have d2 : decide ((2000 : Int) < (l0.length : Int)) = false := decide_eq_false (by omega)
    have hown : jousthelp_Own_byte.f l0 71 = some (l0 ++ [71, 71, 71]) := by unfold jousthelp_Own_byte.f; rw [if_pos (by omega)]
    have HOWN := Aside0.mk (jousthelp_Own_byte.calls A0 c0 l0 71 _ w hr0 hc0 hown)
    have HR0 := Aside0.mk hr0
    have HR1 := Aside0.mk hr1
    have HX := Aside0.mk hx
    have HL := Aside0.mk (show l0.length ≤ 2000 by omega)
    have HC0 := Aside0.mk hc0
    clear hr0 hr1 hx hbig hown hc0 hc1
    go_enter Try.func6, Try.ntmps6
    go_wp2_with (first | (go_at_call 20; ((refine (HOWN.out).mono ?_); rintro e w1 ⟨v9, r9, rfl, hv9, ho9, hb9⟩; obtain ⟨A9, c9, e9_⟩ := Kd.R_slice ho9; subst e9_; obtain rfl := hv9 _ _ _ rfl; have hw1 := (Has.nil (w := w) (Nat.le_refl _)).newRow hb9 ho9; have HS1 := Aside0.mk hw1; have hC9 := C_take (row_C hw1).2.2 l0.length (by simp); rw [List.take_left' rfl] at hC9; have HC9 := Aside0.mk (And.intro hC9 (show l0.length ≤ c9 by have := (row_C hw1).2.1; simp at this; omega)); clear hw1 hv9 ho9 hb9 hC9)) | (go_at_call 9; ((refine (readH.calls A9 c9 l0 w.heap.size _ w _ HC9.out.1 HC9.out.2 (by have := HL.out; omega) HX.out HS1.out).mono ?_); rintro e w2 ⟨gr, rfl, hw2⟩; have hw2b := (hw2.own #[.slice A0 l0.length c0, .int .i64 0, .int .i64 0] 47).imp (B := refr w w2.heap.size l0 0 0) (fun {w3 S} h => ⟨h.2.2, h.2.1, A0, c0, h.1, hw2.le, HR0.out, HC0.out⟩); have HS2 := Aside0.mk hw2b; clear hw2 hw2b)) | (go_at_call 12; ((refine (awake.calls _).mono ?_); rintro e w3 ⟨rfl, hb3⟩; have HS3 := Aside0.mk (HS2.out.step hb3).sw; clear hb3)))
    go_loopg [8] (l1.length + 1) (fun kq v8 w' => ∃ (i : Nat) (b : List Int) (a : Nat) (e : Int), v8 = .int .i64 (i : Int) ∧ Aside0 (i + kq = l1.length + 1) ∧ Aside0 (i ≤ l1.length) ∧ Aside0 (Alike l0 b a e) ∧ Aside0 (Has w w.heap.size w' [reader gr b e, refr w w2.heap.size l0 a e, row (Kd.int .u8) 5 (.slice A9 (l0 ++ [71, 71, 71]).length c9) (l0 ++ [71, 71, 71])]))
    case atStart => exact ⟨0, l0, 0, 0, rfl, ⟨by omega⟩, ⟨by omega⟩, ⟨by omega, fun _ => rfl, fun h => absurd rfl h⟩, HS3⟩
    case round =>
      obtain ⟨i, b, a, e, rfl, HK, HI, HA, HW⟩ := hrel
      by_cases hil : i < l1.length ∧ i < 40
      · obtain ⟨hi1, hi2⟩ := hil
        have e1 : decide ((i : Int) < (l1.length : Int)) = true := decide_eq_true (by omega)
        have e2 : decide ((i : Int) < 40) = true := decide_eq_true (by omega)
        have hG : ∀ w' : World, Below w.heap.size w w' → ∃ ad : Addr, A1 = some ad ∧ w'.cell? (ad.add i) = some (.int .i64 l1[i]) := by
          intro w' hb
          obtain ⟨ad, e, x⟩ := Kd.at_int (Kd.C_below HR1.out hb) (i : Int) (by omega) (by omega)
          have hrd : rd l1 (i : Int) = l1[i] := by simp [rd, List.getD_eq_getElem?_getD, hi1]
          rw [hrd, Int.toNat_natCast] at x
          exact ⟨ad, e, x⟩
        obtain ⟨x, hxe⟩ : ∃ x, l1[i] = x := ⟨_, rfl⟩
        rw [hxe] at hG
        obtain ⟨ad, rfl, y0⟩ := hG _ HW.out.below
        have HG := Aside0.mk (show ∀ w' : World, Below w.heap.size w w' → w'.cell? (ad.add i) = some (.int .i64 x) from fun w' hb => by obtain ⟨ad2, e, h⟩ := hG w' hb; injection e with e; subst e; exact h)
        clear hG hxe
        cases gk with
        | zero => exact absurd HK.out (by omega)
        | succ k1 =>
          by_cases hx0 : x = 0
          · subst hx0
            obtain ⟨z1, z2, z3⟩ := alike_int HA.out
            have hci := int.calls gr w.heap.size b e _ w wr HW.out
            obtain ⟨v, b2, e3, hI⟩ : ∃ v b2 e3, intB b e = (v, b2, e3) := ⟨_, _, _, rfl⟩
            obtain ⟨v', a2, e3', hJ⟩ : ∃ v a2 e3, refInt l0 a e = (v, a2, e3) := ⟨_, _, _, rfl⟩
            simp only [hI, hJ] at z1 z2 z3 hci
            subst z1 z2
            have hri := fun (F : List Asr) (w1 : World) h => refInt.calls w2.heap.size l0 a e F w w1 (by have := HL.out; omega) HA.out.1 HX.out h
            simp only [hJ] at hri
            have HRI := Aside0.mk hri
            have HCI := Aside0.mk hci
            have hrl := fun (F : List Asr) (w1 : World) h => refLeft.calls w2.heap.size l0 a2 e3 F w w1 (by have := HL.out; omega) z3.1 h
            simp only [← alike_left z3] at hrl
            have HRL := Aside0.mk hrl
            have HA2 := Aside0.mk z3
            clear hI hJ hci z3 hri hrl
            go_wp2_with (first | (go_at_call 10; ((refine (HCI.out).mono ?_); rintro e w5 ⟨rfl, hw5⟩; have HS5 := Aside0.mk hw5.sw; clear hw5)) | (go_at_call 21; ((refine (HRI.out _ _ HS5.out).mono ?_); rintro e w6 ⟨rfl, hw6⟩; have HS6 := Aside0.mk hw6.sw; have y1 := HG.out _ hw6.below; obtain ⟨A7, c7, bk7, _⟩ := refr_is hw6; have q2 : w6.cell? ⟨w2.heap.size, 2, none⟩ = some (.int .i64 e3) := (blk_cell bk7 2).trans rfl; clear hw6 bk7)))
            refine wp_region_held_drew (S := (fun w' => w'.cell? ⟨w2.heap.size, 2, none⟩ = some (.int .i64 e3))) (by kernel_rfl) ?r4S (fun hHeld => ?_)
            case r4S => (exact q2)
            refine takeW (i := 0) (v := ?r4v0) rfl rfl (by kernel_rfl) (by kernel_rfl) (by kernel_rfl) (fun _ _ _ h => h) (by rfl) ?r4y0 hHeld ?_
            case r4y0 => (intro w hSw; (try dsimp only at hSw); go_simp <;> (try with_reducible rfl))
            (try simp only [Act.put, List.setIfInBounds_toArray, List.set_cons_zero, List.set_cons_succ])
            refine takeW (i := 2) (v := ?r4v2) rfl rfl (by kernel_rfl) (by kernel_rfl) (by kernel_rfl) (fun _ _ _ h => h) (by rfl) ?r4y2 hHeld ?_
            case r4y2 => (intro w hSw; (try dsimp only at hSw); go_simp <;> (try with_reducible rfl))
            (try simp only [Act.put, List.setIfInBounds_toArray, List.set_cons_zero, List.set_cons_succ])
            refine takeW (i := 3) (v := ?r4v3) rfl rfl (by kernel_rfl) (by kernel_rfl) (by kernel_rfl) (fun _ _ _ h => h) (by rfl) ?r4y3 hHeld ?_
            case r4y3 => (intro w hSw; (try dsimp only at hSw); go_simp <;> (try with_reducible rfl))
            (try simp only [Act.put, List.setIfInBounds_toArray, List.set_cons_zero, List.set_cons_succ])
            refine takeW (i := 4) (v := ?r4v4) rfl rfl (by kernel_rfl) (by kernel_rfl) (by kernel_rfl) (fun _ _ _ h => h) (by rfl) ?r4y4 hHeld ?_
            case r4y4 => (intro w hSw; (try dsimp only at hSw); go_simp <;> (try with_reducible rfl))
            (try simp only [Act.put, List.setIfInBounds_toArray, List.set_cons_zero, List.set_cons_succ])
            refine takeW (i := 5) (v := ?r4v5) rfl rfl (by kernel_rfl) (by kernel_rfl) (by kernel_rfl) (fun _ _ _ h => h) (by rfl) ?r4y5 hHeld ?_
            case r4y5 => (intro w hSw; (try dsimp only at hSw); go_simp <;> (try with_reducible rfl))
            (try simp only [Act.put, List.setIfInBounds_toArray, List.set_cons_zero, List.set_cons_succ])
            refine callC (i := 1) rfl (by kernel_rfl) (by rfl) (fun K hK => ?_)
            clear hHeld
            (go_wp2_with ((go_at_call 13; ((refine (errH.calls gr w.heap.size b2 e3 _ w _ HS6.out.drew).mono ?_); rintro e8 w8 ⟨rfl, ew_⟩; subst w8))))
            refine hK.out _ _ ?r4k1 (fun hHeld => ?_)
            case r4k1 => (exact q2)
            clear hK K
            (try simp only [Act.put, List.setIfInBounds_toArray, List.set_cons_zero, List.set_cons_succ])
            refine takeW (i := 6) (v := ?r4v6) rfl rfl (by kernel_rfl) (by kernel_rfl) (by kernel_rfl) (fun _ _ _ h => h) (by rfl) ?r4y6 hHeld ?_
            case r4y6 => (intro w hSw; (try dsimp only at hSw); go_simp <;> (try with_reducible rfl))
            (try simp only [Act.put, List.setIfInBounds_toArray, List.set_cons_zero, List.set_cons_succ])
            refine takeW (i := 7) (v := ?r4v7) rfl rfl (by kernel_rfl) (by kernel_rfl) (by kernel_rfl) (fun _ _ _ h => h) (by rfl) ?r4y7 hHeld ?_
            case r4y7 => (intro w hSw; (try dsimp only at hSw); go_simp <;> (try with_reducible rfl))
            (try simp only [Act.put, List.setIfInBounds_toArray, List.set_cons_zero, List.set_cons_succ])
            refine takeW (i := 8) (v := ?r4v8) rfl rfl (by kernel_rfl) (by kernel_rfl) (by kernel_rfl) (fun _ _ _ h => h) (by rfl) ?r4y8 hHeld ?_
            case r4y8 => (intro w hSw; (try dsimp only at hSw); go_simp <;> (try with_reducible rfl))
            (try simp only [Act.put, List.setIfInBounds_toArray, List.set_cons_zero, List.set_cons_succ])
            refine takeW (i := 10) (v := ?r4v10) rfl rfl (by kernel_rfl) (by kernel_rfl) (by kernel_rfl) (fun _ _ _ h => h) (by rfl) ?r4y10 hHeld ?_
            case r4y10 => (intro w hSw; (try dsimp only at hSw); go_simp <;> (try with_reducible rfl))
            (try simp only [Act.put, List.setIfInBounds_toArray, List.set_cons_zero, List.set_cons_succ])
            refine callC (i := 9) rfl (by kernel_rfl) (by rfl) (fun K hK => ?_)
            clear hHeld
            (go_wp2_with ((go_at_call 19; ((refine (left.calls gr w.heap.size b2 e3 _ w _ HS6.out.drew).mono ?_); rintro e8 w8 ⟨rfl, ew_⟩; subst w8))))
            refine hK.out _ _ ?r4k9 (fun hHeld => ?_)
            case r4k9 => (exact q2)
            clear hK K
            (try simp only [Act.put, List.setIfInBounds_toArray, List.set_cons_zero, List.set_cons_succ])
            refine callC (i := 11) rfl (by kernel_rfl) (by rfl) (fun K hK => ?_)
            clear hHeld
            (go_wp2_with ((go_at_call 25; ((refine (HRL.out _ _ HS6.out.drew.sw).mono ?_); rintro e8 w8 ⟨rfl, hw8⟩; have HS8 := Aside0.mk hw8.sw; obtain ⟨A8, c8, bk8, _⟩ := refr_is hw8; have q8 : w8.cell? ⟨w2.heap.size, 2, none⟩ = some (.int .i64 e3) := (blk_cell bk8 2).trans rfl; clear hw8 bk8))))
            refine hK.out _ _ ?r4k11 (fun hHeld => ?_)
            case r4k11 => (exact q8)
            clear hK K
            (try simp only [Act.put, List.setIfInBounds_toArray, List.set_cons_zero, List.set_cons_succ])
            refine takeW (i := 12) (v := ?r4v12) rfl rfl (by kernel_rfl) (by kernel_rfl) (by kernel_rfl) (fun _ _ _ h => h) (by rfl) ?r4y12 hHeld ?_
            case r4y12 => (intro w hSw; (try dsimp only at hSw); go_simp <;> (try with_reducible rfl))
            (try simp only [Act.put, List.setIfInBounds_toArray, List.set_cons_zero, List.set_cons_succ])
            refine takeW (i := 13) (v := ?r4v13) rfl rfl (by kernel_rfl) (by kernel_rfl) (by kernel_rfl) (fun _ _ _ h => h) (by rfl) ?r4y13 hHeld ?_
            case r4y13 => (intro w hSw; (try dsimp only at hSw); go_simp <;> (try with_reducible rfl))
            (try simp only [Act.put, List.setIfInBounds_toArray, List.set_cons_zero, List.set_cons_succ])
            refine wpAnyH_done (by kernel_rfl) ?_ _
            go_wp2
            go_roundg k1
            case measure => have := HK.out; omega
            case rel => exact ⟨i + 1, b2, a2, e3, rfl, ⟨by have := HK.out; omega⟩, ⟨by omega⟩, HA2, HS8⟩
          · have d0 : (x == 0) = false := by simpa using hx0
            by_cases hxn : x < 0
            · have d3 : decide (x < 0) = true := decide_eq_true hxn
              clear hx0 hxn
              obtain ⟨z1, z2, z3⟩ := alike_raw HA.out
              obtain ⟨v, b2, e3, hI⟩ : ∃ v b2 e3, rawB b e = (v, b2, e3) := ⟨_, _, _, rfl⟩
              obtain ⟨v', a2, e3', hJ⟩ : ∃ v a2 e3, refRaw l0 a e = (v, a2, e3) := ⟨_, _, _, rfl⟩
              have hci := rawH.calls gr w.heap.size b e _ w wr HW.out
              have hri := fun (F : List Asr) (w1 : World) h => refRaw.calls w2.heap.size l0 a e F w w1 (by have := HL.out; omega) HA.out.1 HX.out h
              simp only [hI] at z1 z2 z3 hci
              simp only [hJ] at z1 z2 z3 hri
              subst z1 z2
              have hrl := fun (F : List Asr) (w1 : World) h => refLeft.calls w2.heap.size l0 a2 e3 F w w1 (by have := HL.out; omega) z3.1 h
              simp only [← alike_left z3] at hrl
              have HRL := Aside0.mk hrl
              have HRI := Aside0.mk hri
              have HCI := Aside0.mk hci
              have HA2 := Aside0.mk z3
              clear hI hJ hci z3 hri hrl
              go_wp2_with (first | (go_at_call 18; ((refine (HCI.out).mono ?_); rintro e8 w5 ⟨v5, rfl, hw5⟩; obtain ⟨A5, c5, e5_, hc5, hC5⟩ := hw5.row_reads; subst e5_; have HS5 := Aside0.mk hw5.up2; clear hw5 hc5 hC5)) | (go_at_call 22; ((refine (HRI.out _ _ HS5.out).mono ?_); rintro e8 w6 ⟨v6, rfl, hw6⟩; obtain ⟨A7, c7, e7_, hc7, hC7⟩ := hw6.row_reads; subst e7_; have hC8 := row_C hw6.up2; have HC7 := Aside0.mk hC7; have HD7 := Aside0.mk hc7; have HC8 := Aside0.mk hC8; have HS6a := Aside0.mk hw6.drop.drop2; clear hw6 hc7 hC7 hC8)) | (go_at_call 16; ((refine (same.calls A5 c5 v A7 c7 v.length v.length rfl rfl _ HC8.out.2.2 HC8.out.2.1 HC7.out HD7.out).mono ?_); rintro e8 w9 ⟨rfl, ⟨nd, rfl⟩⟩; have hw9 := HS6a.out.drewN nd; have HS6 := Aside0.mk hw9.sw; obtain ⟨A6, c6, bk6, _⟩ := refr_is hw9; have q2 : (w6.drewN nd).cell? ⟨w2.heap.size, 2, none⟩ = some (.int .i64 e3) := (blk_cell bk6 2).trans rfl; clear hw9 bk6)))
              refine wp_region_held_drew (S := (fun w' => w'.cell? ⟨w2.heap.size, 2, none⟩ = some (.int .i64 e3))) (by kernel_rfl) ?r5S (fun hHeld => ?_)
              case r5S => (exact q2)
              refine takeW (i := 0) (v := ?r5v0) rfl rfl (by kernel_rfl) (by kernel_rfl) (by kernel_rfl) (fun _ _ _ h => h) (by rfl) ?r5y0 hHeld ?_
              case r5y0 => (intro w hSw; (try dsimp only at hSw); go_simp <;> (try with_reducible rfl))
              (try simp only [Act.put, List.setIfInBounds_toArray, List.set_cons_zero, List.set_cons_succ])
              refine takeW (i := 2) (v := ?r5v2) rfl rfl (by kernel_rfl) (by kernel_rfl) (by kernel_rfl) (fun _ _ _ h => h) (by rfl) ?r5y2 hHeld ?_
              case r5y2 => (intro w hSw; (try dsimp only at hSw); go_simp <;> (try with_reducible rfl))
              (try simp only [Act.put, List.setIfInBounds_toArray, List.set_cons_zero, List.set_cons_succ])
              refine takeW (i := 3) (v := ?r5v3) rfl rfl (by kernel_rfl) (by kernel_rfl) (by kernel_rfl) (fun _ _ _ h => h) (by rfl) ?r5y3 hHeld ?_
              case r5y3 => (intro w hSw; (try dsimp only at hSw); go_simp <;> (try with_reducible rfl))
              (try simp only [Act.put, List.setIfInBounds_toArray, List.set_cons_zero, List.set_cons_succ])
              refine takeW (i := 4) (v := ?r5v4) rfl rfl (by kernel_rfl) (by kernel_rfl) (by kernel_rfl) (fun _ _ _ h => h) (by rfl) ?r5y4 hHeld ?_
              case r5y4 => (intro w hSw; (try dsimp only at hSw); go_simp <;> (try with_reducible rfl))
              (try simp only [Act.put, List.setIfInBounds_toArray, List.set_cons_zero, List.set_cons_succ])
              refine takeW (i := 5) (v := ?r5v5) rfl rfl (by kernel_rfl) (by kernel_rfl) (by kernel_rfl) (fun _ _ _ h => h) (by rfl) ?r5y5 hHeld ?_
              case r5y5 => (intro w hSw; (try dsimp only at hSw); go_simp <;> (try with_reducible rfl))
              (try simp only [Act.put, List.setIfInBounds_toArray, List.set_cons_zero, List.set_cons_succ])
              refine callC (i := 1) rfl (by kernel_rfl) (by rfl) (fun K hK => ?_)
              clear hHeld
              (go_wp2_with ((go_at_call 13; ((refine (errH.calls gr w.heap.size b2 e3 _ w _ HS6.out.drew).mono ?_); rintro e8 w8 ⟨rfl, ew_⟩; subst w8))))
              refine hK.out _ _ ?r5k1 (fun hHeld => ?_)
              case r5k1 => (exact q2)
              clear hK K
              (try simp only [Act.put, List.setIfInBounds_toArray, List.set_cons_zero, List.set_cons_succ])
              refine takeW (i := 6) (v := ?r5v6) rfl rfl (by kernel_rfl) (by kernel_rfl) (by kernel_rfl) (fun _ _ _ h => h) (by rfl) ?r5y6 hHeld ?_
              case r5y6 => (intro w hSw; (try dsimp only at hSw); go_simp <;> (try with_reducible rfl))
              (try simp only [Act.put, List.setIfInBounds_toArray, List.set_cons_zero, List.set_cons_succ])
              refine takeW (i := 7) (v := ?r5v7) rfl rfl (by kernel_rfl) (by kernel_rfl) (by kernel_rfl) (fun _ _ _ h => h) (by rfl) ?r5y7 hHeld ?_
              case r5y7 => (intro w hSw; (try dsimp only at hSw); go_simp <;> (try with_reducible rfl))
              (try simp only [Act.put, List.setIfInBounds_toArray, List.set_cons_zero, List.set_cons_succ])
              refine takeW (i := 8) (v := ?r5v8) rfl rfl (by kernel_rfl) (by kernel_rfl) (by kernel_rfl) (fun _ _ _ h => h) (by rfl) ?r5y8 hHeld ?_
              case r5y8 => (intro w hSw; (try dsimp only at hSw); go_simp <;> (try with_reducible rfl))
              (try simp only [Act.put, List.setIfInBounds_toArray, List.set_cons_zero, List.set_cons_succ])
              refine takeW (i := 10) (v := ?r5v10) rfl rfl (by kernel_rfl) (by kernel_rfl) (by kernel_rfl) (fun _ _ _ h => h) (by rfl) ?r5y10 hHeld ?_
              case r5y10 => (intro w hSw; (try dsimp only at hSw); go_simp <;> (try with_reducible rfl))
              (try simp only [Act.put, List.setIfInBounds_toArray, List.set_cons_zero, List.set_cons_succ])
              refine callC (i := 9) rfl (by kernel_rfl) (by rfl) (fun K hK => ?_)
              clear hHeld
              (go_wp2_with ((go_at_call 19; ((refine (left.calls gr w.heap.size b2 e3 _ w _ HS6.out.drew).mono ?_); rintro e8 w8 ⟨rfl, ew_⟩; subst w8))))
              refine hK.out _ _ ?r5k9 (fun hHeld => ?_)
              case r5k9 => (exact q2)
              clear hK K
              (try simp only [Act.put, List.setIfInBounds_toArray, List.set_cons_zero, List.set_cons_succ])
              refine callC (i := 11) rfl (by kernel_rfl) (by rfl) (fun K hK => ?_)
              clear hHeld
              (go_wp2_with ((go_at_call 25; ((refine (HRL.out _ _ HS6.out.drew.sw).mono ?_); rintro e8 w8 ⟨rfl, hw8⟩; have HS8 := Aside0.mk hw8.sw; obtain ⟨A8, c8, bk8, _⟩ := refr_is hw8; have q8 : w8.cell? ⟨w2.heap.size, 2, none⟩ = some (.int .i64 e3) := (blk_cell bk8 2).trans rfl; clear hw8 bk8))))
              refine hK.out _ _ ?r5k11 (fun hHeld => ?_)
              case r5k11 => (exact q8)
              clear hK K
              (try simp only [Act.put, List.setIfInBounds_toArray, List.set_cons_zero, List.set_cons_succ])
              refine takeW (i := 12) (v := ?r5v12) rfl rfl (by kernel_rfl) (by kernel_rfl) (by kernel_rfl) (fun _ _ _ h => h) (by rfl) ?r5y12 hHeld ?_
              case r5y12 => (intro w hSw; (try dsimp only at hSw); go_simp <;> (try with_reducible rfl))
              (try simp only [Act.put, List.setIfInBounds_toArray, List.set_cons_zero, List.set_cons_succ])
              refine takeW (i := 13) (v := ?r5v13) rfl rfl (by kernel_rfl) (by kernel_rfl) (by kernel_rfl) (fun _ _ _ h => h) (by rfl) ?r5y13 hHeld ?_
              case r5y13 => (intro w hSw; (try dsimp only at hSw); go_simp <;> (try with_reducible rfl))
              (try simp only [Act.put, List.setIfInBounds_toArray, List.set_cons_zero, List.set_cons_succ])
              refine wpAnyH_done (by kernel_rfl) ?_ _
              go_wp2
              go_roundg k1
              case measure => have := HK.out; omega
              case rel => exact ⟨i + 1, b2, a2, e3, rfl, ⟨by have := HK.out; omega⟩, ⟨by omega⟩, HA2, HS8⟩
            · have d3 : decide (x < 0) = false := decide_eq_false hxn
              clear hx0 hxn
              obtain ⟨z1, z2, z3⟩ := alike_count x HA.out
              obtain ⟨v, b2, e3, hI⟩ : ∃ v b2 e3, countB x b e = (v, b2, e3) := ⟨_, _, _, rfl⟩
              obtain ⟨v', a2, e3', hJ⟩ : ∃ v a2 e3, refCount x l0 a e = (v, a2, e3) := ⟨_, _, _, rfl⟩
              have hci := count.calls gr w.heap.size x b e _ w wr.drew HW.out.drew
              have hri := fun (F : List Asr) (w1 : World) h => refCount.calls w2.heap.size x l0 a e F w w1 (by have := HL.out; omega) HA.out.1 HX.out h
              simp only [hI] at z1 z2 z3 hci
              simp only [hJ] at z1 z2 z3 hri
              subst z1 z2
              have hrl := fun (F : List Asr) (w1 : World) h => refLeft.calls w2.heap.size l0 a2 e3 F w w1 (by have := HL.out; omega) z3.1 h
              simp only [← alike_left z3] at hrl
              have HRL := Aside0.mk hrl
              have HRI := Aside0.mk hri
              have HCI := Aside0.mk hci
              have HA2 := Aside0.mk z3
              clear hI hJ hci z3 hri hrl
              go_wp2
              refine wp_region_held_drew (S := (fun w' => w'.cell? (ad.add i) = some (.int .i64 x))) (by kernel_rfl) ?r6S (fun hHeld => ?_)
              case r6S => (exact y0)
              refine takeW (i := 0) (v := ?r6v0) rfl rfl (by kernel_rfl) (by kernel_rfl) (by kernel_rfl) (fun _ _ _ h => h) (by rfl) ?r6y0 hHeld ?_
              case r6y0 => (intro w hSw; (try dsimp only at hSw); go_simp <;> (try with_reducible rfl))
              (try simp only [Act.put, List.setIfInBounds_toArray, List.set_cons_zero, List.set_cons_succ])
              refine takeW (i := 1) (v := ?r6v1) rfl rfl (by kernel_rfl) (by kernel_rfl) (by kernel_rfl) (fun _ _ _ h => h) (by rfl) ?r6y1 hHeld ?_
              case r6y1 => (intro w hSw; (try dsimp only at hSw); go_simp <;> (try with_reducible rfl))
              (try simp only [Act.put, List.setIfInBounds_toArray, List.set_cons_zero, List.set_cons_succ])
              refine takeW (i := 2) (v := ?r6v2) rfl rfl (by kernel_rfl) (by kernel_rfl) (by kernel_rfl) (fun _ _ _ h => h) (by rfl) ?r6y2 hHeld ?_
              case r6y2 => (intro w hSw; (try dsimp only at hSw); go_simp <;> (try with_reducible rfl))
              (try simp only [Act.put, List.setIfInBounds_toArray, List.set_cons_zero, List.set_cons_succ])
              refine takeW (i := 3) (v := ?r6v3) rfl rfl (by kernel_rfl) (by kernel_rfl) (by kernel_rfl) (fun _ _ _ h => h) (by rfl) ?r6y3 hHeld ?_
              case r6y3 => (intro w hSw; (try dsimp only at hSw); go_simp <;> (try with_reducible rfl))
              (try simp only [Act.put, List.setIfInBounds_toArray, List.set_cons_zero, List.set_cons_succ])
              refine takeW (i := 4) (v := ?r6v4) rfl rfl (by kernel_rfl) (by kernel_rfl) (by kernel_rfl) (fun _ _ _ h => h) (by rfl) ?r6y4 hHeld ?_
              case r6y4 => (intro w hSw; (try dsimp only at hSw); go_simp <;> (try with_reducible rfl))
              (try simp only [Act.put, List.setIfInBounds_toArray, List.set_cons_zero, List.set_cons_succ])
              refine takeW (i := 6) (v := ?r6v6) rfl rfl (by kernel_rfl) (by kernel_rfl) (by kernel_rfl) (fun _ _ _ h => h) (by rfl) ?r6y6 hHeld ?_
              case r6y6 => (intro w hSw; (try dsimp only at hSw); go_simp <;> (try with_reducible rfl))
              (try simp only [Act.put, List.setIfInBounds_toArray, List.set_cons_zero, List.set_cons_succ])
              refine takeW (i := 7) (v := ?r6v7) rfl rfl (by kernel_rfl) (by kernel_rfl) (by kernel_rfl) (fun _ _ _ h => h) (by rfl) ?r6y7 hHeld ?_
              case r6y7 => (intro w hSw; (try dsimp only at hSw); go_simp <;> (try with_reducible rfl))
              (try simp only [Act.put, List.setIfInBounds_toArray, List.set_cons_zero, List.set_cons_succ])
              refine takeW (i := 8) (v := ?r6v8) rfl rfl (by kernel_rfl) (by kernel_rfl) (by kernel_rfl) (fun _ _ _ h => h) (by rfl) ?r6y8 hHeld ?_
              case r6y8 => (intro w hSw; (try dsimp only at hSw); go_simp <;> (try with_reducible rfl))
              (try simp only [Act.put, List.setIfInBounds_toArray, List.set_cons_zero, List.set_cons_succ])
              refine takeW (i := 9) (v := ?r6v9) rfl rfl (by kernel_rfl) (by kernel_rfl) (by kernel_rfl) (fun _ _ _ h => h) (by rfl) ?r6y9 hHeld ?_
              case r6y9 => (intro w hSw; (try dsimp only at hSw); go_simp <;> (try with_reducible rfl))
              (try simp only [Act.put, List.setIfInBounds_toArray, List.set_cons_zero, List.set_cons_succ])
              refine takeW (i := 10) (v := ?r6v10) rfl rfl (by kernel_rfl) (by kernel_rfl) (by kernel_rfl) (fun _ _ _ h => h) (by rfl) ?r6y10 hHeld ?_
              case r6y10 => (intro w hSw; (try dsimp only at hSw); go_simp <;> (try with_reducible rfl))
              (try simp only [Act.put, List.setIfInBounds_toArray, List.set_cons_zero, List.set_cons_succ])
              refine callC (i := 5) rfl (by kernel_rfl) (by rfl) (fun K hK => ?_)
              clear hHeld
              (go_wp2_with ((go_at_call 23; ((refine (HCI.out).mono ?_); rintro e8 w5 ⟨rfl, hw5⟩; have y1 := HG.out _ hw5.below; have HS5 := Aside0.mk hw5.sw; clear hw5))))
              refine hK.out _ _ ?r6k5 (fun hHeld => ?_)
              case r6k5 => (exact y1)
              clear hK K
              (try simp only [Act.put, List.setIfInBounds_toArray, List.set_cons_zero, List.set_cons_succ])
              refine callC (i := 11) rfl (by kernel_rfl) (by rfl) (fun K hK => ?_)
              clear hHeld
              (go_wp2_with ((go_at_call 24; ((refine (HRI.out _ _ HS5.out).mono ?_); rintro e8 w6 ⟨rfl, hw6⟩; have y2 := HG.out _ hw6.below; have HS6 := Aside0.mk hw6.sw; obtain ⟨A6, c6, bk6, _⟩ := refr_is hw6; have q2 : w6.cell? ⟨w2.heap.size, 2, none⟩ = some (.int .i64 e3) := (blk_cell bk6 2).trans rfl; clear hw6 bk6))))
              refine hK.out _ _ ?r6k11 (fun hHeld => ?_)
              case r6k11 => (exact y2)
              clear hK K
              (try simp only [Act.put, List.setIfInBounds_toArray, List.set_cons_zero, List.set_cons_succ])
              refine takeW (i := 12) (v := ?r6v12) rfl rfl (by kernel_rfl) (by kernel_rfl) (by kernel_rfl) (fun _ _ _ h => h) (by rfl) ?r6y12 hHeld ?_
              case r6y12 => (intro w hSw; (try dsimp only at hSw); go_simp <;> (try with_reducible rfl))
              (try simp only [Act.put, List.setIfInBounds_toArray, List.set_cons_zero, List.set_cons_succ])
              refine wpAnyH_done (by kernel_rfl) ?_ _
              go_wp2
              refine wp_region_held_drew (S := (fun w' => w'.cell? ⟨w2.heap.size, 2, none⟩ = some (.int .i64 e3))) (by kernel_rfl) ?r7S (fun hHeld => ?_)
              case r7S => (exact q2)
              refine takeW (i := 0) (v := ?r7v0) rfl rfl (by kernel_rfl) (by kernel_rfl) (by kernel_rfl) (fun _ _ _ h => h) (by rfl) ?r7y0 hHeld ?_
              case r7y0 => (intro w hSw; (try dsimp only at hSw); go_simp <;> (try with_reducible rfl))
              (try simp only [Act.put, List.setIfInBounds_toArray, List.set_cons_zero, List.set_cons_succ])
              refine takeW (i := 2) (v := ?r7v2) rfl rfl (by kernel_rfl) (by kernel_rfl) (by kernel_rfl) (fun _ _ _ h => h) (by rfl) ?r7y2 hHeld ?_
              case r7y2 => (intro w hSw; (try dsimp only at hSw); go_simp <;> (try with_reducible rfl))
              (try simp only [Act.put, List.setIfInBounds_toArray, List.set_cons_zero, List.set_cons_succ])
              refine takeW (i := 3) (v := ?r7v3) rfl rfl (by kernel_rfl) (by kernel_rfl) (by kernel_rfl) (fun _ _ _ h => h) (by rfl) ?r7y3 hHeld ?_
              case r7y3 => (intro w hSw; (try dsimp only at hSw); go_simp <;> (try with_reducible rfl))
              (try simp only [Act.put, List.setIfInBounds_toArray, List.set_cons_zero, List.set_cons_succ])
              refine takeW (i := 4) (v := ?r7v4) rfl rfl (by kernel_rfl) (by kernel_rfl) (by kernel_rfl) (fun _ _ _ h => h) (by rfl) ?r7y4 hHeld ?_
              case r7y4 => (intro w hSw; (try dsimp only at hSw); go_simp <;> (try with_reducible rfl))
              (try simp only [Act.put, List.setIfInBounds_toArray, List.set_cons_zero, List.set_cons_succ])
              refine takeW (i := 5) (v := ?r7v5) rfl rfl (by kernel_rfl) (by kernel_rfl) (by kernel_rfl) (fun _ _ _ h => h) (by rfl) ?r7y5 hHeld ?_
              case r7y5 => (intro w hSw; (try dsimp only at hSw); go_simp <;> (try with_reducible rfl))
              (try simp only [Act.put, List.setIfInBounds_toArray, List.set_cons_zero, List.set_cons_succ])
              refine callC (i := 1) rfl (by kernel_rfl) (by rfl) (fun K hK => ?_)
              clear hHeld
              (go_wp2_with ((go_at_call 13; ((refine (errH.calls gr w.heap.size b2 e3 _ w _ HS6.out.drew).mono ?_); rintro e8 w8 ⟨rfl, ew_⟩; subst w8))))
              refine hK.out _ _ ?r7k1 (fun hHeld => ?_)
              case r7k1 => (exact q2)
              clear hK K
              (try simp only [Act.put, List.setIfInBounds_toArray, List.set_cons_zero, List.set_cons_succ])
              refine takeW (i := 6) (v := ?r7v6) rfl rfl (by kernel_rfl) (by kernel_rfl) (by kernel_rfl) (fun _ _ _ h => h) (by rfl) ?r7y6 hHeld ?_
              case r7y6 => (intro w hSw; (try dsimp only at hSw); go_simp <;> (try with_reducible rfl))
              (try simp only [Act.put, List.setIfInBounds_toArray, List.set_cons_zero, List.set_cons_succ])
              refine takeW (i := 7) (v := ?r7v7) rfl rfl (by kernel_rfl) (by kernel_rfl) (by kernel_rfl) (fun _ _ _ h => h) (by rfl) ?r7y7 hHeld ?_
              case r7y7 => (intro w hSw; (try dsimp only at hSw); go_simp <;> (try with_reducible rfl))
              (try simp only [Act.put, List.setIfInBounds_toArray, List.set_cons_zero, List.set_cons_succ])
              refine takeW (i := 8) (v := ?r7v8) rfl rfl (by kernel_rfl) (by kernel_rfl) (by kernel_rfl) (fun _ _ _ h => h) (by rfl) ?r7y8 hHeld ?_
              case r7y8 => (intro w hSw; (try dsimp only at hSw); go_simp <;> (try with_reducible rfl))
              (try simp only [Act.put, List.setIfInBounds_toArray, List.set_cons_zero, List.set_cons_succ])
              refine takeW (i := 10) (v := ?r7v10) rfl rfl (by kernel_rfl) (by kernel_rfl) (by kernel_rfl) (fun _ _ _ h => h) (by rfl) ?r7y10 hHeld ?_
              case r7y10 => (intro w hSw; (try dsimp only at hSw); go_simp <;> (try with_reducible rfl))
              (try simp only [Act.put, List.setIfInBounds_toArray, List.set_cons_zero, List.set_cons_succ])
              refine callC (i := 9) rfl (by kernel_rfl) (by rfl) (fun K hK => ?_)
              clear hHeld
              (go_wp2_with ((go_at_call 19; ((refine (left.calls gr w.heap.size b2 e3 _ w _ HS6.out.drew).mono ?_); rintro e8 w8 ⟨rfl, ew_⟩; subst w8))))
              refine hK.out _ _ ?r7k9 (fun hHeld => ?_)
              case r7k9 => (exact q2)
              clear hK K
              (try simp only [Act.put, List.setIfInBounds_toArray, List.set_cons_zero, List.set_cons_succ])
              refine callC (i := 11) rfl (by kernel_rfl) (by rfl) (fun K hK => ?_)
              clear hHeld
              (go_wp2_with ((go_at_call 25; ((refine (HRL.out _ _ HS6.out.drew.sw).mono ?_); rintro e8 w8 ⟨rfl, hw8⟩; have HS8 := Aside0.mk hw8.sw; obtain ⟨A8, c8, bk8, _⟩ := refr_is hw8; have q8 : w8.cell? ⟨w2.heap.size, 2, none⟩ = some (.int .i64 e3) := (blk_cell bk8 2).trans rfl; clear hw8 bk8))))
              refine hK.out _ _ ?r7k11 (fun hHeld => ?_)
              case r7k11 => (exact q8)
              clear hK K
              (try simp only [Act.put, List.setIfInBounds_toArray, List.set_cons_zero, List.set_cons_succ])
              refine takeW (i := 12) (v := ?r7v12) rfl rfl (by kernel_rfl) (by kernel_rfl) (by kernel_rfl) (fun _ _ _ h => h) (by rfl) ?r7y12 hHeld ?_
              case r7y12 => (intro w hSw; (try dsimp only at hSw); go_simp <;> (try with_reducible rfl))
              (try simp only [Act.put, List.setIfInBounds_toArray, List.set_cons_zero, List.set_cons_succ])
              refine takeW (i := 13) (v := ?r7v13) rfl rfl (by kernel_rfl) (by kernel_rfl) (by kernel_rfl) (fun _ _ _ h => h) (by rfl) ?r7y13 hHeld ?_
              case r7y13 => (intro w hSw; (try dsimp only at hSw); go_simp <;> (try with_reducible rfl))
              (try simp only [Act.put, List.setIfInBounds_toArray, List.set_cons_zero, List.set_cons_succ])
              refine wpAnyH_done (by kernel_rfl) ?_ _
              go_wp2
              go_roundg k1
              case measure => have := HK.out; omega
              case rel => exact ⟨i + 1, b2, a2, e3, rfl, ⟨by have := HK.out; omega⟩, ⟨by omega⟩, HA2, HS8⟩
      · have hk9 := C_take (row_C HW.out.up2).2.2 l0.length (by simp)
        rw [List.take_left' rfl] at hk9
        have HK9 := Aside0.mk hk9
        have hkf : jousthelp_Kept_byte.f (l0 ++ [71, 71, 71]) l0 l0 71 = some true := by unfold jousthelp_Kept_byte.f; rw [if_pos ⟨by have := HL.out; simp; omega, rfl, rfl⟩]
        have HKF := Aside0.mk (jousthelp_Kept_byte.calls A9 c9 (l0 ++ [71, 71, 71]) l0 A0 c0 l0 71 true wr (row_C HW.out.up2).2.2 (row_C HW.out.up2).2.1 hk9 HC9.out.2 (HW.out.came (Nat.le_refl _) HR0.out) HC0.out hkf)
        clear hk9 hkf
        by_cases hp : i < l1.length
        · have e1 : decide ((i : Int) < (l1.length : Int)) = true := decide_eq_true (by omega)
          have hq : ¬ i < 40 := fun h => hil ⟨hp, h⟩
          have e2 : decide ((i : Int) < 40) = false := decide_eq_false (by omega)
          clear hil
          go_wp2_with (first | (go_at_call 26; ((refine (HKF.out).mono ?_); rintro e8 w9 ⟨rfl, hb9⟩)))
          go_ret
          exact ⟨rfl, (HW.out.step hb9).below⟩
        · have e1 : decide ((i : Int) < (l1.length : Int)) = false := decide_eq_false (by omega)
          clear hil
          go_wp2_with (first | (go_at_call 26; ((refine (HKF.out).mono ?_); rintro e8 w9 ⟨rfl, hb9⟩)))
          go_ret
          exact ⟨rfl, (HW.out.step hb9).below⟩
end Go.Proofs.Ytoibgnhfpcaejaa.PBytesRead
