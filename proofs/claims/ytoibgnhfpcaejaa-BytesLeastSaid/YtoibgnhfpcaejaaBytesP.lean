/- Calls of the writer and the reader of package bytes, and what their numbers' bytes are. No condition. -/
import Derived.Test.YtoibgnhfpcaejaaBytesR
namespace Go.Proofs.Ytoibgnhfpcaejaa.BytesW
open Go.RowKit Go.Proofs.YtoibgnhfpcaejaaW.PrintWords Go.Proofs.YtoibgnhfpcaejaaW.PrintLast Go.Proofs.YtoibgnhfpcaejaaW.PrintMore
attribute [local go_sem] max2_int min2_int max_two min_two max_three min_three max_four min_four   -- for this text's walks alone
set_option linter.unusedVariables false
set_option linter.unusedSimpArgs false
theorem digs_lt {u : Nat} (h : u < 128) : digs u = [(u : Int)] := by rw [digs, dif_pos h]
theorem digs_ge {u : Nat} (h : 128 ≤ u) : digs u = ((u % 128 + 128 : Nat) : Int) :: digs (u / 128) := by rw [digs, dif_neg (by omega)]
theorem digs_len : ∀ (n u : Nat), u < 128 ^ (n + 1) → (digs u).length ≤ n + 1 := by
  intro n
  induction n with
  | zero => intro u h; rw [digs_lt (by simpa using h)]; exact Nat.le_refl _
  | succ n ih =>
    intro u h
    by_cases hu : u < 128
    · rw [digs_lt hu]; simp
    · rw [digs_ge (by omega), List.length_cons]
      rw [Nat.pow_succ] at h
      have := ih (u / 128) (Nat.div_lt_of_lt_mul (by rw [Nat.mul_comm]; exact h))
      omega
theorem digs_pos (u : Nat) : 0 < (digs u).length := by
  by_cases hu : u < 128
  · rw [digs_lt hu]; simp
  · rw [digs_ge (by omega)]; simp
theorem digs_mono : ∀ (n u u' : Nat), u' < n → u ≤ u' → (digs u).length ≤ (digs u').length := by
  intro n
  induction n with
  | zero => intro u u' h; omega
  | succ n ih =>
    intro u u' h hle
    by_cases hu : u < 128
    · rw [digs_lt hu]; exact digs_pos u'
    · rw [digs_ge (show 128 ≤ u by omega), digs_ge (show 128 ≤ u' by omega), List.length_cons, List.length_cons]
      have := ih (u / 128) (u' / 128) (by omega) (by omega)
      omega
/-- all but the last one have the eighth bit; the last one has not -/
theorem digs_form : ∀ (n u : Nat), u < n → (∀ j (h : j < (digs u).length), j + 1 < (digs u).length → 128 ≤ (digs u)[j] ∧ (digs u)[j] < 256) ∧ (∀ j (h : j < (digs u).length), j + 1 = (digs u).length → 0 ≤ (digs u)[j] ∧ (digs u)[j] < 128) := by
  intro n
  induction n with
  | zero => intro u h; omega
  | succ n ih =>
    intro u h
    by_cases hu : u < 128
    · have e := digs_lt hu
      refine ⟨fun j hj hj2 => ?_, fun j hj hj2 => ?_⟩
      · rw [e] at hj2; simp at hj2
      · have : j = 0 := by rw [e] at hj2; simpa using hj2
        subst this
        simp only [e, List.getElem_cons_zero]
        omega
    · have e := digs_ge (show 128 ≤ u by omega)
      obtain ⟨h1, h2⟩ := ih (u / 128) (by omega)
      refine ⟨fun j hj hj2 => ?_, fun j hj hj2 => ?_⟩
      · cases j with
        | zero => simp only [e, List.getElem_cons_zero]; omega
        | succ j =>
          simp only [e, List.getElem_cons_succ]
          simp only [e, List.length_cons] at hj hj2
          exact h1 j (by omega) (by omega)
      · cases j with
        | zero => have := digs_pos (u / 128); simp only [e, List.length_cons] at hj2; omega
        | succ j =>
          simp only [e, List.getElem_cons_succ]
          simp only [e, List.length_cons] at hj hj2
          exact h2 j (by omega) (by omega)
theorem zig_half {x : Int} (hx : -9223372036854775808 ≤ x ∧ x ≤ 9223372036854775807) : zig (heldV (Int.tdiv x 2)) ≤ zig (heldV x) := by
  rw [Int.tdiv_eq_ediv]
  have hs : Int.sign 2 = 1 := rfl
  rw [hs]
  by_cases h : 0 ≤ x ∨ (2 : Int) ∣ x
  · rw [if_pos h]
    unfold heldV mn mx zig
    repeat' split
    all_goals omega
  · rw [if_neg h]
    have hn : x < 0 := by omega
    unfold heldV mn mx zig
    repeat' split
    all_goals omega
set_option maxHeartbeats 8000000 in
set_option maxRecDepth 100000 in
theorem put1.calls (g base q : Nat) (v : Value) (l : List Int) (x : Int) (w0 w : World) (hx : -9223372036854775808 ≤ x ∧ x ≤ 9223372036854775807) (hl : l.length ≤ 100000000) (hg : base ≤ g) (hb : base ≤ w.heap.size) (bk : w.heap[g]? = some (.cells #[v] 28 (0, 0))) (ho : Kd.R (Kd.int .u8) 5 w base (fun k => k ≠ g) v l) (hB : Below base w0 w) (bl : w.heap[q]? = some (.cells #[.int .i64 x] 3 (0, 0))) :
    Calls Try.prog 11 #[.pointer (some ⟨g, 0, none⟩), .slice (some ⟨q, 0, none⟩) 1 1] w fun e w' => e = .returned (.tuple #[]) ∧ ∃ v', w'.heap[g]? = some (.cells #[v'] 28 (0, 0)) ∧ Kd.R (Kd.int .u8) 5 w' base (fun k => k ≠ g) v' (l ++ numB x) ∧ Below base w0 w' ∧ Fr w w' g v v' := by
  have cl : w.cell? ⟨q, 0, none⟩ = some (.int .i64 x) := (blk_cell bl 0).trans rfl
  go_enter Try.func11, Try.ntmps11
  go_wp2
  refine wp_loop_rounds 2 ?_
  rw [rounds_succ]
  go_wp2_with (first | (go_at_call 32; (refine (number.calls g base v l x w0 w hx hl hg hb bk ho hB).mono ?_); rintro e w1 ⟨rfl, v1, bk1, ho1, hb1, hf1⟩))
  rw [rounds_succ]
  go_wp2
  go_end0
  exact ⟨rfl, v1, bk1, ho1, hb1, hf1⟩
set_option maxHeartbeats 8000000 in
set_option maxRecDepth 100000 in
theorem err.calls (g : Nat) (s : Value) (e0 : Int) (w : World) (bk : w.heap[g]? = some (.cells #[s, .int .i64 e0] 56 (0, 0))) :
    Calls Try.prog 13 #[.pointer (some ⟨g, 0, none⟩)] w fun e w' => e = .returned (.int .i64 e0) ∧ w' = w := by
  have hc1 : w.cell? ⟨g, 1, none⟩ = some (.int .i64 e0) := (blk_cell bk 1).trans rfl
  have hf1 := blk_frozen bk 1
  go_enter Try.func13, Try.ntmps13
  go_wp2
  go_ret
  exact ⟨rfl, rfl⟩
end Go.Proofs.Ytoibgnhfpcaejaa.BytesW
