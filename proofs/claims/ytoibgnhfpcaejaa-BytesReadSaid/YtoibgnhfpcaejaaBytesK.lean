/- The writer and the reader of package bytes: what each of their calls does. Condition: numbers are within int, bytes are bytes. -/
import Derived.Test.YtoibgnhfpcaejaaBytesJ
namespace Go.Proofs.Ytoibgnhfpcaejaa.BytesW
open Go.RowKit Go.Proofs.YtoibgnhfpcaejaaW.PrintWords Go.Proofs.YtoibgnhfpcaejaaW.PrintLast Go.Proofs.YtoibgnhfpcaejaaW.PrintMore Go.Proofs.Ytoibgnhfpcaejaa.Sep
attribute [local go_sem] max2_int min2_int max_two min_two max_three min_three max_four min_four   -- for this text's walks alone
set_option linter.unusedVariables false
set_option linter.unusedSimpArgs false
theorem Rraise {e base : Nat} {w : World} {ok : Nat → Prop} {v : Value} {b : List Int} (h : Kd.R (Kd.int .u8) e w 0 ok v b) (hb : ∀ k, ok k → base ≤ k) : Kd.R (Kd.int .u8) e w base ok v b :=
  Kd.R_raise (b := 0) (b' := base) (fun _ _ _ _ h => h) h (fun k hk => hb k (h.1 k hk))
/-- a writer at block g (of type T), and all that was written -/
def writer (T g : Nat) (b : List Int) : Asr where
  P w S := (∀ k, S k → k < w.heap.size) ∧ S g ∧ ∃ v, w.heap[g]? = some (.cells #[v] T (0, 0)) ∧ Kd.R (Kd.int .u8) 5 w 0 (fun k => S k ∧ k ≠ g) v b
  loc := by
    rintro w w' S ⟨h1, h2, v, h3, h4⟩ hz hs
    exact ⟨fun k hk => Nat.lt_of_lt_of_le (h1 k hk) hz, h2, v, (hs g h2).trans h3, Kd.R_move h4 (fun k hk => hs k hk.1)⟩
  lt := fun h => h.1
theorem writer_new {w0 w : World} {base : Nat} {L : List Asr} (T : Nat) (h : Has w0 base w L) : Has w0 base (w.alloc (.cells #[.slice none 0 0] T)) (writer T w.heap.size [] :: L) :=
  (h.own #[.slice none 0 0] T).imp (fun {w S} h => ⟨h.2.2, h.2.1, _, h.1, Kd.R_nil _ _ _ _ _⟩)
theorem numberH.calls (T g base : Nat) (b : List Int) (x : Int) (F : List Asr) (w0 w : World) (hx : -9223372036854775808 ≤ x ∧ x ≤ 9223372036854775807) (hl : b.length ≤ 100000000) (h : Has w0 base w (writer T g b :: F)) :
    Calls Try.prog 32 #[.pointer (some ⟨g, 0, none⟩), .int .i64 x] w fun e w' => e = .returned (.tuple #[]) ∧ Has w0 base w' (writer T g (b ++ numB x) :: F) := by
  have hB := h.below
  have hle := h.le
  obtain ⟨S1, ⟨h1, h2, v, h3, h4⟩, hS, hout⟩ := h.out
  have h5 : Kd.R (Kd.int .u8) 5 w base (fun k => k ≠ g) v b := Kd.R_mono (Rraise h4 (fun k hk => hS k hk.1)) (fun k hk => hk.2)
  refine (number.calls g base v b x w0 w hx hl (hS g h2) hle h3 h5 hB).mono ?_
  rintro e w' ⟨rfl, v', bk, ho, hB', hF⟩
  refine ⟨rfl, ?_⟩
  have hlt := Kd.R_lt ho
  refine hout w' (writer T g (b ++ numB x)) (fun k => k = g ∨ v'.ownBlock = some k) hB' hF.size ⟨?_, .inl rfl, v', bk, ?_⟩ ?_ ?_
  · rintro k (rfl | hk)
    · exact (Array.getElem?_eq_some_iff.1 bk).1
    · exact hlt k hk
  · exact Kd.R_mono (Kd.R_lower (Kd.R_tight2 rfl ho) (Nat.zero_le _)) (fun k hk => ⟨.inr hk.1.symm, hk.2⟩)
  · rintro k (rfl | hk)
    · exact .inl h2
    · rcases hF.own with e | ⟨q, e, hq⟩
      · exact .inl (h4.1 k (e ▸ hk)).1
      · rw [e] at hk
        exact .inr (by have := Option.some.inj hk; omega)
  · intro k hk hn
    refine hF.block k hk (fun e => hn (e ▸ h2)) (fun e => hn (h4.1 k e.symm).1)
def numsB (l : List Int) : List Int := l.flatMap numB
theorem numB_len (x : Int) : (numB x).length ≤ 9 := by
  have hz9 : zig (heldV x) < 9223372036854775808 := by
    unfold heldV mn mx zig
    repeat' split
    all_goals omega
  exact digs_len 8 _ (Nat.lt_of_lt_of_le hz9 (by decide))
theorem numsB_len (l : List Int) : (numsB l).length ≤ 9 * l.length := by
  induction l with
  | nil => simp [numsB]
  | cons x l ih =>
    have := numB_len x
    unfold numsB at ih ⊢
    simp only [List.flatMap_cons, List.length_append, List.length_cons]
    omega
theorem numsB_snoc (l : List Int) (x : Int) : numsB (l ++ [x]) = numsB l ++ numB x := by simp [numsB]
set_option maxHeartbeats 8000000 in
set_option maxRecDepth 100000 in
theorem put.calls (T g base : Nat) (b : List Int) (A : Option Addr) (c : Nat) (l : List Int) (F : List Asr) (w0 w : World) (hx : ∀ x ∈ l, -9223372036854775808 ≤ x ∧ x ≤ 9223372036854775807) (hl : l.length ≤ 1000000) (hb : b.length ≤ 50000000)
    (hr : ∀ (w' : World) (b' : List Int), Has w0 base w' (writer T g b' :: F) → Kd.C (Kd.int .i64) w' A l.length l) (h : Has w0 base w (writer T g b :: F)) :
    Calls Try.prog 11 #[.pointer (some ⟨g, 0, none⟩), .slice A l.length c] w fun e w' => e = .returned (.tuple #[]) ∧ Has w0 base w' (writer T g (b ++ numsB l) :: F) := by
  have HX := Aside0.mk hx
  have HL := Aside0.mk (And.intro hl hb)
  have HR := Aside0.mk hr
  have HH := Aside0.mk h
  clear hx hl hb hr h
  go_enter Try.func11, Try.ntmps11
  go_wp2
  go_loopg [10] (l.length + 1) (fun kq v10 w' => ∃ i : Nat, v10 = .int .i64 (i : Int) ∧ Aside0 (i + kq = l.length + 1) ∧ Aside0 (i ≤ l.length) ∧ Aside0 (Has w0 base w' (writer T g (b ++ numsB (l.take i)) :: F)))
  case atStart => exact ⟨0, rfl, ⟨by omega⟩, ⟨by omega⟩, ⟨by simpa [numsB] using HH.out⟩⟩
  case round =>
    obtain ⟨i, rfl, HK, HI, HW⟩ := hrel
    by_cases hil : i < l.length
    · have d1 : decide ((i : Int) < (l.length : Int)) = true := decide_eq_true (by omega)
      have hC := HR.out _ _ HW.out
      obtain ⟨ad, rfl, x⟩ := Kd.at_int hC (i : Int) (by omega) (by omega)
      have hrd : rd l (i : Int) = l[i] := by simp [rd, List.getD_eq_getElem?_getD, hil]
      rw [hrd, Int.toNat_natCast] at x
      have HXI := Aside0.mk (HX.out _ (List.getElem_mem hil))
      have hle : (b ++ numsB (l.take i)).length ≤ 100000000 := by
        have := numsB_len (l.take i)
        have h2 := HL.out
        rw [List.length_take, Nat.min_eq_left (by omega)] at this
        rw [List.length_append]
        omega
      have HLE := Aside0.mk hle
      clear hle hC hrd
      cases gk with
      | zero => exact absurd HK.out (by omega)
      | succ k1 =>
        have hi9 : i ≤ 1000000 := by have := HL.out.1; omega
        go_wp2_with (first | (go_at_call 32; (refine (numberH.calls T g base _ l[i] F w0 _ HXI.out HLE.out HW.out).mono ?_); rintro e w1 ⟨rfl, hw1⟩; have HW1 := Aside0.mk hw1; clear hw1))
        go_roundg k1
        case measure => have := HK.out; omega
        case rel =>
          refine ⟨i + 1, rfl, ⟨by have := HK.out; omega⟩, ⟨by omega⟩, ⟨?_⟩⟩
          have := HW1.out
          rw [List.append_assoc, ← numsB_snoc, ← List.take_succ_eq_append_getElem hil] at this
          exact this
    · have d1 : decide ((i : Int) < (l.length : Int)) = false := decide_eq_false (by omega)
      go_wp2
      go_end0
      refine ⟨rfl, ?_⟩
      have := HW.out
      rw [List.take_of_length_le (by omega)] at this
      exact this
end Go.Proofs.Ytoibgnhfpcaejaa.BytesW
