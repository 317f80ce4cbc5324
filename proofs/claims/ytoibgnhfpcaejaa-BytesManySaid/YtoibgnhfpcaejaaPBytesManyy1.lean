/- What the law BytesMany comes to: true of all numbers and bytes. No condition. -/
import Derived.Test.YtoibgnhfpcaejaaPBytesManyz0
import Derived.Test.YtoibgnhfpcaejaaBytesAwake
namespace Go.Proofs.Ytoibgnhfpcaejaa.PBytesMany
open Go.RowKit Go.Proofs.YtoibgnhfpcaejaaW.PrintWords Go.Proofs.YtoibgnhfpcaejaaW.PrintLast Go.Proofs.YtoibgnhfpcaejaaW.PrintMore Go.Proofs.Ytoibgnhfpcaejaa.BytesW Go.Proofs.Ytoibgnhfpcaejaa.Sep
attribute [local go_sem] max2_int min2_int max_two min_two max_three min_three max_four min_four   -- for this text's walks alone
set_option linter.unusedVariables false
set_option linter.unusedSimpArgs false
def joustlaw11_BytesMany.f (l0 : List Int) (l1 : List Int) : Option Bool := if (∀ x ∈ l0, -9223372036854775808 ≤ x ∧ x ≤ 9223372036854775807) then some true else none
set_option maxHeartbeats 8000000 in
set_option maxRecDepth 100000 in
theorem joustlaw11_BytesMany.calls (A0 : Option Addr) (c0 : Nat) (l0 : List Int) (A1 : Option Addr) (c1 : Nat) (l1 : List Int) (r : Bool) (w : World) (hr_ : Aside0 (r = true)) (hr0 : Kd.C (Kd.int .i64) w A0 l0.length l0) (hc0 : l0.length ≤ c0) (hr1 : Kd.C (Kd.int .u8) w A1 l1.length l1) (hc1 : l1.length ≤ c1) (h : joustlaw11_BytesMany.f l0 l1 = some r) :
    Calls Try.prog 4 #[.slice A0 l0.length c0, .slice A1 l1.length c1] w fun e w' => e = .returned (.bool r) ∧ Below w.heap.size w w' := by
  obtain rfl := hr_.out
  have hx : ∀ x ∈ l0, -9223372036854775808 ≤ x ∧ x ≤ 9223372036854775807 := by
    unfold joustlaw11_BytesMany.f at h
    by_cases hc : ∀ x ∈ l0, -9223372036854775808 ≤ x ∧ x ≤ 9223372036854775807
    · exact hc
    · rw [if_neg hc] at h; cases h
  clear h hr_
  by_cases hbig : 60 < l0.length ∨ 300 < l1.length
  · have HT := Aside0.mk hr0
    clear hr0 hr1 hx
    by_cases h1 : 60 < l0.length
    · have d1 : decide (60 < l0.length) = true := decide_eq_true h1
      have d2 : decide ((60 : Int) < (l0.length : Int)) = true := decide_eq_true (by omega)
      clear hbig
      go_enter Try.func4, Try.ntmps4
      go_wp2_with (first | (go_at_call 12; ((refine (awake.calls _).mono ?_); rintro e w1 ⟨rfl, hb1⟩)))
      go_ret
      exact ⟨rfl, hb1⟩
    · have h2 : 300 < l1.length := by omega
      have d1 : decide (60 < l0.length) = false := decide_eq_false h1
      have d2 : decide ((60 : Int) < (l0.length : Int)) = false := decide_eq_false (by omega)
      have d3 : decide (300 < l1.length) = true := decide_eq_true h2
      have d4 : decide ((300 : Int) < (l1.length : Int)) = true := decide_eq_true (by omega)
      clear hbig
      go_enter Try.func4, Try.ntmps4
      go_wp2_with (first | (go_at_call 12; ((refine (awake.calls _).mono ?_); rintro e w1 ⟨rfl, hb1⟩)))
      go_ret
      exact ⟨rfl, hb1⟩
  · have h1 : ¬ 60 < l0.length := by omega
    have h2 : ¬ 300 < l1.length := by omega
    have d1 : decide (60 < l0.length) = false := decide_eq_false h1
    have d2 : decide ((60 : Int) < (l0.length : Int)) = false := decide_eq_false (by omega)
    have d3 : decide (300 < l1.length) = false := decide_eq_false h2
    have d4 : decide ((300 : Int) < (l1.length : Int)) = false := decide_eq_false (by omega)
    have H0 : Has w w.heap.size ((w.alloc (.cells #[.slice none 0 0] 28)).alloc (.cells #[.slice none 0 0] 28)) [writer 28 w.heap.size [], writer 28 (w.heap.size + 1) []] := by
      have := (writer_new 28 (writer_new 28 (Has.nil (w := w) (Nat.le_refl _)))).sw
      simpa using this
    have HS0 := Aside0.mk H0
    have HR0 := Aside0.mk hr0
    have HR1 := Aside0.mk hr1
    have HX := Aside0.mk hx
    have HL := Aside0.mk (And.intro h1 h2)
    have HC1 := Aside0.mk hc1
    clear hr0 hr1 hx H0 hbig h1 h2 hc1 hc0
    go_enter Try.func4, Try.ntmps4
    go_wp2_with (first | (go_at_call 11; ((refine (put.calls 28 w.heap.size w.heap.size [] A0 c0 l0 _ w _ HX.out (by have := HL.out; omega) (by simp) (fun w' b' h' => h'.came (Nat.le_refl _) HR0.out) HS0.out).mono ?_); rintro e w1 ⟨rfl, hw1⟩; have HS1 := Aside0.mk hw1; clear hw1)) | (go_at_call 15; ((refine (wraw.calls 28 w.heap.size w.heap.size _ A1 c1 l1 _ w _ (by have := HL.out; omega) (by have := HL.out; have := numsB_len l0; simp; omega) (fun w' b' h' => h'.came (Nat.le_refl _) HR1.out) HS1.out).mono ?_); rintro e w2 ⟨rfl, hw2⟩; have HS2 := Aside0.mk hw2.sw; clear hw2)))
    go_loopg [7] (l0.length + 1) (fun kq v7 w' => ∃ i : Nat, v7 = .int .i64 (i : Int) ∧ Aside0 (i + kq = l0.length + 1) ∧ Aside0 (i ≤ l0.length) ∧ Aside0 (Has w w.heap.size w' [writer 28 (w.heap.size + 1) (numsB (l0.take i)), writer 28 w.heap.size ([] ++ numsB l0 ++ numB l1.length ++ l1)]))
    case atStart => exact ⟨0, rfl, ⟨by omega⟩, ⟨by omega⟩, ⟨by simpa [numsB] using HS2.out⟩⟩
    case round =>
      obtain ⟨i, rfl, HK, HI, HW⟩ := hrel
      by_cases hil : i < l0.length
      · have e1 : decide ((i : Int) < (l0.length : Int)) = true := decide_eq_true (by omega)
        have hC := HW.out.came (Nat.le_refl _) HR0.out
        obtain ⟨ad, rfl, x⟩ := Kd.at_int hC (i : Int) (by omega) (by omega)
        have hrd : rd l0 (i : Int) = l0[i] := by simp [rd, List.getD_eq_getElem?_getD, hil]
        rw [hrd, Int.toNat_natCast] at x
        have HWL := Aside0.mk (HW.out.lit .i64 3 [l0[i]] rfl (by simp)).sw
        have HXI := Aside0.mk (show ∀ x ∈ [l0[i]], -9223372036854775808 ≤ x ∧ x ≤ 9223372036854775807 from fun x hx => by
          rw [List.mem_singleton.1 hx]
          exact HX.out _ (List.getElem_mem hil))
        have hle : (numsB (l0.take i)).length ≤ 50000000 := by
          have := numsB_len (l0.take i)
          have h2 := HL.out
          rw [List.length_take, Nat.min_eq_left (by omega)] at this
          omega
        have HLE := Aside0.mk hle
        clear hle hC hrd
        cases gk with
        | zero => exact absurd HK.out (by omega)
        | succ k1 =>
          have hi9 : i ≤ 60 := by have := HL.out.1; omega
          go_wp2_with (first | (go_at_call 11; ((refine (put.calls 28 (w.heap.size + 1) w.heap.size _ _ _ [l0[i]] _ w _ HXI.out (by simp) HLE.out (fun w' b' h' => h'.sw.rowA) HWL.out).mono ?_); rintro e w3 ⟨rfl, hw3⟩; have HW3 := Aside0.mk hw3.drop2; clear hw3)))
          go_roundg k1
          case measure => have := HK.out; omega
          case rel =>
            refine ⟨i + 1, rfl, ⟨by have := HK.out; omega⟩, ⟨by omega⟩, ⟨?_⟩⟩
            have := HW3.out
            rw [show numsB [l0[i]] = numB l0[i] by simp [numsB], ← numsB_snoc, ← List.take_succ_eq_append_getElem hil] at this
            exact this
      · have e1 : decide ((i : Int) < (l0.length : Int)) = false := decide_eq_false (by omega)
        have hw := HW.out
        rw [List.take_of_length_le (by omega)] at hw
        obtain ⟨Z, hZ⟩ : ∃ Z, numsB l0 ++ numB l1.length = Z := ⟨_, rfl⟩
        obtain ⟨Y, hY⟩ : ∃ Y, Z ++ l1 = Y := ⟨_, rfl⟩
        have hZl : Z.length ≤ 549 := by rw [← hZ]; have := numsB_len l0; have := HL.out; have := numB_len l1.length; simp only [List.length_append]; omega
        have hYl : Y.length ≤ 849 := by rw [← hY]; have := HL.out; simp only [List.length_append]; omega
        have HZL := Aside0.mk (And.intro hZl hYl)
        rw [List.nil_append, hZ, hY] at hw
        have HZ := Aside0.mk hZ
        have HY := Aside0.mk hY
        have HS3 := Aside0.mk (hw.lit .i64 3 [(l1.length : Int)] rfl (by simp)).sw
        have HXI := Aside0.mk (show ∀ x ∈ [(l1.length : Int)], -9223372036854775808 ≤ x ∧ x ≤ 9223372036854775807 from fun x hx => by
          rw [List.mem_singleton.1 hx]; have := HL.out; omega)
        have hln : (numsB l0).length ≤ 540 := by have := numsB_len l0; have := HL.out; omega
        have HLN := Aside0.mk hln
        clear hw hln HW hZ hY hZl hYl
        go_wp2_with (first | (go_at_call 11; ((refine (put.calls 28 (w.heap.size + 1) w.heap.size _ _ _ [(l1.length : Int)] _ w _ HXI.out (by simp) (by have := HLN.out; omega) (fun w' b' h' => h'.sw.rowA) HS3.out).mono ?_); rintro e w3 ⟨rfl, hw3⟩; rw [show numsB [(l1.length : Int)] = numB l1.length by simp [numsB], HZ.out] at hw3; have HS4 := Aside0.mk hw3.drop2; clear hw3)) | (go_at_call 14; ((refine (wbytesH.calls 28 (w.heap.size + 1) w.heap.size _ _ w _ (by have := HZL.out; omega) HS4.out).mono ?_); rintro e w4 ⟨v4, rfl, hw4⟩; obtain ⟨A4, c4, e4_, hc4, hC4⟩ := hw4.row_reads; subst e4_; obtain ⟨S4, hP4, hS4, hout4⟩ := hw4.out; have HR4 := Aside0.mk (Kd.R_mono (ok' := fun k => S4 k ∨ w4.heap.size ≤ k) (Rraise hP4.1 hS4) (fun k hk => .inl hk)); have HP4 := Aside0.mk hP4; have HO4 := Aside0.mk hout4; have HB4 := Aside0.mk hw4.below; have HE4 := Aside0.mk hw4.le; have HD4 := Aside0.mk (hw4.came (Nat.le_refl _) HR1.out); clear hw4 hP4 hout4 hS4 hC4 hc4)) | ((with_reducible refine gate_builtin (b := .append) (xs := #[.tmp 38, .tmp 39]) rfl ?_); at_builtin; refine Kd.R_append_rows (Kd.int .u8) (w0 := w) w.heap.size rfl (.tmp 38) (.tmp 39) 22 5 (.int .u8 0) 1 rfl Try.underlying22 info5 rfl (by decide) (by omega) (.slice A4 Z.length c4) Z l1 _ _ _ (fun k => S4 k ∨ w4.heap.size ≤ k) (fun _ => False) rfl rfl ?aO ?aR (fun _ _ h => h) (fun _ h => h.elim) ?aF ?aB ?aS ?aL ?_; (case aR => exact HD4.out); (case aB => exact HB4.out); (case aF => exact fun k hk => .inr hk); (case aO => exact HR4.out); (case aS => exact HE4.out); (case aL => have := HZL.out; have := HL.out; omega); intro v5 w5 ho5 hb5 hg5 hat5; rw [HY.out] at ho5; have hw5 := row_put HP4.out HO4.out ho5 hb5 hg5; obtain ⟨A5, c5, e5_, hc5, hC5⟩ := hw5.row_reads; subst e5_; have HS6 := Aside0.mk hw5.up2; have HC5 := Aside0.mk hc5; clear hw5 hc5 hC5 ho5 hb5 hg5 hat5) | (go_at_call 12; ((refine (awake.calls _).mono ?_); rintro e w6 ⟨rfl, hb6⟩; have HS7 := Aside0.mk (HS6.out.step hb6); clear hb6)) | (go_at_call 14; ((refine (wbytesH.calls 28 w.heap.size w.heap.size _ _ w _ (by have := HZL.out; omega) HS7.out).mono ?_); rintro e w7 ⟨v7, rfl, hw7⟩; obtain ⟨A7, c7, e7_, hc7, hC7⟩ := hw7.row_reads; subst e7_; obtain ⟨A8, c8, e8_, _, hC8⟩ := hw7.up2.row_reads; have HS8 := Aside0.mk hw7; have HC7 := Aside0.mk hc7; have HD7 := Aside0.mk hC7; have HD8 := Aside0.mk (by injection e8_ with z1 z2 z3; rw [← z1] at hC8; exact hC8 : Kd.C (Kd.int .u8) w7 A5 Y.length Y); clear hw7 hc7 hC7 hC8 e8_)) | (go_at_call 16; ((refine (same.calls _ _ Y _ _ _ _ rfl rfl _ HD7.out HC7.out HD8.out HC5.out).mono ?_); rintro e w8 ⟨rfl, ⟨nd, rfl⟩⟩)))
        go_ret
        exact ⟨rfl, (HS8.out.drewN _).below⟩
end Go.Proofs.Ytoibgnhfpcaejaa.PBytesMany
