/- What joustlaw11's awake answers. No condition. -/
import Derived.Test.YtoibgnhfpcaejaaBytesM
namespace Go.Proofs.Ytoibgnhfpcaejaa.BytesW
open Go.RowKit Go.Proofs.YtoibgnhfpcaejaaW.PrintWords Go.Proofs.YtoibgnhfpcaejaaW.PrintLast Go.Proofs.YtoibgnhfpcaejaaW.PrintMore Go.Proofs.Ytoibgnhfpcaejaa.Sep
attribute [local go_sem] max2_int min2_int max_two min_two max_three min_three max_four min_four   -- for this text's walks alone
set_option linter.unusedVariables false
set_option linter.unusedSimpArgs false
def sameB.f (l0 : List Int) (l1 : List Int) : Option (Bool) := some ((strOfNums l0).toList == (strOfNums l1).toList)
theorem sau1_11 {p : Prop} (h : p := by first | rfl | (simp; done) | (simp [*]; done)) : p := h
theorem sau1_13 {p : Prop} (h : p := by repeat (first | exact Drawn0.refl _ | apply Drawn0.step)) : p := h
set_option maxHeartbeats 8000000 in
set_option maxRecDepth 100000 in
theorem sameB.calls (A0 : Option Addr) (c0 : Nat) (l0 : List Int) (A1 : Option Addr) (c1 : Nat) (l1 : List Int) (r : Bool) (w : World) (hr0 : Kd.C (Kd.int .u8) w A0 l0.length l0) (hc0 : l0.length ≤ c0) (hr1 : Kd.C (Kd.int .u8) w A1 l1.length l1) (hc1 : l1.length ≤ c1) (h : sameB.f l0 l1 = some r) :
    Calls Try.prog 16 #[.slice A0 l0.length c0, .slice A1 l1.length c1] w fun e w' => e = .returned (.bool r) ∧ Drawn0 w w' := by
  have HR0 := Aside0.mk hr0
  have HC0 := Aside0.mk hc0
  clear hr0 hc0
  have HR1 := Aside0.mk hr1
  have HC1 := Aside0.mk hc1
  clear hr1 hc1
  have H : (some ((strOfNums l0).toList == (strOfNums l1).toList)) = some r := h
  clear h
  obtain rfl := Option.some.inj H
  have hcv3 := Kd.C_string (P := Try.prog) (A := A0) (c := c0) Try.underlying22 Try.underlying5 Try.underlying9 HR0.out
  have hcv4 := Kd.C_string (P := Try.prog) (A := A1) (c := c1) Try.underlying22 Try.underlying5 Try.underlying9 HR1.out
  go_enter Try.func16, Try.ntmps16
  go_wp2
  go_ret
  exact ⟨sau1_11, sau1_13⟩
/-- two rows with the same bytes are the same -/
theorem same.calls (A0 : Option Addr) (c0 : Nat) (l : List Int) (A1 : Option Addr) (c1 : Nat) (n m : Nat) (hn : l.length = n) (hm : l.length = m) (w : World) (hr0 : Kd.C (Kd.int .u8) w A0 l.length l) (hc0 : n ≤ c0) (hr1 : Kd.C (Kd.int .u8) w A1 l.length l) (hc1 : m ≤ c1) :
    Calls Try.prog 16 #[.slice A0 n c0, .slice A1 m c1] w fun e w' => e = .returned (.bool true) ∧ Drawn0 w w' := by
  subst hn hm
  exact sameB.calls A0 c0 l A1 c1 l true w hr0 hc0 hr1 hc1 (by unfold sameB.f; simp)
theorem numsB_3 : numsB [0, -1, 64] = [0, 1, 128, 1] := by simp [numsB, num_0, num_m1, num_64]
theorem int_64 : intB [128, 1] 0 = (64, [], 0) := by decide
set_option maxHeartbeats 8000000 in
set_option maxRecDepth 100000 in
theorem awake.calls (w : World) : Calls Try.prog 12 #[] w fun e w' => e = .returned (.bool true) ∧ Below w.heap.size w w' := by
  have H0 := (writer_new 28 (Has.nil (w := w) (Nat.le_refl _))).lit .i64 3 [0, -1, 64] rfl (by decide)
  have e0 : (w.alloc (.cells #[.slice none 0 0] 28)).heap.size = w.heap.size + 1 := by simp
  rw [e0] at H0
  have HS0 := Aside0.mk H0.sw
  have hI := fun g F w1 h => int.calls g w.heap.size [128, 1] 0 F w w1 h
  simp only [int_64] at hI
  have HI := Aside0.mk hI
  clear H0 e0 hI
  go_enter Try.func12, Try.ntmps12
  go_wp2_with (first | (go_at_call 11; ((refine (put.calls 28 w.heap.size w.heap.size [] _ _ [0, -1, 64] _ w _ (by decide) (by decide) (by decide) (fun w' b' h' => h'.sw.rowA) HS0.out).mono ?_); rintro e w1 ⟨rfl, hw1⟩; rw [numsB_3, List.nil_append] at hw1; have HS1 := Aside0.mk (hw1.drop2.lit .u8 5 [128, 1] rfl (by decide)); clear hw1)) | (go_at_call 9; ((refine (readH.calls _ _ [128, 1] w.heap.size _ w _ HS1.out.rowA (by decide) (by decide) (by decide) HS1.out).mono ?_); rintro e w2 ⟨gr, rfl, hw2⟩; have HS2 := Aside0.mk hw2.up2; clear hw2)) | (go_at_call 14; ((refine (wbytesH.calls 28 w.heap.size w.heap.size _ _ w _ (by decide) HS2.out).mono ?_); rintro e w3 ⟨v3, rfl, hw3⟩; obtain ⟨A3, c3, e3_, hc3, hC3⟩ := hw3.row_reads; subst e3_; have HC3 := Aside0.mk hc3; have HS3 := Aside0.mk (hw3.lit .u8 5 [0, 1, 128, 1] rfl (by decide)); have HD3 := Aside0.mk (Kd.C_alloc hC3 (.cells ([0, 1, 128, 1].map (Value.int .u8)).toArray 5)); clear hw3 hc3 hC3)) | (go_at_call 16; ((refine (same.calls _ _ [0, 1, 128, 1] _ _ _ _ rfl rfl _ HD3.out HC3.out HS3.out.rowA (by decide)).mono ?_); rintro e w4 ⟨rfl, ⟨nd, rfl⟩⟩; have HS4 := Aside0.mk (HS3.out.drop.drop.drop.drewN nd))) | (go_at_call 10; ((refine (HI.out gr _ _ HS4.out).mono ?_); rintro e w5 ⟨rfl, hw5⟩)))
  go_ret
  exact ⟨rfl, hw5.below⟩
end Go.Proofs.Ytoibgnhfpcaejaa.BytesW
