/- The laws' common parts: awake; inputs that are right. No condition. -/
import Derived.Test.YtkgjokidfbpnbaaInG
namespace Go.Proofs.Ytkgjokidfbpnbaa.InW
open Go.RowKit Go.Proofs.YtkgjokidfbpnbaaW.PrintWords Go.Proofs.YtkgjokidfbpnbaaW.PrintLast Go.Proofs.YtkgjokidfbpnbaaW.PrintMore Go.Proofs.Ytkgjokidfbpnbaa.Sep
attribute [local go_sem] max2_int min2_int max_two min_two max_three min_three max_four min_four   -- for this text's walks alone
set_option linter.unusedVariables false
set_option linter.unusedSimpArgs false
theorem C_one {W : World} {gl : Nat} {x : In} (h : W.heap[gl]? = some (.cells #[.int .i64 x.1, .int .i64 x.2.1, .bool x.2.2] 24 (0, 0))) : Kd.C kin W (some ⟨gl, 0, none⟩) 1 [x] := by
  refine ⟨rfl, by omega, fun _ => ⟨_, rfl, fun j p hj => ⟨encI p, rfl, kin_mk _ _, fun i u hi => ?_⟩⟩⟩
  have h0 : j = 0 := by
    have := (List.getElem?_eq_some_iff.1 hj).1
    simp at this
    exact this
  subst h0
  have hp : x = p := by simpa using hj
  subst hp
  have e : 0 * kin.sz + i = i := by rw [Nat.zero_mul, Nat.zero_add]
  rw [e]
  exact news_at h i u hi
theorem awake_1 : add_ (List.replicate (clampP 2) col0) 1 0 [(1, 0, true)] = (1, [⟨[(1, 0, true)], 0, false⟩, col0]) := rfl
theorem awake_2 : have_ [⟨[(1, 0, true)], 0, false⟩, col0] 1 = 1 := rfl
theorem awake_3 : add_ [⟨[(1, 0, true)], 0, false⟩, col0] 2 1 [(0, 0, false)] = (0, [⟨[(1, 0, true)], 0, false⟩, col0]) := rfl
set_option maxHeartbeats 8000000 in
set_option maxRecDepth 100000 in
theorem awake.H {w0 w : World} {base : Nat} {F : List Asr} (h : Has w0 base w F) :
    Calls Try.prog 10 #[] w fun e w' => e = .returned (.bool true) ∧ Has w0 base w' F := by
  have hu24 := Try.underlying24
  have HH := Aside0.mk h
  clear h
  have hw0 : wfT (List.replicate (clampP 2) col0) := wfT.new _ (by decide)
  have hw1 : wfT [⟨[(1, 0, true)], 0, false⟩, col0] := by
    have := hw0.add_ 1 0 [(1, 0, true)]
    rw [awake_1] at this
    exact this
  go_enter Try.func10, Try.ntmps10
  go_wp2_with (first | (go_at_call 9; (refine (new.H 2 (by omega) HH.out).mono ?_); rintro e w1 ⟨g, rfl, h1⟩; have H1 := Aside0.mk h1; clear h1) | (go_at_call 12; (refine (add.H (H1.out.own #[.int .i64 1, .int .i64 0, .bool true] 24).sw hw0 1 0 (by omega) (by omega) (some ⟨w1.heap.size, 0, none⟩) 1 [(1, 0, true)] (by decide) (fun W cs' hW => C_one (x := (1, 0, true)) hW.sw.blk)).mono ?_); rintro e w2 ⟨rfl, h2⟩; rw [awake_1] at h2 ⊢; have H2 := Aside0.mk h2; clear h2 H1) | (go_at_call 14; (refine (have.H H2.out hw1 1 (by omega)).mono ?_); rintro e w3 ⟨rfl, h3⟩; rw [awake_2]; have H3 := Aside0.mk h3; clear h3 H2) | (go_at_call 12; (refine (add.H (H3.out.own #[.int .i64 0, .int .i64 0, .bool false] 24).sw hw1 2 1 (by omega) (by omega) (some ⟨w3.heap.size, 0, none⟩) 1 [(0, 0, false)] (by decide) (fun W cs' hW => C_one (x := (0, 0, false)) hW.sw.blk)).mono ?_); rintro e w4 ⟨rfl, h4⟩; rw [awake_3] at h4 ⊢; have H4 := Aside0.mk h4; clear h4 H3))
  go_ret
  exact ⟨rfl, H4.out.drop.drop.drop⟩
def playN (x : Int) : Int := wrap64 ((wrap64 (Int.tmod (IntKind.u64.wrap x) 5)) - 2)
/-- an input that is right, of any -/
def playI (x : In) : In := if rightI x = true then x else (playN x.1, playN x.2.1, x.2.2)
theorem playN_in (x : Int) : -2 ≤ playN x ∧ playN x ≤ 2 := by
  unfold playN
  have h0 : 0 ≤ IntKind.u64.wrap x := by rw [IntKind.wrap_u64]; omega
  have e : Int.tmod (IntKind.u64.wrap x) 5 = (IntKind.u64.wrap x) % 5 := Int.tmod_eq_emod_of_nonneg h0
  rw [e]
  have h1 : 0 ≤ (IntKind.u64.wrap x) % 5 ∧ (IntKind.u64.wrap x) % 5 < 5 := by omega
  generalize (IntKind.u64.wrap x) % 5 = z at h1
  unfold wrap64
  omega
theorem playI_right (x : In) : rightI (playI x) = true := by
  unfold playI
  split
  · assumption
  · have h1 := playN_in x.1
    have h2 := playN_in x.2.1
    simp only [rightI, decide_eq_true_eq]
    omega
theorem playI_fire (x : In) : (playI x).2.2 = x.2.2 := by unfold playI; split <;> rfl
theorem right5_eq (x : In) : PInputsEnd.joustref05_Input.f x.1 x.2.1 x.2.2 = some (rightI x) := right_eq x
theorem play_eq (x : In) : PInputsEnd.joustplay_Input.f x.1 x.2.1 x.2.2 = some ((playI x).1, (playI x).2.1, (playI x).2.2) := by
  unfold PInputsEnd.joustplay_Input.f playI
  rw [right5_eq, Option.bind_some]
  cases rightI x <;> rfl
end Go.Proofs.Ytkgjokidfbpnbaa.InW
