/- Two rows of inputs held against each other. Condition: rows are no longer than 10000. -/
import Derived.Test.YtkgjokidfbpnbaaInM
import Derived.Test.YtkgjokidfbpnbaaPInputsOrderz2
namespace Go.Proofs.Ytkgjokidfbpnbaa.InW
open Go.RowKit Go.Proofs.YtkgjokidfbpnbaaW.PrintWords Go.Proofs.YtkgjokidfbpnbaaW.PrintLast Go.Proofs.YtkgjokidfbpnbaaW.PrintMore Go.Proofs.Ytkgjokidfbpnbaa.Sep
set_option linter.unusedVariables false
def toS (x : In) : PInputsOrder.S24 := ⟨x.1, x.2.1, x.2.2⟩
theorem C_S {w : World} {A : Option Addr} {n : Nat} {l : List In} (h : Kd.C kin w A n l) : Kd.C PInputsOrder.k24 w A n (l.map toS) := by
  refine C_iso ?_
  rw [List.map_map]
  have e : ((fun x : PInputsOrder.S24 => (x.f0, x.f1, x.f2)) ∘ toS) = id := rfl
  rw [e, List.map_id]
  exact h
theorem wr_ {x : Int} (h0 : -9223372036854775808 ≤ x) (h1 : x ≤ 9223372036854775807) : wrap64 x = x := by unfold wrap64; omega
theorem same_loop (xs ys : List In) (hl : xs.length = ys.length) (hb : xs.length ≤ 10000) : ∀ (d k i : Nat), i + d = xs.length → d < k → PInputsOrder.api_Input_34.l0 k (xs.map toS) (ys.map toS) (i : Int) = some (decide (xs.drop i = ys.drop i)) := by
  intro d
  induction d with
  | zero =>
    intro k i hi hk
    obtain ⟨k, rfl⟩ : ∃ m, k = m + 1 := ⟨k - 1, by omega⟩
    simp only [PInputsOrder.api_Input_34.l0, List.length_map]
    rw [if_neg (by omega), List.drop_of_length_le (by omega), List.drop_of_length_le (by omega), decide_eq_true rfl]
  | succ d ih =>
    intro k i hi hk
    obtain ⟨k, rfl⟩ : ∃ m, k = m + 1 := ⟨k - 1, by omega⟩
    simp only [PInputsOrder.api_Input_34.l0, List.length_map]
    have h1 : i < xs.length := by omega
    have h2 : i < ys.length := by omega
    rw [if_pos (by omega), if_pos (by omega), if_pos (by omega), wr_ (by omega) (by omega)]
    have e1 : PInputsOrder.rd_T24 (xs.map toS) (i : Int) = toS xs[i] := by simp [PInputsOrder.rd_T24, List.getD_eq_getElem?_getD, h1]
    have e2 : PInputsOrder.rd_T24 (ys.map toS) (i : Int) = toS ys[i] := by simp [PInputsOrder.rd_T24, List.getD_eq_getElem?_getD, h2]
    have hi' := ih k (i + 1) (by omega) (by omega)
    unfold PInputsOrder.api_Input_1.f
    rw [Option.bind_some, e1, e2, List.drop_eq_getElem_cons h1, List.drop_eq_getElem_cons h2]
    have hd : (((toS xs[i]).f0 == (toS ys[i]).f0 && ((toS xs[i]).f1 == (toS ys[i]).f1 && ((toS xs[i]).f2 == (toS ys[i]).f2))) = true) ↔ xs[i] = ys[i] := by
      rw [Bool.and_eq_true, Bool.and_eq_true, beq_iff_eq, beq_iff_eq, beq_iff_eq]
      constructor
      · rintro ⟨a, b, c⟩
        exact Prod.ext a (Prod.ext b c)
      · intro e
        rw [e]
        exact ⟨rfl, rfl, rfl⟩
    by_cases e : xs[i] = ys[i]
    · rw [if_pos (hd.2 e)]
      have : ((i : Int) + 1) = ((i + 1 : Nat) : Int) := rfl
      rw [this, hi']
      congr 1
      rw [decide_eq_decide, List.cons.injEq]
      exact ⟨fun h => ⟨e, h⟩, fun h => h.2⟩
    · rw [if_neg (fun h => e (hd.1 h)), decide_eq_false (fun h => e (List.cons.inj h).1)]
theorem plain_eq (xs ys : List In) (hb : xs.length ≤ 10000) : PInputsOrder.api_Input_17.f 10001 (xs.map toS) (ys.map toS) = some (decide (xs = ys)) := by
  unfold PInputsOrder.api_Input_17.f PInputsOrder.api_Input_34.f
  rw [List.length_map, List.length_map]
  by_cases hl : xs.length = ys.length
  · rw [if_pos (by omega), show (0 : Int) = ((0 : Nat) : Int) from rfl, same_loop xs ys hl hb xs.length 10001 0 (by omega) (by omega)]
    rfl
  · rw [if_neg (by omega), Option.bind_some, decide_eq_false (fun e => hl (by rw [e]))]
theorem plain.calls (A0 A1 : Option Addr) (n0 c0 n1 c1 : Nat) (xs ys : List In) (w : World) (h0 : Kd.C kin w A0 n0 xs) (hc0 : n0 ≤ c0) (h1 : Kd.C kin w A1 n1 ys) (hc1 : n1 ≤ c1) (hb : xs.length ≤ 10000) :
    Calls Try.prog 17 #[.slice A0 n0 c0, .slice A1 n1 c1] w fun e w' => e = .returned (.bool (decide (xs = ys))) ∧ Below w.heap.size w w' := by
  have e0 : n0 = (xs.map toS).length := by rw [List.length_map]; exact (Kd.C_len h0).symm
  have e1 : n1 = (ys.map toS).length := by rw [List.length_map]; exact (Kd.C_len h1).symm
  subst e0 e1
  exact PInputsOrder.api_Input_17.calls 10001 A0 c0 (xs.map toS) A1 c1 (ys.map toS) _ w (C_S h0) hc0 (C_S h1) hc1 (plain_eq xs ys hb)
end Go.Proofs.Ytkgjokidfbpnbaa.InW
