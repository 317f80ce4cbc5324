/- A whole row comes to a column. No condition. -/
import Derived.Test.YtkgjokidfbpnbaaInK
namespace Go.Proofs.Ytkgjokidfbpnbaa.InW
open Go.RowKit Go.Proofs.YtkgjokidfbpnbaaW.PrintWords Go.Proofs.YtkgjokidfbpnbaaW.PrintLast Go.Proofs.YtkgjokidfbpnbaaW.PrintMore Go.Proofs.Ytkgjokidfbpnbaa.Sep
set_option linter.unusedVariables false
theorem addGo_all (e fr : Int) : ∀ (xs C : List In) (i : Nat) (n : Int), (C.length : Int) = fr + i → (∀ x ∈ xs, rightI x = true) → C.length + xs.length ≤ 10000 → addGo ⟨C, e, false⟩ fr i xs n = (⟨C ++ xs, e, false⟩, n + xs.length) := by
  intro xs
  induction xs with
  | nil => intro C i n h1 h2 h3; simp [addGo]
  | cons x xs ih =>
    intro C i n h1 h2 h3
    simp only [List.length_cons] at h3
    rw [addGo]
    have hx := h2 x (List.mem_cons_self)
    have n1 : ¬ (rightI x = false ∨ (C.length : Int) < fr ∨ (C.length : Int) - fr < i) := by
      rintro (h | h | h)
      · rw [hx] at h; cases h
      · omega
      · omega
    have n2 : ¬ ((i : Int) < (C.length : Int) - fr) := by omega
    have n3 : ¬ ((false = true ∧ e ≤ C.length) ∨ 10000 ≤ (C.length : Int)) := by
      rintro (h | h)
      · cases h.1
      · omega
    dsimp only
    rw [if_neg n1, if_neg n2, if_neg n3]
    have hl : (C ++ [x]).length = C.length + 1 := by simp
    rw [ih (C ++ [x]) (i + 1) (n + 1) (by rw [hl]; push_cast; omega) (fun y hy => h2 y (List.mem_cons_of_mem _ hy)) (by rw [hl]; omega)]
    rw [List.append_assoc, List.length_cons]
    simp only [List.singleton_append, Prod.mk.injEq, true_and]
    push_cast
    omega
theorem add_all {cs : List Col} {p : Int} {C xs : List In} {e : Int} (hp : isP cs p) (hc : cAt cs p = ⟨C, e, false⟩) (hx : ∀ x ∈ xs, rightI x = true) (hl : C.length + xs.length ≤ 10000) : add_ cs p C.length xs = ((xs.length : Int), cs.set (p.toNat - 1) ⟨C ++ xs, e, false⟩) := by
  rw [add_yes hp (by omega), hc, addGo_all e C.length xs C 0 0 (by simp) hx hl]
  simp
end Go.Proofs.Ytkgjokidfbpnbaa.InW
