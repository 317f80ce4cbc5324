/- More of the laws' common parts: one input comes; boxes. No condition. -/
import Derived.Test.YtkgjokidfbpnbaaInH
namespace Go.Proofs.Ytkgjokidfbpnbaa.InW
open Go.RowKit Go.Proofs.YtkgjokidfbpnbaaW.PrintWords Go.Proofs.YtkgjokidfbpnbaaW.PrintLast Go.Proofs.YtkgjokidfbpnbaaW.PrintMore Go.Proofs.Ytkgjokidfbpnbaa.Sep
set_option linter.unusedVariables false
theorem add_one {cs : List Col} {p : Int} {l : List In} {e : Int} {x : In} (hp : isP cs p) (hc : cAt cs p = ⟨l, e, false⟩) (hx : rightI x = true) (hl : l.length < 10000) : add_ cs p l.length [x] = (1, cs.set (p.toNat - 1) ⟨l ++ [x], e, false⟩) := by
  rw [add_yes hp (by omega), hc]
  unfold addGo
  have n1 : ¬ (rightI x = false ∨ (l.length : Int) < l.length ∨ (l.length : Int) - l.length < ((0 : Nat) : Int)) := by
    rintro (h | h | h)
    · rw [hx] at h; cases h
    · omega
    · omega
  have n2 : ¬ (((0 : Nat) : Int) < (l.length : Int) - l.length) := by omega
  have n3 : ¬ ((false = true ∧ e ≤ l.length) ∨ 10000 ≤ (l.length : Int)) := by
    rintro (h | h)
    · cases h.1
    · omega
  dsimp only
  rw [if_neg n1, if_neg n2, if_neg n3]
  rfl
theorem size_set3 (w : World) (a b c : Addr) (u v x : Value) : (((w.setCell a u).setCell b v).setCell c x).heap.size = w.heap.size := by simp [World.setCell]
section
variable {w0 w w5 : World} {base g : Nat} {L : List Asr}
/-- what was boxed is a part -/
theorem Has.box {o : Obj} {gb : Nat} (h : Has w0 base w L) (hg : gb = w.heap.size) (hb : Below w.heap.size w w5) (hbox : w5.heap[gb]? = some o) : Has w0 base w5 (blk gb o :: L) :=
  h.new (S' := fun k => k = gb) hb ⟨hbox, rfl, fun k hk => by rw [hk]; exact (Array.getElem?_eq_some_iff.1 hbox).1⟩ (fun k hk => by rw [hk, hg]; exact Nat.le_refl _)
/-- an input's three cells are written -/
theorem Has.set3 {a b : Value} {d : Value} {x : In} (h : Has w0 base w (blk g (.cells #[a, b, d] 24 (0, 0)) :: L)) : Has w0 base (((w.setCell ⟨g, 0, none⟩ (.int .i64 x.1)).setCell ⟨g, 1, none⟩ (.int .i64 x.2.1)).setCell ⟨g, 2, none⟩ (.bool x.2.2)) (blk g (.cells #[.int .i64 x.1, .int .i64 x.2.1, .bool x.2.2] 24 (0, 0)) :: L) :=
  Has.set (Has.set (Has.set h 0 (.int .i64 x.1) rfl) 1 (.int .i64 x.2.1) rfl) 2 (.bool x.2.2) rfl
end
theorem at_no {cs : List Col} {p f : Int} (h : ¬ (isP cs p ∧ 0 ≤ f)) : at_ cs p f = ((0, 0, false), false) := by unfold at_; rw [if_neg h]
theorem at_have {cs : List Col} {p f : Int} (h : isP cs p) (h0 : 0 ≤ f) (h1 : f < (cAt cs p).l.length) : at_ cs p f = (rdI (cAt cs p).l f, true) := by unfold at_; rw [if_pos ⟨h, h0⟩, if_pos h1]
theorem at_end {cs : List Col} {p f : Int} (h : isP cs p) (h0 : 0 ≤ f) (h1 : (cAt cs p).l.length ≤ f) (h2 : (cAt cs p).d = true ∧ (cAt cs p).e ≤ f) : at_ cs p f = ((0, 0, false), true) := by unfold at_; rw [if_pos ⟨h, h0⟩, if_neg (by omega), if_pos h2]
theorem at_nil {cs : List Col} {p f : Int} (h : isP cs p) (h0 : 0 ≤ f) (h2 : ¬ ((cAt cs p).d = true ∧ (cAt cs p).e ≤ f)) (h1 : (cAt cs p).l = []) : at_ cs p f = ((0, 0, false), false) := by
  unfold at_
  rw [if_pos ⟨h, h0⟩, if_neg (by rw [h1]; simp; omega), if_neg h2, if_pos (by rw [h1]; rfl)]
  rfl
theorem at_last {cs : List Col} {p f : Int} {v : In} (h : isP cs p) (h0 : 0 ≤ f) (h3 : (cAt cs p).l.length ≤ f) (h2 : ¬ ((cAt cs p).d = true ∧ (cAt cs p).e ≤ f)) (h1 : 0 < (cAt cs p).l.length) (hv : (cAt cs p).l[(cAt cs p).l.length - 1]? = some v) (hr : rightI v = true) : at_ cs p f = ((v.1, v.2.1, false), false) := by
  unfold at_
  have e : rdI (cAt cs p).l ((cAt cs p).l.length - 1) = v := by
    have e2 : (((cAt cs p).l.length : Int) - 1).toNat = (cAt cs p).l.length - 1 := by omega
    unfold rdI
    rw [e2, List.getD_eq_getElem?_getD, hv]
    rfl
  rw [if_pos ⟨h, h0⟩, if_neg (by omega), if_neg h2, if_neg (by omega), e]
  unfold guessI
  rw [if_pos ⟨rfl, hr⟩]
end Go.Proofs.Ytkgjokidfbpnbaa.InW
