/- Windows of one row come to a column, in whatever order. No condition. -/
import Derived.Test.YtkgjokidfbpnbaaInL
import Derived.Test.YtkgjokidfbpnbaaRules
namespace Go.Proofs.Ytkgjokidfbpnbaa.InW
open Go.RowKit Go.Proofs.YtkgjokidfbpnbaaW.PrintWords Go.Proofs.YtkgjokidfbpnbaaW.PrintLast Go.Proofs.YtkgjokidfbpnbaaW.PrintMore Go.Proofs.Ytkgjokidfbpnbaa.Sep
set_option linter.unusedVariables false
/-- three players, one of whom has L -/
def tbl (p : Int) (L : List In) : List Col := (List.replicate 3 col0).set (p.toNat - 1) ⟨L, 0, false⟩
theorem tbl_start (q : Int) (h : 0 ≤ q ∧ q < 3) : List.replicate (clampP 3) col0 = tbl (1 + q) [] := by
  obtain rfl | rfl | rfl : q = 0 ∨ q = 1 ∨ q = 2 := by omega
  all_goals rfl
theorem tbl_isP {p : Int} {L : List In} (h : 1 ≤ p ∧ p ≤ 3) : isP (tbl p L) p := by
  unfold isP tbl
  simp
  omega
theorem tbl_at {p : Int} {L : List In} (h : 1 ≤ p ∧ p ≤ 3) : cAt (tbl p L) p = ⟨L, 0, false⟩ := by
  have hl : p.toNat - 1 < ((List.replicate 3 col0).set (p.toNat - 1) ⟨L, 0, false⟩).length := by simp; omega
  unfold cAt tbl
  rw [List.getD_eq_getElem?_getD, List.getElem?_eq_getElem hl, List.getElem_set_self]
  rfl
theorem tbl_set (p : Int) (L L' : List In) : (tbl p L).set (p.toNat - 1) ⟨L', 0, false⟩ = tbl p L' := by unfold tbl; rw [List.set_set]
theorem wf_tbl (p : Int) (L : List In) (hl : L.length ≤ 10000) : wfT (tbl p L) := by
  unfold tbl
  exact (wfT.new 3 (by decide)).set _ _ ⟨hl, show I64 0 by omega⟩
theorem addGo_win (all : List In) (fr te : Nat) (ht : te ≤ all.length) (hl : all.length ≤ 40) (hr : ∀ x ∈ all, rightI x = true) : ∀ (k H i : Nat) (n : Int), fr + i + k = te → fr + i ≤ H → H ≤ all.length → addGo ⟨all.take H, 0, false⟩ fr i ((all.take te).drop (fr + i)) n = (⟨all.take (max H te), 0, false⟩, n + (max H te - H : Nat)) := by
  intro k
  induction k with
  | zero =>
    intro H i n h1 h2 h3
    have e1 : (all.take te).drop (fr + i) = [] := List.drop_eq_nil_of_le (by rw [List.length_take]; omega)
    have e2 : max H te = H := by omega
    rw [e1, e2]
    simp [addGo]
  | succ k ih =>
    intro H i n h1 h2 h3
    have hlt : fr + i < (all.take te).length := by rw [List.length_take]; omega
    rw [List.drop_eq_getElem_cons hlt, addGo]
    have hx : rightI (all.take te)[fr + i] = true := hr _ (List.mem_of_mem_take (List.getElem_mem hlt))
    have hHl : (all.take H).length = H := by rw [List.length_take]; omega
    have n1 : ¬ (rightI (all.take te)[fr + i] = false ∨ ((all.take H).length : Int) < fr ∨ ((all.take H).length : Int) - fr < i) := by
      rw [hHl]
      rintro (h | h | h)
      · rw [hx] at h; cases h
      · omega
      · omega
    dsimp only
    rw [if_neg n1, hHl]
    by_cases h4 : (i : Int) < (H : Int) - fr
    · rw [if_pos h4]
      exact ih H (i + 1) n (by omega) (by omega) h3
    · rw [if_neg h4]
      have n3 : ¬ ((false = true ∧ (0 : Int) ≤ H) ∨ 10000 ≤ (H : Int)) := by
        rintro (h | h)
        · cases h.1
        · omega
      rw [if_neg n3]
      have eH : H = fr + i := by omega
      have e3 : all.take H ++ [(all.take te)[fr + i]] = all.take (H + 1) := by
        rw [List.take_succ_eq_append_getElem (by omega : H < all.length), List.getElem_take]
        simp [eH]
      rw [e3]
      have := ih (H + 1) (i + 1) (n + 1) (by omega) (by omega) (by omega)
      rw [show fr + i + 1 = fr + (i + 1) from by omega, this]
      have e4 : max (H + 1) te = max H te := by omega
      rw [e4]
      simp only [Prod.mk.injEq, true_and]
      omega
/-- a window comes -/
theorem add_win {all : List In} {p : Int} {fr te h : Nat} (hp : 1 ≤ p ∧ p ≤ 3) (ht : fr < te ∧ te ≤ all.length) (hl : all.length ≤ 40) (hh : h ≤ all.length) (hr : ∀ x ∈ all, rightI x = true) :
    add_ (tbl p (all.take h)) p fr ((all.take te).drop fr) = (if fr ≤ h then (((max h te - h : Nat) : Int), tbl p (all.take (max h te))) else (0, tbl p (all.take h))) := by
  rw [add_yes (tbl_isP hp) (by omega), tbl_at hp]
  by_cases hf : fr ≤ h
  · rw [if_pos hf]
    have := addGo_win all fr te ht.2 hl hr (te - fr) h 0 0 (by omega) (by omega) hh
    rw [Nat.add_zero] at this
    rw [this]
    dsimp only
    rw [tbl_set, Int.zero_add]
  · rw [if_neg hf]
    have hlt : fr < (all.take te).length := by rw [List.length_take]; omega
    have hHl : (all.take h).length = h := by rw [List.length_take]; omega
    rw [List.drop_eq_getElem_cons hlt, addGo]
    dsimp only
    rw [if_pos (.inr (.inl (by rw [hHl]; omega)))]
    dsimp only
    rw [tbl_set]
theorem have_tbl {p : Int} {L : List In} (hp : 1 ≤ p ∧ p ≤ 3) : have_ (tbl p L) p = L.length := by rw [have_yes (tbl_isP hp), tbl_at hp]
theorem at_tbl {p : Int} {L : List In} (hp : 1 ≤ p ∧ p ≤ 3) (f : Nat) (x : In) (h : L[f]? = some x) : at_ (tbl p L) p f = (x, true) := by
  have hf := (List.getElem?_eq_some_iff.1 h).1
  rw [at_have (tbl_isP hp) (by omega) (by rw [tbl_at hp]; show (f : Int) < (L.length : Nat); omega), tbl_at hp]
  unfold rdI
  rw [List.getD_eq_getElem?_getD]
  have e : (f : Int).toNat = f := by omega
  rw [e, h]
  rfl
theorem at_unsure {cs : List Col} {p : Int} (hp : isP cs p) (f : Int) (h0 : 0 ≤ f) (h1 : (cAt cs p).l.length ≤ f) (h2 : ¬ ((cAt cs p).d = true ∧ (cAt cs p).e ≤ f)) : ∃ x1 x2, at_ cs p f = ((x1, x2, false), false) := by
  have hg : ∀ y k, ∃ x1 x2, guessI y k = (x1, x2, false) := fun y k => by unfold guessI; split <;> exact ⟨_, _, rfl⟩
  unfold at_
  rw [if_pos ⟨hp, h0⟩, if_neg (by omega), if_neg h2]
  split
  · obtain ⟨x1, x2, e⟩ := hg (0, 0, false) false
    exact ⟨x1, x2, by rw [e]⟩
  · obtain ⟨x1, x2, e⟩ := hg (rdI (cAt cs p).l ((cAt cs p).l.length - 1)) true
    exact ⟨x1, x2, by rw [e]⟩
theorem stream_tbl {p : Int} {L : List In} (hp : 1 ≤ p ∧ p ≤ 3) (hl : L.length ≤ 40) : stream_ (tbl p L) p 0 100 = L := by
  unfold stream_
  by_cases h : L = []
  · subst h
    rw [if_neg (fun x => by have h3 := x.2.2.1; rw [tbl_at hp] at h3; simp at h3)]
  · have h9 : 0 < L.length := List.length_pos_iff.2 h
    rw [if_pos ⟨tbl_isP hp, by omega, by rw [tbl_at hp]; show (0 : Int) < (L.length : Nat); omega, by omega⟩, tbl_at hp]
    show (L.drop (0 : Int).toNat).take (min (100 : Int) ((L.length : Nat) - 0)).toNat = L
    have e : (min (100 : Int) ((L.length : Nat) - 0)).toNat = L.length := by omega
    rw [e]
    show (L.drop 0).take L.length = L
    rw [List.drop_zero, List.take_length]
theorem add.Hn {w0 w : World} {base g : Nat} {cs : List Col} {F : List Asr} (h : Has w0 base w (tab g cs :: F)) (hw : wfT cs) (p fr : Int) (hp : I64 p) (hfr : I64 fr) (A : Option Addr) (cx n : Nat) (xs : List In) (hn : xs.length = n) (hx : xs.length ≤ 1000000) (hxs : ∀ (W : World) (cs' : List Col), Has w0 base W (tab g cs' :: F) → Kd.C kin W A xs.length xs) :
    Calls Try.prog 12 #[.pointer (some ⟨g, 0, none⟩), .int .i64 p, .int .i64 fr, .slice A n cx] w fun e w' => e = .returned (.int .i64 (add_ cs p fr xs).1) ∧ Has w0 base w' (tab g (add_ cs p fr xs).2 :: F) := by
  subst hn
  exact add.H h hw p fr hp hfr A cx xs hx hxs
theorem at_int {w : World} {k : IntKind} {A : Option Addr} {n : Nat} {l : List Int} (h : Kd.C (Kd.int k) w A n l) (j : Nat) (hj : j < l.length) : ∃ ad, A = some ad ∧ w.cell? (ad.add j) = some (.int k l[j]) := by
  obtain ⟨hl, _, hn⟩ := h
  obtain ⟨ad, rfl, hc⟩ := hn (by omega)
  obtain ⟨cs, hcs, hK, hcc⟩ := hc j l[j] (List.getElem?_eq_getElem hj)
  have e : cs = [.int k l[j]] := hK
  subst e
  have := hcc 0 _ rfl
  exact ⟨ad, rfl, by simpa [Kd.int, Kd.scalar] using this⟩
end Go.Proofs.Ytkgjokidfbpnbaa.InW
