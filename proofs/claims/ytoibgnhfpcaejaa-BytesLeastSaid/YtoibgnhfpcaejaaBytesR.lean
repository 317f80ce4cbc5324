/- What the reader of package bytes answers where a number has a last byte of 0 more than it needs. No condition. -/
import Derived.Test.YtoibgnhfpcaejaaBytesA
namespace Go.Proofs.Ytoibgnhfpcaejaa.BytesW
open Go.RowKit Go.Proofs.YtoibgnhfpcaejaaW.PrintWords Go.Proofs.YtoibgnhfpcaejaaW.PrintLast Go.Proofs.YtoibgnhfpcaejaaW.PrintMore
attribute [local go_sem] max2_int min2_int max_two min_two max_three min_three max_four min_four   -- for this text's walks alone
set_option linter.unusedVariables false
set_option linter.unusedSimpArgs false
set_option maxHeartbeats 8000000 in
set_option maxRecDepth 100000 in
theorem intForm.calls (g base d : Nat) (A1 : Option Addr) (c1 : Nat) (l : List Int) (w0 w : World) (hl : l.length = d + 1) (hd : 0 < d) (hl2 : l.length ≤ 1000) (hbig : ∀ j (h : j < l.length), j < d → 128 ≤ l[j]) (hlast : ∀ (h : d < l.length), l[d] = 0)
    (bk : w.heap[g]? = some (.cells #[.slice A1 l.length c1, .int .i64 0] 56 (0, 0))) (ho : Kd.R (Kd.int .u8) 5 w base (fun k => k ≠ g) (.slice A1 l.length c1) l) (hg : base ≤ g) (hB : Below base w0 w) :
    Calls Try.prog 10 #[.pointer (some ⟨g, 0, none⟩)] w fun e w' => e = .returned (.int .i64 0) ∧ w'.heap[g]? = some (.cells #[.slice none 0 0, .int .i64 4] 56 (0, 0)) ∧ Below base w0 w' ∧ (∀ k, k ≠ g → w'.heap[k]? = w.heap[k]?) ∧ w'.heap.size = w.heap.size := by
  obtain ⟨q, cc, e0, hqb, hql, cells, hcells⟩ := Kd.R_form ho (by omega)
  have hq : A1 = some ⟨q, 0, none⟩ := by injection e0
  subst hq
  have hcap : l.length ≤ c1 := (Kd.R_reads' ho).2.1
  have hcell : ∀ i : Nat, (h : i < l.length) → w.cell? ⟨q, i, none⟩ = some (.int .u8 l[i]) := by
    intro i h
    have x := (Kd.R_celln 0 ho (i : Int) (by omega) (by omega)).1
    rw [Int.toNat_natCast] at x
    rw [x]
    simp [rdOf, List.getD_eq_getElem?_getD, h]
  have hc0 : w.cell? ⟨g, 0, none⟩ = some (.slice (some ⟨q, 0, none⟩) l.length c1) := (blk_cell bk 0).trans rfl
  have hc1 : w.cell? ⟨g, 1, none⟩ = some (.int .i64 0) := (blk_cell bk 1).trans rfl
  have hf0 := blk_frozen bk 0
  have hf1 := blk_frozen bk 1
  clear e0
  go_enter Try.func10, Try.ntmps10
  go_wp2
  go_loopg [8] (d + 2) (fun kq v8 w' => ∃ i : Nat, v8 = .int .i64 (i : Int) ∧ Aside0 (i + kq = d + 2) ∧ Aside0 (i ≤ d) ∧ w' = w)
  case atStart => exact ⟨0, rfl, ⟨by omega⟩, ⟨by omega⟩, rfl⟩
  case round =>
    obtain ⟨i, rfl, HK, HI, rfl⟩ := hrel
    have hi := HI.out
    have hil : i < l.length := by omega
    have x := hcell i hil
    have d1 : decide ((i : Int) < (l.length : Int)) = true := decide_eq_true (by omega)
    by_cases hid : i < d
    · cases gk with
      | zero => exact absurd HK.out (by omega)
      | succ k1 =>
        have hx := hbig i hil hid
        have d2 : decide (l[i] < 128) = false := decide_eq_false (by omega)
        go_wp2
        go_roundg k1
        case measure => have := HK.out; omega
        case rel => exact ⟨i + 1, rfl, ⟨by have := HK.out; omega⟩, ⟨by omega⟩, rfl⟩
    · have hie : i = d := by omega
      subst hie
      have hx := hlast hil
      rw [hx] at x
      go_wp2
      all_goals go_end0
      all_goals go_wp2
      all_goals go_ret
      all_goals exact ⟨rfl, blk_put (blk_put bk 0 _ rfl) 1 _ rfl, (hB.setCell hg _).setCell hg _, fun k hk => (Below.heap_setCell _ ⟨g, 1, none⟩ _ k hk).trans (Below.heap_setCell _ ⟨g, 0, none⟩ _ k hk), by simp [World.setCell]⟩
end Go.Proofs.Ytoibgnhfpcaejaa.BytesW
