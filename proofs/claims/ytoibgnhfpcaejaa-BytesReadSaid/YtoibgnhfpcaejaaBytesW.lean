/- What the writer of package bytes does: a number that is put stands behind what was written, in groups of seven bits. No condition. -/
import Derived.Test.YtoibgnhfpcaejaaSep
import Derived.LoopN
import Derived.Laws.BitsAllLaws
namespace Go.Proofs.Ytoibgnhfpcaejaa.BytesW
open Go.RowKit Go.Proofs.YtoibgnhfpcaejaaW.PrintWords Go.Proofs.YtoibgnhfpcaejaaW.PrintLast Go.Proofs.YtoibgnhfpcaejaaW.PrintMore
attribute [local go_sem] max2_int min2_int max_two min_two max_three min_three max_four min_four   -- for this text's walks alone
set_option linter.unusedVariables false
set_option linter.unusedSimpArgs false
theorem info5 : (Try.prog.info? 5).map (fun i => (i.zero, i.size, i.bytes)) = some (some (.int .u8 0), 1, 1) := by kernel_rfl
/-- a number's groups of seven bits, the least ones first -/
def digs (u : Nat) : List Int := if h : u < 128 then [(u : Int)] else ((u % 128 + 128 : Nat) : Int) :: digs (u / 128)
termination_by u
decreasing_by omega
/-- what is kept of a number -/
def heldV (x : Int) : Int := mn (mx x (-4611686018427387904)) 4611686018427387903
def zig (v : Int) : Nat := if v < 0 then (-2 * (v + 1) + 1).toNat else (2 * v).toNat
def numB (x : Int) : List Int := digs (zig (heldV x))
theorem or128 (u : Nat) : Go.bits .or .u8 ((u : Int) % 256) 128 = ((u % 128 + 128 : Nat) : Int) := by
  have h : ∀ v : Fin 256, Go.bits .or .u8 ((v.val : Nat) : Int) 128 = ((v.val % 128 + 128 : Nat) : Int) := by decide +kernel
  have e := h ⟨u % 256, by omega⟩
  simp only at e
  rw [show ((u : Int) % 256) = ((u % 256 : Nat) : Int) from by omega, e]
  congr 2
  omega
/-- what a call leaves alone: all but the writer's block and its row -/
structure Fr (w w' : World) (g : Nat) (v v' : Value) : Prop where
  size : w.heap.size ≤ w'.heap.size
  block : ∀ k, k < w.heap.size → k ≠ g → some k ≠ v.ownBlock → w'.heap[k]? = w.heap[k]?
  own : v'.ownBlock = v.ownBlock ∨ ∃ b, v'.ownBlock = some b ∧ w.heap.size ≤ b
theorem Fr.refl (w : World) (g : Nat) (v : Value) : Fr w w g v v := ⟨Nat.le_refl _, fun _ _ _ _ => rfl, .inl rfl⟩
theorem own_in {W : World} {g : Nat} {o : Obj} (h : W.heap[g]? = some o) : g < W.heap.size := (Array.getElem?_eq_some_iff.1 h).1
theorem blk_grown1 {W w1 : World} {g base : Nat} {vv : Value} {b : List Int} {o : Obj} (bk : W.heap[g]? = some o) (ho : Kd.R (Kd.int .u8) 5 W base (fun k => k ≠ g) vv b) (hg : W.grownBy w1 vv.ownBlock) : w1.heap[g]? = some o := by
  rw [hg.block g (own_in bk) (fun e => ho.1 g e.symm rfl)]
  exact bk
theorem Fr.step {w W w1 : World} {g : Nat} {v vv v1 : Value} (h : Fr w W g v vv) (hg : W.grownBy w1 vv.ownBlock) (hat : v1.ownBlock = vv.ownBlock ∨ ∃ b, v1.ownBlock = some b ∧ W.heap.size ≤ b) : Fr w w1 g v v1 := by
  have hz := h.size
  have hgs := hg.size
  refine ⟨by omega, fun k hk hkg hkv => ?_, ?_⟩
  · have hne : some k ≠ vv.ownBlock := by
      rcases h.own with e | ⟨q, e, hq⟩
      · rw [e]; exact hkv
      · rw [e]; intro e2; have := Option.some.inj e2; omega
    rw [hg.block k (by omega) hne]
    exact h.block k hk hkg hkv
  · rcases hat with e | ⟨q, e, hq⟩
    · rw [e]; exact h.own
    · exact .inr ⟨q, e, by omega⟩
theorem Fr.put {w W : World} {g : Nat} {v v1 : Value} (h : Fr w W g v v1) (u : Value) : Fr w (W.setCell ⟨g, 0, none⟩ u) g v v1 :=
  ⟨by have := h.size; simpa [World.setCell] using this, fun k hk hkg hkv => (Below.heap_setCell W ⟨g, 0, none⟩ u k hkg).trans (h.block k hk hkg hkv), h.own⟩
set_option maxHeartbeats 8000000 in
set_option maxRecDepth 100000 in
theorem number.calls {T : Nat} (g base : Nat) (v : Value) (l : List Int) (x : Int) (w0 w : World) (hx : -9223372036854775808 ≤ x ∧ x ≤ 9223372036854775807) (hl : l.length ≤ 100000000) (hg : base ≤ g) (hb : base ≤ w.heap.size) (bk : w.heap[g]? = some (.cells #[v] T (0, 0))) (ho : Kd.R (Kd.int .u8) 5 w base (fun k => k ≠ g) v l) (hB : Below base w0 w) :
    Calls Try.prog 32 #[.pointer (some ⟨g, 0, none⟩), .int .i64 x] w fun e w' => e = .returned (.tuple #[]) ∧ ∃ v', w'.heap[g]? = some (.cells #[v'] T (0, 0)) ∧ Kd.R (Kd.int .u8) 5 w' base (fun k => k ≠ g) v' (l ++ numB x) ∧ Below base w0 w' ∧ Fr w w' g v v' := by
  have hz : 0 ≤ heldV x + 4611686018427387904 ∧ heldV x ≤ 4611686018427387903 := by unfold heldV mn mx; split <;> split <;> omega
  have hu0 : zig (heldV x) < 9223372036854775808 := by unfold zig; split <;> omega
  have hc0 : w.cell? ⟨g, 0, none⟩ = some v := (blk_cell bk 0).trans rfl
  have hf0 := blk_frozen bk 0
  obtain ⟨m, hm⟩ : ∃ m, (if x < -4611686018427387904 then -4611686018427387904 else x) = m := ⟨_, rfl⟩
  obtain ⟨y, hy⟩ : ∃ y, (if 4611686018427387903 < m then 4611686018427387903 else m) = y := ⟨_, rfl⟩
  have hxy : heldV x = y := by rw [← hy, ← hm]; rfl
  obtain ⟨u0, hzu⟩ : ∃ u, zig (heldV x) = u := ⟨_, rfl⟩
  rw [hzu] at hu0
  have hnum : numB x = digs u0 := by unfold numB; rw [hzu]
  rw [hxy] at hz hzu
  rw [hnum]
  clear hnum hxy
  by_cases hneg : y < 0
  · have hmy : m = y := by
      rw [← hy] at hneg ⊢
      split at hneg
      · omega
      · next h => rw [if_neg h]
    subst hmy
    have d1 : decide (m < 0) = true := decide_eq_true hneg
    go_enter Try.func32, Try.ntmps32
    go_wp2
    go_loopg [4] 9 (fun kq v4 w' => ∃ (b : List Int) (u : Nat) (vv : Value), v4 = .int .u64 (u : Int) ∧ Aside0 (u < 128 ^ kq ∧ u < 9223372036854775808) ∧ Aside0 (b ++ digs u = l ++ digs u0 ∧ b.length + kq ≤ 100000009) ∧ Aside0 (kq ≤ 9) ∧ Aside0 (w'.heap[g]? = some (.cells #[vv] T (0, 0))) ∧ Aside0 (Kd.R (Kd.int .u8) 5 w' base (fun k => k ≠ g) vv b) ∧ Aside0 (Below base w0 w') ∧ Aside0 (Fr w w' g v vv))
    case atStart => exact ⟨l, u0, v, by (congr 1; unfold zig at hzu; rw [if_pos hneg] at hzu; omega), ⟨⟨hu0, hu0⟩⟩, ⟨⟨rfl, by omega⟩⟩, ⟨Nat.le_refl _⟩, ⟨bk⟩, ⟨ho⟩, ⟨hB⟩, ⟨Fr.refl _ _ _⟩⟩
    case round =>
      obtain ⟨b, u, vv, rfl, HU, HL, HK, BK, HO, HB, HF⟩ := hrel
      have hc1 : wr.cell? ⟨g, 0, none⟩ = some vv := (blk_cell BK.out 0).trans rfl
      have hf1 := blk_frozen BK.out 0
      have HS := Aside0.mk (Nat.le_trans hb HF.out.size)
      have HG := Aside0.mk (own_in BK.out)
      clear d1 hc0 hf0
      by_cases c : 128 ≤ u
      · cases gk with
        | zero => exact absurd HU.out.1 (by simp; omega)
        | succ k1 =>
          have d2 : decide ((128 : Int) ≤ (u : Int)) = true := decide_eq_true (by omega)
          go_wp2_with (first | ((with_reducible refine gate_builtin (b := .append) (xs := #[.tmp 26, .tmp 30]) rfl ?_); at_builtin; refine Kd.R_append (Kd.int .u8) (w0 := w0) base rfl (.tmp 26) (.tmp 30) 22 5 (.int .u8 0) 1 rfl Try.underlying22 info5 rfl (by decide) (by omega) vv b (Go.bits .or .u8 ((u : Int) % 256) 128) [.int .u8 (Go.bits .or .u8 ((u : Int) % 256) 128)] (fun k => k ≠ g) (fun _ => False) rfl rfl ?aP (fun _ hk => hk.elim) ?aF ?aO ?aB ?aS ?aL ?_; (case aP => exact rfl); (case aB => exact HB.out); (case aF => exact fun k hk => Nat.ne_of_gt (Nat.lt_of_lt_of_le HG.out hk)); (case aO => (with_reducible repeat (first | apply Kd.R_alloc | apply Kd.R_drewN | apply Kd.R_drew)); exact HO.out); (case aS => exact HS.out); (case aL => have := HL.out.2; omega); intro v1 w1 ho1 hb1 hg1 hat1; have BK1 := Aside0.mk (blk_grown1 BK.out HO.out hg1); have HF1 := Aside0.mk (Fr.step HF.out hg1 hat1); have hc2 : w1.cell? ⟨g, 0, none⟩ = some vv := (blk_cell BK1.out 0).trans rfl; have hf2 := blk_frozen BK1.out 0; obtain ⟨A1, cc1, e1_⟩ := Kd.R_slice ho1; subst e1_))
          go_roundg k1
          case measure => have := HK.out; omega
          case rel =>
            have hdg : digs u = ((u % 128 + 128 : Nat) : Int) :: digs (u / 128) := by rw [digs, dif_neg (by omega)]
            have hor : Go.bits .or .u8 ((u : Int) % 256) 128 = ((u % 128 + 128 : Nat) : Int) := or128 u
            have hu2 := HU.out.2
            rw [show (b ++ [Go.bits .or .u8 ((u : Int) % 256) 128]).length = b.length + 1 from by simp] at ho1 HF1
            refine ⟨b ++ [Go.bits .or .u8 ((u : Int) % 256) 128], u / 128, .slice A1 (b.length + 1) cc1, rfl, ⟨⟨?_, by omega⟩⟩, ⟨⟨?_, ?_⟩⟩, ⟨by have := HK.out; omega⟩, ⟨blk_put BK1.out 0 _ rfl⟩, ⟨?_⟩, ⟨hb1.setCell hg _⟩, ⟨HF1.out.put _⟩⟩
            · have h1 := HU.out.1
              rw [Nat.pow_succ] at h1
              exact Nat.div_lt_of_lt_mul (by rw [Nat.mul_comm]; exact h1)
            · rw [hor, List.append_assoc, List.singleton_append, ← hdg]; exact HL.out.1
            · have := HL.out.2; simp; omega
            · have := Kd.R_far (p := ⟨g, 0, none⟩) ho1 (fun k hk => hk) (.slice A1 (b.length + 1) cc1)
              simpa using this
      · have d2 : decide ((128 : Int) ≤ (u : Int)) = false := decide_eq_false (by omega)
        go_wp2_with (first | ((with_reducible refine gate_builtin (b := .append) (xs := #[.tmp 38, .tmp 41]) rfl ?_); at_builtin; refine Kd.R_append (Kd.int .u8) (w0 := w0) base rfl (.tmp 38) (.tmp 41) 22 5 (.int .u8 0) 1 rfl Try.underlying22 info5 rfl (by decide) (by omega) vv b ((u : Int)) [.int .u8 ((u : Int))] (fun k => k ≠ g) (fun _ => False) rfl rfl ?aP (fun _ hk => hk.elim) ?aF ?aO ?aB ?aS ?aL ?_; (case aP => exact rfl); (case aB => exact HB.out); (case aF => exact fun k hk => Nat.ne_of_gt (Nat.lt_of_lt_of_le HG.out hk)); (case aO => (with_reducible repeat (first | apply Kd.R_alloc | apply Kd.R_drewN | apply Kd.R_drew)); exact HO.out); (case aS => exact HS.out); (case aL => have := HL.out.2; omega); intro v1 w1 ho1 hb1 hg1 hat1; have BK1 := Aside0.mk (blk_grown1 BK.out HO.out hg1); have HF1 := Aside0.mk (Fr.step HF.out hg1 hat1); have hc2 : w1.cell? ⟨g, 0, none⟩ = some vv := (blk_cell BK1.out 0).trans rfl; have hf2 := blk_frozen BK1.out 0; obtain ⟨A1, cc1, e1_⟩ := Kd.R_slice ho1; subst e1_))
        go_end0
        rw [show (b ++ [(u : Int)]).length = b.length + 1 from by simp] at ho1 HF1
        have hdg : digs u = [(u : Int)] := by rw [digs, dif_pos (by omega)]
        refine ⟨rfl, .slice A1 (b.length + 1) cc1, blk_put BK1.out 0 _ rfl, ?_, hb1.setCell hg _, HF1.out.put _⟩
        have h2 : l ++ digs u0 = b ++ [(u : Int)] := by rw [← HL.out.1, hdg]
        rw [h2]
        have := Kd.R_far (p := ⟨g, 0, none⟩) ho1 (fun k hk => hk) (.slice A1 (b.length + 1) cc1)
        simpa using this
  · have hmx : m = x := by
      by_cases h : x < -4611686018427387904
      · exfalso
        rw [if_pos h] at hm
        subst hm
        rw [if_neg (by decide)] at hy
        omega
      · rw [if_neg h] at hm; exact hm.symm
    subst hmx
    by_cases hbig : 4611686018427387903 < m
    · rw [if_pos hbig] at hy
      have e2 : (if 4611686018427387903 < m then 4611686018427387903 else m) = (4611686018427387903 : Int) := if_pos hbig
      subst hy
      go_enter Try.func32, Try.ntmps32
      go_wp2
      go_loopg [4] 9 (fun kq v4 w' => ∃ (b : List Int) (u : Nat) (vv : Value), v4 = .int .u64 (u : Int) ∧ Aside0 (u < 128 ^ kq ∧ u < 9223372036854775808) ∧ Aside0 (b ++ digs u = l ++ digs u0 ∧ b.length + kq ≤ 100000009) ∧ Aside0 (kq ≤ 9) ∧ Aside0 (w'.heap[g]? = some (.cells #[vv] T (0, 0))) ∧ Aside0 (Kd.R (Kd.int .u8) 5 w' base (fun k => k ≠ g) vv b) ∧ Aside0 (Below base w0 w') ∧ Aside0 (Fr w w' g v vv))
      case atStart => exact ⟨l, u0, v, by (congr 1; unfold zig at hzu; rw [if_neg (by decide)] at hzu; omega), ⟨⟨hu0, hu0⟩⟩, ⟨⟨rfl, by omega⟩⟩, ⟨Nat.le_refl _⟩, ⟨bk⟩, ⟨ho⟩, ⟨hB⟩, ⟨Fr.refl _ _ _⟩⟩
      case round =>
        obtain ⟨b, u, vv, rfl, HU, HL, HK, BK, HO, HB, HF⟩ := hrel
        have hc1 : wr.cell? ⟨g, 0, none⟩ = some vv := (blk_cell BK.out 0).trans rfl
        have hf1 := blk_frozen BK.out 0
        have HS := Aside0.mk (Nat.le_trans hb HF.out.size)
        have HG := Aside0.mk (own_in BK.out)
        clear hc0 hf0
        by_cases c : 128 ≤ u
        · cases gk with
          | zero => exact absurd HU.out.1 (by simp; omega)
          | succ k1 =>
            have d2 : decide ((128 : Int) ≤ (u : Int)) = true := decide_eq_true (by omega)
            go_wp2_with (first | ((with_reducible refine gate_builtin (b := .append) (xs := #[.tmp 26, .tmp 30]) rfl ?_); at_builtin; refine Kd.R_append (Kd.int .u8) (w0 := w0) base rfl (.tmp 26) (.tmp 30) 22 5 (.int .u8 0) 1 rfl Try.underlying22 info5 rfl (by decide) (by omega) vv b (Go.bits .or .u8 ((u : Int) % 256) 128) [.int .u8 (Go.bits .or .u8 ((u : Int) % 256) 128)] (fun k => k ≠ g) (fun _ => False) rfl rfl ?aP (fun _ hk => hk.elim) ?aF ?aO ?aB ?aS ?aL ?_; (case aP => exact rfl); (case aB => exact HB.out); (case aF => exact fun k hk => Nat.ne_of_gt (Nat.lt_of_lt_of_le HG.out hk)); (case aO => (with_reducible repeat (first | apply Kd.R_alloc | apply Kd.R_drewN | apply Kd.R_drew)); exact HO.out); (case aS => exact HS.out); (case aL => have := HL.out.2; omega); intro v1 w1 ho1 hb1 hg1 hat1; have BK1 := Aside0.mk (blk_grown1 BK.out HO.out hg1); have HF1 := Aside0.mk (Fr.step HF.out hg1 hat1); have hc2 : w1.cell? ⟨g, 0, none⟩ = some vv := (blk_cell BK1.out 0).trans rfl; have hf2 := blk_frozen BK1.out 0; obtain ⟨A1, cc1, e1_⟩ := Kd.R_slice ho1; subst e1_))
            go_roundg k1
            case measure => have := HK.out; omega
            case rel =>
              have hdg : digs u = ((u % 128 + 128 : Nat) : Int) :: digs (u / 128) := by rw [digs, dif_neg (by omega)]
              have hor : Go.bits .or .u8 ((u : Int) % 256) 128 = ((u % 128 + 128 : Nat) : Int) := or128 u
              have hu2 := HU.out.2
              rw [show (b ++ [Go.bits .or .u8 ((u : Int) % 256) 128]).length = b.length + 1 from by simp] at ho1 HF1
              refine ⟨b ++ [Go.bits .or .u8 ((u : Int) % 256) 128], u / 128, .slice A1 (b.length + 1) cc1, rfl, ⟨⟨?_, by omega⟩⟩, ⟨⟨?_, ?_⟩⟩, ⟨by have := HK.out; omega⟩, ⟨blk_put BK1.out 0 _ rfl⟩, ⟨?_⟩, ⟨hb1.setCell hg _⟩, ⟨HF1.out.put _⟩⟩
              · have h1 := HU.out.1
                rw [Nat.pow_succ] at h1
                exact Nat.div_lt_of_lt_mul (by rw [Nat.mul_comm]; exact h1)
              · rw [hor, List.append_assoc, List.singleton_append, ← hdg]; exact HL.out.1
              · have := HL.out.2; simp; omega
              · have := Kd.R_far (p := ⟨g, 0, none⟩) ho1 (fun k hk => hk) (.slice A1 (b.length + 1) cc1)
                simpa using this
        · have d2 : decide ((128 : Int) ≤ (u : Int)) = false := decide_eq_false (by omega)
          go_wp2_with (first | ((with_reducible refine gate_builtin (b := .append) (xs := #[.tmp 38, .tmp 41]) rfl ?_); at_builtin; refine Kd.R_append (Kd.int .u8) (w0 := w0) base rfl (.tmp 38) (.tmp 41) 22 5 (.int .u8 0) 1 rfl Try.underlying22 info5 rfl (by decide) (by omega) vv b ((u : Int)) [.int .u8 ((u : Int))] (fun k => k ≠ g) (fun _ => False) rfl rfl ?aP (fun _ hk => hk.elim) ?aF ?aO ?aB ?aS ?aL ?_; (case aP => exact rfl); (case aB => exact HB.out); (case aF => exact fun k hk => Nat.ne_of_gt (Nat.lt_of_lt_of_le HG.out hk)); (case aO => (with_reducible repeat (first | apply Kd.R_alloc | apply Kd.R_drewN | apply Kd.R_drew)); exact HO.out); (case aS => exact HS.out); (case aL => have := HL.out.2; omega); intro v1 w1 ho1 hb1 hg1 hat1; have BK1 := Aside0.mk (blk_grown1 BK.out HO.out hg1); have HF1 := Aside0.mk (Fr.step HF.out hg1 hat1); have hc2 : w1.cell? ⟨g, 0, none⟩ = some vv := (blk_cell BK1.out 0).trans rfl; have hf2 := blk_frozen BK1.out 0; obtain ⟨A1, cc1, e1_⟩ := Kd.R_slice ho1; subst e1_))
          go_end0
          rw [show (b ++ [(u : Int)]).length = b.length + 1 from by simp] at ho1 HF1
          have hdg : digs u = [(u : Int)] := by rw [digs, dif_pos (by omega)]
          refine ⟨rfl, .slice A1 (b.length + 1) cc1, blk_put BK1.out 0 _ rfl, ?_, hb1.setCell hg _, HF1.out.put _⟩
          have h2 : l ++ digs u0 = b ++ [(u : Int)] := by rw [← HL.out.1, hdg]
          rw [h2]
          have := Kd.R_far (p := ⟨g, 0, none⟩) ho1 (fun k hk => hk) (.slice A1 (b.length + 1) cc1)
          simpa using this
    · rw [if_neg hbig] at hy
      subst hy
      have e2 : (if 4611686018427387903 < m then 4611686018427387903 else m) = m := if_neg hbig
      have d1 : decide (m < 0) = false := decide_eq_false hneg
      go_enter Try.func32, Try.ntmps32
      go_wp2
      go_loopg [4] 9 (fun kq v4 w' => ∃ (b : List Int) (u : Nat) (vv : Value), v4 = .int .u64 (u : Int) ∧ Aside0 (u < 128 ^ kq ∧ u < 9223372036854775808) ∧ Aside0 (b ++ digs u = l ++ digs u0 ∧ b.length + kq ≤ 100000009) ∧ Aside0 (kq ≤ 9) ∧ Aside0 (w'.heap[g]? = some (.cells #[vv] T (0, 0))) ∧ Aside0 (Kd.R (Kd.int .u8) 5 w' base (fun k => k ≠ g) vv b) ∧ Aside0 (Below base w0 w') ∧ Aside0 (Fr w w' g v vv))
      case atStart => exact ⟨l, u0, v, by (congr 1; unfold zig at hzu; rw [if_neg (by omega)] at hzu; omega), ⟨⟨hu0, hu0⟩⟩, ⟨⟨rfl, by omega⟩⟩, ⟨Nat.le_refl _⟩, ⟨bk⟩, ⟨ho⟩, ⟨hB⟩, ⟨Fr.refl _ _ _⟩⟩
      case round =>
        obtain ⟨b, u, vv, rfl, HU, HL, HK, BK, HO, HB, HF⟩ := hrel
        have hc1 : wr.cell? ⟨g, 0, none⟩ = some vv := (blk_cell BK.out 0).trans rfl
        have hf1 := blk_frozen BK.out 0
        have HS := Aside0.mk (Nat.le_trans hb HF.out.size)
        have HG := Aside0.mk (own_in BK.out)
        clear d1 hc0 hf0
        by_cases c : 128 ≤ u
        · cases gk with
          | zero => exact absurd HU.out.1 (by simp; omega)
          | succ k1 =>
            have d2 : decide ((128 : Int) ≤ (u : Int)) = true := decide_eq_true (by omega)
            go_wp2_with (first | ((with_reducible refine gate_builtin (b := .append) (xs := #[.tmp 26, .tmp 30]) rfl ?_); at_builtin; refine Kd.R_append (Kd.int .u8) (w0 := w0) base rfl (.tmp 26) (.tmp 30) 22 5 (.int .u8 0) 1 rfl Try.underlying22 info5 rfl (by decide) (by omega) vv b (Go.bits .or .u8 ((u : Int) % 256) 128) [.int .u8 (Go.bits .or .u8 ((u : Int) % 256) 128)] (fun k => k ≠ g) (fun _ => False) rfl rfl ?aP (fun _ hk => hk.elim) ?aF ?aO ?aB ?aS ?aL ?_; (case aP => exact rfl); (case aB => exact HB.out); (case aF => exact fun k hk => Nat.ne_of_gt (Nat.lt_of_lt_of_le HG.out hk)); (case aO => (with_reducible repeat (first | apply Kd.R_alloc | apply Kd.R_drewN | apply Kd.R_drew)); exact HO.out); (case aS => exact HS.out); (case aL => have := HL.out.2; omega); intro v1 w1 ho1 hb1 hg1 hat1; have BK1 := Aside0.mk (blk_grown1 BK.out HO.out hg1); have HF1 := Aside0.mk (Fr.step HF.out hg1 hat1); have hc2 : w1.cell? ⟨g, 0, none⟩ = some vv := (blk_cell BK1.out 0).trans rfl; have hf2 := blk_frozen BK1.out 0; obtain ⟨A1, cc1, e1_⟩ := Kd.R_slice ho1; subst e1_))
            go_roundg k1
            case measure => have := HK.out; omega
            case rel =>
              have hdg : digs u = ((u % 128 + 128 : Nat) : Int) :: digs (u / 128) := by rw [digs, dif_neg (by omega)]
              have hor : Go.bits .or .u8 ((u : Int) % 256) 128 = ((u % 128 + 128 : Nat) : Int) := or128 u
              have hu2 := HU.out.2
              rw [show (b ++ [Go.bits .or .u8 ((u : Int) % 256) 128]).length = b.length + 1 from by simp] at ho1 HF1
              refine ⟨b ++ [Go.bits .or .u8 ((u : Int) % 256) 128], u / 128, .slice A1 (b.length + 1) cc1, rfl, ⟨⟨?_, by omega⟩⟩, ⟨⟨?_, ?_⟩⟩, ⟨by have := HK.out; omega⟩, ⟨blk_put BK1.out 0 _ rfl⟩, ⟨?_⟩, ⟨hb1.setCell hg _⟩, ⟨HF1.out.put _⟩⟩
              · have h1 := HU.out.1
                rw [Nat.pow_succ] at h1
                exact Nat.div_lt_of_lt_mul (by rw [Nat.mul_comm]; exact h1)
              · rw [hor, List.append_assoc, List.singleton_append, ← hdg]; exact HL.out.1
              · have := HL.out.2; simp; omega
              · have := Kd.R_far (p := ⟨g, 0, none⟩) ho1 (fun k hk => hk) (.slice A1 (b.length + 1) cc1)
                simpa using this
        · have d2 : decide ((128 : Int) ≤ (u : Int)) = false := decide_eq_false (by omega)
          go_wp2_with (first | ((with_reducible refine gate_builtin (b := .append) (xs := #[.tmp 38, .tmp 41]) rfl ?_); at_builtin; refine Kd.R_append (Kd.int .u8) (w0 := w0) base rfl (.tmp 38) (.tmp 41) 22 5 (.int .u8 0) 1 rfl Try.underlying22 info5 rfl (by decide) (by omega) vv b ((u : Int)) [.int .u8 ((u : Int))] (fun k => k ≠ g) (fun _ => False) rfl rfl ?aP (fun _ hk => hk.elim) ?aF ?aO ?aB ?aS ?aL ?_; (case aP => exact rfl); (case aB => exact HB.out); (case aF => exact fun k hk => Nat.ne_of_gt (Nat.lt_of_lt_of_le HG.out hk)); (case aO => (with_reducible repeat (first | apply Kd.R_alloc | apply Kd.R_drewN | apply Kd.R_drew)); exact HO.out); (case aS => exact HS.out); (case aL => have := HL.out.2; omega); intro v1 w1 ho1 hb1 hg1 hat1; have BK1 := Aside0.mk (blk_grown1 BK.out HO.out hg1); have HF1 := Aside0.mk (Fr.step HF.out hg1 hat1); have hc2 : w1.cell? ⟨g, 0, none⟩ = some vv := (blk_cell BK1.out 0).trans rfl; have hf2 := blk_frozen BK1.out 0; obtain ⟨A1, cc1, e1_⟩ := Kd.R_slice ho1; subst e1_))
          go_end0
          rw [show (b ++ [(u : Int)]).length = b.length + 1 from by simp] at ho1 HF1
          have hdg : digs u = [(u : Int)] := by rw [digs, dif_pos (by omega)]
          refine ⟨rfl, .slice A1 (b.length + 1) cc1, blk_put BK1.out 0 _ rfl, ?_, hb1.setCell hg _, HF1.out.put _⟩
          have h2 : l ++ digs u0 = b ++ [(u : Int)] := by rw [← HL.out.1, hdg]
          rw [h2]
          have := Kd.R_far (p := ⟨g, 0, none⟩) ho1 (fun k hk => hk) (.slice A1 (b.length + 1) cc1)
          simpa using this
end Go.Proofs.Ytoibgnhfpcaejaa.BytesW
