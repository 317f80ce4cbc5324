/- Inputs are added to a table: the walk. Condition: numbers are within int; rows are no longer than 10000. -/
import Derived.Test.YtkgjokidfbpnbaaInE
namespace Go.Proofs.Ytkgjokidfbpnbaa.InW
open Go.RowKit Go.Proofs.YtkgjokidfbpnbaaW.PrintWords Go.Proofs.YtkgjokidfbpnbaaW.PrintLast Go.Proofs.YtkgjokidfbpnbaaW.PrintMore Go.Proofs.Ytkgjokidfbpnbaa.Sep
attribute [local go_sem] max2_int min2_int max_two min_two max_three min_three max_four min_four   -- for this text's walks alone
set_option linter.unusedVariables false
set_option linter.unusedSimpArgs false
theorem info24_ : (Try.prog.info? 24).map (fun i => (i.zero, i.size, i.bytes)) = some (some (.agg #[.int .i64 0, .int .i64 0, .bool false]), 3, 24) := by kernel_rfl
theorem news_at {w : World} {gl : Nat} {x : In} (h : w.heap[gl]? = some (.cells #[.int .i64 x.1, .int .i64 x.2.1, .bool x.2.2] 24 (0, 0))) : ∀ j u, (encI x)[j]? = some u → w.cell? ((⟨gl, 0, none⟩ : Addr).add j) = some u := by
  intro j u hu
  have e : (⟨gl, 0, none⟩ : Addr).add j = ⟨gl, j, none⟩ := by unfold Addr.add; split <;> simp_all
  rw [e, blk_cell h j]
  simpa [encI] using hu
theorem news_one (x : In) : ∀ u ∈ encI x, u.oneCell' = true := by
  intro u hu
  simp [encI] at hu
  rcases hu with rfl | rfl | rfl <;> rfl
/-- what Add leaves -/
def AddP (w0 w : World) (base g ga : Nat) (Z : Nat → Prop) (cs : List Col) (p fr : Int) (xs : List In) (e : Ending) (w' : World) : Prop := ∃ Z' : Nat → Prop, e = .returned (.int .i64 (add_ cs p fr xs).1) ∧ Below base w0 w' ∧ w.heap.size ≤ w'.heap.size ∧ (∀ k, k < w.heap.size → k ≠ ga → w'.heap[k]? = w.heap[k]?) ∧ (∀ k, Z k → Z' k) ∧ (∀ k, Z' k → Z k ∨ w.heap.size ≤ k) ∧ (∀ k, Z' k → k < w'.heap.size) ∧ TabG w' g ga Z' (add_ cs p fr xs).2

theorem AddI.start {w0 w w1 : World} {base g ga : Nat} {Z : Nat → Prop} {cs : List Col} {p fr : Int} {xs : List In} (h : TabG w g ga Z cs) (hB : Below base w0 w) (hz : ∀ k, Z k → k < w.heap.size) (hl : g < w.heap.size ∧ ga < w.heap.size) (hj : p.toNat - 1 < cs.length) (hle : (cAt cs p).l.length ≤ 10000 ∧ I64 (cAt cs p).e) (hb : Below w.heap.size w w1) (hbs : base ≤ w.heap.size) : AddI w0 w w1 base g ga Z cs p fr xs 0 0 (cAt cs p) := by
  have h0 : AddI w0 w w base g ga Z cs p fr xs 0 0 (cAt cs p) := by
    refine ⟨hB, Nat.le_refl _, fun k hk hne => rfl, ⟨Z, fun k hk => hk, fun k hk => .inl hk, hz, ?_⟩, by rw [List.drop_zero], ⟨Int.le_refl _, Int.le_refl _⟩, hle⟩
    rw [cAt_get hj, List.set_getElem_self]
    exact h
  exact h0.step hb hbs hl
theorem AddI.done {w0 w W : World} {base g ga : Nat} {Z : Nat → Prop} {cs : List Col} {p fr : Int} {xs : List In} {i : Nat} {n : Int} {c : Col} (h : AddI w0 w W base g ga Z cs p fr xs i n c) (hs : addGo (cAt cs p) fr 0 xs 0 = (c, n)) (h1 : isP cs p) (h2 : 0 ≤ fr) : AddP w0 w base g ga Z cs p fr xs (.returned (.int .i64 n)) W := by
  obtain ⟨Z', z1, z2, z3, z4⟩ := h.tab
  refine ⟨Z', ?_, h.below, h.size, h.frame, z1, z2, z3, ?_⟩
  · rw [add_yes h1 h2, hs]
  · rw [add_yes h1 h2, hs]; exact z4
set_option maxHeartbeats 8000000 in
set_option maxRecDepth 100000 in
theorem add.calls {w0 w : World} {base g ga : Nat} {Z : Nat → Prop} {cs : List Col} (h : TabG w g ga Z cs) (hB : Below base w0 w) (hga : base ≤ ga) (hl : g < w.heap.size ∧ ga < w.heap.size) (hz : ∀ k, Z k → k < w.heap.size) (p fr : Int) (hp : I64 p) (hfr : I64 fr) (hn : cs.length ≤ 1000000) (hle : (cAt cs p).l.length ≤ 10000 ∧ I64 (cAt cs p).e)
    (A : Option Addr) (cx : Nat) (xs : List In) (hx : xs.length ≤ 1000000) (hxs : ∀ (W : World) (i : Nat) (n : Int) (c : Col), AddI w0 w W base g ga Z cs p fr xs i n c → Kd.C kin W A xs.length xs) :
    Calls Try.prog 12 #[.pointer (some ⟨g, 0, none⟩), .int .i64 p, .int .i64 fr, .slice A xs.length cx] w (AddP w0 w base g ga Z cs p fr xs) := by
  have hbs : base ≤ w.heap.size := by omega
  have hu24 := Try.underlying24
  by_cases h1 : isP cs p
  · have hj : p.toNat - 1 < cs.length := by unfold isP at h1; omega
    by_cases h0 : fr < 0
    · have d0 : decide (fr < 0) = true := decide_eq_true h0
      go_enter Try.func12, Try.ntmps12
      go_wp2_with (first | (go_at_call 30; (refine (column.calls h p hp hn).mono ?_); rintro e w1 ⟨rfl, hb1⟩; rw [colA_yes h1]; have HA1 := Aside0.mk (AddI.start (fr := fr) (xs := xs) h hB hz hl hj hle hb1 hbs); clear hb1))
      go_ret
      obtain ⟨Z', z1, z2, z3, z4⟩ := HA1.out.tab
      rw [cAt_get hj, List.set_getElem_self] at z4
      refine ⟨Z', ?_, HA1.out.below, HA1.out.size, HA1.out.frame, z1, z2, z3, ?_⟩
      · rw [add_no (fun x => by omega)]; rfl
      · rw [add_no (fun x => by omega)]; exact z4
    · have d0 : decide (fr < 0) = false := decide_eq_false h0
      have HXS := Aside0.mk hxs
      clear hxs
      go_enter Try.func12, Try.ntmps12
      go_wp2_with (first | (go_at_call 30; (refine (column.calls h p hp hn).mono ?_); rintro e w1 ⟨rfl, hb1⟩; rw [colA_yes h1]; have HA1 := Aside0.mk (AddI.start (fr := fr) (xs := xs) h hB hz hl hj hle hb1 hbs); clear hb1))
      go_loopg [25, 10] (xs.length + 1) (fun kq v25 v10 w' => ∃ (i : Nat) (n : Int) (c : Col), v25 = .int .i64 (i : Int) ∧ v10 = .int .i64 n ∧ Aside0 (i + kq = xs.length + 1) ∧ Aside0 (i ≤ xs.length) ∧ Aside0 (AddI w0 w w' base g ga Z cs p fr xs i n c))
      case atStart => exact ⟨0, 0, _, rfl, rfl, ⟨by omega⟩, ⟨by omega⟩, HA1⟩
      case round =>
        obtain ⟨i, n, c, rfl, rfl, HK, HI, HA⟩ := hrel
        clear HA1
        by_cases hil : i < xs.length
        · have d1 : decide ((i : Int) < (xs.length : Int)) = true := decide_eq_true (by omega)
          obtain ⟨ad, rfl, x0, x1, x2⟩ := at_inI (HXS.out _ _ _ _ HA.out) (i : Int) (by omega) (by omega)
          rw [Int.toNat_natCast] at x0 x1 x2
          obtain ⟨x, hx9⟩ : ∃ x, rdI xs (i : Int) = x := ⟨_, rfl⟩
          rw [hx9] at x0 x1 x2
          have HXX := Aside0.mk (show xs[i] = x by rw [← hx9]; simp [rdI, List.getD_eq_getElem?_getD, hil])
          clear hx9
          have hlc := HA.out.len.1
          have hle9 := HA.out.len.2
          obtain ⟨q, hq⟩ : ∃ q : Int, q = (c.l.length : Int) - fr := ⟨_, rfl⟩
          have dW : IntKind.i64.wrap ((c.l.length : Int) - fr) = q := by rw [IntKind.wrap_i64, hq]; omega
          have HQ := Aside0.mk hq
          clear hq
          cases gk with
          | zero => exact absurd HK.out (by omega)
          | succ k1 =>
            by_cases hR : rightI x = true
            case neg =>
              replace hR : rightI x = false := by simpa using hR
              go_wp2_with (first | ((with_reducible refine gate_dst (N := 12) rfl ?_); refine box_event ?hg (N := 12) ?hd (cs := #[.int .i64 0, .int .i64 0, .bool false]) (t := 24) ?hr ?_; (case hd => rfl); (case hg => rfl); (case hr => first | (go_simp; done) | (go_simp; rfl)); intro gb hgb w5 hbox hb5; have HGE := Aside0.mk (Nat.le_of_eq hgb.symm); have hn1 : gb ≠ ga := Nat.ne_of_gt (Nat.lt_of_lt_of_le (Nat.lt_of_lt_of_le hl.2 HA.out.size) HGE.out); clear hgb; have hn2 : ga ≠ gb := hn1.symm; have BK := Aside0.mk hbox; clear hbox; have HA5 := Aside0.mk (HA.out.step hb5 hbs hl); have HB5 := Aside0.mk hb5; clear hb5; obtain ⟨A5, cp5, c51, c52, c53, hc5, _, _⟩ := HA5.out.pl h1; have hcz0 : w5.cell? ⟨gb, 0, none⟩ = some (.int .i64 0) := (blk_cell BK.out 0).trans rfl; have hcz1 : w5.cell? ⟨gb, 1, none⟩ = some (.int .i64 0) := (blk_cell BK.out 1).trans rfl; have hcz2 : w5.cell? ⟨gb, 2, none⟩ = some (.bool false) := (blk_cell BK.out 2).trans rfl; have hfz0 := blk_frozen BK.out 0; have hfz1 := blk_frozen BK.out 1; have hfz2 := blk_frozen BK.out 2) | (go_at_call 31; (refine (PInputsEnd.input_Right.calls x.1 x.2.1 x.2.2 false _ ((right_eq x).trans (by rw [hR]))).mono ?_); rintro e w6 ⟨rfl, hb6⟩; have bk5 := blk_put (cs' := #[.int .i64 x.1, .int .i64 x.2.1, .bool x.2.2]) (blk_put (cs' := #[.int .i64 x.1, .int .i64 x.2.1, .bool false]) (blk_put (cs' := #[.int .i64 x.1, .int .i64 0, .bool false]) BK.out 0 (.int .i64 x.1) rfl) 1 (.int .i64 x.2.1) rfl) 2 (.bool x.2.2) rfl; have BK6 := Aside0.mk (blk_below bk5 hb6); have HA6 := Aside0.mk ((HA.out.step (below_set (below_set (below_set HB5.out HGE.out) HGE.out) HGE.out) hbs hl).step hb6 hbs hl); clear hb6 hcz0 hcz1 hcz2 hfz0 hfz1 hfz2 c51 c52 c53 bk5; obtain ⟨A6, cp6, c1, c2, c3, hc6, hC6, hf6⟩ := HA6.out.pl h1; have q0 : w6.cell? ⟨gb, 0, none⟩ = some (.int .i64 x.1) := (blk_cell BK6.out 0).trans rfl; have q1 : w6.cell? ⟨gb, 1, none⟩ = some (.int .i64 x.2.1) := (blk_cell BK6.out 1).trans rfl; have q2 : w6.cell? ⟨gb, 2, none⟩ = some (.bool x.2.2) := (blk_cell BK6.out 2).trans rfl))
              go_ret
              exact HA6.out.done (HA6.out.stop hil HXX.out (.inl hR)) h1 (by omega)
            by_cases h2 : (c.l.length : Int) < fr
            case pos =>
              have d2 : decide ((c.l.length : Int) < fr) = true := decide_eq_true h2
              go_wp2_with (first | ((with_reducible refine gate_dst (N := 12) rfl ?_); refine box_event ?hg (N := 12) ?hd (cs := #[.int .i64 0, .int .i64 0, .bool false]) (t := 24) ?hr ?_; (case hd => rfl); (case hg => rfl); (case hr => first | (go_simp; done) | (go_simp; rfl)); intro gb hgb w5 hbox hb5; have HGE := Aside0.mk (Nat.le_of_eq hgb.symm); have hn1 : gb ≠ ga := Nat.ne_of_gt (Nat.lt_of_lt_of_le (Nat.lt_of_lt_of_le hl.2 HA.out.size) HGE.out); clear hgb; have hn2 : ga ≠ gb := hn1.symm; have BK := Aside0.mk hbox; clear hbox; have HA5 := Aside0.mk (HA.out.step hb5 hbs hl); have HB5 := Aside0.mk hb5; clear hb5; obtain ⟨A5, cp5, c51, c52, c53, hc5, _, _⟩ := HA5.out.pl h1; have hcz0 : w5.cell? ⟨gb, 0, none⟩ = some (.int .i64 0) := (blk_cell BK.out 0).trans rfl; have hcz1 : w5.cell? ⟨gb, 1, none⟩ = some (.int .i64 0) := (blk_cell BK.out 1).trans rfl; have hcz2 : w5.cell? ⟨gb, 2, none⟩ = some (.bool false) := (blk_cell BK.out 2).trans rfl; have hfz0 := blk_frozen BK.out 0; have hfz1 := blk_frozen BK.out 1; have hfz2 := blk_frozen BK.out 2) | (go_at_call 31; (refine (PInputsEnd.input_Right.calls x.1 x.2.1 x.2.2 true _ ((right_eq x).trans (by rw [hR]))).mono ?_); rintro e w6 ⟨rfl, hb6⟩; have bk5 := blk_put (cs' := #[.int .i64 x.1, .int .i64 x.2.1, .bool x.2.2]) (blk_put (cs' := #[.int .i64 x.1, .int .i64 x.2.1, .bool false]) (blk_put (cs' := #[.int .i64 x.1, .int .i64 0, .bool false]) BK.out 0 (.int .i64 x.1) rfl) 1 (.int .i64 x.2.1) rfl) 2 (.bool x.2.2) rfl; have BK6 := Aside0.mk (blk_below bk5 hb6); have HA6 := Aside0.mk ((HA.out.step (below_set (below_set (below_set HB5.out HGE.out) HGE.out) HGE.out) hbs hl).step hb6 hbs hl); clear hb6 hcz0 hcz1 hcz2 hfz0 hfz1 hfz2 c51 c52 c53 bk5; obtain ⟨A6, cp6, c1, c2, c3, hc6, hC6, hf6⟩ := HA6.out.pl h1; have q0 : w6.cell? ⟨gb, 0, none⟩ = some (.int .i64 x.1) := (blk_cell BK6.out 0).trans rfl; have q1 : w6.cell? ⟨gb, 1, none⟩ = some (.int .i64 x.2.1) := (blk_cell BK6.out 1).trans rfl; have q2 : w6.cell? ⟨gb, 2, none⟩ = some (.bool x.2.2) := (blk_cell BK6.out 2).trans rfl))
              go_ret
              exact HA6.out.done (HA6.out.stop hil HXX.out (.inr (.inl h2))) h1 (by omega)
            have d2 : decide ((c.l.length : Int) < fr) = false := decide_eq_false h2
            by_cases h3 : q < i
            case pos =>
              have d3 : decide (q < (i : Int)) = true := decide_eq_true h3
              go_wp2_with (first | ((with_reducible refine gate_dst (N := 12) rfl ?_); refine box_event ?hg (N := 12) ?hd (cs := #[.int .i64 0, .int .i64 0, .bool false]) (t := 24) ?hr ?_; (case hd => rfl); (case hg => rfl); (case hr => first | (go_simp; done) | (go_simp; rfl)); intro gb hgb w5 hbox hb5; have HGE := Aside0.mk (Nat.le_of_eq hgb.symm); have hn1 : gb ≠ ga := Nat.ne_of_gt (Nat.lt_of_lt_of_le (Nat.lt_of_lt_of_le hl.2 HA.out.size) HGE.out); clear hgb; have hn2 : ga ≠ gb := hn1.symm; have BK := Aside0.mk hbox; clear hbox; have HA5 := Aside0.mk (HA.out.step hb5 hbs hl); have HB5 := Aside0.mk hb5; clear hb5; obtain ⟨A5, cp5, c51, c52, c53, hc5, _, _⟩ := HA5.out.pl h1; have hcz0 : w5.cell? ⟨gb, 0, none⟩ = some (.int .i64 0) := (blk_cell BK.out 0).trans rfl; have hcz1 : w5.cell? ⟨gb, 1, none⟩ = some (.int .i64 0) := (blk_cell BK.out 1).trans rfl; have hcz2 : w5.cell? ⟨gb, 2, none⟩ = some (.bool false) := (blk_cell BK.out 2).trans rfl; have hfz0 := blk_frozen BK.out 0; have hfz1 := blk_frozen BK.out 1; have hfz2 := blk_frozen BK.out 2) | (go_at_call 31; (refine (PInputsEnd.input_Right.calls x.1 x.2.1 x.2.2 true _ ((right_eq x).trans (by rw [hR]))).mono ?_); rintro e w6 ⟨rfl, hb6⟩; have bk5 := blk_put (cs' := #[.int .i64 x.1, .int .i64 x.2.1, .bool x.2.2]) (blk_put (cs' := #[.int .i64 x.1, .int .i64 x.2.1, .bool false]) (blk_put (cs' := #[.int .i64 x.1, .int .i64 0, .bool false]) BK.out 0 (.int .i64 x.1) rfl) 1 (.int .i64 x.2.1) rfl) 2 (.bool x.2.2) rfl; have BK6 := Aside0.mk (blk_below bk5 hb6); have HA6 := Aside0.mk ((HA.out.step (below_set (below_set (below_set HB5.out HGE.out) HGE.out) HGE.out) hbs hl).step hb6 hbs hl); clear hb6 hcz0 hcz1 hcz2 hfz0 hfz1 hfz2 c51 c52 c53 bk5; obtain ⟨A6, cp6, c1, c2, c3, hc6, hC6, hf6⟩ := HA6.out.pl h1; have q0 : w6.cell? ⟨gb, 0, none⟩ = some (.int .i64 x.1) := (blk_cell BK6.out 0).trans rfl; have q1 : w6.cell? ⟨gb, 1, none⟩ = some (.int .i64 x.2.1) := (blk_cell BK6.out 1).trans rfl; have q2 : w6.cell? ⟨gb, 2, none⟩ = some (.bool x.2.2) := (blk_cell BK6.out 2).trans rfl))
              go_ret
              exact HA6.out.done (HA6.out.stop hil HXX.out (.inr (.inr (.inl (HQ.out ▸ h3))))) h1 (by omega)
            have d3 : decide (q < (i : Int)) = false := decide_eq_false h3
            by_cases h4 : (i : Int) < q
            case pos =>
              have d4 : decide ((i : Int) < q) = true := decide_eq_true h4
              go_wp2_with (first | ((with_reducible refine gate_dst (N := 12) rfl ?_); refine box_event ?hg (N := 12) ?hd (cs := #[.int .i64 0, .int .i64 0, .bool false]) (t := 24) ?hr ?_; (case hd => rfl); (case hg => rfl); (case hr => first | (go_simp; done) | (go_simp; rfl)); intro gb hgb w5 hbox hb5; have HGE := Aside0.mk (Nat.le_of_eq hgb.symm); have hn1 : gb ≠ ga := Nat.ne_of_gt (Nat.lt_of_lt_of_le (Nat.lt_of_lt_of_le hl.2 HA.out.size) HGE.out); clear hgb; have hn2 : ga ≠ gb := hn1.symm; have BK := Aside0.mk hbox; clear hbox; have HA5 := Aside0.mk (HA.out.step hb5 hbs hl); have HB5 := Aside0.mk hb5; clear hb5; obtain ⟨A5, cp5, c51, c52, c53, hc5, _, _⟩ := HA5.out.pl h1; have hcz0 : w5.cell? ⟨gb, 0, none⟩ = some (.int .i64 0) := (blk_cell BK.out 0).trans rfl; have hcz1 : w5.cell? ⟨gb, 1, none⟩ = some (.int .i64 0) := (blk_cell BK.out 1).trans rfl; have hcz2 : w5.cell? ⟨gb, 2, none⟩ = some (.bool false) := (blk_cell BK.out 2).trans rfl; have hfz0 := blk_frozen BK.out 0; have hfz1 := blk_frozen BK.out 1; have hfz2 := blk_frozen BK.out 2) | (go_at_call 31; (refine (PInputsEnd.input_Right.calls x.1 x.2.1 x.2.2 true _ ((right_eq x).trans (by rw [hR]))).mono ?_); rintro e w6 ⟨rfl, hb6⟩; have bk5 := blk_put (cs' := #[.int .i64 x.1, .int .i64 x.2.1, .bool x.2.2]) (blk_put (cs' := #[.int .i64 x.1, .int .i64 x.2.1, .bool false]) (blk_put (cs' := #[.int .i64 x.1, .int .i64 0, .bool false]) BK.out 0 (.int .i64 x.1) rfl) 1 (.int .i64 x.2.1) rfl) 2 (.bool x.2.2) rfl; have BK6 := Aside0.mk (blk_below bk5 hb6); have HA6 := Aside0.mk ((HA.out.step (below_set (below_set (below_set HB5.out HGE.out) HGE.out) HGE.out) hbs hl).step hb6 hbs hl); clear hb6 hcz0 hcz1 hcz2 hfz0 hfz1 hfz2 c51 c52 c53 bk5; obtain ⟨A6, cp6, c1, c2, c3, hc6, hC6, hf6⟩ := HA6.out.pl h1; have q0 : w6.cell? ⟨gb, 0, none⟩ = some (.int .i64 x.1) := (blk_cell BK6.out 0).trans rfl; have q1 : w6.cell? ⟨gb, 1, none⟩ = some (.int .i64 x.2.1) := (blk_cell BK6.out 1).trans rfl; have q2 : w6.cell? ⟨gb, 2, none⟩ = some (.bool x.2.2) := (blk_cell BK6.out 2).trans rfl))
              go_roundg k1
              case measure => have := HK.out; omega
              case rel => exact ⟨i + 1, n, c, rfl, rfl, ⟨by have := HK.out; omega⟩, ⟨by omega⟩, ⟨HA6.out.next hil HXX.out hR (by omega) (HQ.out ▸ h4)⟩⟩
            have d4 : decide ((i : Int) < q) = false := decide_eq_false h4
            have HI4 := Aside0.mk (show (i : Int) = (c.l.length : Int) - fr by rw [← HQ.out]; omega)
            by_cases h5 : c.d = true ∧ c.e ≤ (c.l.length : Int)
            case pos =>
              have d6 : decide (c.e ≤ (c.l.length : Int)) = true := decide_eq_true h5.2
              go_wp2_with (first | ((with_reducible refine gate_dst (N := 12) rfl ?_); refine box_event ?hg (N := 12) ?hd (cs := #[.int .i64 0, .int .i64 0, .bool false]) (t := 24) ?hr ?_; (case hd => rfl); (case hg => rfl); (case hr => first | (go_simp; done) | (go_simp; rfl)); intro gb hgb w5 hbox hb5; have HGE := Aside0.mk (Nat.le_of_eq hgb.symm); have hn1 : gb ≠ ga := Nat.ne_of_gt (Nat.lt_of_lt_of_le (Nat.lt_of_lt_of_le hl.2 HA.out.size) HGE.out); clear hgb; have hn2 : ga ≠ gb := hn1.symm; have BK := Aside0.mk hbox; clear hbox; have HA5 := Aside0.mk (HA.out.step hb5 hbs hl); have HB5 := Aside0.mk hb5; clear hb5; obtain ⟨A5, cp5, c51, c52, c53, hc5, _, _⟩ := HA5.out.pl h1; have hcz0 : w5.cell? ⟨gb, 0, none⟩ = some (.int .i64 0) := (blk_cell BK.out 0).trans rfl; have hcz1 : w5.cell? ⟨gb, 1, none⟩ = some (.int .i64 0) := (blk_cell BK.out 1).trans rfl; have hcz2 : w5.cell? ⟨gb, 2, none⟩ = some (.bool false) := (blk_cell BK.out 2).trans rfl; have hfz0 := blk_frozen BK.out 0; have hfz1 := blk_frozen BK.out 1; have hfz2 := blk_frozen BK.out 2) | (go_at_call 31; (refine (PInputsEnd.input_Right.calls x.1 x.2.1 x.2.2 true _ ((right_eq x).trans (by rw [hR]))).mono ?_); rintro e w6 ⟨rfl, hb6⟩; have bk5 := blk_put (cs' := #[.int .i64 x.1, .int .i64 x.2.1, .bool x.2.2]) (blk_put (cs' := #[.int .i64 x.1, .int .i64 x.2.1, .bool false]) (blk_put (cs' := #[.int .i64 x.1, .int .i64 0, .bool false]) BK.out 0 (.int .i64 x.1) rfl) 1 (.int .i64 x.2.1) rfl) 2 (.bool x.2.2) rfl; have BK6 := Aside0.mk (blk_below bk5 hb6); have HA6 := Aside0.mk ((HA.out.step (below_set (below_set (below_set HB5.out HGE.out) HGE.out) HGE.out) hbs hl).step hb6 hbs hl); clear hb6 hcz0 hcz1 hcz2 hfz0 hfz1 hfz2 c51 c52 c53 bk5; obtain ⟨A6, cp6, c1, c2, c3, hc6, hC6, hf6⟩ := HA6.out.pl h1; have q0 : w6.cell? ⟨gb, 0, none⟩ = some (.int .i64 x.1) := (blk_cell BK6.out 0).trans rfl; have q1 : w6.cell? ⟨gb, 1, none⟩ = some (.int .i64 x.2.1) := (blk_cell BK6.out 1).trans rfl; have q2 : w6.cell? ⟨gb, 2, none⟩ = some (.bool x.2.2) := (blk_cell BK6.out 2).trans rfl; rw [h5.1] at c3))
              go_ret
              exact HA6.out.done (HA6.out.stop hil HXX.out (.inr (.inr (.inr ⟨HI4.out, .inl h5⟩)))) h1 (by omega)
            by_cases h7 : 10000 ≤ (c.l.length : Int)
            case pos =>
              have d7 : decide (10000 ≤ (c.l.length : Int)) = true := decide_eq_true h7
              by_cases h8 : c.d = true
              · have d6 : decide (c.e ≤ (c.l.length : Int)) = false := decide_eq_false (fun x => h5 ⟨h8, x⟩)
                go_wp2_with (first | ((with_reducible refine gate_dst (N := 12) rfl ?_); refine box_event ?hg (N := 12) ?hd (cs := #[.int .i64 0, .int .i64 0, .bool false]) (t := 24) ?hr ?_; (case hd => rfl); (case hg => rfl); (case hr => first | (go_simp; done) | (go_simp; rfl)); intro gb hgb w5 hbox hb5; have HGE := Aside0.mk (Nat.le_of_eq hgb.symm); have hn1 : gb ≠ ga := Nat.ne_of_gt (Nat.lt_of_lt_of_le (Nat.lt_of_lt_of_le hl.2 HA.out.size) HGE.out); clear hgb; have hn2 : ga ≠ gb := hn1.symm; have BK := Aside0.mk hbox; clear hbox; have HA5 := Aside0.mk (HA.out.step hb5 hbs hl); have HB5 := Aside0.mk hb5; clear hb5; obtain ⟨A5, cp5, c51, c52, c53, hc5, _, _⟩ := HA5.out.pl h1; have hcz0 : w5.cell? ⟨gb, 0, none⟩ = some (.int .i64 0) := (blk_cell BK.out 0).trans rfl; have hcz1 : w5.cell? ⟨gb, 1, none⟩ = some (.int .i64 0) := (blk_cell BK.out 1).trans rfl; have hcz2 : w5.cell? ⟨gb, 2, none⟩ = some (.bool false) := (blk_cell BK.out 2).trans rfl; have hfz0 := blk_frozen BK.out 0; have hfz1 := blk_frozen BK.out 1; have hfz2 := blk_frozen BK.out 2) | (go_at_call 31; (refine (PInputsEnd.input_Right.calls x.1 x.2.1 x.2.2 true _ ((right_eq x).trans (by rw [hR]))).mono ?_); rintro e w6 ⟨rfl, hb6⟩; have bk5 := blk_put (cs' := #[.int .i64 x.1, .int .i64 x.2.1, .bool x.2.2]) (blk_put (cs' := #[.int .i64 x.1, .int .i64 x.2.1, .bool false]) (blk_put (cs' := #[.int .i64 x.1, .int .i64 0, .bool false]) BK.out 0 (.int .i64 x.1) rfl) 1 (.int .i64 x.2.1) rfl) 2 (.bool x.2.2) rfl; have BK6 := Aside0.mk (blk_below bk5 hb6); have HA6 := Aside0.mk ((HA.out.step (below_set (below_set (below_set HB5.out HGE.out) HGE.out) HGE.out) hbs hl).step hb6 hbs hl); clear hb6 hcz0 hcz1 hcz2 hfz0 hfz1 hfz2 c51 c52 c53 bk5; obtain ⟨A6, cp6, c1, c2, c3, hc6, hC6, hf6⟩ := HA6.out.pl h1; have q0 : w6.cell? ⟨gb, 0, none⟩ = some (.int .i64 x.1) := (blk_cell BK6.out 0).trans rfl; have q1 : w6.cell? ⟨gb, 1, none⟩ = some (.int .i64 x.2.1) := (blk_cell BK6.out 1).trans rfl; have q2 : w6.cell? ⟨gb, 2, none⟩ = some (.bool x.2.2) := (blk_cell BK6.out 2).trans rfl; rw [h8] at c3))
                go_ret
                exact HA6.out.done (HA6.out.stop hil HXX.out (.inr (.inr (.inr ⟨HI4.out, .inr h7⟩)))) h1 (by omega)
              · have h9 : c.d = false := by simpa using h8
                go_wp2_with (first | ((with_reducible refine gate_dst (N := 12) rfl ?_); refine box_event ?hg (N := 12) ?hd (cs := #[.int .i64 0, .int .i64 0, .bool false]) (t := 24) ?hr ?_; (case hd => rfl); (case hg => rfl); (case hr => first | (go_simp; done) | (go_simp; rfl)); intro gb hgb w5 hbox hb5; have HGE := Aside0.mk (Nat.le_of_eq hgb.symm); have hn1 : gb ≠ ga := Nat.ne_of_gt (Nat.lt_of_lt_of_le (Nat.lt_of_lt_of_le hl.2 HA.out.size) HGE.out); clear hgb; have hn2 : ga ≠ gb := hn1.symm; have BK := Aside0.mk hbox; clear hbox; have HA5 := Aside0.mk (HA.out.step hb5 hbs hl); have HB5 := Aside0.mk hb5; clear hb5; obtain ⟨A5, cp5, c51, c52, c53, hc5, _, _⟩ := HA5.out.pl h1; have hcz0 : w5.cell? ⟨gb, 0, none⟩ = some (.int .i64 0) := (blk_cell BK.out 0).trans rfl; have hcz1 : w5.cell? ⟨gb, 1, none⟩ = some (.int .i64 0) := (blk_cell BK.out 1).trans rfl; have hcz2 : w5.cell? ⟨gb, 2, none⟩ = some (.bool false) := (blk_cell BK.out 2).trans rfl; have hfz0 := blk_frozen BK.out 0; have hfz1 := blk_frozen BK.out 1; have hfz2 := blk_frozen BK.out 2) | (go_at_call 31; (refine (PInputsEnd.input_Right.calls x.1 x.2.1 x.2.2 true _ ((right_eq x).trans (by rw [hR]))).mono ?_); rintro e w6 ⟨rfl, hb6⟩; have bk5 := blk_put (cs' := #[.int .i64 x.1, .int .i64 x.2.1, .bool x.2.2]) (blk_put (cs' := #[.int .i64 x.1, .int .i64 x.2.1, .bool false]) (blk_put (cs' := #[.int .i64 x.1, .int .i64 0, .bool false]) BK.out 0 (.int .i64 x.1) rfl) 1 (.int .i64 x.2.1) rfl) 2 (.bool x.2.2) rfl; have BK6 := Aside0.mk (blk_below bk5 hb6); have HA6 := Aside0.mk ((HA.out.step (below_set (below_set (below_set HB5.out HGE.out) HGE.out) HGE.out) hbs hl).step hb6 hbs hl); clear hb6 hcz0 hcz1 hcz2 hfz0 hfz1 hfz2 c51 c52 c53 bk5; obtain ⟨A6, cp6, c1, c2, c3, hc6, hC6, hf6⟩ := HA6.out.pl h1; have q0 : w6.cell? ⟨gb, 0, none⟩ = some (.int .i64 x.1) := (blk_cell BK6.out 0).trans rfl; have q1 : w6.cell? ⟨gb, 1, none⟩ = some (.int .i64 x.2.1) := (blk_cell BK6.out 1).trans rfl; have q2 : w6.cell? ⟨gb, 2, none⟩ = some (.bool x.2.2) := (blk_cell BK6.out 2).trans rfl; rw [h9] at c3))
                go_ret
                exact HA6.out.done (HA6.out.stop hil HXX.out (.inr (.inr (.inr ⟨HI4.out, .inr h7⟩)))) h1 (by omega)
            have d7 : decide (10000 ≤ (c.l.length : Int)) = false := decide_eq_false h7
            have HN := Aside0.mk (show ¬ ((c.d = true ∧ c.e ≤ (c.l.length : Int)) ∨ 10000 ≤ (c.l.length : Int)) from fun e => e.elim h5 h7)
            by_cases h8 : c.d = true
            · have d6 : decide (c.e ≤ (c.l.length : Int)) = false := decide_eq_false (fun x => h5 ⟨h8, x⟩)
              go_wp2_with (first | ((with_reducible refine gate_dst (N := 12) rfl ?_); refine box_event ?hg (N := 12) ?hd (cs := #[.int .i64 0, .int .i64 0, .bool false]) (t := 24) ?hr ?_; (case hd => rfl); (case hg => rfl); (case hr => first | (go_simp; done) | (go_simp; rfl)); intro gb hgb w5 hbox hb5; have HGE := Aside0.mk (Nat.le_of_eq hgb.symm); have hn1 : gb ≠ ga := Nat.ne_of_gt (Nat.lt_of_lt_of_le (Nat.lt_of_lt_of_le hl.2 HA.out.size) HGE.out); clear hgb; have hn2 : ga ≠ gb := hn1.symm; have BK := Aside0.mk hbox; clear hbox; have HA5 := Aside0.mk (HA.out.step hb5 hbs hl); have HB5 := Aside0.mk hb5; clear hb5; obtain ⟨A5, cp5, c51, c52, c53, hc5, _, _⟩ := HA5.out.pl h1; have hcz0 : w5.cell? ⟨gb, 0, none⟩ = some (.int .i64 0) := (blk_cell BK.out 0).trans rfl; have hcz1 : w5.cell? ⟨gb, 1, none⟩ = some (.int .i64 0) := (blk_cell BK.out 1).trans rfl; have hcz2 : w5.cell? ⟨gb, 2, none⟩ = some (.bool false) := (blk_cell BK.out 2).trans rfl; have hfz0 := blk_frozen BK.out 0; have hfz1 := blk_frozen BK.out 1; have hfz2 := blk_frozen BK.out 2) | (go_at_call 31; (refine (PInputsEnd.input_Right.calls x.1 x.2.1 x.2.2 true _ ((right_eq x).trans (by rw [hR]))).mono ?_); rintro e w6 ⟨rfl, hb6⟩; have bk5 := blk_put (cs' := #[.int .i64 x.1, .int .i64 x.2.1, .bool x.2.2]) (blk_put (cs' := #[.int .i64 x.1, .int .i64 x.2.1, .bool false]) (blk_put (cs' := #[.int .i64 x.1, .int .i64 0, .bool false]) BK.out 0 (.int .i64 x.1) rfl) 1 (.int .i64 x.2.1) rfl) 2 (.bool x.2.2) rfl; have BK6 := Aside0.mk (blk_below bk5 hb6); have HA6 := Aside0.mk ((HA.out.step (below_set (below_set (below_set HB5.out HGE.out) HGE.out) HGE.out) hbs hl).step hb6 hbs hl); clear hb6 hcz0 hcz1 hcz2 hfz0 hfz1 hfz2 c51 c52 c53 bk5; obtain ⟨A6, cp6, c1, c2, c3, hc6, hC6, hf6⟩ := HA6.out.pl h1; have q0 : w6.cell? ⟨gb, 0, none⟩ = some (.int .i64 x.1) := (blk_cell BK6.out 0).trans rfl; have q1 : w6.cell? ⟨gb, 1, none⟩ = some (.int .i64 x.2.1) := (blk_cell BK6.out 1).trans rfl; have q2 : w6.cell? ⟨gb, 2, none⟩ = some (.bool x.2.2) := (blk_cell BK6.out 2).trans rfl; rw [h8] at c3))
              have HD := Aside0.mk (HA6.out.step (Below.drew (Below.refl _ _)) hbs hl)
              have hAn : A6 = none → c.l.length = 0 := fun e => by
                by_cases hz9 : c.l.length = 0
                · exact hz9
                · obtain ⟨ad9, e2, _⟩ := hC6.2.2 (by omega)
                  rw [e] at e2
                  cases e2
              obtain ⟨i0, hi0, hzz⟩ := Option.map_eq_some_iff.1 info24_
              simp only [Prod.mk.injEq] at hzz
              obtain ⟨hz0, hz1, hz2⟩ := hzz
              refine wp_region_held_drew (S := (fun w' => w'.cell? ⟨gb, 0, none⟩ = some (.int .i64 x.1) ∧ w'.cell? ⟨gb, 1, none⟩ = some (.int .i64 x.2.1) ∧ w'.cell? ⟨gb, 2, none⟩ = some (.bool x.2.2))) (by kernel_rfl) ?p0S (fun hHeld => ?_)
              case p0S => (exact ⟨q0, q1, q2⟩)
              refine Go.Proofs.Ytkgjokidfbpnbaa.Sep.takeW (i := 0) (v := ?p1v) rfl rfl (by kernel_rfl) (by kernel_rfl) (by kernel_rfl) (fun _ _ _ h => h) (by rfl) ?p1y hHeld ?_
              case p1y => (intro w hSw; (try dsimp only at hSw); go_simp <;> (try with_reducible rfl))
              (try simp only [Act.put, List.setIfInBounds_toArray, List.set_cons_zero, List.set_cons_succ])
              refine Go.Proofs.Ytkgjokidfbpnbaa.Sep.takeW (i := 1) (v := ?p2v) rfl rfl (by kernel_rfl) (by kernel_rfl) (by kernel_rfl) (fun _ _ _ h => h) (by rfl) ?p2y hHeld ?_
              case p2y => (intro w hSw; (try dsimp only at hSw); go_simp <;> (try with_reducible rfl))
              (try simp only [Act.put, List.setIfInBounds_toArray, List.set_cons_zero, List.set_cons_succ])
              refine Go.Proofs.Ytkgjokidfbpnbaa.Sep.takeW (i := 2) (v := ?p3v) rfl rfl (by kernel_rfl) (by kernel_rfl) (by kernel_rfl) (fun _ _ _ h => h) (by rfl) ?p3y hHeld ?_
              case p3y => (intro w hSw; (try dsimp only at hSw); go_simp <;> (try with_reducible rfl))
              (try simp only [Act.put, List.setIfInBounds_toArray, List.set_cons_zero, List.set_cons_succ])
              refine Go.Proofs.Ytkgjokidfbpnbaa.Sep.takeW (i := 3) (v := ?p4v) rfl rfl (by kernel_rfl) (by kernel_rfl) (by kernel_rfl) (fun _ _ _ h => h) (by rfl) ?p4y hHeld ?_
              case p4y => (intro w hSw; (try dsimp only at hSw); go_simp <;> (try with_reducible rfl))
              (try simp only [Act.put, List.setIfInBounds_toArray, List.set_cons_zero, List.set_cons_succ])
              refine Go.Proofs.Ytkgjokidfbpnbaa.Sep.takeW (i := 6) (v := ?p5v) rfl rfl (by kernel_rfl) (by kernel_rfl) (by kernel_rfl) (fun _ _ _ h => h) (by rfl) ?p5y hHeld ?_
              case p5y => (intro w hSw; (try dsimp only at hSw); go_simp <;> (try with_reducible rfl))
              (try simp only [Act.put, List.setIfInBounds_toArray, List.set_cons_zero, List.set_cons_succ])
              refine Go.Proofs.Ytkgjokidfbpnbaa.Sep.callC2 (i := 4) (j := 7) rfl rfl (by kernel_rfl) (by rfl) (by rfl) (fun K hK => ?_) (fun K hK => ?_)
              · clear hHeld
                (refine Go.Proofs.Ytkgjokidfbpnbaa.Sep.wp_of_list (ops := #[]) (by rfl) ?_; go_wp2; change K _ _)
                refine hK.out _ _ ?p24k (fun hHeld => ?_)
                case p24k => (exact ⟨q0, q1, q2⟩)
                clear hK K
                (try simp only [Act.put, List.setIfInBounds_toArray, List.set_cons_zero, List.set_cons_succ])
                refine Go.Proofs.Ytkgjokidfbpnbaa.Sep.callC2 (i := 5) (j := 7) rfl rfl (by kernel_rfl) (by rfl) (by rfl) (fun K hK => ?_) (fun K hK => ?_)
                · clear hHeld
                  (go_wp2_with (first | (go_at_call 32; (refine (clip.calls A6 c.l.length cp6 _ hAn hc6 (by omega)).mono ?_); rintro e w7 ⟨rfl, hb7⟩; have HB7 := Aside0.mk hb7; clear hb7)))
                  refine hK.out _ _ ?p6k (fun hHeld => ?_)
                  case p6k => (exact ⟨pw_cell_below (w := w6.drew) HB7.out q0, pw_cell_below (w := w6.drew) HB7.out q1, pw_cell_below (w := w6.drew) HB7.out q2⟩)
                  clear hK K
                  (try simp only [Act.put, List.setIfInBounds_toArray, List.set_cons_zero, List.set_cons_succ])
                  refine Go.Proofs.Ytkgjokidfbpnbaa.Sep.callC (i := 7) rfl (by kernel_rfl) (by rfl) (fun K hK => ?_)
                  clear hHeld
                  (refine Go.Proofs.Ytkgjokidfbpnbaa.Sep.wp_of_list (ops := #[]) (by rfl) ?_; go_wp2; change K _ _)
                  refine hK.out _ _ ?p8k (fun hHeld => ?_)
                  case p8k => (exact ⟨pw_cell_below (below_alloc (Below.refl _ _) _) (pw_cell_below (w := w6.drew) HB7.out q0), pw_cell_below (below_alloc (Below.refl _ _) _) (pw_cell_below (w := w6.drew) HB7.out q1), pw_cell_below (below_alloc (Below.refl _ _) _) (pw_cell_below (w := w6.drew) HB7.out q2)⟩)
                  clear hK K
                  (try simp only [Act.put, List.setIfInBounds_toArray, List.set_cons_zero, List.set_cons_succ])
                  have HBX := Aside0.mk (below_alloc HB7.out (.cells #[.int .i64 x.1, .int .i64 x.2.1, .bool x.2.2] 24))
                  have HBL := Aside0.mk (heap_alloc_new w7 (.cells #[.int .i64 x.1, .int .i64 x.2.1, .bool x.2.2] 24))
                  have HCX := Aside0.mk (Kd.C_below (w := w6.drew) hC6 HBX.out)
                  have HX := Aside0.mk (HD.out.step HBX.out hbs hl)
                  have q0x : (w7.alloc (.cells #[.int .i64 x.1, .int .i64 x.2.1, .bool x.2.2] 24)).cell? ⟨gb, 0, none⟩ = some (.int .i64 x.1) := pw_cell_below (w := w6.drew) HBX.out q0
                  have q1x : (w7.alloc (.cells #[.int .i64 x.1, .int .i64 x.2.1, .bool x.2.2] 24)).cell? ⟨gb, 1, none⟩ = some (.int .i64 x.2.1) := pw_cell_below (w := w6.drew) HBX.out q1
                  have q2x : (w7.alloc (.cells #[.int .i64 x.1, .int .i64 x.2.1, .bool x.2.2] 24)).cell? ⟨gb, 2, none⟩ = some (.bool x.2.2) := pw_cell_below (w := w6.drew) HBX.out q2
                  refine Go.Proofs.Ytkgjokidfbpnbaa.Sep.callC (i := 8) rfl (by kernel_rfl) (by rfl) (fun K hK => ?_)
                  clear hHeld
                  (refine Go.Proofs.Ytkgjokidfbpnbaa.Sep.wp_of_list (ops := #[]) (by rfl) ?_; refine wpList_append_grows _ rfl (.tmp 76) (.tmp 78) 22 rfl 24 i0 _ 3 24 Try.underlying22 hi0 hz0 hz1 hz2 rfl (by decide) A6 c.l.length c.l.length (c.l.flatMap encI) (by rfl) (fun e => ⟨hAn e, hAn e⟩) (flat_len _) (C_flat HCX.out) ⟨w7.heap.size, 0, none⟩ 1 1 (encI x) (by rfl) rfl (news_at HBL.out) (news_one x) (by omega) (by unfold maxLen; omega) (by omega) (fun v8 w8 hown hgrow => ?_); obtain ⟨A9, c9, e9, _, _⟩ := RowS.snoc hown rfl; rw [List.length_append, List.length_singleton] at e9; subst e9; have HOWN := Aside0.mk hown; have HG8 := Aside0.mk (pw_below_grown (Below.refl (w7.alloc (.cells #[.int .i64 x.1, .int .i64 x.2.1, .bool x.2.2] 24)).heap.size (w7.alloc (.cells #[.int .i64 x.1, .int .i64 x.2.1, .bool x.2.2] 24))) none (Nat.le_refl _) hgrow (fun _ h => by cases h)); clear hown hgrow; change K _ _)
                  refine hK.out _ _ ?p10k (fun hHeld => ?_)
                  case p10k => (exact ⟨pw_cell_below HG8.out q0x, pw_cell_below HG8.out q1x, pw_cell_below HG8.out q2x⟩)
                  clear hK K
                  (try simp only [Act.put, List.setIfInBounds_toArray, List.set_cons_zero, List.set_cons_succ])
                  have HX8 := Aside0.mk (HX.out.step HG8.out hbs hl)
                  obtain ⟨A8, cp8, c18, _, _, _, _, hf8⟩ := HX8.out.pl h1
                  have hf80 := hf8 ((p.toNat - 1) * 3)
                  have q0y := pw_cell_below HG8.out q0x
                  have q1y := pw_cell_below HG8.out q1x
                  have q2y := pw_cell_below HG8.out q2x
                  refine Go.Proofs.Ytkgjokidfbpnbaa.Sep.takeW (i := 9) (v := ?p11v) rfl rfl (by kernel_rfl) (by kernel_rfl) (by kernel_rfl) (fun _ _ _ h => h) (by rfl) ?p11y hHeld ?_
                  case p11y => (intro w hSw; (try dsimp only at hSw); go_simp <;> (try with_reducible rfl))
                  (try simp only [Act.put, List.setIfInBounds_toArray, List.set_cons_zero, List.set_cons_succ])
                  refine Go.Proofs.Ytkgjokidfbpnbaa.Sep.takeW (i := 10) (v := ?p12v) rfl rfl (by kernel_rfl) (by kernel_rfl) (by kernel_rfl) (fun _ _ _ h => h) (by rfl) ?p12y hHeld ?_
                  case p12y => (intro w hSw; (try dsimp only at hSw); go_simp <;> (try with_reducible rfl))
                  (try simp only [Act.put, List.setIfInBounds_toArray, List.set_cons_zero, List.set_cons_succ])
                  refine Go.Proofs.Ytkgjokidfbpnbaa.Sep.callC (i := 11) rfl (by kernel_rfl) (by rfl) (fun K hK => ?_)
                  clear hHeld
                  (refine Go.Proofs.Ytkgjokidfbpnbaa.Sep.wp_of_list (ops := #[]) (by rfl) ?_; go_wp2; change K _ _)
                  refine hK.out _ _ ?p14k (fun hHeld => ?_)
                  case p14k => (exact ⟨(cell_far (a := ⟨gb, 0, none⟩) hn1 _).trans q0y, (cell_far (a := ⟨gb, 1, none⟩) hn1 _).trans q1y, (cell_far (a := ⟨gb, 2, none⟩) hn1 _).trans q2y⟩)
                  clear hK K
                  (try simp only [Act.put, List.setIfInBounds_toArray, List.set_cons_zero, List.set_cons_succ])
                  refine wpAnyH_done (by kernel_rfl) ?_ _
                  have hn9 := HA.out.n
                  go_wp2
                  go_roundg k1
                  case measure => have := HK.out; omega
                  case rel => exact ⟨i + 1, n + 1, ⟨c.l ++ [x], c.e, c.d⟩, rfl, rfl, ⟨by have := HK.out; omega⟩, ⟨by omega⟩, ⟨HX8.out.put hga hl h1 hil HXX.out hR (by omega) HI4.out HN.out HX.out.size HOWN.out rfl⟩⟩
                · clear hHeld
                  (refine Go.Proofs.Ytkgjokidfbpnbaa.Sep.wp_of_list (ops := #[]) (by rfl) ?_; go_wp2; change K _ _)
                  refine hK.out _ _ ?p15k (fun hHeld => ?_)
                  case p15k => (exact ⟨pw_cell_below (w := w6) (Below.drew (below_alloc (Below.refl w6.heap.size w6) _)) q0, pw_cell_below (w := w6) (Below.drew (below_alloc (Below.refl w6.heap.size w6) _)) q1, pw_cell_below (w := w6) (Below.drew (below_alloc (Below.refl w6.heap.size w6) _)) q2⟩)
                  clear hK K
                  (try simp only [Act.put, List.setIfInBounds_toArray, List.set_cons_zero, List.set_cons_succ])
                  have ba := Below.drew (below_alloc (Below.refl w6.heap.size w6) (.cells #[.int .i64 x.1, .int .i64 x.2.1, .bool x.2.2] 24))
                  have bl : ((w6.alloc (.cells #[.int .i64 x.1, .int .i64 x.2.1, .bool x.2.2] 24)).drew).heap[w6.heap.size]? = _ := heap_alloc_new w6 (.cells #[.int .i64 x.1, .int .i64 x.2.1, .bool x.2.2] 24)
                  generalize ((w6.alloc (.cells #[.int .i64 x.1, .int .i64 x.2.1, .bool x.2.2] 24)).drew) = wl at hHeld ba bl ⊢
                  have BA := Aside0.mk ba
                  have BL := Aside0.mk bl
                  clear ba bl
                  refine Go.Proofs.Ytkgjokidfbpnbaa.Sep.callC (i := 5) rfl (by kernel_rfl) (by rfl) (fun K hK => ?_)
                  clear hHeld
                  (go_wp2_with (first | (go_at_call 32; (refine (clip.calls A6 c.l.length cp6 _ hAn hc6 (by omega)).mono ?_); rintro e w7 ⟨rfl, hb7⟩; have HB7 := Aside0.mk hb7; clear hb7)))
                  refine hK.out _ _ ?p17k (fun hHeld => ?_)
                  case p17k => (exact ⟨pw_cell_below HB7.out (pw_cell_below (w := w6) BA.out q0), pw_cell_below HB7.out (pw_cell_below (w := w6) BA.out q1), pw_cell_below HB7.out (pw_cell_below (w := w6) BA.out q2)⟩)
                  clear hK K
                  (try simp only [Act.put, List.setIfInBounds_toArray, List.set_cons_zero, List.set_cons_succ])
                  have HBX := Aside0.mk (below_step BA.out HB7.out)
                  have HBL := Aside0.mk (blk_below BL.out HB7.out)
                  have HCX := Aside0.mk (Kd.C_below (w := w6) hC6 HBX.out)
                  have HX := Aside0.mk (HA6.out.step HBX.out hbs hl)
                  have q0x : (w7).cell? ⟨gb, 0, none⟩ = some (.int .i64 x.1) := pw_cell_below (w := w6) HBX.out q0
                  have q1x : (w7).cell? ⟨gb, 1, none⟩ = some (.int .i64 x.2.1) := pw_cell_below (w := w6) HBX.out q1
                  have q2x : (w7).cell? ⟨gb, 2, none⟩ = some (.bool x.2.2) := pw_cell_below (w := w6) HBX.out q2
                  refine Go.Proofs.Ytkgjokidfbpnbaa.Sep.callC (i := 8) rfl (by kernel_rfl) (by rfl) (fun K hK => ?_)
                  clear hHeld
                  (refine Go.Proofs.Ytkgjokidfbpnbaa.Sep.wp_of_list (ops := #[]) (by rfl) ?_; refine wpList_append_grows _ rfl (.tmp 76) (.tmp 78) 22 rfl 24 i0 _ 3 24 Try.underlying22 hi0 hz0 hz1 hz2 rfl (by decide) A6 c.l.length c.l.length (c.l.flatMap encI) (by rfl) (fun e => ⟨hAn e, hAn e⟩) (flat_len _) (C_flat HCX.out) ⟨w6.heap.size, 0, none⟩ 1 1 (encI x) (by rfl) rfl (news_at HBL.out) (news_one x) (by omega) (by unfold maxLen; omega) (by omega) (fun v8 w8 hown hgrow => ?_); obtain ⟨A9, c9, e9, _, _⟩ := RowS.snoc hown rfl; rw [List.length_append, List.length_singleton] at e9; subst e9; have HOWN := Aside0.mk hown; have HG8 := Aside0.mk (pw_below_grown (Below.refl (w7).heap.size (w7)) none (Nat.le_refl _) hgrow (fun _ h => by cases h)); clear hown hgrow; change K _ _)
                  refine hK.out _ _ ?p19k (fun hHeld => ?_)
                  case p19k => (exact ⟨pw_cell_below HG8.out q0x, pw_cell_below HG8.out q1x, pw_cell_below HG8.out q2x⟩)
                  clear hK K
                  (try simp only [Act.put, List.setIfInBounds_toArray, List.set_cons_zero, List.set_cons_succ])
                  have HX8 := Aside0.mk (HX.out.step HG8.out hbs hl)
                  obtain ⟨A8, cp8, c18, _, _, _, _, hf8⟩ := HX8.out.pl h1
                  have hf80 := hf8 ((p.toNat - 1) * 3)
                  have q0y := pw_cell_below HG8.out q0x
                  have q1y := pw_cell_below HG8.out q1x
                  have q2y := pw_cell_below HG8.out q2x
                  refine Go.Proofs.Ytkgjokidfbpnbaa.Sep.takeW (i := 9) (v := ?p20v) rfl rfl (by kernel_rfl) (by kernel_rfl) (by kernel_rfl) (fun _ _ _ h => h) (by rfl) ?p20y hHeld ?_
                  case p20y => (intro w hSw; (try dsimp only at hSw); go_simp <;> (try with_reducible rfl))
                  (try simp only [Act.put, List.setIfInBounds_toArray, List.set_cons_zero, List.set_cons_succ])
                  refine Go.Proofs.Ytkgjokidfbpnbaa.Sep.takeW (i := 10) (v := ?p21v) rfl rfl (by kernel_rfl) (by kernel_rfl) (by kernel_rfl) (fun _ _ _ h => h) (by rfl) ?p21y hHeld ?_
                  case p21y => (intro w hSw; (try dsimp only at hSw); go_simp <;> (try with_reducible rfl))
                  (try simp only [Act.put, List.setIfInBounds_toArray, List.set_cons_zero, List.set_cons_succ])
                  refine Go.Proofs.Ytkgjokidfbpnbaa.Sep.callC (i := 11) rfl (by kernel_rfl) (by rfl) (fun K hK => ?_)
                  clear hHeld
                  (refine Go.Proofs.Ytkgjokidfbpnbaa.Sep.wp_of_list (ops := #[]) (by rfl) ?_; go_wp2; change K _ _)
                  refine hK.out _ _ ?p23k (fun hHeld => ?_)
                  case p23k => (exact ⟨(cell_far (a := ⟨gb, 0, none⟩) hn1 _).trans q0y, (cell_far (a := ⟨gb, 1, none⟩) hn1 _).trans q1y, (cell_far (a := ⟨gb, 2, none⟩) hn1 _).trans q2y⟩)
                  clear hK K
                  (try simp only [Act.put, List.setIfInBounds_toArray, List.set_cons_zero, List.set_cons_succ])
                  refine wpAnyH_done (by kernel_rfl) ?_ _
                  have hn9 := HA.out.n
                  go_wp2
                  go_roundg k1
                  case measure => have := HK.out; omega
                  case rel => exact ⟨i + 1, n + 1, ⟨c.l ++ [x], c.e, c.d⟩, rfl, rfl, ⟨by have := HK.out; omega⟩, ⟨by omega⟩, ⟨HX8.out.put hga hl h1 hil HXX.out hR (by omega) HI4.out HN.out HX.out.size HOWN.out rfl⟩⟩
              · clear hHeld
                (refine Go.Proofs.Ytkgjokidfbpnbaa.Sep.wp_of_list (ops := #[]) (by rfl) ?_; go_wp2; change K _ _)
                refine hK.out _ _ ?p25k (fun hHeld => ?_)
                case p25k => (exact ⟨pw_cell_below (w := w6) (Below.drew (below_alloc (Below.refl w6.heap.size w6) _)) q0, pw_cell_below (w := w6) (Below.drew (below_alloc (Below.refl w6.heap.size w6) _)) q1, pw_cell_below (w := w6) (Below.drew (below_alloc (Below.refl w6.heap.size w6) _)) q2⟩)
                clear hK K
                (try simp only [Act.put, List.setIfInBounds_toArray, List.set_cons_zero, List.set_cons_succ])
                have ba := Below.drew (below_alloc (Below.refl w6.heap.size w6) (.cells #[.int .i64 x.1, .int .i64 x.2.1, .bool x.2.2] 24))
                have bl : ((w6.alloc (.cells #[.int .i64 x.1, .int .i64 x.2.1, .bool x.2.2] 24)).drew).heap[w6.heap.size]? = _ := heap_alloc_new w6 (.cells #[.int .i64 x.1, .int .i64 x.2.1, .bool x.2.2] 24)
                generalize ((w6.alloc (.cells #[.int .i64 x.1, .int .i64 x.2.1, .bool x.2.2] 24)).drew) = wl at hHeld ba bl ⊢
                have BA := Aside0.mk ba
                have BL := Aside0.mk bl
                clear ba bl
                have c1a : wl.cell? ⟨ga, (p.toNat - 1) * 3, none⟩ = some (.slice A6 c.l.length cp6) := pw_cell_below (w := w6) BA.out c1
                refine Go.Proofs.Ytkgjokidfbpnbaa.Sep.callC (i := 4) rfl (by kernel_rfl) (by rfl) (fun K hK => ?_)
                clear hHeld
                (refine Go.Proofs.Ytkgjokidfbpnbaa.Sep.wp_of_list (ops := #[]) (by rfl) ?_; go_wp2; change K _ _)
                refine hK.out _ _ ?p27k (fun hHeld => ?_)
                case p27k => (exact ⟨pw_cell_below (w := w6) BA.out q0, pw_cell_below (w := w6) BA.out q1, pw_cell_below (w := w6) BA.out q2⟩)
                clear hK K
                (try simp only [Act.put, List.setIfInBounds_toArray, List.set_cons_zero, List.set_cons_succ])
                refine Go.Proofs.Ytkgjokidfbpnbaa.Sep.callC (i := 5) rfl (by kernel_rfl) (by rfl) (fun K hK => ?_)
                clear hHeld
                (go_wp2_with (first | (go_at_call 32; (refine (clip.calls A6 c.l.length cp6 _ hAn hc6 (by omega)).mono ?_); rintro e w7 ⟨rfl, hb7⟩; have HB7 := Aside0.mk hb7; clear hb7)))
                refine hK.out _ _ ?p29k (fun hHeld => ?_)
                case p29k => (exact ⟨pw_cell_below HB7.out (pw_cell_below (w := w6) BA.out q0), pw_cell_below HB7.out (pw_cell_below (w := w6) BA.out q1), pw_cell_below HB7.out (pw_cell_below (w := w6) BA.out q2)⟩)
                clear hK K
                (try simp only [Act.put, List.setIfInBounds_toArray, List.set_cons_zero, List.set_cons_succ])
                have HBX := Aside0.mk (below_step BA.out HB7.out)
                have HBL := Aside0.mk (blk_below BL.out HB7.out)
                have HCX := Aside0.mk (Kd.C_below (w := w6) hC6 HBX.out)
                have HX := Aside0.mk (HA6.out.step HBX.out hbs hl)
                have q0x : (w7).cell? ⟨gb, 0, none⟩ = some (.int .i64 x.1) := pw_cell_below (w := w6) HBX.out q0
                have q1x : (w7).cell? ⟨gb, 1, none⟩ = some (.int .i64 x.2.1) := pw_cell_below (w := w6) HBX.out q1
                have q2x : (w7).cell? ⟨gb, 2, none⟩ = some (.bool x.2.2) := pw_cell_below (w := w6) HBX.out q2
                refine Go.Proofs.Ytkgjokidfbpnbaa.Sep.callC (i := 8) rfl (by kernel_rfl) (by rfl) (fun K hK => ?_)
                clear hHeld
                (refine Go.Proofs.Ytkgjokidfbpnbaa.Sep.wp_of_list (ops := #[]) (by rfl) ?_; refine wpList_append_grows _ rfl (.tmp 76) (.tmp 78) 22 rfl 24 i0 _ 3 24 Try.underlying22 hi0 hz0 hz1 hz2 rfl (by decide) A6 c.l.length c.l.length (c.l.flatMap encI) (by rfl) (fun e => ⟨hAn e, hAn e⟩) (flat_len _) (C_flat HCX.out) ⟨w6.heap.size, 0, none⟩ 1 1 (encI x) (by rfl) rfl (news_at HBL.out) (news_one x) (by omega) (by unfold maxLen; omega) (by omega) (fun v8 w8 hown hgrow => ?_); obtain ⟨A9, c9, e9, _, _⟩ := RowS.snoc hown rfl; rw [List.length_append, List.length_singleton] at e9; subst e9; have HOWN := Aside0.mk hown; have HG8 := Aside0.mk (pw_below_grown (Below.refl (w7).heap.size (w7)) none (Nat.le_refl _) hgrow (fun _ h => by cases h)); clear hown hgrow; change K _ _)
                refine hK.out _ _ ?p31k (fun hHeld => ?_)
                case p31k => (exact ⟨pw_cell_below HG8.out q0x, pw_cell_below HG8.out q1x, pw_cell_below HG8.out q2x⟩)
                clear hK K
                (try simp only [Act.put, List.setIfInBounds_toArray, List.set_cons_zero, List.set_cons_succ])
                have HX8 := Aside0.mk (HX.out.step HG8.out hbs hl)
                obtain ⟨A8, cp8, c18, _, _, _, _, hf8⟩ := HX8.out.pl h1
                have hf80 := hf8 ((p.toNat - 1) * 3)
                have q0y := pw_cell_below HG8.out q0x
                have q1y := pw_cell_below HG8.out q1x
                have q2y := pw_cell_below HG8.out q2x
                refine Go.Proofs.Ytkgjokidfbpnbaa.Sep.takeW (i := 9) (v := ?p32v) rfl rfl (by kernel_rfl) (by kernel_rfl) (by kernel_rfl) (fun _ _ _ h => h) (by rfl) ?p32y hHeld ?_
                case p32y => (intro w hSw; (try dsimp only at hSw); go_simp <;> (try with_reducible rfl))
                (try simp only [Act.put, List.setIfInBounds_toArray, List.set_cons_zero, List.set_cons_succ])
                refine Go.Proofs.Ytkgjokidfbpnbaa.Sep.takeW (i := 10) (v := ?p33v) rfl rfl (by kernel_rfl) (by kernel_rfl) (by kernel_rfl) (fun _ _ _ h => h) (by rfl) ?p33y hHeld ?_
                case p33y => (intro w hSw; (try dsimp only at hSw); go_simp <;> (try with_reducible rfl))
                (try simp only [Act.put, List.setIfInBounds_toArray, List.set_cons_zero, List.set_cons_succ])
                refine Go.Proofs.Ytkgjokidfbpnbaa.Sep.callC (i := 11) rfl (by kernel_rfl) (by rfl) (fun K hK => ?_)
                clear hHeld
                (refine Go.Proofs.Ytkgjokidfbpnbaa.Sep.wp_of_list (ops := #[]) (by rfl) ?_; go_wp2; change K _ _)
                refine hK.out _ _ ?p35k (fun hHeld => ?_)
                case p35k => (exact ⟨(cell_far (a := ⟨gb, 0, none⟩) hn1 _).trans q0y, (cell_far (a := ⟨gb, 1, none⟩) hn1 _).trans q1y, (cell_far (a := ⟨gb, 2, none⟩) hn1 _).trans q2y⟩)
                clear hK K
                (try simp only [Act.put, List.setIfInBounds_toArray, List.set_cons_zero, List.set_cons_succ])
                refine wpAnyH_done (by kernel_rfl) ?_ _
                have hn9 := HA.out.n
                go_wp2
                go_roundg k1
                case measure => have := HK.out; omega
                case rel => exact ⟨i + 1, n + 1, ⟨c.l ++ [x], c.e, c.d⟩, rfl, rfl, ⟨by have := HK.out; omega⟩, ⟨by omega⟩, ⟨HX8.out.put hga hl h1 hil HXX.out hR (by omega) HI4.out HN.out HX.out.size HOWN.out rfl⟩⟩
            · have h9 : c.d = false := by simpa using h8
              go_wp2_with (first | ((with_reducible refine gate_dst (N := 12) rfl ?_); refine box_event ?hg (N := 12) ?hd (cs := #[.int .i64 0, .int .i64 0, .bool false]) (t := 24) ?hr ?_; (case hd => rfl); (case hg => rfl); (case hr => first | (go_simp; done) | (go_simp; rfl)); intro gb hgb w5 hbox hb5; have HGE := Aside0.mk (Nat.le_of_eq hgb.symm); have hn1 : gb ≠ ga := Nat.ne_of_gt (Nat.lt_of_lt_of_le (Nat.lt_of_lt_of_le hl.2 HA.out.size) HGE.out); clear hgb; have hn2 : ga ≠ gb := hn1.symm; have BK := Aside0.mk hbox; clear hbox; have HA5 := Aside0.mk (HA.out.step hb5 hbs hl); have HB5 := Aside0.mk hb5; clear hb5; obtain ⟨A5, cp5, c51, c52, c53, hc5, _, _⟩ := HA5.out.pl h1; have hcz0 : w5.cell? ⟨gb, 0, none⟩ = some (.int .i64 0) := (blk_cell BK.out 0).trans rfl; have hcz1 : w5.cell? ⟨gb, 1, none⟩ = some (.int .i64 0) := (blk_cell BK.out 1).trans rfl; have hcz2 : w5.cell? ⟨gb, 2, none⟩ = some (.bool false) := (blk_cell BK.out 2).trans rfl; have hfz0 := blk_frozen BK.out 0; have hfz1 := blk_frozen BK.out 1; have hfz2 := blk_frozen BK.out 2) | (go_at_call 31; (refine (PInputsEnd.input_Right.calls x.1 x.2.1 x.2.2 true _ ((right_eq x).trans (by rw [hR]))).mono ?_); rintro e w6 ⟨rfl, hb6⟩; have bk5 := blk_put (cs' := #[.int .i64 x.1, .int .i64 x.2.1, .bool x.2.2]) (blk_put (cs' := #[.int .i64 x.1, .int .i64 x.2.1, .bool false]) (blk_put (cs' := #[.int .i64 x.1, .int .i64 0, .bool false]) BK.out 0 (.int .i64 x.1) rfl) 1 (.int .i64 x.2.1) rfl) 2 (.bool x.2.2) rfl; have BK6 := Aside0.mk (blk_below bk5 hb6); have HA6 := Aside0.mk ((HA.out.step (below_set (below_set (below_set HB5.out HGE.out) HGE.out) HGE.out) hbs hl).step hb6 hbs hl); clear hb6 hcz0 hcz1 hcz2 hfz0 hfz1 hfz2 c51 c52 c53 bk5; obtain ⟨A6, cp6, c1, c2, c3, hc6, hC6, hf6⟩ := HA6.out.pl h1; have q0 : w6.cell? ⟨gb, 0, none⟩ = some (.int .i64 x.1) := (blk_cell BK6.out 0).trans rfl; have q1 : w6.cell? ⟨gb, 1, none⟩ = some (.int .i64 x.2.1) := (blk_cell BK6.out 1).trans rfl; have q2 : w6.cell? ⟨gb, 2, none⟩ = some (.bool x.2.2) := (blk_cell BK6.out 2).trans rfl; rw [h9] at c3))
              have HD := Aside0.mk (HA6.out.step (Below.drew (Below.refl _ _)) hbs hl)
              have hAn : A6 = none → c.l.length = 0 := fun e => by
                by_cases hz9 : c.l.length = 0
                · exact hz9
                · obtain ⟨ad9, e2, _⟩ := hC6.2.2 (by omega)
                  rw [e] at e2
                  cases e2
              obtain ⟨i0, hi0, hzz⟩ := Option.map_eq_some_iff.1 info24_
              simp only [Prod.mk.injEq] at hzz
              obtain ⟨hz0, hz1, hz2⟩ := hzz
              refine wp_region_held_drew (S := (fun w' => w'.cell? ⟨gb, 0, none⟩ = some (.int .i64 x.1) ∧ w'.cell? ⟨gb, 1, none⟩ = some (.int .i64 x.2.1) ∧ w'.cell? ⟨gb, 2, none⟩ = some (.bool x.2.2))) (by kernel_rfl) ?p0S (fun hHeld => ?_)
              case p0S => (exact ⟨q0, q1, q2⟩)
              refine Go.Proofs.Ytkgjokidfbpnbaa.Sep.takeW (i := 0) (v := ?p1v) rfl rfl (by kernel_rfl) (by kernel_rfl) (by kernel_rfl) (fun _ _ _ h => h) (by rfl) ?p1y hHeld ?_
              case p1y => (intro w hSw; (try dsimp only at hSw); go_simp <;> (try with_reducible rfl))
              (try simp only [Act.put, List.setIfInBounds_toArray, List.set_cons_zero, List.set_cons_succ])
              refine Go.Proofs.Ytkgjokidfbpnbaa.Sep.takeW (i := 1) (v := ?p2v) rfl rfl (by kernel_rfl) (by kernel_rfl) (by kernel_rfl) (fun _ _ _ h => h) (by rfl) ?p2y hHeld ?_
              case p2y => (intro w hSw; (try dsimp only at hSw); go_simp <;> (try with_reducible rfl))
              (try simp only [Act.put, List.setIfInBounds_toArray, List.set_cons_zero, List.set_cons_succ])
              refine Go.Proofs.Ytkgjokidfbpnbaa.Sep.takeW (i := 2) (v := ?p3v) rfl rfl (by kernel_rfl) (by kernel_rfl) (by kernel_rfl) (fun _ _ _ h => h) (by rfl) ?p3y hHeld ?_
              case p3y => (intro w hSw; (try dsimp only at hSw); go_simp <;> (try with_reducible rfl))
              (try simp only [Act.put, List.setIfInBounds_toArray, List.set_cons_zero, List.set_cons_succ])
              refine Go.Proofs.Ytkgjokidfbpnbaa.Sep.takeW (i := 3) (v := ?p4v) rfl rfl (by kernel_rfl) (by kernel_rfl) (by kernel_rfl) (fun _ _ _ h => h) (by rfl) ?p4y hHeld ?_
              case p4y => (intro w hSw; (try dsimp only at hSw); go_simp <;> (try with_reducible rfl))
              (try simp only [Act.put, List.setIfInBounds_toArray, List.set_cons_zero, List.set_cons_succ])
              refine Go.Proofs.Ytkgjokidfbpnbaa.Sep.takeW (i := 6) (v := ?p5v) rfl rfl (by kernel_rfl) (by kernel_rfl) (by kernel_rfl) (fun _ _ _ h => h) (by rfl) ?p5y hHeld ?_
              case p5y => (intro w hSw; (try dsimp only at hSw); go_simp <;> (try with_reducible rfl))
              (try simp only [Act.put, List.setIfInBounds_toArray, List.set_cons_zero, List.set_cons_succ])
              refine Go.Proofs.Ytkgjokidfbpnbaa.Sep.callC2 (i := 4) (j := 7) rfl rfl (by kernel_rfl) (by rfl) (by rfl) (fun K hK => ?_) (fun K hK => ?_)
              · clear hHeld
                (refine Go.Proofs.Ytkgjokidfbpnbaa.Sep.wp_of_list (ops := #[]) (by rfl) ?_; go_wp2; change K _ _)
                refine hK.out _ _ ?p24k (fun hHeld => ?_)
                case p24k => (exact ⟨q0, q1, q2⟩)
                clear hK K
                (try simp only [Act.put, List.setIfInBounds_toArray, List.set_cons_zero, List.set_cons_succ])
                refine Go.Proofs.Ytkgjokidfbpnbaa.Sep.callC2 (i := 5) (j := 7) rfl rfl (by kernel_rfl) (by rfl) (by rfl) (fun K hK => ?_) (fun K hK => ?_)
                · clear hHeld
                  (go_wp2_with (first | (go_at_call 32; (refine (clip.calls A6 c.l.length cp6 _ hAn hc6 (by omega)).mono ?_); rintro e w7 ⟨rfl, hb7⟩; have HB7 := Aside0.mk hb7; clear hb7)))
                  refine hK.out _ _ ?p6k (fun hHeld => ?_)
                  case p6k => (exact ⟨pw_cell_below (w := w6.drew) HB7.out q0, pw_cell_below (w := w6.drew) HB7.out q1, pw_cell_below (w := w6.drew) HB7.out q2⟩)
                  clear hK K
                  (try simp only [Act.put, List.setIfInBounds_toArray, List.set_cons_zero, List.set_cons_succ])
                  refine Go.Proofs.Ytkgjokidfbpnbaa.Sep.callC (i := 7) rfl (by kernel_rfl) (by rfl) (fun K hK => ?_)
                  clear hHeld
                  (refine Go.Proofs.Ytkgjokidfbpnbaa.Sep.wp_of_list (ops := #[]) (by rfl) ?_; go_wp2; change K _ _)
                  refine hK.out _ _ ?p8k (fun hHeld => ?_)
                  case p8k => (exact ⟨pw_cell_below (below_alloc (Below.refl _ _) _) (pw_cell_below (w := w6.drew) HB7.out q0), pw_cell_below (below_alloc (Below.refl _ _) _) (pw_cell_below (w := w6.drew) HB7.out q1), pw_cell_below (below_alloc (Below.refl _ _) _) (pw_cell_below (w := w6.drew) HB7.out q2)⟩)
                  clear hK K
                  (try simp only [Act.put, List.setIfInBounds_toArray, List.set_cons_zero, List.set_cons_succ])
                  have HBX := Aside0.mk (below_alloc HB7.out (.cells #[.int .i64 x.1, .int .i64 x.2.1, .bool x.2.2] 24))
                  have HBL := Aside0.mk (heap_alloc_new w7 (.cells #[.int .i64 x.1, .int .i64 x.2.1, .bool x.2.2] 24))
                  have HCX := Aside0.mk (Kd.C_below (w := w6.drew) hC6 HBX.out)
                  have HX := Aside0.mk (HD.out.step HBX.out hbs hl)
                  have q0x : (w7.alloc (.cells #[.int .i64 x.1, .int .i64 x.2.1, .bool x.2.2] 24)).cell? ⟨gb, 0, none⟩ = some (.int .i64 x.1) := pw_cell_below (w := w6.drew) HBX.out q0
                  have q1x : (w7.alloc (.cells #[.int .i64 x.1, .int .i64 x.2.1, .bool x.2.2] 24)).cell? ⟨gb, 1, none⟩ = some (.int .i64 x.2.1) := pw_cell_below (w := w6.drew) HBX.out q1
                  have q2x : (w7.alloc (.cells #[.int .i64 x.1, .int .i64 x.2.1, .bool x.2.2] 24)).cell? ⟨gb, 2, none⟩ = some (.bool x.2.2) := pw_cell_below (w := w6.drew) HBX.out q2
                  refine Go.Proofs.Ytkgjokidfbpnbaa.Sep.callC (i := 8) rfl (by kernel_rfl) (by rfl) (fun K hK => ?_)
                  clear hHeld
                  (refine Go.Proofs.Ytkgjokidfbpnbaa.Sep.wp_of_list (ops := #[]) (by rfl) ?_; refine wpList_append_grows _ rfl (.tmp 76) (.tmp 78) 22 rfl 24 i0 _ 3 24 Try.underlying22 hi0 hz0 hz1 hz2 rfl (by decide) A6 c.l.length c.l.length (c.l.flatMap encI) (by rfl) (fun e => ⟨hAn e, hAn e⟩) (flat_len _) (C_flat HCX.out) ⟨w7.heap.size, 0, none⟩ 1 1 (encI x) (by rfl) rfl (news_at HBL.out) (news_one x) (by omega) (by unfold maxLen; omega) (by omega) (fun v8 w8 hown hgrow => ?_); obtain ⟨A9, c9, e9, _, _⟩ := RowS.snoc hown rfl; rw [List.length_append, List.length_singleton] at e9; subst e9; have HOWN := Aside0.mk hown; have HG8 := Aside0.mk (pw_below_grown (Below.refl (w7.alloc (.cells #[.int .i64 x.1, .int .i64 x.2.1, .bool x.2.2] 24)).heap.size (w7.alloc (.cells #[.int .i64 x.1, .int .i64 x.2.1, .bool x.2.2] 24))) none (Nat.le_refl _) hgrow (fun _ h => by cases h)); clear hown hgrow; change K _ _)
                  refine hK.out _ _ ?p10k (fun hHeld => ?_)
                  case p10k => (exact ⟨pw_cell_below HG8.out q0x, pw_cell_below HG8.out q1x, pw_cell_below HG8.out q2x⟩)
                  clear hK K
                  (try simp only [Act.put, List.setIfInBounds_toArray, List.set_cons_zero, List.set_cons_succ])
                  have HX8 := Aside0.mk (HX.out.step HG8.out hbs hl)
                  obtain ⟨A8, cp8, c18, _, _, _, _, hf8⟩ := HX8.out.pl h1
                  have hf80 := hf8 ((p.toNat - 1) * 3)
                  have q0y := pw_cell_below HG8.out q0x
                  have q1y := pw_cell_below HG8.out q1x
                  have q2y := pw_cell_below HG8.out q2x
                  refine Go.Proofs.Ytkgjokidfbpnbaa.Sep.takeW (i := 9) (v := ?p11v) rfl rfl (by kernel_rfl) (by kernel_rfl) (by kernel_rfl) (fun _ _ _ h => h) (by rfl) ?p11y hHeld ?_
                  case p11y => (intro w hSw; (try dsimp only at hSw); go_simp <;> (try with_reducible rfl))
                  (try simp only [Act.put, List.setIfInBounds_toArray, List.set_cons_zero, List.set_cons_succ])
                  refine Go.Proofs.Ytkgjokidfbpnbaa.Sep.takeW (i := 10) (v := ?p12v) rfl rfl (by kernel_rfl) (by kernel_rfl) (by kernel_rfl) (fun _ _ _ h => h) (by rfl) ?p12y hHeld ?_
                  case p12y => (intro w hSw; (try dsimp only at hSw); go_simp <;> (try with_reducible rfl))
                  (try simp only [Act.put, List.setIfInBounds_toArray, List.set_cons_zero, List.set_cons_succ])
                  refine Go.Proofs.Ytkgjokidfbpnbaa.Sep.callC (i := 11) rfl (by kernel_rfl) (by rfl) (fun K hK => ?_)
                  clear hHeld
                  (refine Go.Proofs.Ytkgjokidfbpnbaa.Sep.wp_of_list (ops := #[]) (by rfl) ?_; go_wp2; change K _ _)
                  refine hK.out _ _ ?p14k (fun hHeld => ?_)
                  case p14k => (exact ⟨(cell_far (a := ⟨gb, 0, none⟩) hn1 _).trans q0y, (cell_far (a := ⟨gb, 1, none⟩) hn1 _).trans q1y, (cell_far (a := ⟨gb, 2, none⟩) hn1 _).trans q2y⟩)
                  clear hK K
                  (try simp only [Act.put, List.setIfInBounds_toArray, List.set_cons_zero, List.set_cons_succ])
                  refine wpAnyH_done (by kernel_rfl) ?_ _
                  have hn9 := HA.out.n
                  go_wp2
                  go_roundg k1
                  case measure => have := HK.out; omega
                  case rel => exact ⟨i + 1, n + 1, ⟨c.l ++ [x], c.e, c.d⟩, rfl, rfl, ⟨by have := HK.out; omega⟩, ⟨by omega⟩, ⟨HX8.out.put hga hl h1 hil HXX.out hR (by omega) HI4.out HN.out HX.out.size HOWN.out rfl⟩⟩
                · clear hHeld
                  (refine Go.Proofs.Ytkgjokidfbpnbaa.Sep.wp_of_list (ops := #[]) (by rfl) ?_; go_wp2; change K _ _)
                  refine hK.out _ _ ?p15k (fun hHeld => ?_)
                  case p15k => (exact ⟨pw_cell_below (w := w6) (Below.drew (below_alloc (Below.refl w6.heap.size w6) _)) q0, pw_cell_below (w := w6) (Below.drew (below_alloc (Below.refl w6.heap.size w6) _)) q1, pw_cell_below (w := w6) (Below.drew (below_alloc (Below.refl w6.heap.size w6) _)) q2⟩)
                  clear hK K
                  (try simp only [Act.put, List.setIfInBounds_toArray, List.set_cons_zero, List.set_cons_succ])
                  have ba := Below.drew (below_alloc (Below.refl w6.heap.size w6) (.cells #[.int .i64 x.1, .int .i64 x.2.1, .bool x.2.2] 24))
                  have bl : ((w6.alloc (.cells #[.int .i64 x.1, .int .i64 x.2.1, .bool x.2.2] 24)).drew).heap[w6.heap.size]? = _ := heap_alloc_new w6 (.cells #[.int .i64 x.1, .int .i64 x.2.1, .bool x.2.2] 24)
                  generalize ((w6.alloc (.cells #[.int .i64 x.1, .int .i64 x.2.1, .bool x.2.2] 24)).drew) = wl at hHeld ba bl ⊢
                  have BA := Aside0.mk ba
                  have BL := Aside0.mk bl
                  clear ba bl
                  refine Go.Proofs.Ytkgjokidfbpnbaa.Sep.callC (i := 5) rfl (by kernel_rfl) (by rfl) (fun K hK => ?_)
                  clear hHeld
                  (go_wp2_with (first | (go_at_call 32; (refine (clip.calls A6 c.l.length cp6 _ hAn hc6 (by omega)).mono ?_); rintro e w7 ⟨rfl, hb7⟩; have HB7 := Aside0.mk hb7; clear hb7)))
                  refine hK.out _ _ ?p17k (fun hHeld => ?_)
                  case p17k => (exact ⟨pw_cell_below HB7.out (pw_cell_below (w := w6) BA.out q0), pw_cell_below HB7.out (pw_cell_below (w := w6) BA.out q1), pw_cell_below HB7.out (pw_cell_below (w := w6) BA.out q2)⟩)
                  clear hK K
                  (try simp only [Act.put, List.setIfInBounds_toArray, List.set_cons_zero, List.set_cons_succ])
                  have HBX := Aside0.mk (below_step BA.out HB7.out)
                  have HBL := Aside0.mk (blk_below BL.out HB7.out)
                  have HCX := Aside0.mk (Kd.C_below (w := w6) hC6 HBX.out)
                  have HX := Aside0.mk (HA6.out.step HBX.out hbs hl)
                  have q0x : (w7).cell? ⟨gb, 0, none⟩ = some (.int .i64 x.1) := pw_cell_below (w := w6) HBX.out q0
                  have q1x : (w7).cell? ⟨gb, 1, none⟩ = some (.int .i64 x.2.1) := pw_cell_below (w := w6) HBX.out q1
                  have q2x : (w7).cell? ⟨gb, 2, none⟩ = some (.bool x.2.2) := pw_cell_below (w := w6) HBX.out q2
                  refine Go.Proofs.Ytkgjokidfbpnbaa.Sep.callC (i := 8) rfl (by kernel_rfl) (by rfl) (fun K hK => ?_)
                  clear hHeld
                  (refine Go.Proofs.Ytkgjokidfbpnbaa.Sep.wp_of_list (ops := #[]) (by rfl) ?_; refine wpList_append_grows _ rfl (.tmp 76) (.tmp 78) 22 rfl 24 i0 _ 3 24 Try.underlying22 hi0 hz0 hz1 hz2 rfl (by decide) A6 c.l.length c.l.length (c.l.flatMap encI) (by rfl) (fun e => ⟨hAn e, hAn e⟩) (flat_len _) (C_flat HCX.out) ⟨w6.heap.size, 0, none⟩ 1 1 (encI x) (by rfl) rfl (news_at HBL.out) (news_one x) (by omega) (by unfold maxLen; omega) (by omega) (fun v8 w8 hown hgrow => ?_); obtain ⟨A9, c9, e9, _, _⟩ := RowS.snoc hown rfl; rw [List.length_append, List.length_singleton] at e9; subst e9; have HOWN := Aside0.mk hown; have HG8 := Aside0.mk (pw_below_grown (Below.refl (w7).heap.size (w7)) none (Nat.le_refl _) hgrow (fun _ h => by cases h)); clear hown hgrow; change K _ _)
                  refine hK.out _ _ ?p19k (fun hHeld => ?_)
                  case p19k => (exact ⟨pw_cell_below HG8.out q0x, pw_cell_below HG8.out q1x, pw_cell_below HG8.out q2x⟩)
                  clear hK K
                  (try simp only [Act.put, List.setIfInBounds_toArray, List.set_cons_zero, List.set_cons_succ])
                  have HX8 := Aside0.mk (HX.out.step HG8.out hbs hl)
                  obtain ⟨A8, cp8, c18, _, _, _, _, hf8⟩ := HX8.out.pl h1
                  have hf80 := hf8 ((p.toNat - 1) * 3)
                  have q0y := pw_cell_below HG8.out q0x
                  have q1y := pw_cell_below HG8.out q1x
                  have q2y := pw_cell_below HG8.out q2x
                  refine Go.Proofs.Ytkgjokidfbpnbaa.Sep.takeW (i := 9) (v := ?p20v) rfl rfl (by kernel_rfl) (by kernel_rfl) (by kernel_rfl) (fun _ _ _ h => h) (by rfl) ?p20y hHeld ?_
                  case p20y => (intro w hSw; (try dsimp only at hSw); go_simp <;> (try with_reducible rfl))
                  (try simp only [Act.put, List.setIfInBounds_toArray, List.set_cons_zero, List.set_cons_succ])
                  refine Go.Proofs.Ytkgjokidfbpnbaa.Sep.takeW (i := 10) (v := ?p21v) rfl rfl (by kernel_rfl) (by kernel_rfl) (by kernel_rfl) (fun _ _ _ h => h) (by rfl) ?p21y hHeld ?_
                  case p21y => (intro w hSw; (try dsimp only at hSw); go_simp <;> (try with_reducible rfl))
                  (try simp only [Act.put, List.setIfInBounds_toArray, List.set_cons_zero, List.set_cons_succ])
                  refine Go.Proofs.Ytkgjokidfbpnbaa.Sep.callC (i := 11) rfl (by kernel_rfl) (by rfl) (fun K hK => ?_)
                  clear hHeld
                  (refine Go.Proofs.Ytkgjokidfbpnbaa.Sep.wp_of_list (ops := #[]) (by rfl) ?_; go_wp2; change K _ _)
                  refine hK.out _ _ ?p23k (fun hHeld => ?_)
                  case p23k => (exact ⟨(cell_far (a := ⟨gb, 0, none⟩) hn1 _).trans q0y, (cell_far (a := ⟨gb, 1, none⟩) hn1 _).trans q1y, (cell_far (a := ⟨gb, 2, none⟩) hn1 _).trans q2y⟩)
                  clear hK K
                  (try simp only [Act.put, List.setIfInBounds_toArray, List.set_cons_zero, List.set_cons_succ])
                  refine wpAnyH_done (by kernel_rfl) ?_ _
                  have hn9 := HA.out.n
                  go_wp2
                  go_roundg k1
                  case measure => have := HK.out; omega
                  case rel => exact ⟨i + 1, n + 1, ⟨c.l ++ [x], c.e, c.d⟩, rfl, rfl, ⟨by have := HK.out; omega⟩, ⟨by omega⟩, ⟨HX8.out.put hga hl h1 hil HXX.out hR (by omega) HI4.out HN.out HX.out.size HOWN.out rfl⟩⟩
              · clear hHeld
                (refine Go.Proofs.Ytkgjokidfbpnbaa.Sep.wp_of_list (ops := #[]) (by rfl) ?_; go_wp2; change K _ _)
                refine hK.out _ _ ?p25k (fun hHeld => ?_)
                case p25k => (exact ⟨pw_cell_below (w := w6) (Below.drew (below_alloc (Below.refl w6.heap.size w6) _)) q0, pw_cell_below (w := w6) (Below.drew (below_alloc (Below.refl w6.heap.size w6) _)) q1, pw_cell_below (w := w6) (Below.drew (below_alloc (Below.refl w6.heap.size w6) _)) q2⟩)
                clear hK K
                (try simp only [Act.put, List.setIfInBounds_toArray, List.set_cons_zero, List.set_cons_succ])
                have ba := Below.drew (below_alloc (Below.refl w6.heap.size w6) (.cells #[.int .i64 x.1, .int .i64 x.2.1, .bool x.2.2] 24))
                have bl : ((w6.alloc (.cells #[.int .i64 x.1, .int .i64 x.2.1, .bool x.2.2] 24)).drew).heap[w6.heap.size]? = _ := heap_alloc_new w6 (.cells #[.int .i64 x.1, .int .i64 x.2.1, .bool x.2.2] 24)
                generalize ((w6.alloc (.cells #[.int .i64 x.1, .int .i64 x.2.1, .bool x.2.2] 24)).drew) = wl at hHeld ba bl ⊢
                have BA := Aside0.mk ba
                have BL := Aside0.mk bl
                clear ba bl
                have c1a : wl.cell? ⟨ga, (p.toNat - 1) * 3, none⟩ = some (.slice A6 c.l.length cp6) := pw_cell_below (w := w6) BA.out c1
                refine Go.Proofs.Ytkgjokidfbpnbaa.Sep.callC (i := 4) rfl (by kernel_rfl) (by rfl) (fun K hK => ?_)
                clear hHeld
                (refine Go.Proofs.Ytkgjokidfbpnbaa.Sep.wp_of_list (ops := #[]) (by rfl) ?_; go_wp2; change K _ _)
                refine hK.out _ _ ?p27k (fun hHeld => ?_)
                case p27k => (exact ⟨pw_cell_below (w := w6) BA.out q0, pw_cell_below (w := w6) BA.out q1, pw_cell_below (w := w6) BA.out q2⟩)
                clear hK K
                (try simp only [Act.put, List.setIfInBounds_toArray, List.set_cons_zero, List.set_cons_succ])
                refine Go.Proofs.Ytkgjokidfbpnbaa.Sep.callC (i := 5) rfl (by kernel_rfl) (by rfl) (fun K hK => ?_)
                clear hHeld
                (go_wp2_with (first | (go_at_call 32; (refine (clip.calls A6 c.l.length cp6 _ hAn hc6 (by omega)).mono ?_); rintro e w7 ⟨rfl, hb7⟩; have HB7 := Aside0.mk hb7; clear hb7)))
                refine hK.out _ _ ?p29k (fun hHeld => ?_)
                case p29k => (exact ⟨pw_cell_below HB7.out (pw_cell_below (w := w6) BA.out q0), pw_cell_below HB7.out (pw_cell_below (w := w6) BA.out q1), pw_cell_below HB7.out (pw_cell_below (w := w6) BA.out q2)⟩)
                clear hK K
                (try simp only [Act.put, List.setIfInBounds_toArray, List.set_cons_zero, List.set_cons_succ])
                have HBX := Aside0.mk (below_step BA.out HB7.out)
                have HBL := Aside0.mk (blk_below BL.out HB7.out)
                have HCX := Aside0.mk (Kd.C_below (w := w6) hC6 HBX.out)
                have HX := Aside0.mk (HA6.out.step HBX.out hbs hl)
                have q0x : (w7).cell? ⟨gb, 0, none⟩ = some (.int .i64 x.1) := pw_cell_below (w := w6) HBX.out q0
                have q1x : (w7).cell? ⟨gb, 1, none⟩ = some (.int .i64 x.2.1) := pw_cell_below (w := w6) HBX.out q1
                have q2x : (w7).cell? ⟨gb, 2, none⟩ = some (.bool x.2.2) := pw_cell_below (w := w6) HBX.out q2
                refine Go.Proofs.Ytkgjokidfbpnbaa.Sep.callC (i := 8) rfl (by kernel_rfl) (by rfl) (fun K hK => ?_)
                clear hHeld
                (refine Go.Proofs.Ytkgjokidfbpnbaa.Sep.wp_of_list (ops := #[]) (by rfl) ?_; refine wpList_append_grows _ rfl (.tmp 76) (.tmp 78) 22 rfl 24 i0 _ 3 24 Try.underlying22 hi0 hz0 hz1 hz2 rfl (by decide) A6 c.l.length c.l.length (c.l.flatMap encI) (by rfl) (fun e => ⟨hAn e, hAn e⟩) (flat_len _) (C_flat HCX.out) ⟨w6.heap.size, 0, none⟩ 1 1 (encI x) (by rfl) rfl (news_at HBL.out) (news_one x) (by omega) (by unfold maxLen; omega) (by omega) (fun v8 w8 hown hgrow => ?_); obtain ⟨A9, c9, e9, _, _⟩ := RowS.snoc hown rfl; rw [List.length_append, List.length_singleton] at e9; subst e9; have HOWN := Aside0.mk hown; have HG8 := Aside0.mk (pw_below_grown (Below.refl (w7).heap.size (w7)) none (Nat.le_refl _) hgrow (fun _ h => by cases h)); clear hown hgrow; change K _ _)
                refine hK.out _ _ ?p31k (fun hHeld => ?_)
                case p31k => (exact ⟨pw_cell_below HG8.out q0x, pw_cell_below HG8.out q1x, pw_cell_below HG8.out q2x⟩)
                clear hK K
                (try simp only [Act.put, List.setIfInBounds_toArray, List.set_cons_zero, List.set_cons_succ])
                have HX8 := Aside0.mk (HX.out.step HG8.out hbs hl)
                obtain ⟨A8, cp8, c18, _, _, _, _, hf8⟩ := HX8.out.pl h1
                have hf80 := hf8 ((p.toNat - 1) * 3)
                have q0y := pw_cell_below HG8.out q0x
                have q1y := pw_cell_below HG8.out q1x
                have q2y := pw_cell_below HG8.out q2x
                refine Go.Proofs.Ytkgjokidfbpnbaa.Sep.takeW (i := 9) (v := ?p32v) rfl rfl (by kernel_rfl) (by kernel_rfl) (by kernel_rfl) (fun _ _ _ h => h) (by rfl) ?p32y hHeld ?_
                case p32y => (intro w hSw; (try dsimp only at hSw); go_simp <;> (try with_reducible rfl))
                (try simp only [Act.put, List.setIfInBounds_toArray, List.set_cons_zero, List.set_cons_succ])
                refine Go.Proofs.Ytkgjokidfbpnbaa.Sep.takeW (i := 10) (v := ?p33v) rfl rfl (by kernel_rfl) (by kernel_rfl) (by kernel_rfl) (fun _ _ _ h => h) (by rfl) ?p33y hHeld ?_
                case p33y => (intro w hSw; (try dsimp only at hSw); go_simp <;> (try with_reducible rfl))
                (try simp only [Act.put, List.setIfInBounds_toArray, List.set_cons_zero, List.set_cons_succ])
                refine Go.Proofs.Ytkgjokidfbpnbaa.Sep.callC (i := 11) rfl (by kernel_rfl) (by rfl) (fun K hK => ?_)
                clear hHeld
                (refine Go.Proofs.Ytkgjokidfbpnbaa.Sep.wp_of_list (ops := #[]) (by rfl) ?_; go_wp2; change K _ _)
                refine hK.out _ _ ?p35k (fun hHeld => ?_)
                case p35k => (exact ⟨(cell_far (a := ⟨gb, 0, none⟩) hn1 _).trans q0y, (cell_far (a := ⟨gb, 1, none⟩) hn1 _).trans q1y, (cell_far (a := ⟨gb, 2, none⟩) hn1 _).trans q2y⟩)
                clear hK K
                (try simp only [Act.put, List.setIfInBounds_toArray, List.set_cons_zero, List.set_cons_succ])
                refine wpAnyH_done (by kernel_rfl) ?_ _
                have hn9 := HA.out.n
                go_wp2
                go_roundg k1
                case measure => have := HK.out; omega
                case rel => exact ⟨i + 1, n + 1, ⟨c.l ++ [x], c.e, c.d⟩, rfl, rfl, ⟨by have := HK.out; omega⟩, ⟨by omega⟩, ⟨HX8.out.put hga hl h1 hil HXX.out hR (by omega) HI4.out HN.out HX.out.size HOWN.out rfl⟩⟩
        · have d1 : decide ((i : Int) < (xs.length : Int)) = false := decide_eq_false (by omega)
          go_wp2
          go_ret
          exact HA.out.done (HA.out.stop0 hil) h1 (by omega)
  · skip
    go_enter Try.func12, Try.ntmps12
    go_wp2_with (first | (go_at_call 30; (refine (column.calls h p hp hn).mono ?_); rintro e w1 ⟨rfl, hb1⟩; rw [colA_no h1]))
    go_ret
    rw [AddP, add_no (fun x => h1 x.1)]
    exact ⟨Z, rfl, hB.trans (hb1.mono hbs), hb1.size, fun k hk _ => hb1.block k hk, fun k hk => hk, fun k hk => .inl hk, fun k hk => Nat.lt_of_lt_of_le (hz k hk) hb1.size, h.below (hb1.block _ hl.1) (hb1.block _ hl.2) (fun k hk => hb1.block _ (hz k hk))⟩
end Go.Proofs.Ytkgjokidfbpnbaa.InW
