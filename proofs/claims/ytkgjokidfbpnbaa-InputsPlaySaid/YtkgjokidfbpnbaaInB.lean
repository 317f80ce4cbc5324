/- What package inputs' calls do to a table that is read. No condition but that the numbers are within int. -/
import Derived.Test.YtkgjokidfbpnbaaInA
import Derived.Test.YtkgjokidfbpnbaaReg
import Derived.Test.YtkgjokidfbpnbaaPInputsEndz1
namespace Go.Proofs.Ytkgjokidfbpnbaa.InW
open Go.RowKit Go.Proofs.YtkgjokidfbpnbaaW.PrintWords Go.Proofs.YtkgjokidfbpnbaaW.PrintLast Go.Proofs.YtkgjokidfbpnbaaW.PrintMore Go.Proofs.Ytkgjokidfbpnbaa.Sep
attribute [local go_sem] max2_int min2_int max_two min_two max_three min_three max_four min_four   -- for this text's walks alone
set_option linter.unusedVariables false
set_option linter.unusedSimpArgs false
abbrev I64 (x : Int) : Prop := -9223372036854775808 ≤ x ∧ x ≤ 9223372036854775807
/-- is it a player? -/
def isP (cs : List Col) (p : Int) : Prop := 1 ≤ p ∧ p ≤ cs.length
instance (cs : List Col) (p : Int) : Decidable (isP cs p) := by unfold isP; infer_instance
/-- a player's column -/
def colA (ga : Nat) (cs : List Col) (p : Int) : Value := if isP cs p then .pointer (some ⟨ga, (p.toNat - 1) * 3, none⟩) else .pointer none
theorem colA_no {ga : Nat} {cs : List Col} {p : Int} (h : ¬ isP cs p) : colA ga cs p = .pointer none := by unfold colA; rw [if_neg h]
theorem colA_yes {ga : Nat} {cs : List Col} {p : Int} (h : isP cs p) : colA ga cs p = .pointer (some ⟨ga, (p.toNat - 1) * 3, none⟩) := by unfold colA; rw [if_pos h]
set_option maxHeartbeats 4000000 in
set_option maxRecDepth 100000 in
theorem of.calls {w : World} {g ga : Nat} {Z : Nat → Prop} {cs : List Col} (h : TabG w g ga Z cs) (p : Int) (hp : I64 p) (hn : cs.length ≤ 1000000) :
    Calls Try.prog 40 #[.pointer (some ⟨g, 0, none⟩), .int .i64 p] w fun e w' => e = .returned (colA ga cs p) ∧ Below w.heap.size w w' := by
  obtain ⟨c, bk, hc⟩ := h.tbl
  have hc0 : w.cell? ⟨g, 0, none⟩ = some (.slice (some ⟨ga, 0, none⟩) cs.length c) := (blk_cell bk 0).trans rfl
  have hf0 := blk_frozen bk 0
  by_cases h1 : p < 1
  · have d1 : decide (p < 1) = true := decide_eq_true h1
    go_enter Try.func40, Try.ntmps40
    go_wp2
    go_ret
    have e : colA ga cs p = .pointer none := colA_no (by unfold isP; omega)
    rw [e]
    exact ⟨rfl, Below.refl _ _⟩
  · have d1 : decide (p < 1) = false := decide_eq_false h1
    by_cases h2 : p ≤ cs.length
    · have d2 : decide ((cs.length : Int) < p) = false := decide_eq_false (by omega)
      go_enter Try.func40, Try.ntmps40
      go_wp2
      go_ret
      have e : colA ga cs p = .pointer (some ⟨ga, (p.toNat - 1) * 3, none⟩) := colA_yes (by unfold isP; omega)
      rw [e]
      exact ⟨rfl, Below.refl _ _⟩
    · have d2 : decide ((cs.length : Int) < p) = true := decide_eq_true (by omega)
      go_enter Try.func40, Try.ntmps40
      go_wp2
      go_ret
      have e : colA ga cs p = .pointer none := colA_no (by unfold isP; omega)
      rw [e]
      exact ⟨rfl, Below.refl _ _⟩

set_option maxHeartbeats 4000000 in
set_option maxRecDepth 100000 in
theorem column.calls {w : World} {g ga : Nat} {Z : Nat → Prop} {cs : List Col} (h : TabG w g ga Z cs) (p : Int) (hp : I64 p) (hn : cs.length ≤ 1000000) :
    Calls Try.prog 30 #[.pointer (some ⟨g, 0, none⟩), .int .i64 p] w fun e w' => e = .returned (colA ga cs p) ∧ Below w.heap.size w w' := by
  go_enter Try.func30, Try.ntmps30
  go_wp2_with (first | (go_at_call 40; (refine (of.calls h p hp hn).mono ?_); rintro e w1 ⟨rfl, hb1⟩))
  go_ret
  exact ⟨rfl, hb1⟩
set_option maxHeartbeats 4000000 in
set_option maxRecDepth 100000 in
theorem column.nil (w : World) (p : Int) :
    Calls Try.prog 30 #[.pointer none, .int .i64 p] w fun e w' => e = .returned (.pointer none) ∧ Below w.heap.size w w' := by
  go_enter Try.func30, Try.ntmps30
  go_wp2
  go_ret
  exact ⟨rfl, Below.refl _ _⟩
/-- a player's column -/
def cAt (cs : List Col) (p : Int) : Col := cs.getD (p.toNat - 1) ⟨[], 0, false⟩
theorem TabG.below {w w' : World} {g ga : Nat} {Z : Nat → Prop} {cs : List Col} (h : TabG w g ga Z cs) (hg : w'.heap[g]? = w.heap[g]?) (ha : w'.heap[ga]? = w.heap[ga]?) (hz : ∀ k, Z k → w'.heap[k]? = w.heap[k]?) : TabG w' g ga Z cs := by
  refine ⟨h.ne, h.ng, h.na, ?_, ?_⟩
  · obtain ⟨c, h5, h6⟩ := h.tbl
    exact ⟨c, hg.trans h5, h6⟩
  · obtain ⟨vs, zs, h5, h6, h7⟩ := h.cols
    exact ⟨vs, zs, ha.trans h5, h6, fun j a b => ⟨(h7 j a b).1, (h7 j a b).2.1, (h7 j a b).2.2.step (fun k hk => hk) hz⟩⟩
theorem TabG.pl {w : World} {g ga : Nat} {Z : Nat → Prop} {cs : List Col} (h : TabG w g ga Z cs) {p : Int} (hp : isP cs p) : ∃ A c, w.cell? ⟨ga, (p.toNat - 1) * 3, none⟩ = some (.slice A (cAt cs p).l.length c) ∧ w.cell? ⟨ga, (p.toNat - 1) * 3 + 1, none⟩ = some (.int .i64 (cAt cs p).e) ∧ w.cell? ⟨ga, (p.toNat - 1) * 3 + 2, none⟩ = some (.bool (cAt cs p).d) ∧ (cAt cs p).l.length ≤ c ∧ (∀ w' : World, (∀ k, Z k → w'.heap[k]? = w.heap[k]?) → Kd.C kin w' A (cAt cs p).l.length (cAt cs p).l) ∧ (∀ t, w.frozen? ⟨ga, t, none⟩ = false) := by
  have hj : p.toNat - 1 < cs.length := by unfold isP at hp; omega
  obtain ⟨v, c1, c2, c3, ⟨A, c, rfl, hc, hr⟩, hf⟩ := h.cell (p.toNat - 1) hj
  have e : cAt cs p = cs[p.toNat - 1] := by simp [cAt, List.getD_eq_getElem?_getD, hj]
  rw [e]
  exact ⟨A, c, c1, c2, c3, hc, hr, hf⟩
def have_ (cs : List Col) (p : Int) : Int := if isP cs p then (cAt cs p).l.length else 0
theorem have_no {cs : List Col} {p : Int} (h : ¬ isP cs p) : have_ cs p = 0 := by unfold have_; rw [if_neg h]
theorem have_yes {cs : List Col} {p : Int} (h : isP cs p) : have_ cs p = (cAt cs p).l.length := by unfold have_; rw [if_pos h]
set_option maxHeartbeats 4000000 in
set_option maxRecDepth 100000 in
theorem have.calls {w : World} {g ga : Nat} {Z : Nat → Prop} {cs : List Col} (h : TabG w g ga Z cs) (hl : g < w.heap.size ∧ ga < w.heap.size) (hz : ∀ k, Z k → k < w.heap.size) (p : Int) (hp : I64 p) (hn : cs.length ≤ 1000000) :
    Calls Try.prog 14 #[.pointer (some ⟨g, 0, none⟩), .int .i64 p] w fun e w' => e = .returned (.int .i64 (have_ cs p)) ∧ Below w.heap.size w w' := by
  by_cases h1 : isP cs p
  · go_enter Try.func14, Try.ntmps14
    go_wp2_with (first | (go_at_call 30; (refine (column.calls h p hp hn).mono ?_); rintro e w1 ⟨rfl, hb1⟩; rw [colA_yes h1]; obtain ⟨A, c, c1, c2, c3, hc, hr, hf⟩ := (h.below (hb1.block _ hl.1) (hb1.block _ hl.2) (fun k hk => hb1.block _ (hz k hk))).pl h1))
    go_ret
    rw [have_yes h1]
    exact ⟨rfl, hb1⟩
  · go_enter Try.func14, Try.ntmps14
    go_wp2_with (first | (go_at_call 30; (refine (column.calls h p hp hn).mono ?_); rintro e w1 ⟨rfl, hb1⟩; rw [colA_no h1]))
    go_ret
    rw [have_no h1]
    exact ⟨rfl, hb1⟩
theorem have.nil (w : World) (p : Int) :
    Calls Try.prog 14 #[.pointer none, .int .i64 p] w fun e w' => e = .returned (.int .i64 0) ∧ Below w.heap.size w w' := by
  go_enter Try.func14, Try.ntmps14
  go_wp2_with (first | (go_at_call 30; (refine (column.nil w p).mono ?_); rintro e w1 ⟨rfl, hb1⟩))
  go_ret
  exact ⟨rfl, hb1⟩
def ended_ (cs : List Col) (p : Int) : Int × Bool := if isP cs p ∧ (cAt cs p).d = true then ((cAt cs p).e, true) else (0, false)
theorem ended_no {cs : List Col} {p : Int} (h : ¬ (isP cs p ∧ (cAt cs p).d = true)) : ended_ cs p = (0, false) := by unfold ended_; rw [if_neg h]
theorem ended_yes {cs : List Col} {p : Int} (h : isP cs p) (hd : (cAt cs p).d = true) : ended_ cs p = ((cAt cs p).e, true) := by unfold ended_; rw [if_pos ⟨h, hd⟩]
set_option maxHeartbeats 4000000 in
set_option maxRecDepth 100000 in
theorem ended.calls {w : World} {g ga : Nat} {Z : Nat → Prop} {cs : List Col} (h : TabG w g ga Z cs) (hl : g < w.heap.size ∧ ga < w.heap.size) (hz : ∀ k, Z k → k < w.heap.size) (p : Int) (hp : I64 p) (hn : cs.length ≤ 1000000) :
    Calls Try.prog 16 #[.pointer (some ⟨g, 0, none⟩), .int .i64 p] w fun e w' => e = .returned (.tuple #[.int .i64 (ended_ cs p).1, .bool (ended_ cs p).2]) ∧ Below w.heap.size w w' := by
  by_cases h1 : isP cs p
  · by_cases hd : (cAt cs p).d = true
    · go_enter Try.func16, Try.ntmps16
      go_wp2_with (first | (go_at_call 30; (refine (column.calls h p hp hn).mono ?_); rintro e w1 ⟨rfl, hb1⟩; rw [colA_yes h1]; obtain ⟨A, c, c1, c2, c3, hc, hr, hf⟩ := (h.below (hb1.block _ hl.1) (hb1.block _ hl.2) (fun k hk => hb1.block _ (hz k hk))).pl h1; rw [hd] at c3))
      go_ret2
      rw [ended_yes h1 hd]
      exact ⟨rfl, hb1⟩
    · have hd0 : (cAt cs p).d = false := by simpa using hd
      go_enter Try.func16, Try.ntmps16
      go_wp2_with (first | (go_at_call 30; (refine (column.calls h p hp hn).mono ?_); rintro e w1 ⟨rfl, hb1⟩; rw [colA_yes h1]; obtain ⟨A, c, c1, c2, c3, hc, hr, hf⟩ := (h.below (hb1.block _ hl.1) (hb1.block _ hl.2) (fun k hk => hb1.block _ (hz k hk))).pl h1; rw [hd0] at c3))
      go_ret2
      rw [ended_no (fun x => hd x.2)]
      exact ⟨rfl, hb1⟩
  · go_enter Try.func16, Try.ntmps16
    go_wp2_with (first | (go_at_call 30; (refine (column.calls h p hp hn).mono ?_); rintro e w1 ⟨rfl, hb1⟩; rw [colA_no h1]))
    go_ret2
    rw [ended_no (fun x => h1 x.1)]
    exact ⟨rfl, hb1⟩
theorem ended.nil (w : World) (p : Int) :
    Calls Try.prog 16 #[.pointer none, .int .i64 p] w fun e w' => e = .returned (.tuple #[.int .i64 0, .bool false]) ∧ Below w.heap.size w w' := by
  go_enter Try.func16, Try.ntmps16
  go_wp2_with (first | (go_at_call 30; (refine (column.nil w p).mono ?_); rintro e w1 ⟨rfl, hb1⟩))
  go_ret2
  exact ⟨rfl, hb1⟩

/-- a column's row, at i -/
def rdI (l : List In) (i : Int) : In := l.getD i.toNat (0, 0, false)
theorem at_inI {w : World} {A : Option Addr} {n : Nat} {xs : List In} (h : Kd.C kin w A n xs) (i : Int) (h0 : 0 ≤ i) (h1 : i < n) : ∃ ad, A = some ad ∧ w.cell? (ad.add (i.toNat * 3)) = some (.int .i64 (rdI xs i).1) ∧ w.cell? ⟨(ad.add (i.toNat * 3)).block, (ad.add (i.toNat * 3)).off + 1, none⟩ = some (.int .i64 (rdI xs i).2.1) ∧ w.cell? ⟨(ad.add (i.toNat * 3)).block, (ad.add (i.toNat * 3)).off + 2, none⟩ = some (.bool (rdI xs i).2.2) := by
  obtain ⟨ad, c, e, _, hK, hc0⟩ := Kd.C_get h (0, 0, false) i h0 h1
  have hc : ∀ j u, c[j]? = some u → w.cell? (ad.add (i.toNat * 3 + j)) = some u := hc0
  obtain rfl := kin_K hK
  exact ⟨ad, e, hc 0 _ rfl, by rw [← add_field _ _ 1 (by omega)]; exact hc 1 _ rfl, by rw [← add_field _ _ 2 (by omega)]; exact hc 2 _ rfl⟩
def rightI (x : In) : Bool := decide (-2 ≤ x.1 ∧ x.1 ≤ 2 ∧ -2 ≤ x.2.1 ∧ x.2.1 ≤ 2)
def guessI (x : In) (k : Bool) : In := if k = true ∧ rightI x = true then (x.1, x.2.1, false) else (0, 0, false)
theorem right_eq (x : In) : PInputsEnd.input_Right.f x.1 x.2.1 x.2.2 = some (rightI x) := by
  unfold PInputsEnd.input_Right.f rightI
  by_cases h1 : x.1 ≥ -2 <;> by_cases h2 : x.1 ≤ 2 <;> by_cases h3 : x.2.1 ≥ -2 <;> by_cases h4 : x.2.1 ≤ 2 <;> simp [h1, h2, h3, h4] <;> omega
theorem guess_eq (x : In) (k : Bool) : PInputsEnd.input_Guess.f x.1 x.2.1 x.2.2 k = some ((guessI x k).1, (guessI x k).2.1, (guessI x k).2.2) := by
  unfold PInputsEnd.input_Guess.f guessI
  rw [right_eq, Option.bind_some]
  cases k <;> cases rightI x <;> rfl
def at_ (cs : List Col) (p f : Int) : In × Bool :=
  if isP cs p ∧ 0 ≤ f then
    if f < (cAt cs p).l.length then (rdI (cAt cs p).l f, true)
    else if (cAt cs p).d = true ∧ (cAt cs p).e ≤ f then ((0, 0, false), true)
    else if (cAt cs p).l.length = 0 then (guessI (0, 0, false) false, false)
    else (guessI (rdI (cAt cs p).l ((cAt cs p).l.length - 1)) true, false)
  else ((0, 0, false), false)
theorem add_block_ (ad : Addr) (n : Nat) : (ad.add n).block = ad.block := by unfold Addr.add; split <;> rfl
theorem cell_far3 {W : World} {a : Addr} {v : Value} {gb : Nat} (hn : a.block ≠ gb) (u0 u1 u2 : Value) (h : W.cell? a = some v) : (((W.setCell ⟨gb, 0, none⟩ u0).setCell ⟨gb, 1, none⟩ u1).setCell ⟨gb, 2, none⟩ u2).cell? a = some v := by rw [cell_far hn, cell_far hn, cell_far hn, h]
set_option maxHeartbeats 8000000 in
set_option maxRecDepth 100000 in
theorem at.calls {w : World} {g ga : Nat} {Z : Nat → Prop} {cs : List Col} (h : TabG w g ga Z cs) (hl : g < w.heap.size ∧ ga < w.heap.size) (hz : ∀ k, Z k → k < w.heap.size) (p f : Int) (hp : I64 p) (hf : I64 f) (hn : cs.length ≤ 1000000) (hm : (cAt cs p).l.length ≤ 1000000) :
    Calls Try.prog 13 #[.pointer (some ⟨g, 0, none⟩), .int .i64 p, .int .i64 f] w fun e w' => e = .returned (.tuple #[.agg #[.int .i64 (at_ cs p f).1.1, .int .i64 (at_ cs p f).1.2.1, .bool (at_ cs p f).1.2.2], .bool (at_ cs p f).2]) ∧ Below w.heap.size w w' := by
  have hu24 := Try.underlying24
  by_cases h1 : isP cs p
  · by_cases h2 : f < 0
    · have d1 : decide (f < 0) = true := decide_eq_true h2
      go_enter Try.func13, Try.ntmps13
      go_wp2_with (first | ((with_reducible refine gate_dst (N := 6) rfl ?_); refine box_event ?hg (N := 6) ?hd (cs := #[.int .i64 0, .int .i64 0, .bool false]) (t := 24) ?hr ?_; (case hd => rfl); (case hg => rfl); (case hr => first | (go_simp; done) | (go_simp; rfl)); intro gb hgb w5 hbox hb5; have HGE := Aside0.mk (show w.heap.size ≤ gb by rw [hgb]; exact Nat.le_refl _); clear hgb; have BK := Aside0.mk hbox; have hT5 := h.below (hb5.block _ hl.1) (hb5.block _ hl.2) (fun k hk => hb5.block _ (hz k hk)); have hcz0 : w5.cell? ⟨gb, 0, none⟩ = some (.int .i64 0) := (blk_cell BK.out 0).trans rfl; have hcz1 : w5.cell? ⟨gb, 1, none⟩ = some (.int .i64 0) := (blk_cell BK.out 1).trans rfl; have hcz2 : w5.cell? ⟨gb, 2, none⟩ = some (.bool false) := (blk_cell BK.out 2).trans rfl; have hfz0 := blk_frozen BK.out 0) | (go_at_call 30; (refine (column.calls hT5 p hp hn).mono ?_); rintro e w1 ⟨rfl, hb1⟩; rw [colA_yes h1]; have hs5 := hb5.size; obtain ⟨A, c, c1, c2, c3, hc, hr, hf⟩ := (hT5.below (hb1.block _ (Nat.lt_of_lt_of_le hl.1 hs5)) (hb1.block _ (Nat.lt_of_lt_of_le hl.2 hs5)) (fun k hk => hb1.block _ (Nat.lt_of_lt_of_le (hz k hk) hs5))).pl h1; have BK1 := Aside0.mk (blk_below BK.out hb1); clear hcz0 hcz1 hcz2 hfz0; have hcz0 : w1.cell? ⟨gb, 0, none⟩ = some (.int .i64 0) := (blk_cell BK1.out 0).trans rfl; have hcz1 : w1.cell? ⟨gb, 1, none⟩ = some (.int .i64 0) := (blk_cell BK1.out 1).trans rfl; have hcz2 : w1.cell? ⟨gb, 2, none⟩ = some (.bool false) := (blk_cell BK1.out 2).trans rfl; have hfz0 := blk_frozen BK1.out 0; have hfz1 := blk_frozen BK1.out 1; have hfz2 := blk_frozen BK1.out 2))
      have e_ : at_ cs p f = ((0, 0, false), false) := by unfold at_; rw [if_neg (by omega)]
      rw [e_]
      refine bodyPost_ret (results_ct rfl _ _ gb 24 #[.int .i64 0, .int .i64 0, .bool false] (0, 0) _ rfl (by refine blk_put (cs := #[.int .i64 0, .int .i64 0, .bool false]) ?_ 2 _ rfl; refine blk_put (cs := #[.int .i64 0, .int .i64 0, .bool false]) ?_ 1 _ rfl; refine blk_put (cs := #[.int .i64 0, .int .i64 0, .bool false]) ?_ 0 _ rfl; exact BK1.out) Try.underlying24 rfl (by kernel_rfl)) rfl ?_
      refine ⟨rfl, ?_⟩
      have hge := HGE.out
      exact below_set (below_set (below_set (below_step hb5 hb1) hge) hge) hge
    · have d1 : decide (f < 0) = false := decide_eq_false h2
      by_cases h3 : f < (cAt cs p).l.length
      · have d2 : decide (f < ((cAt cs p).l.length : Int)) = true := decide_eq_true h3
        go_enter Try.func13, Try.ntmps13
        go_wp2_with (first | ((with_reducible refine gate_dst (N := 6) rfl ?_); refine box_event ?hg (N := 6) ?hd (cs := #[.int .i64 0, .int .i64 0, .bool false]) (t := 24) ?hr ?_; (case hd => rfl); (case hg => rfl); (case hr => first | (go_simp; done) | (go_simp; rfl)); intro gb hgb w5 hbox hb5; have HGE := Aside0.mk (show w.heap.size ≤ gb by rw [hgb]; exact Nat.le_refl _); clear hgb; have BK := Aside0.mk hbox; have hT5 := h.below (hb5.block _ hl.1) (hb5.block _ hl.2) (fun k hk => hb5.block _ (hz k hk)); have hcz0 : w5.cell? ⟨gb, 0, none⟩ = some (.int .i64 0) := (blk_cell BK.out 0).trans rfl; have hcz1 : w5.cell? ⟨gb, 1, none⟩ = some (.int .i64 0) := (blk_cell BK.out 1).trans rfl; have hcz2 : w5.cell? ⟨gb, 2, none⟩ = some (.bool false) := (blk_cell BK.out 2).trans rfl; have hfz0 := blk_frozen BK.out 0) | (go_at_call 30; (refine (column.calls hT5 p hp hn).mono ?_); rintro e w1 ⟨rfl, hb1⟩; rw [colA_yes h1]; have hs5 := hb5.size; obtain ⟨A, c, c1, c2, c3, hc, hr, hf⟩ := (hT5.below (hb1.block _ (Nat.lt_of_lt_of_le hl.1 hs5)) (hb1.block _ (Nat.lt_of_lt_of_le hl.2 hs5)) (fun k hk => hb1.block _ (Nat.lt_of_lt_of_le (hz k hk) hs5))).pl h1; have BK1 := Aside0.mk (blk_below BK.out hb1); clear hcz0 hcz1 hcz2 hfz0; have hcz0 : w1.cell? ⟨gb, 0, none⟩ = some (.int .i64 0) := (blk_cell BK1.out 0).trans rfl; have hcz1 : w1.cell? ⟨gb, 1, none⟩ = some (.int .i64 0) := (blk_cell BK1.out 1).trans rfl; have hcz2 : w1.cell? ⟨gb, 2, none⟩ = some (.bool false) := (blk_cell BK1.out 2).trans rfl; have hfz0 := blk_frozen BK1.out 0; have hfz1 := blk_frozen BK1.out 1; have hfz2 := blk_frozen BK1.out 2; (obtain ⟨ad, rfl, x0, x1, x2⟩ := at_inI (hr _ (fun _ _ => rfl)) f (by omega) h3)))
        have e_ : at_ cs p f = (rdI (cAt cs p).l f, true) := by unfold at_; rw [if_pos ⟨h1, by omega⟩, if_pos h3]
        rw [e_]
        refine bodyPost_ret (results_ct rfl _ _ gb 24 #[.int .i64 (rdI (cAt cs p).l f).1, .int .i64 (rdI (cAt cs p).l f).2.1, .bool (rdI (cAt cs p).l f).2.2] (0, 0) _ rfl (by refine blk_put (cs := #[.int .i64 (rdI (cAt cs p).l f).1, .int .i64 (rdI (cAt cs p).l f).2.1, .bool false]) ?_ 2 _ rfl; refine blk_put (cs := #[.int .i64 (rdI (cAt cs p).l f).1, .int .i64 0, .bool false]) ?_ 1 _ rfl; refine blk_put (cs := #[.int .i64 0, .int .i64 0, .bool false]) ?_ 0 _ rfl; exact BK1.out) Try.underlying24 rfl (by kernel_rfl)) rfl ?_
        refine ⟨rfl, ?_⟩
        have hge := HGE.out
        exact below_set (below_set (below_set (below_step hb5 hb1) hge) hge) hge
      · have d2 : decide (f < ((cAt cs p).l.length : Int)) = false := decide_eq_false h3
        by_cases h4 : (cAt cs p).d = true ∧ (cAt cs p).e ≤ f
        · have d3 : decide ((cAt cs p).e ≤ f) = true := decide_eq_true h4.2
          go_enter Try.func13, Try.ntmps13
          go_wp2_with (first | ((with_reducible refine gate_dst (N := 6) rfl ?_); refine box_event ?hg (N := 6) ?hd (cs := #[.int .i64 0, .int .i64 0, .bool false]) (t := 24) ?hr ?_; (case hd => rfl); (case hg => rfl); (case hr => first | (go_simp; done) | (go_simp; rfl)); intro gb hgb w5 hbox hb5; have HGE := Aside0.mk (show w.heap.size ≤ gb by rw [hgb]; exact Nat.le_refl _); clear hgb; have BK := Aside0.mk hbox; have hT5 := h.below (hb5.block _ hl.1) (hb5.block _ hl.2) (fun k hk => hb5.block _ (hz k hk)); have hcz0 : w5.cell? ⟨gb, 0, none⟩ = some (.int .i64 0) := (blk_cell BK.out 0).trans rfl; have hcz1 : w5.cell? ⟨gb, 1, none⟩ = some (.int .i64 0) := (blk_cell BK.out 1).trans rfl; have hcz2 : w5.cell? ⟨gb, 2, none⟩ = some (.bool false) := (blk_cell BK.out 2).trans rfl; have hfz0 := blk_frozen BK.out 0) | (go_at_call 30; (refine (column.calls hT5 p hp hn).mono ?_); rintro e w1 ⟨rfl, hb1⟩; rw [colA_yes h1]; have hs5 := hb5.size; obtain ⟨A, c, c1, c2, c3, hc, hr, hf⟩ := (hT5.below (hb1.block _ (Nat.lt_of_lt_of_le hl.1 hs5)) (hb1.block _ (Nat.lt_of_lt_of_le hl.2 hs5)) (fun k hk => hb1.block _ (Nat.lt_of_lt_of_le (hz k hk) hs5))).pl h1; have BK1 := Aside0.mk (blk_below BK.out hb1); clear hcz0 hcz1 hcz2 hfz0; have hcz0 : w1.cell? ⟨gb, 0, none⟩ = some (.int .i64 0) := (blk_cell BK1.out 0).trans rfl; have hcz1 : w1.cell? ⟨gb, 1, none⟩ = some (.int .i64 0) := (blk_cell BK1.out 1).trans rfl; have hcz2 : w1.cell? ⟨gb, 2, none⟩ = some (.bool false) := (blk_cell BK1.out 2).trans rfl; have hfz0 := blk_frozen BK1.out 0; have hfz1 := blk_frozen BK1.out 1; have hfz2 := blk_frozen BK1.out 2; (rw [h4.1] at c3)))
          have e_ : at_ cs p f = ((0, 0, false), true) := by unfold at_; rw [if_pos ⟨h1, by omega⟩, if_neg (Int.not_lt.2 h3), if_pos h4]
          rw [e_]
          refine bodyPost_ret (results_ct rfl _ _ gb 24 #[.int .i64 0, .int .i64 0, .bool false] (0, 0) _ rfl (by refine blk_put (cs := #[.int .i64 0, .int .i64 0, .bool false]) ?_ 2 _ rfl; refine blk_put (cs := #[.int .i64 0, .int .i64 0, .bool false]) ?_ 1 _ rfl; refine blk_put (cs := #[.int .i64 0, .int .i64 0, .bool false]) ?_ 0 _ rfl; exact BK1.out) Try.underlying24 rfl (by kernel_rfl)) rfl ?_
          refine ⟨rfl, ?_⟩
          have hge := HGE.out
          exact below_set (below_set (below_set (below_step hb5 hb1) hge) hge) hge
        · by_cases hd : (cAt cs p).d = true
          · have d3 : decide ((cAt cs p).e ≤ f) = false := decide_eq_false (fun x => h4 ⟨hd, x⟩)
            by_cases h5 : (cAt cs p).l.length = 0
            · have d5 : decide (((cAt cs p).l.length : Int) = 0) = true := decide_eq_true (by omega)
              go_enter Try.func13, Try.ntmps13
              go_wp2_with (first | ((with_reducible refine gate_dst (N := 6) rfl ?_); refine box_event ?hg (N := 6) ?hd (cs := #[.int .i64 0, .int .i64 0, .bool false]) (t := 24) ?hr ?_; (case hd => rfl); (case hg => rfl); (case hr => first | (go_simp; done) | (go_simp; rfl)); intro gb hgb w5 hbox hb5; have HGE := Aside0.mk (show w.heap.size ≤ gb by rw [hgb]; exact Nat.le_refl _); clear hgb; have BK := Aside0.mk hbox; have hT5 := h.below (hb5.block _ hl.1) (hb5.block _ hl.2) (fun k hk => hb5.block _ (hz k hk)); have hcz0 : w5.cell? ⟨gb, 0, none⟩ = some (.int .i64 0) := (blk_cell BK.out 0).trans rfl; have hcz1 : w5.cell? ⟨gb, 1, none⟩ = some (.int .i64 0) := (blk_cell BK.out 1).trans rfl; have hcz2 : w5.cell? ⟨gb, 2, none⟩ = some (.bool false) := (blk_cell BK.out 2).trans rfl; have hfz0 := blk_frozen BK.out 0) | (go_at_call 30; (refine (column.calls hT5 p hp hn).mono ?_); rintro e w1 ⟨rfl, hb1⟩; rw [colA_yes h1]; have hs5 := hb5.size; obtain ⟨A, c, c1, c2, c3, hc, hr, hf⟩ := (hT5.below (hb1.block _ (Nat.lt_of_lt_of_le hl.1 hs5)) (hb1.block _ (Nat.lt_of_lt_of_le hl.2 hs5)) (fun k hk => hb1.block _ (Nat.lt_of_lt_of_le (hz k hk) hs5))).pl h1; have BK1 := Aside0.mk (blk_below BK.out hb1); clear hcz0 hcz1 hcz2 hfz0; have hcz0 : w1.cell? ⟨gb, 0, none⟩ = some (.int .i64 0) := (blk_cell BK1.out 0).trans rfl; have hcz1 : w1.cell? ⟨gb, 1, none⟩ = some (.int .i64 0) := (blk_cell BK1.out 1).trans rfl; have hcz2 : w1.cell? ⟨gb, 2, none⟩ = some (.bool false) := (blk_cell BK1.out 2).trans rfl; have hfz0 := blk_frozen BK1.out 0; have hfz1 := blk_frozen BK1.out 1; have hfz2 := blk_frozen BK1.out 2; (rw [hd] at c3)) | (go_at_call 33; (refine (PInputsEnd.input_Guess.calls 0 0 false false _ _ _ _ (guess_eq (0, 0, false) false)).mono ?_); rintro e w2 ⟨rfl, hb2⟩; have BK2 := Aside0.mk (blk_below BK1.out hb2); clear hcz0 hcz1 hcz2 hfz0 hfz1 hfz2; have hcz0 : w2.cell? ⟨gb, 0, none⟩ = some (.int .i64 0) := (blk_cell BK2.out 0).trans rfl; have hcz1 : w2.cell? ⟨gb, 1, none⟩ = some (.int .i64 0) := (blk_cell BK2.out 1).trans rfl; have hcz2 : w2.cell? ⟨gb, 2, none⟩ = some (.bool false) := (blk_cell BK2.out 2).trans rfl; have hfz0 := blk_frozen BK2.out 0; have hfz1 := blk_frozen BK2.out 1; have hfz2 := blk_frozen BK2.out 2))
              have e_ : at_ cs p f = (guessI (0, 0, false) false, false) := by unfold at_; rw [if_pos ⟨h1, by omega⟩, if_neg (Int.not_lt.2 h3), if_neg h4, if_pos h5]
              rw [e_]
              refine bodyPost_ret (results_ct rfl _ _ gb 24 #[.int .i64 (guessI (0, 0, false) false).1, .int .i64 (guessI (0, 0, false) false).2.1, .bool (guessI (0, 0, false) false).2.2] (0, 0) _ rfl (by refine blk_put (cs := #[.int .i64 (guessI (0, 0, false) false).1, .int .i64 (guessI (0, 0, false) false).2.1, .bool false]) ?_ 2 _ rfl; refine blk_put (cs := #[.int .i64 (guessI (0, 0, false) false).1, .int .i64 0, .bool false]) ?_ 1 _ rfl; refine blk_put (cs := #[.int .i64 0, .int .i64 0, .bool false]) ?_ 0 _ rfl; exact BK2.out) Try.underlying24 rfl (by kernel_rfl)) rfl ?_
              refine ⟨rfl, ?_⟩
              have hge := HGE.out
              exact below_set (below_set (below_set (below_step (below_step hb5 hb1) hb2) hge) hge) hge
            · have d5 : decide (((cAt cs p).l.length : Int) = 0) = false := decide_eq_false (by omega)
              obtain ⟨q, hq⟩ : ∃ q : Int, q = (((cAt cs p).l.length : Int) - 1) := ⟨_, rfl⟩
              have d6 : IntKind.i64.wrap (((cAt cs p).l.length : Int) - 1) = q := by rw [IntKind.wrap_i64, hq]; omega
              have d7 : decide (0 ≤ q) = true := decide_eq_true (by omega)
              have d8 : decide (q < ((cAt cs p).l.length : Int)) = true := decide_eq_true (by omega)
              have b7 : 0 ≤ q := by omega
              have b8 : q < ((cAt cs p).l.length : Int) := by omega
              have HQ := Aside0.mk hq
              clear hq
              go_enter Try.func13, Try.ntmps13
              go_wp2_with (first | ((with_reducible refine gate_dst (N := 6) rfl ?_); refine box_event ?hg (N := 6) ?hd (cs := #[.int .i64 0, .int .i64 0, .bool false]) (t := 24) ?hr ?_; (case hd => rfl); (case hg => rfl); (case hr => first | (go_simp; done) | (go_simp; rfl)); intro gb hgb w5 hbox hb5; have HGE := Aside0.mk (show w.heap.size ≤ gb by rw [hgb]; exact Nat.le_refl _); clear hgb; have BK := Aside0.mk hbox; have hT5 := h.below (hb5.block _ hl.1) (hb5.block _ hl.2) (fun k hk => hb5.block _ (hz k hk)); have hcz0 : w5.cell? ⟨gb, 0, none⟩ = some (.int .i64 0) := (blk_cell BK.out 0).trans rfl; have hcz1 : w5.cell? ⟨gb, 1, none⟩ = some (.int .i64 0) := (blk_cell BK.out 1).trans rfl; have hcz2 : w5.cell? ⟨gb, 2, none⟩ = some (.bool false) := (blk_cell BK.out 2).trans rfl; have hfz0 := blk_frozen BK.out 0) | (go_at_call 30; (refine (column.calls hT5 p hp hn).mono ?_); rintro e w1 ⟨rfl, hb1⟩; rw [colA_yes h1]; have hs5 := hb5.size; obtain ⟨A, c, c1, c2, c3, hc, hr, hf⟩ := (hT5.below (hb1.block _ (Nat.lt_of_lt_of_le hl.1 hs5)) (hb1.block _ (Nat.lt_of_lt_of_le hl.2 hs5)) (fun k hk => hb1.block _ (Nat.lt_of_lt_of_le (hz k hk) hs5))).pl h1; have BK1 := Aside0.mk (blk_below BK.out hb1); clear hcz0 hcz1 hcz2 hfz0; have hcz0 : w1.cell? ⟨gb, 0, none⟩ = some (.int .i64 0) := (blk_cell BK1.out 0).trans rfl; have hcz1 : w1.cell? ⟨gb, 1, none⟩ = some (.int .i64 0) := (blk_cell BK1.out 1).trans rfl; have hcz2 : w1.cell? ⟨gb, 2, none⟩ = some (.bool false) := (blk_cell BK1.out 2).trans rfl; have hfz0 := blk_frozen BK1.out 0; have hfz1 := blk_frozen BK1.out 1; have hfz2 := blk_frozen BK1.out 2; (rw [hd] at c3); (obtain ⟨ad, rfl, x0, x1, x2⟩ := at_inI (hr _ (fun _ _ => rfl)) q b7 b8)))
              have hx : ∃ n, (ad.add n).block < w.heap.size := by
                obtain ⟨ad', e', y0, _, _⟩ := at_inI (hr w (fun k hk => ((hb1.block _ (Nat.lt_of_lt_of_le (hz k hk) hb5.size)).trans (hb5.block _ (hz k hk))).symm)) q b7 b8
                obtain rfl := Option.some.inj e'
                exact ⟨_, World.block_lt_of_cell? w _ y0⟩
              have hna : ∀ n, (ad.add n).block ≠ gb := by
                obtain ⟨n0, hn0⟩ := hx
                intro n
                have e1 : (ad.add n).block = (ad.add n0).block := (add_block_ ad n).trans (add_block_ ad n0).symm
                rw [e1]
                exact Nat.ne_of_lt (Nat.lt_of_lt_of_le hn0 HGE.out)
              have hnga : ga ≠ gb := Nat.ne_of_lt (Nat.lt_of_lt_of_le hl.2 HGE.out)
              refine wp_region_held_drew (S := (fun w' => w'.cell? ⟨ga, (p.toNat - 1) * 3, none⟩ = some (.slice (some ad) (cAt cs p).l.length c) ∧ w'.cell? (ad.add (q.toNat * 3)) = some (.int .i64 (rdI (cAt cs p).l q).1) ∧ w'.cell? ⟨(ad.add (q.toNat * 3)).block, (ad.add (q.toNat * 3)).off + 1, none⟩ = some (.int .i64 (rdI (cAt cs p).l q).2.1) ∧ w'.cell? ⟨(ad.add (q.toNat * 3)).block, (ad.add (q.toNat * 3)).off + 2, none⟩ = some (.bool (rdI (cAt cs p).l q).2.2))) (by kernel_rfl) ?_ (fun hHeld => ?_)
              · (exact ⟨c1, x0, x1, x2⟩)
              refine Go.Proofs.Ytkgjokidfbpnbaa.Sep.takeW (i := 0) (v := ?_) rfl rfl (by kernel_rfl) (by kernel_rfl) (by kernel_rfl) (fun _ _ _ h => h) (by rfl) ?_ hHeld ?_
              rotate_left 1
              · (intro w hSw; (try dsimp only at hSw); go_simp <;> (try with_reducible rfl))
              (try simp only [Act.put, List.setIfInBounds_toArray, List.set_cons_zero, List.set_cons_succ])
              refine Go.Proofs.Ytkgjokidfbpnbaa.Sep.takeW (i := 1) (v := ?_) rfl rfl (by kernel_rfl) (by kernel_rfl) (by kernel_rfl) (fun _ _ _ h => h) (by rfl) ?_ hHeld ?_
              rotate_left 1
              · (intro w hSw; (try dsimp only at hSw); go_simp <;> (try with_reducible rfl))
              (try simp only [Act.put, List.setIfInBounds_toArray, List.set_cons_zero, List.set_cons_succ])
              refine Go.Proofs.Ytkgjokidfbpnbaa.Sep.takeW (i := 2) (v := ?_) rfl rfl (by kernel_rfl) (by kernel_rfl) (by kernel_rfl) (fun _ _ _ h => h) (by rfl) ?_ hHeld ?_
              rotate_left 1
              · (intro w hSw; (try dsimp only at hSw); go_simp <;> (try with_reducible rfl))
              (try simp only [Act.put, List.setIfInBounds_toArray, List.set_cons_zero, List.set_cons_succ])
              refine Go.Proofs.Ytkgjokidfbpnbaa.Sep.takeW (i := 3) (v := ?_) rfl rfl (by kernel_rfl) (by kernel_rfl) (by kernel_rfl) (fun _ _ _ h => h) (by rfl) ?_ hHeld ?_
              rotate_left 1
              · (intro w hSw; (try dsimp only at hSw); go_simp <;> (try with_reducible rfl))
              (try simp only [Act.put, List.setIfInBounds_toArray, List.set_cons_zero, List.set_cons_succ])
              refine Go.Proofs.Ytkgjokidfbpnbaa.Sep.takeW (i := 4) (v := ?_) rfl rfl (by kernel_rfl) (by kernel_rfl) (by kernel_rfl) (fun _ _ _ h => h) (by rfl) ?_ hHeld ?_
              rotate_left 1
              · (intro w hSw; (try dsimp only at hSw); go_simp <;> (try with_reducible rfl))
              (try simp only [Act.put, List.setIfInBounds_toArray, List.set_cons_zero, List.set_cons_succ])
              refine Go.Proofs.Ytkgjokidfbpnbaa.Sep.takeW (i := 5) (v := ?_) rfl rfl (by kernel_rfl) (by kernel_rfl) (by kernel_rfl) (fun _ _ _ h => h) (by rfl) ?_ hHeld ?_
              rotate_left 1
              · (intro w hSw; (try dsimp only at hSw); go_simp <;> (try with_reducible rfl))
              (try simp only [Act.put, List.setIfInBounds_toArray, List.set_cons_zero, List.set_cons_succ])
              refine Go.Proofs.Ytkgjokidfbpnbaa.Sep.takeW (i := 6) (v := ?_) rfl rfl (by kernel_rfl) (by kernel_rfl) (by kernel_rfl) (fun _ _ _ h => h) (by rfl) ?_ hHeld ?_
              rotate_left 1
              · (intro w hSw; (try dsimp only at hSw); go_simp <;> (try with_reducible rfl))
              (try simp only [Act.put, List.setIfInBounds_toArray, List.set_cons_zero, List.set_cons_succ])
              refine Go.Proofs.Ytkgjokidfbpnbaa.Sep.takeW (i := 7) (v := ?_) rfl rfl (by kernel_rfl) (by kernel_rfl) (by kernel_rfl) (fun _ _ _ h => h) (by rfl) ?_ hHeld ?_
              rotate_left 1
              · (intro w hSw; (try dsimp only at hSw); go_simp <;> (try with_reducible rfl))
              (try simp only [Act.put, List.setIfInBounds_toArray, List.set_cons_zero, List.set_cons_succ])
              refine Go.Proofs.Ytkgjokidfbpnbaa.Sep.takeW (i := 8) (v := ?_) rfl rfl (by kernel_rfl) (by kernel_rfl) (by kernel_rfl) (fun _ _ _ h => h) (by rfl) ?_ hHeld ?_
              rotate_left 1
              · (intro w hSw; (try dsimp only at hSw); go_simp <;> (try with_reducible rfl))
              (try simp only [Act.put, List.setIfInBounds_toArray, List.set_cons_zero, List.set_cons_succ])
              refine Go.Proofs.Ytkgjokidfbpnbaa.Sep.takeW (i := 9) (v := ?_) rfl rfl (by kernel_rfl) (by kernel_rfl) (by kernel_rfl) (fun _ _ _ h => h) (by rfl) ?_ hHeld ?_
              rotate_left 1
              · (intro w hSw; (try dsimp only at hSw); go_simp <;> (try with_reducible rfl))
              (try simp only [Act.put, List.setIfInBounds_toArray, List.set_cons_zero, List.set_cons_succ])
              refine Go.Proofs.Ytkgjokidfbpnbaa.Sep.takeW (i := 10) (v := ?_) rfl rfl (by kernel_rfl) (by kernel_rfl) (by kernel_rfl) (fun _ _ _ h => h) (by rfl) ?_ hHeld ?_
              rotate_left 1
              · (intro w hSw; (try dsimp only at hSw); go_simp <;> (try with_reducible rfl))
              (try simp only [Act.put, List.setIfInBounds_toArray, List.set_cons_zero, List.set_cons_succ])
              refine Go.Proofs.Ytkgjokidfbpnbaa.Sep.takeW (i := 11) (v := ?_) rfl rfl (by kernel_rfl) (by kernel_rfl) (by kernel_rfl) (fun _ _ _ h => h) (by rfl) ?_ hHeld ?_
              rotate_left 1
              · (intro w hSw; (try dsimp only at hSw); go_simp <;> (try with_reducible rfl))
              (try simp only [Act.put, List.setIfInBounds_toArray, List.set_cons_zero, List.set_cons_succ])
              refine Go.Proofs.Ytkgjokidfbpnbaa.Sep.callC (i := 12) rfl (by kernel_rfl) (by rfl) (fun K hK => ?_)
              clear hHeld
              (go_wp2_with ((go_at_call 33; (refine (PInputsEnd.input_Guess.calls _ _ _ true _ _ _ _ (guess_eq (rdI (cAt cs p).l q) true)).mono ?_); rintro e w2 ⟨rfl, hb2⟩; have BK2 := Aside0.mk (blk_below (w := w1.drew) BK1.out hb2); clear hcz0 hcz1 hcz2 hfz0 hfz1 hfz2; have hcz0 : w2.cell? ⟨gb, 0, none⟩ = some (.int .i64 0) := (blk_cell BK2.out 0).trans rfl; have hcz1 : w2.cell? ⟨gb, 1, none⟩ = some (.int .i64 0) := (blk_cell BK2.out 1).trans rfl; have hcz2 : w2.cell? ⟨gb, 2, none⟩ = some (.bool false) := (blk_cell BK2.out 2).trans rfl; have hfz0 := blk_frozen BK2.out 0; have hfz1 := blk_frozen BK2.out 1; have hfz2 := blk_frozen BK2.out 2; have z1 : w2.cell? _ = _ := pw_cell_below (w := w1.drew) hb2 c1; have y0 : w2.cell? _ = _ := pw_cell_below (w := w1.drew) hb2 x0; have y1 : w2.cell? _ = _ := pw_cell_below (w := w1.drew) hb2 x1; have y2 : w2.cell? _ = _ := pw_cell_below (w := w1.drew) hb2 x2)))
              refine hK.out _ _ ?_ (fun hHeld => ?_)
              · (exact ⟨z1, y0, y1, y2⟩)
              clear hK K
              (try simp only [Act.put, List.setIfInBounds_toArray, List.set_cons_zero, List.set_cons_succ])
              refine Go.Proofs.Ytkgjokidfbpnbaa.Sep.callC (i := 13) rfl (by kernel_rfl) (by rfl) (fun K hK => ?_)
              clear hHeld
              (refine Go.Proofs.Ytkgjokidfbpnbaa.Sep.wp_of_list (ops := #[]) (by rfl) ?_; go_wp2; change K _ _)
              refine hK.out _ _ ?_ (fun hHeld => ?_)
              · (exact ⟨cell_far3 hnga _ _ _ z1, cell_far3 (hna _) _ _ _ y0, cell_far3 (a := ⟨(ad.add (q.toNat * 3)).block, (ad.add (q.toNat * 3)).off + 1, none⟩) (hna _) _ _ _ y1, cell_far3 (a := ⟨(ad.add (q.toNat * 3)).block, (ad.add (q.toNat * 3)).off + 2, none⟩) (hna _) _ _ _ y2⟩)
              clear hK K
              (try simp only [Act.put, List.setIfInBounds_toArray, List.set_cons_zero, List.set_cons_succ])
              refine Go.Proofs.Ytkgjokidfbpnbaa.Sep.takeW (i := 14) (v := ?_) rfl rfl (by kernel_rfl) (by kernel_rfl) (by kernel_rfl) (fun _ _ _ h => h) (by rfl) ?_ hHeld ?_
              rotate_left 1
              · (intro w hSw; (try dsimp only at hSw); go_simp <;> (try with_reducible rfl))
              (try simp only [Act.put, List.setIfInBounds_toArray, List.set_cons_zero, List.set_cons_succ])
              refine wpAnyH_done (by kernel_rfl) ?_ _
              go_wp2
              have e_ : at_ cs p f = (guessI (rdI (cAt cs p).l q) true, false) := by unfold at_; rw [if_pos ⟨h1, by omega⟩, if_neg (Int.not_lt.2 h3), if_neg h4, if_neg h5, HQ.out]
              rw [e_]
              refine bodyPost_ret (results_ct rfl _ _ gb 24 #[.int .i64 (guessI (rdI (cAt cs p).l q) true).1, .int .i64 (guessI (rdI (cAt cs p).l q) true).2.1, .bool (guessI (rdI (cAt cs p).l q) true).2.2] (0, 0) _ rfl (by refine blk_put (cs := #[.int .i64 (guessI (rdI (cAt cs p).l q) true).1, .int .i64 (guessI (rdI (cAt cs p).l q) true).2.1, .bool false]) ?_ 2 _ rfl; refine blk_put (cs := #[.int .i64 (guessI (rdI (cAt cs p).l q) true).1, .int .i64 0, .bool false]) ?_ 1 _ rfl; refine blk_put (cs := #[.int .i64 0, .int .i64 0, .bool false]) ?_ 0 _ rfl; exact BK2.out) Try.underlying24 rfl (by kernel_rfl)) rfl ?_
              refine ⟨rfl, ?_⟩
              have hge := HGE.out
              exact below_set (below_set (below_set (below_step (Below.drew (below_step hb5 hb1)) hb2) hge) hge) hge
          · have hd0 : (cAt cs p).d = false := by simpa using hd
            by_cases h5 : (cAt cs p).l.length = 0
            · have d5 : decide (((cAt cs p).l.length : Int) = 0) = true := decide_eq_true (by omega)
              go_enter Try.func13, Try.ntmps13
              go_wp2_with (first | ((with_reducible refine gate_dst (N := 6) rfl ?_); refine box_event ?hg (N := 6) ?hd (cs := #[.int .i64 0, .int .i64 0, .bool false]) (t := 24) ?hr ?_; (case hd => rfl); (case hg => rfl); (case hr => first | (go_simp; done) | (go_simp; rfl)); intro gb hgb w5 hbox hb5; have HGE := Aside0.mk (show w.heap.size ≤ gb by rw [hgb]; exact Nat.le_refl _); clear hgb; have BK := Aside0.mk hbox; have hT5 := h.below (hb5.block _ hl.1) (hb5.block _ hl.2) (fun k hk => hb5.block _ (hz k hk)); have hcz0 : w5.cell? ⟨gb, 0, none⟩ = some (.int .i64 0) := (blk_cell BK.out 0).trans rfl; have hcz1 : w5.cell? ⟨gb, 1, none⟩ = some (.int .i64 0) := (blk_cell BK.out 1).trans rfl; have hcz2 : w5.cell? ⟨gb, 2, none⟩ = some (.bool false) := (blk_cell BK.out 2).trans rfl; have hfz0 := blk_frozen BK.out 0) | (go_at_call 30; (refine (column.calls hT5 p hp hn).mono ?_); rintro e w1 ⟨rfl, hb1⟩; rw [colA_yes h1]; have hs5 := hb5.size; obtain ⟨A, c, c1, c2, c3, hc, hr, hf⟩ := (hT5.below (hb1.block _ (Nat.lt_of_lt_of_le hl.1 hs5)) (hb1.block _ (Nat.lt_of_lt_of_le hl.2 hs5)) (fun k hk => hb1.block _ (Nat.lt_of_lt_of_le (hz k hk) hs5))).pl h1; have BK1 := Aside0.mk (blk_below BK.out hb1); clear hcz0 hcz1 hcz2 hfz0; have hcz0 : w1.cell? ⟨gb, 0, none⟩ = some (.int .i64 0) := (blk_cell BK1.out 0).trans rfl; have hcz1 : w1.cell? ⟨gb, 1, none⟩ = some (.int .i64 0) := (blk_cell BK1.out 1).trans rfl; have hcz2 : w1.cell? ⟨gb, 2, none⟩ = some (.bool false) := (blk_cell BK1.out 2).trans rfl; have hfz0 := blk_frozen BK1.out 0; have hfz1 := blk_frozen BK1.out 1; have hfz2 := blk_frozen BK1.out 2; (rw [hd0] at c3)) | (go_at_call 33; (refine (PInputsEnd.input_Guess.calls 0 0 false false _ _ _ _ (guess_eq (0, 0, false) false)).mono ?_); rintro e w2 ⟨rfl, hb2⟩; have BK2 := Aside0.mk (blk_below BK1.out hb2); clear hcz0 hcz1 hcz2 hfz0 hfz1 hfz2; have hcz0 : w2.cell? ⟨gb, 0, none⟩ = some (.int .i64 0) := (blk_cell BK2.out 0).trans rfl; have hcz1 : w2.cell? ⟨gb, 1, none⟩ = some (.int .i64 0) := (blk_cell BK2.out 1).trans rfl; have hcz2 : w2.cell? ⟨gb, 2, none⟩ = some (.bool false) := (blk_cell BK2.out 2).trans rfl; have hfz0 := blk_frozen BK2.out 0; have hfz1 := blk_frozen BK2.out 1; have hfz2 := blk_frozen BK2.out 2))
              have e_ : at_ cs p f = (guessI (0, 0, false) false, false) := by unfold at_; rw [if_pos ⟨h1, by omega⟩, if_neg (Int.not_lt.2 h3), if_neg h4, if_pos h5]
              rw [e_]
              refine bodyPost_ret (results_ct rfl _ _ gb 24 #[.int .i64 (guessI (0, 0, false) false).1, .int .i64 (guessI (0, 0, false) false).2.1, .bool (guessI (0, 0, false) false).2.2] (0, 0) _ rfl (by refine blk_put (cs := #[.int .i64 (guessI (0, 0, false) false).1, .int .i64 (guessI (0, 0, false) false).2.1, .bool false]) ?_ 2 _ rfl; refine blk_put (cs := #[.int .i64 (guessI (0, 0, false) false).1, .int .i64 0, .bool false]) ?_ 1 _ rfl; refine blk_put (cs := #[.int .i64 0, .int .i64 0, .bool false]) ?_ 0 _ rfl; exact BK2.out) Try.underlying24 rfl (by kernel_rfl)) rfl ?_
              refine ⟨rfl, ?_⟩
              have hge := HGE.out
              exact below_set (below_set (below_set (below_step (below_step hb5 hb1) hb2) hge) hge) hge
            · have d5 : decide (((cAt cs p).l.length : Int) = 0) = false := decide_eq_false (by omega)
              obtain ⟨q, hq⟩ : ∃ q : Int, q = (((cAt cs p).l.length : Int) - 1) := ⟨_, rfl⟩
              have d6 : IntKind.i64.wrap (((cAt cs p).l.length : Int) - 1) = q := by rw [IntKind.wrap_i64, hq]; omega
              have d7 : decide (0 ≤ q) = true := decide_eq_true (by omega)
              have d8 : decide (q < ((cAt cs p).l.length : Int)) = true := decide_eq_true (by omega)
              have b7 : 0 ≤ q := by omega
              have b8 : q < ((cAt cs p).l.length : Int) := by omega
              have HQ := Aside0.mk hq
              clear hq
              go_enter Try.func13, Try.ntmps13
              go_wp2_with (first | ((with_reducible refine gate_dst (N := 6) rfl ?_); refine box_event ?hg (N := 6) ?hd (cs := #[.int .i64 0, .int .i64 0, .bool false]) (t := 24) ?hr ?_; (case hd => rfl); (case hg => rfl); (case hr => first | (go_simp; done) | (go_simp; rfl)); intro gb hgb w5 hbox hb5; have HGE := Aside0.mk (show w.heap.size ≤ gb by rw [hgb]; exact Nat.le_refl _); clear hgb; have BK := Aside0.mk hbox; have hT5 := h.below (hb5.block _ hl.1) (hb5.block _ hl.2) (fun k hk => hb5.block _ (hz k hk)); have hcz0 : w5.cell? ⟨gb, 0, none⟩ = some (.int .i64 0) := (blk_cell BK.out 0).trans rfl; have hcz1 : w5.cell? ⟨gb, 1, none⟩ = some (.int .i64 0) := (blk_cell BK.out 1).trans rfl; have hcz2 : w5.cell? ⟨gb, 2, none⟩ = some (.bool false) := (blk_cell BK.out 2).trans rfl; have hfz0 := blk_frozen BK.out 0) | (go_at_call 30; (refine (column.calls hT5 p hp hn).mono ?_); rintro e w1 ⟨rfl, hb1⟩; rw [colA_yes h1]; have hs5 := hb5.size; obtain ⟨A, c, c1, c2, c3, hc, hr, hf⟩ := (hT5.below (hb1.block _ (Nat.lt_of_lt_of_le hl.1 hs5)) (hb1.block _ (Nat.lt_of_lt_of_le hl.2 hs5)) (fun k hk => hb1.block _ (Nat.lt_of_lt_of_le (hz k hk) hs5))).pl h1; have BK1 := Aside0.mk (blk_below BK.out hb1); clear hcz0 hcz1 hcz2 hfz0; have hcz0 : w1.cell? ⟨gb, 0, none⟩ = some (.int .i64 0) := (blk_cell BK1.out 0).trans rfl; have hcz1 : w1.cell? ⟨gb, 1, none⟩ = some (.int .i64 0) := (blk_cell BK1.out 1).trans rfl; have hcz2 : w1.cell? ⟨gb, 2, none⟩ = some (.bool false) := (blk_cell BK1.out 2).trans rfl; have hfz0 := blk_frozen BK1.out 0; have hfz1 := blk_frozen BK1.out 1; have hfz2 := blk_frozen BK1.out 2; (rw [hd0] at c3); (obtain ⟨ad, rfl, x0, x1, x2⟩ := at_inI (hr _ (fun _ _ => rfl)) q b7 b8)))
              have hx : ∃ n, (ad.add n).block < w.heap.size := by
                obtain ⟨ad', e', y0, _, _⟩ := at_inI (hr w (fun k hk => ((hb1.block _ (Nat.lt_of_lt_of_le (hz k hk) hb5.size)).trans (hb5.block _ (hz k hk))).symm)) q b7 b8
                obtain rfl := Option.some.inj e'
                exact ⟨_, World.block_lt_of_cell? w _ y0⟩
              have hna : ∀ n, (ad.add n).block ≠ gb := by
                obtain ⟨n0, hn0⟩ := hx
                intro n
                have e1 : (ad.add n).block = (ad.add n0).block := (add_block_ ad n).trans (add_block_ ad n0).symm
                rw [e1]
                exact Nat.ne_of_lt (Nat.lt_of_lt_of_le hn0 HGE.out)
              have hnga : ga ≠ gb := Nat.ne_of_lt (Nat.lt_of_lt_of_le hl.2 HGE.out)
              refine wp_region_held_drew (S := (fun w' => w'.cell? ⟨ga, (p.toNat - 1) * 3, none⟩ = some (.slice (some ad) (cAt cs p).l.length c) ∧ w'.cell? (ad.add (q.toNat * 3)) = some (.int .i64 (rdI (cAt cs p).l q).1) ∧ w'.cell? ⟨(ad.add (q.toNat * 3)).block, (ad.add (q.toNat * 3)).off + 1, none⟩ = some (.int .i64 (rdI (cAt cs p).l q).2.1) ∧ w'.cell? ⟨(ad.add (q.toNat * 3)).block, (ad.add (q.toNat * 3)).off + 2, none⟩ = some (.bool (rdI (cAt cs p).l q).2.2))) (by kernel_rfl) ?_ (fun hHeld => ?_)
              · (exact ⟨c1, x0, x1, x2⟩)
              refine Go.Proofs.Ytkgjokidfbpnbaa.Sep.takeW (i := 0) (v := ?_) rfl rfl (by kernel_rfl) (by kernel_rfl) (by kernel_rfl) (fun _ _ _ h => h) (by rfl) ?_ hHeld ?_
              rotate_left 1
              · (intro w hSw; (try dsimp only at hSw); go_simp <;> (try with_reducible rfl))
              (try simp only [Act.put, List.setIfInBounds_toArray, List.set_cons_zero, List.set_cons_succ])
              refine Go.Proofs.Ytkgjokidfbpnbaa.Sep.takeW (i := 1) (v := ?_) rfl rfl (by kernel_rfl) (by kernel_rfl) (by kernel_rfl) (fun _ _ _ h => h) (by rfl) ?_ hHeld ?_
              rotate_left 1
              · (intro w hSw; (try dsimp only at hSw); go_simp <;> (try with_reducible rfl))
              (try simp only [Act.put, List.setIfInBounds_toArray, List.set_cons_zero, List.set_cons_succ])
              refine Go.Proofs.Ytkgjokidfbpnbaa.Sep.takeW (i := 2) (v := ?_) rfl rfl (by kernel_rfl) (by kernel_rfl) (by kernel_rfl) (fun _ _ _ h => h) (by rfl) ?_ hHeld ?_
              rotate_left 1
              · (intro w hSw; (try dsimp only at hSw); go_simp <;> (try with_reducible rfl))
              (try simp only [Act.put, List.setIfInBounds_toArray, List.set_cons_zero, List.set_cons_succ])
              refine Go.Proofs.Ytkgjokidfbpnbaa.Sep.takeW (i := 3) (v := ?_) rfl rfl (by kernel_rfl) (by kernel_rfl) (by kernel_rfl) (fun _ _ _ h => h) (by rfl) ?_ hHeld ?_
              rotate_left 1
              · (intro w hSw; (try dsimp only at hSw); go_simp <;> (try with_reducible rfl))
              (try simp only [Act.put, List.setIfInBounds_toArray, List.set_cons_zero, List.set_cons_succ])
              refine Go.Proofs.Ytkgjokidfbpnbaa.Sep.takeW (i := 4) (v := ?_) rfl rfl (by kernel_rfl) (by kernel_rfl) (by kernel_rfl) (fun _ _ _ h => h) (by rfl) ?_ hHeld ?_
              rotate_left 1
              · (intro w hSw; (try dsimp only at hSw); go_simp <;> (try with_reducible rfl))
              (try simp only [Act.put, List.setIfInBounds_toArray, List.set_cons_zero, List.set_cons_succ])
              refine Go.Proofs.Ytkgjokidfbpnbaa.Sep.takeW (i := 5) (v := ?_) rfl rfl (by kernel_rfl) (by kernel_rfl) (by kernel_rfl) (fun _ _ _ h => h) (by rfl) ?_ hHeld ?_
              rotate_left 1
              · (intro w hSw; (try dsimp only at hSw); go_simp <;> (try with_reducible rfl))
              (try simp only [Act.put, List.setIfInBounds_toArray, List.set_cons_zero, List.set_cons_succ])
              refine Go.Proofs.Ytkgjokidfbpnbaa.Sep.takeW (i := 6) (v := ?_) rfl rfl (by kernel_rfl) (by kernel_rfl) (by kernel_rfl) (fun _ _ _ h => h) (by rfl) ?_ hHeld ?_
              rotate_left 1
              · (intro w hSw; (try dsimp only at hSw); go_simp <;> (try with_reducible rfl))
              (try simp only [Act.put, List.setIfInBounds_toArray, List.set_cons_zero, List.set_cons_succ])
              refine Go.Proofs.Ytkgjokidfbpnbaa.Sep.takeW (i := 7) (v := ?_) rfl rfl (by kernel_rfl) (by kernel_rfl) (by kernel_rfl) (fun _ _ _ h => h) (by rfl) ?_ hHeld ?_
              rotate_left 1
              · (intro w hSw; (try dsimp only at hSw); go_simp <;> (try with_reducible rfl))
              (try simp only [Act.put, List.setIfInBounds_toArray, List.set_cons_zero, List.set_cons_succ])
              refine Go.Proofs.Ytkgjokidfbpnbaa.Sep.takeW (i := 8) (v := ?_) rfl rfl (by kernel_rfl) (by kernel_rfl) (by kernel_rfl) (fun _ _ _ h => h) (by rfl) ?_ hHeld ?_
              rotate_left 1
              · (intro w hSw; (try dsimp only at hSw); go_simp <;> (try with_reducible rfl))
              (try simp only [Act.put, List.setIfInBounds_toArray, List.set_cons_zero, List.set_cons_succ])
              refine Go.Proofs.Ytkgjokidfbpnbaa.Sep.takeW (i := 9) (v := ?_) rfl rfl (by kernel_rfl) (by kernel_rfl) (by kernel_rfl) (fun _ _ _ h => h) (by rfl) ?_ hHeld ?_
              rotate_left 1
              · (intro w hSw; (try dsimp only at hSw); go_simp <;> (try with_reducible rfl))
              (try simp only [Act.put, List.setIfInBounds_toArray, List.set_cons_zero, List.set_cons_succ])
              refine Go.Proofs.Ytkgjokidfbpnbaa.Sep.takeW (i := 10) (v := ?_) rfl rfl (by kernel_rfl) (by kernel_rfl) (by kernel_rfl) (fun _ _ _ h => h) (by rfl) ?_ hHeld ?_
              rotate_left 1
              · (intro w hSw; (try dsimp only at hSw); go_simp <;> (try with_reducible rfl))
              (try simp only [Act.put, List.setIfInBounds_toArray, List.set_cons_zero, List.set_cons_succ])
              refine Go.Proofs.Ytkgjokidfbpnbaa.Sep.takeW (i := 11) (v := ?_) rfl rfl (by kernel_rfl) (by kernel_rfl) (by kernel_rfl) (fun _ _ _ h => h) (by rfl) ?_ hHeld ?_
              rotate_left 1
              · (intro w hSw; (try dsimp only at hSw); go_simp <;> (try with_reducible rfl))
              (try simp only [Act.put, List.setIfInBounds_toArray, List.set_cons_zero, List.set_cons_succ])
              refine Go.Proofs.Ytkgjokidfbpnbaa.Sep.callC (i := 12) rfl (by kernel_rfl) (by rfl) (fun K hK => ?_)
              clear hHeld
              (go_wp2_with ((go_at_call 33; (refine (PInputsEnd.input_Guess.calls _ _ _ true _ _ _ _ (guess_eq (rdI (cAt cs p).l q) true)).mono ?_); rintro e w2 ⟨rfl, hb2⟩; have BK2 := Aside0.mk (blk_below (w := w1.drew) BK1.out hb2); clear hcz0 hcz1 hcz2 hfz0 hfz1 hfz2; have hcz0 : w2.cell? ⟨gb, 0, none⟩ = some (.int .i64 0) := (blk_cell BK2.out 0).trans rfl; have hcz1 : w2.cell? ⟨gb, 1, none⟩ = some (.int .i64 0) := (blk_cell BK2.out 1).trans rfl; have hcz2 : w2.cell? ⟨gb, 2, none⟩ = some (.bool false) := (blk_cell BK2.out 2).trans rfl; have hfz0 := blk_frozen BK2.out 0; have hfz1 := blk_frozen BK2.out 1; have hfz2 := blk_frozen BK2.out 2; have z1 : w2.cell? _ = _ := pw_cell_below (w := w1.drew) hb2 c1; have y0 : w2.cell? _ = _ := pw_cell_below (w := w1.drew) hb2 x0; have y1 : w2.cell? _ = _ := pw_cell_below (w := w1.drew) hb2 x1; have y2 : w2.cell? _ = _ := pw_cell_below (w := w1.drew) hb2 x2)))
              refine hK.out _ _ ?_ (fun hHeld => ?_)
              · (exact ⟨z1, y0, y1, y2⟩)
              clear hK K
              (try simp only [Act.put, List.setIfInBounds_toArray, List.set_cons_zero, List.set_cons_succ])
              refine Go.Proofs.Ytkgjokidfbpnbaa.Sep.callC (i := 13) rfl (by kernel_rfl) (by rfl) (fun K hK => ?_)
              clear hHeld
              (refine Go.Proofs.Ytkgjokidfbpnbaa.Sep.wp_of_list (ops := #[]) (by rfl) ?_; go_wp2; change K _ _)
              refine hK.out _ _ ?_ (fun hHeld => ?_)
              · (exact ⟨cell_far3 hnga _ _ _ z1, cell_far3 (hna _) _ _ _ y0, cell_far3 (a := ⟨(ad.add (q.toNat * 3)).block, (ad.add (q.toNat * 3)).off + 1, none⟩) (hna _) _ _ _ y1, cell_far3 (a := ⟨(ad.add (q.toNat * 3)).block, (ad.add (q.toNat * 3)).off + 2, none⟩) (hna _) _ _ _ y2⟩)
              clear hK K
              (try simp only [Act.put, List.setIfInBounds_toArray, List.set_cons_zero, List.set_cons_succ])
              refine Go.Proofs.Ytkgjokidfbpnbaa.Sep.takeW (i := 14) (v := ?_) rfl rfl (by kernel_rfl) (by kernel_rfl) (by kernel_rfl) (fun _ _ _ h => h) (by rfl) ?_ hHeld ?_
              rotate_left 1
              · (intro w hSw; (try dsimp only at hSw); go_simp <;> (try with_reducible rfl))
              (try simp only [Act.put, List.setIfInBounds_toArray, List.set_cons_zero, List.set_cons_succ])
              refine wpAnyH_done (by kernel_rfl) ?_ _
              go_wp2
              have e_ : at_ cs p f = (guessI (rdI (cAt cs p).l q) true, false) := by unfold at_; rw [if_pos ⟨h1, by omega⟩, if_neg (Int.not_lt.2 h3), if_neg h4, if_neg h5, HQ.out]
              rw [e_]
              refine bodyPost_ret (results_ct rfl _ _ gb 24 #[.int .i64 (guessI (rdI (cAt cs p).l q) true).1, .int .i64 (guessI (rdI (cAt cs p).l q) true).2.1, .bool (guessI (rdI (cAt cs p).l q) true).2.2] (0, 0) _ rfl (by refine blk_put (cs := #[.int .i64 (guessI (rdI (cAt cs p).l q) true).1, .int .i64 (guessI (rdI (cAt cs p).l q) true).2.1, .bool false]) ?_ 2 _ rfl; refine blk_put (cs := #[.int .i64 (guessI (rdI (cAt cs p).l q) true).1, .int .i64 0, .bool false]) ?_ 1 _ rfl; refine blk_put (cs := #[.int .i64 0, .int .i64 0, .bool false]) ?_ 0 _ rfl; exact BK2.out) Try.underlying24 rfl (by kernel_rfl)) rfl ?_
              refine ⟨rfl, ?_⟩
              have hge := HGE.out
              exact below_set (below_set (below_set (below_step (Below.drew (below_step hb5 hb1)) hb2) hge) hge) hge
  · skip
    go_enter Try.func13, Try.ntmps13
    go_wp2_with (first | ((with_reducible refine gate_dst (N := 6) rfl ?_); refine box_event ?hg (N := 6) ?hd (cs := #[.int .i64 0, .int .i64 0, .bool false]) (t := 24) ?hr ?_; (case hd => rfl); (case hg => rfl); (case hr => first | (go_simp; done) | (go_simp; rfl)); intro gb hgb w5 hbox hb5; have HGE := Aside0.mk (show w.heap.size ≤ gb by rw [hgb]; exact Nat.le_refl _); clear hgb; have BK := Aside0.mk hbox; have hT5 := h.below (hb5.block _ hl.1) (hb5.block _ hl.2) (fun k hk => hb5.block _ (hz k hk)); have hcz0 : w5.cell? ⟨gb, 0, none⟩ = some (.int .i64 0) := (blk_cell BK.out 0).trans rfl; have hcz1 : w5.cell? ⟨gb, 1, none⟩ = some (.int .i64 0) := (blk_cell BK.out 1).trans rfl; have hcz2 : w5.cell? ⟨gb, 2, none⟩ = some (.bool false) := (blk_cell BK.out 2).trans rfl; have hfz0 := blk_frozen BK.out 0) | (go_at_call 30; (refine (column.calls hT5 p hp hn).mono ?_); rintro e w1 ⟨rfl, hb1⟩; rw [colA_no h1]; have BK1 := Aside0.mk (blk_below BK.out hb1); clear hcz0 hcz1 hcz2 hfz0; have hcz0 : w1.cell? ⟨gb, 0, none⟩ = some (.int .i64 0) := (blk_cell BK1.out 0).trans rfl; have hcz1 : w1.cell? ⟨gb, 1, none⟩ = some (.int .i64 0) := (blk_cell BK1.out 1).trans rfl; have hcz2 : w1.cell? ⟨gb, 2, none⟩ = some (.bool false) := (blk_cell BK1.out 2).trans rfl; have hfz0 := blk_frozen BK1.out 0; have hfz1 := blk_frozen BK1.out 1; have hfz2 := blk_frozen BK1.out 2))
    have e_ : at_ cs p f = ((0, 0, false), false) := by unfold at_; rw [if_neg (fun x => h1 x.1)]
    rw [e_]
    refine bodyPost_ret (results_ct rfl _ _ gb 24 #[.int .i64 0, .int .i64 0, .bool false] (0, 0) _ rfl (by refine blk_put (cs := #[.int .i64 0, .int .i64 0, .bool false]) ?_ 2 _ rfl; refine blk_put (cs := #[.int .i64 0, .int .i64 0, .bool false]) ?_ 1 _ rfl; refine blk_put (cs := #[.int .i64 0, .int .i64 0, .bool false]) ?_ 0 _ rfl; exact BK1.out) Try.underlying24 rfl (by kernel_rfl)) rfl ?_
    refine ⟨rfl, ?_⟩
    have hge := HGE.out
    exact below_set (below_set (below_set (below_step hb5 hb1) hge) hge) hge
end Go.Proofs.Ytkgjokidfbpnbaa.InW
