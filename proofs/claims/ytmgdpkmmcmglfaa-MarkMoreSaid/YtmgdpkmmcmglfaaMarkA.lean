/- Lines in memory; a map of pointers as a part. No condition. -/
import Derived.Test.YtmgdpkmmcmglfaaRules
import Derived.Maps.Own
import Derived.Maps.Views
namespace Go.Proofs.Ytmgdpkmmcmglfaa.MarkW
open Go Go.RowKit Go.Proofs.YtmgdpkmmcmglfaaW.PrintWords Go.Proofs.YtmgdpkmmcmglfaaW.PrintLast Go.Proofs.YtmgdpkmmcmglfaaW.PrintMore Go.Proofs.Ytmgdpkmmcmglfaa.Sep
set_option linter.unusedVariables false
set_option linter.unusedSimpArgs false
abbrev I64 (x : Int) : Prop := -9223372036854775808 ≤ x ∧ x ≤ 9223372036854775807
/-! #### pointers -/
def encP : Option Nat → Int
  | none => -1
  | some g => g
def ptrV (o : Option Nat) : Value := .pointer (o.map fun g => ⟨g, 0, none⟩)
def ptrE : Value → Option (DataW Unit × List MemPlace)
  | .pointer none => some (.lit (.int .i64 (-1)), [])
  | .pointer (some a) => if a = ⟨a.block, 0, none⟩ then some (.lit (.int .i64 a.block), []) else none
  | _ => none
theorem ptrE_mk (o : Option Nat) : ptrE (ptrV o) = some (.lit (.int .i64 (encP o)), []) := by
  cases o with
  | none => rfl
  | some g => simp [ptrV, ptrE, encP]
theorem ptrE_inv {v : Value} {o : Option Nat} {ps : List MemPlace} (h : ptrE v = some (.lit (.int .i64 (encP o)), ps)) : v = ptrV o := by
  unfold ptrE at h
  split at h
  · cases o with
    | none => rfl
    | some g => simp [encP] at h
  · rename_i a
    split at h
    · rename_i ha
      cases o with
      | none => simp [encP] at h
      | some g =>
        simp [encP] at h
        have : a.block = g := by have := h.1; omega
        subst this
        show Value.pointer (some a) = .pointer (some ⟨a.block, 0, none⟩)
        rw [← ha]
    · cases h
  · cases h
theorem encP_inj {a b : Option Nat} (h : encP a = encP b) : a = b := by
  cases a <;> cases b <;> simp [encP] at h ⊢ <;> omega
/-! #### a map of pointers -/
def mapA (b n : Nat) (m : Int → Option Nat) : Asr where
  P w S := (∀ k, S k → k < w.heap.size) ∧ S b ∧ ∃ D, w.ownsMap Try.prog 3 ptrE b n D ∧ Maps.IsMap D ∧ ∀ x : Int, D.atKey (.int .i64 x) (.lit (.int .i64 (-1))) = .lit (.int .i64 (encP (m x)))
  loc := by
    rintro w w' S ⟨h1, h2, D, ⟨es, clock, hb, F, hs, hD⟩, h3⟩ hz hs2
    exact ⟨fun k hk => Nat.lt_of_lt_of_le (h1 k hk) hz, h2, D, ⟨es, clock, (hs2 b h2).trans hb, F, hs, hD⟩, h3⟩
  lt := fun h => h.1
theorem wf64 {x : Int} (h : I64 x) : (Lit.int .i64 x).wf = true := by
  simp only [Lit.wf, IntKind.min, IntKind.max, IntKind.signed, IntKind.bits, Bool.and_eq_true, decide_eq_true_eq, if_true]
  constructor
  · simpa using h.1
  · have : x ≤ 2 ^ (64 - 1) - 1 := by have := h.2; omega
    simpa using this
theorem keyed : Maps.Keyed Try.prog 3 := Maps.int_keyed Try.underlying3
theorem key_of {x : Int} (h : I64 x) : keyOf Try.prog 3 (.int .i64 x) = some (.int .i64 x) := Maps.keyOf_int_mk Try.underlying3 (wf64 h)
section
variable {w0 w : World} {base b n : Nat} {m : Int → Option Nat} {F : List Asr}
theorem map_new (h : Has w0 base w F) : Has w0 base (w.alloc (.map #[] 0)) (mapA w.heap.size 0 (fun _ => none) :: F) :=
  h.new (S' := fun k => k = w.heap.size) (below_alloc (Below.refl _ _) _) ⟨fun k hk => by rw [hk]; simp, rfl, .map [], World.ownsMap_made _ _ _ _, Maps.isMap_empty, fun x => rfl⟩ (fun k hk => by rw [hk]; exact Nat.le_refl _)
theorem zeroP (w : World) : (zeroValue 60).run Try.prog w = .ok (.pointer none) w := by kernel_rfl
theorem map_look (h : Has w0 base w (mapA b n m :: F)) {x : Int} (hx : I64 x) : (Instr.lookup 56 (.map (some b)) (.int .i64 x) false).run Try.prog w = .ok (ptrV (m x)) w := by
  obtain ⟨S, ⟨h1, h2, D, hD, hI, h3⟩, _⟩ := h.first
  obtain ⟨v, ps, hr, hv⟩ := hD.lookup keyed Try.underlying56 (zeroP w) (zd := .lit (.int .i64 (-1))) (zp := []) rfl (key_of hx)
  rw [h3 x] at hv
  rw [hr, ptrE_inv hv]
theorem map_put (h : Has w0 base w (mapA b n m :: F)) (hn : n < 100000) {x : Int} (hx : I64 x) (g : Nat) : ∃ w', (Instr.mapUpdate 56 (.map (some b)) (.int .i64 x) (ptrV (some g))).run Try.prog w = .ok () w' ∧ Has w0 base w' (mapA b (n + 1) (fun y => if y = x then some g else m y) :: F) := by
  obtain ⟨S, ⟨h1, h2, D, hD, hI, h3⟩, hS, hout⟩ := h.out
  obtain ⟨w', hr, hD', hg⟩ := hD.update keyed Try.underlying56 (by unfold maxLen; omega) (key_of hx) (ptrE_mk (some g))
  refine ⟨w', hr, hout w' _ S (Below.grown h.below hg h.le (fun k hk => by obtain rfl := Option.some.inj hk; exact hS _ h2)) hg.size ⟨fun k hk => Nat.lt_of_lt_of_le (h1 k hk) hg.size, h2, _, hD', hI.put _ _, fun y => ?_⟩ (fun k hk => .inl hk) (fun k hk hn => hg.block k hk (fun e => hn (by obtain rfl := Option.some.inj e; exact h2)))⟩
  by_cases e : y = x
  · subst e
    dsimp only
    rw [if_pos rfl]
    exact Maps.atKey_put_same (k := .int .i64 y) hI True.intro _ _
  · dsimp only
    rw [if_neg e]
    rw [Maps.atKey_put_other (fun h => e (by cases h; rfl))]
    exact h3 y
end
theorem wp_mapPut {ops : Array Oper} {rest : List Oper} {o : Oper} {a : Act} {Q : Exit → Act → World → Prop} {w0 w : World} {base b n : Nat} {m : Int → Option Nat} {F : List Asr}
    (hg : o.guard = none) (p q v : Operand) (hop : o.op = Op.mapUpdate 56 p q v) (g : Nat) (x : Int) (hm : a.eval p = .map (some b)) (hx : a.eval q = .int .i64 x) (hv : a.eval v = .pointer (some ⟨g, 0, none⟩))
    (h : Has w0 base w (mapA b n m :: F)) (hn : n < 100000) (hI : I64 x)
    (hK : ∀ w', Has w0 base w' (mapA b (n + 1) (fun y => if y = x then some g else m y) :: F) → wpList Try.prog ops Q rest (a.put o.dst undef) w') : wpList Try.prog ops Q (o :: rest) a w := by
  refine wpList_plain hg fun K' hK' => ?_
  obtain ⟨w', hrun, hH⟩ := map_put h hn hI g
  have hrun' : (Instr.mapUpdate 56 (.map (some b)) (.int .i64 x) (.pointer (some ⟨g, 0, none⟩))).run Try.prog w = .ok () w' := hrun
  unfold Oper.wp
  simp [execOp, hop, hm, hx, hv, hrun', Result.andThen]
  exact hK' _ _ (hK w' hH)
/-! #### lines -/
abbrev Line := Int × Int × List Bool × List (List Bool)
def kline : Kd Line := Kd.pair (Kd.int .i64) (Kd.pair (Kd.int .i64) (Kd.pair (Kd.slice 4 Kd.bool) (Kd.slice 41 (Kd.slice 4 Kd.bool))))
theorem at_line {w : World} {A : Option Addr} {n : Nat} {l : List Line} (h : Kd.C kline w A n l) (j : Nat) (hj : j < l.length) : ∃ ad A2 c2 A3 c3, A = some ad ∧ w.cell? (ad.add (j * 4)) = some (.int .i64 l[j].1) ∧ w.cell? ⟨(ad.add (j * 4)).block, (ad.add (j * 4)).off + 1, none⟩ = some (.int .i64 l[j].2.1) ∧ w.cell? ⟨(ad.add (j * 4)).block, (ad.add (j * 4)).off + 2, none⟩ = some (.slice A2 l[j].2.2.1.length c2) ∧ w.cell? ⟨(ad.add (j * 4)).block, (ad.add (j * 4)).off + 3, none⟩ = some (.slice A3 l[j].2.2.2.length c3) ∧ l[j].2.2.1.length ≤ c2 ∧ Kd.C Kd.bool w A2 l[j].2.2.1.length l[j].2.2.1 ∧ l[j].2.2.2.length ≤ c3 ∧ Kd.C (Kd.slice 4 Kd.bool) w A3 l[j].2.2.2.length l[j].2.2.2 := by
  obtain ⟨hl, _, hn⟩ := h
  obtain ⟨ad, rfl, hc⟩ := hn (by omega)
  obtain ⟨cs, hcs, hK, hcc⟩ := hc j l[j] (List.getElem?_eq_getElem hj)
  obtain ⟨_, _, rfl, rfl, ⟨_, _, rfl, rfl, ⟨_, _, rfl, ⟨A2, c2, rfl, l2, g2⟩, ⟨A3, c3, rfl, l3, g3⟩⟩⟩⟩ := hK
  have hc1 : ∀ j' u, ([Value.int .i64 l[j].1, .int .i64 l[j].2.1, .slice A2 l[j].2.2.1.length c2, .slice A3 l[j].2.2.2.length c3] : List Value)[j']? = some u → w.cell? (ad.add (j * 4 + j')) = some u := hcc
  exact ⟨ad, A2, c2, A3, c3, rfl, hc1 0 _ rfl, by rw [← add_field _ _ 1 (by omega)]; exact hc1 1 _ rfl, by rw [← add_field _ _ 2 (by omega)]; exact hc1 2 _ rfl, by rw [← add_field _ _ 3 (by omega)]; exact hc1 3 _ rfl, l2, g2, l3, g3⟩
/-- a line that was made: where, what of, its near regions, how far it is sure -/
structure LineS where
  g : Nat
  x : Line
  near : List Int
  sure : Int
def LineS.steps (s : LineS) : Int := if (s.x.2.2.2.length : Int) < s.x.2.2.1.length then s.x.2.2.2.length else s.x.2.2.1.length
def lineA (w0 : World) (s : LineS) : Asr where
  P w S := (∀ k, S k → k < w.heap.size) ∧ S s.g ∧ ∃ A2 c2 A3 c3 A4 c4, w.heap[s.g]? = some (.cells #[.int .i64 s.x.1, .int .i64 s.x.2.1, .slice A2 s.x.2.2.1.length c2, .slice A3 s.x.2.2.2.length c3, .slice A4 s.near.length c4, .int .i64 s.steps, .int .i64 s.sure] 63 (0, 0)) ∧ s.x.2.2.1.length ≤ c2 ∧ Kd.C Kd.bool w0 A2 s.x.2.2.1.length s.x.2.2.1 ∧ s.x.2.2.2.length ≤ c3 ∧ Kd.C (Kd.slice 4 Kd.bool) w0 A3 s.x.2.2.2.length s.x.2.2.2 ∧ s.near.length ≤ c4 ∧ (∀ w' : World, (∀ k, S k ∧ k ≠ s.g → w'.heap[k]? = w.heap[k]?) → Kd.C (Kd.int .i64) w' A4 s.near.length s.near)
  loc := by
    rintro w w' S ⟨h1, h2, A2, c2, A3, c3, A4, c4, h3, h4, h5, h6, h7, h8, h9⟩ hz hs
    exact ⟨fun k hk => Nat.lt_of_lt_of_le (h1 k hk) hz, h2, A2, c2, A3, c3, A4, c4, (hs _ h2).trans h3, h4, h5, h6, h7, h8, fun w2 h => h9 w2 (fun k hk => (h k hk).trans (hs k hk.1))⟩
  lt := fun h => h.1
section
variable {w0 w : World} {base : Nat} {s : LineS} {F : List Asr}
theorem line_open (h : Has w0 base w (lineA w0 s :: F)) (hb : w0.heap.size ≤ base) : ∃ A2 c2 A3 c3 A4 c4, w.heap[s.g]? = some (.cells #[.int .i64 s.x.1, .int .i64 s.x.2.1, .slice A2 s.x.2.2.1.length c2, .slice A3 s.x.2.2.2.length c3, .slice A4 s.near.length c4, .int .i64 s.steps, .int .i64 s.sure] 63 (0, 0)) ∧ s.x.2.2.1.length ≤ c2 ∧ Kd.C Kd.bool w A2 s.x.2.2.1.length s.x.2.2.1 ∧ s.x.2.2.2.length ≤ c3 ∧ Kd.C (Kd.slice 4 Kd.bool) w A3 s.x.2.2.2.length s.x.2.2.2 ∧ s.near.length ≤ c4 ∧ Kd.C (Kd.int .i64) w A4 s.near.length s.near := by
  obtain ⟨S, ⟨h1, h2, A2, c2, A3, c3, A4, c4, h3, h4, h5, h6, h7, h8, h9⟩, _⟩ := h.first
  exact ⟨A2, c2, A3, c3, A4, c4, h3, h4, h.came hb h5, h6, h.came hb h7, h8, h9 w (fun _ _ => rfl)⟩
theorem line_set (h : Has w0 base w (lineA w0 s :: F)) (v : Int) : Has w0 base (w.setCell ⟨s.g, 6, none⟩ (.int .i64 v)) (lineA w0 { s with sure := v } :: F) := by
  obtain ⟨S, ⟨h1, h2, A2, c2, A3, c3, A4, c4, h3, h4, h5, h6, h7, h8, h9⟩, hS, hout⟩ := h.out
  have hsz : (w.setCell ⟨s.g, 6, none⟩ (.int .i64 v)).heap.size = w.heap.size := by simp [World.setCell]
  refine hout _ _ S (h.below.setCell (hS _ h2) _) (by rw [hsz]; exact Nat.le_refl _) ⟨fun k hk => by rw [hsz]; exact h1 k hk, h2, A2, c2, A3, c3, A4, c4, blk_put h3 6 _ rfl, h4, h5, h6, h7, h8, fun w2 hw => h9 w2 (fun k hk => (hw k hk).trans (Below.heap_setCell w ⟨s.g, 6, none⟩ _ k hk.2))⟩ (fun k hk => .inl hk) (fun k hk hn => Below.heap_setCell w ⟨s.g, 6, none⟩ _ k (fun e => hn (by rw [e]; exact h2)))
theorem line_new {A2 A3 A4 : Option Addr} {c2 c3 c4 n : Nat} (h : Has w0 base w (blk s.g (.cells #[.int .i64 s.x.1, .int .i64 s.x.2.1, .slice A2 s.x.2.2.1.length c2, .slice A3 s.x.2.2.2.length c3, .slice A4 n c4, .int .i64 s.steps, .int .i64 s.sure] 63 (0, 0)) :: row (Kd.int .i64) 3 (.slice A4 n c4) s.near :: F)) (h4 : s.x.2.2.1.length ≤ c2) (h5 : Kd.C Kd.bool w0 A2 s.x.2.2.1.length s.x.2.2.1) (h6 : s.x.2.2.2.length ≤ c3) (h7 : Kd.C (Kd.slice 4 Kd.bool) w0 A3 s.x.2.2.2.length s.x.2.2.2) : Has w0 base w (lineA w0 s :: F) := by
  refine h.merge (C := lineA w0 s) ?_
  rintro w S1 S2 hd ⟨a1, a2, a3⟩ ⟨b1, b2⟩
  obtain ⟨e1, e2, e3⟩ := Kd.R_reads' b1
  refine ⟨?_, .inl a2, A2, c2, A3, c3, A4, c4, by rw [← e1]; exact a1, h4, h5, h6, h7, by omega, fun w2 hw => ?_⟩
  · rintro k (hk | hk)
    · exact a3 k hk
    · exact b2 k hk
  · have := Kd.R_move b1 (w1 := w2) (fun k hk => hw k ⟨.inr hk, fun e => hd k (by rw [e]; exact a2) hk⟩)
    exact (Kd.R_reads' this).2.2
end
/-- all lines that are lines -/
def lns (w0 : World) (ms : List (Option LineS)) : List Asr := (ms.filterMap id).map (lineA w0)
theorem lns_cut {w0 : World} {ms : List (Option LineS)} {j : Nat} {s : LineS} (hj : ms[j]? = some (some s)) : (lns w0 ms).Perm (lineA w0 s :: lns w0 (ms.take j ++ ms.drop (j + 1))) := by
  have hl := (List.getElem?_eq_some_iff.1 hj).1
  have e : ms = ms.take j ++ some s :: ms.drop (j + 1) := by
    have h1 : ms[j] = some s := (List.getElem?_eq_some_iff.1 hj).2
    rw [← h1, ← List.drop_eq_getElem_cons hl, List.take_append_drop]
  unfold lns
  conv => lhs; rw [e]
  simp only [List.filterMap_append, List.filterMap_cons, id, List.map_append, List.map_cons]
  exact List.perm_middle
theorem lns_set {w0 : World} {ms : List (Option LineS)} {j : Nat} (s : LineS) (hj : j < ms.length) : (lns w0 (ms.set j (some s))).Perm (lineA w0 s :: lns w0 (ms.take j ++ ms.drop (j + 1))) := by
  have h1 : (ms.set j (some s))[j]? = some (some s) := by simp [hj]
  have := lns_cut (w0 := w0) h1
  rwa [List.take_set_of_le (Nat.le_refl _), List.drop_set_of_lt (by omega)] at this
theorem lines_out {w0 w : World} {base : Nat} {ms : List (Option LineS)} {j : Nat} {s : LineS} (F : List Asr) (hj : ms[j]? = some (some s)) (h : Has w0 base w (F ++ lns w0 ms)) : Has w0 base w (lineA w0 s :: (F ++ lns w0 (ms.take j ++ ms.drop (j + 1)))) :=
  h.perm (((List.Perm.append_left F (lns_cut hj)).trans List.perm_middle))
theorem lines_in {w0 w : World} {base : Nat} {ms : List (Option LineS)} {j : Nat} {s : LineS} (F : List Asr) (hj : j < ms.length) (h : Has w0 base w (lineA w0 s :: (F ++ lns w0 (ms.take j ++ ms.drop (j + 1))))) : Has w0 base w (F ++ lns w0 (ms.set j (some s))) :=
  h.perm (((List.Perm.append_left F (lns_set s hj)).trans List.perm_middle).symm)
/-- the first line of a region -/
def firstL (ms : List (Option LineS)) (q : Int) : Option LineS := (ms.filterMap id).find? (fun s => decide (s.x.1 = q))
def mapOf (ms : List (Option LineS)) (q : Int) : Option Nat := (firstL ms q).map (·.g)
theorem firstL_at {ms : List (Option LineS)} {q : Int} {s : LineS} (h : firstL ms q = some s) : s.x.1 = q ∧ ∃ j : Nat, ms[j]? = some (some s) := by
  have h1 := List.find?_some h
  have h2 := List.mem_of_find?_eq_some h
  refine ⟨by simpa using h1, ?_⟩
  obtain ⟨o, ho, e⟩ := List.mem_filterMap.1 h2
  obtain ⟨j, hj⟩ := List.getElem?_of_mem ho
  exact ⟨j, by rw [hj]; simpa using e⟩
end Go.Proofs.Ytmgdpkmmcmglfaa.MarkW
