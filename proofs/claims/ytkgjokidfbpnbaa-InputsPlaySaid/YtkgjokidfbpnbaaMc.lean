/- A table's columns are cloned; Fork; A table and its fork as one part of memory; what the calls on the old one do; only the fork is kept; The document's table as parts of memory: the table, its columns, each column's row a part; The document's table: is, Have, Ended, End; The document's table: At. Conditions: as told at each. -/
import Derived.Test.YtkgjokidfbpnbaaMb
import Derived.Lib.SliceRun
namespace Go.Proofs.Ytkgjokidfbpnbaa.InW
open Go.RowKit Go.Proofs.YtkgjokidfbpnbaaW.PrintWords Go.Proofs.YtkgjokidfbpnbaaW.PrintLast Go.Proofs.YtkgjokidfbpnbaaW.PrintMore Go.Proofs.Ytkgjokidfbpnbaa.Sep
attribute [local go_sem] max2_int min2_int max_two min_two max_three min_three max_four min_four   -- for this text's walks alone
set_option linter.unusedVariables false
set_option linter.unusedSimpArgs false
/-- a column as its cells are -/
abbrev RC := Value × Int × Bool
def colK (x : RC) (cs : List Value) : Prop := cs = [x.1, .int .i64 x.2.1, .bool x.2.2] ∧ x.1.oneCell' = true
def kcol : Kd RC where
  sz := 3
  E := []
  K := fun _ x cs => colK x cs
  M := fun _ _ _ x cs => colK x cs
  K_len := by rintro w x cs ⟨rfl, _⟩; rfl
  K_one := by
    rintro w x cs ⟨rfl, h⟩ u hu
    simp only [List.mem_cons, List.not_mem_nil, or_false] at hu
    rcases hu with rfl | rfl | rfl
    · exact h
    · rfl
    · rfl
  K_below := fun _ h => h
  K_of_M := fun h => h
  M_mono := fun _ h => h
  M_bound := fun h => h
  M_move := fun _ h => h
  M_lower := fun _ h => h
theorem info62_ : (Try.prog.info? 62).map (fun i => (i.zero, i.size, i.bytes)) = some (some (.agg #[.slice none 0 0, .int .i64 0, .bool false]), 3, 40) := by kernel_rfl
theorem kau1_0 {p : Prop} (h : p := by repeat (first | (with_reducible first | exact HB.out | apply below_alloc | apply pw_below_drewN | apply below_drew1) | exact HB.out)) : p := h
theorem kau1_8 {p : Prop} (h : p := by first | rfl | (simp <;> rfl) | (simp [*] <;> rfl)) : p := h
def cloneC.f (l0 : List RC) : Option (List RC) := (some (([] : List RC) : List RC)).bind fun y114 => (if y114.length + l0.length < 1000000 then (some (y114 ++ l0)) else (none))
set_option maxHeartbeats 8000000 in
set_option maxRecDepth 100000 in
theorem cloneC.calls (A0 : Option Addr) (c0 : Nat) (l0 : List RC) (r : List RC) (w : World) (hr0 : Kd.C kcol w A0 l0.length l0) (hc0 : l0.length ≤ c0) (h : cloneC.f l0 = some r) :
    Calls Try.prog 38 #[.slice A0 l0.length c0] w fun e w' => ∃ v0_ : Value, e = .returned (v0_) ∧ Kd.R kcol 62 w' w.heap.size (fun _ => True) v0_ r ∧ Below w.heap.size w w' := by
  rcases A0 with _ | ad0_
  · have hl0 : l0 = [] := by
      cases l0 with
      | nil => rfl
      | cons x xs => obtain ⟨_, e, _⟩ := hr0.2.2 (by simp); cases e
    subst hl0
    have hr : r = [] := (Option.some.inj (show some ([] : List RC) = some r from h)).symm
    subst hr
    have hEq_ : ∀ w : World, Sem.run Try.prog (binOp .eql 53 (.slice none 0 c0) (.slice none 0 0)) w = .ok (.bool true) w := fun w => Lib.run_eql_slice_nil w 53 62 none 0 c0 0 0 Try.underlying53
    go_enter Try.func38, Try.ntmps38
    go_wp2
    go_ret
    exact ⟨_, rfl, Kd.R_nil _ _ _ _ _, Below.refl _ _⟩
  have hEq_ : ∀ w : World, Sem.run Try.prog (binOp .eql 53 (.slice (some ad0_) l0.length c0) (.slice none 0 0)) w = .ok (.bool false) w := fun w => Lib.run_eql_slice_nil w 53 62 (some ad0_) l0.length c0 0 0 Try.underlying53
  have HR0 := Aside0.mk hr0
  have HC0 := Aside0.mk hc0
  clear hr0 hc0
  have HB := Aside0.mk (Below.refl w.heap.size w)
  have H : ((some (([] : List RC) : List RC)).bind fun y114 => (if y114.length + l0.length < 1000000 then (some (y114 ++ l0)) else (none))) = some r := h
  clear h
  obtain ⟨y114, hy114⟩ : ∃ y_ : List RC, y_ = (([] : List RC)) := ⟨_, rfl⟩
  replace H : (if y114.length + l0.length < 1000000 then (some (y114 ++ l0)) else (none)) = some r := by first | (rw [hy114]; with_reducible exact H) | (have H2_ := (Option.bind_some _ _).symm.trans H; rw [hy114]; with_reducible exact H2_) | (have H2_ := (Option.bind_some _ _).symm.trans H; with_reducible exact H2_) | with_reducible exact H | (rw [hy114]; exact H) | exact H
  have Ny114 := Aside0.mk hy114
  clear hy114
  by_cases c2 : y114.length + l0.length < 1000000
  · rw [if_pos c2] at H
    have LMc2 := Aside0.mk c2
    clear c2
    obtain ⟨y117, hy117⟩ : ∃ y_ : List RC, y_ = (y114 ++ l0) := ⟨_, rfl⟩
    replace H : (some y117) = some r := by first | (rw [hy117]; with_reducible exact H) | (have H2_ := (Option.bind_some _ _).symm.trans H; rw [hy117]; with_reducible exact H2_) | (have H2_ := (Option.bind_some _ _).symm.trans H; with_reducible exact H2_) | with_reducible exact H | (rw [hy117]; exact H) | exact H
    have Ny117 := Aside0.mk hy117
    clear hy117
    obtain rfl := Option.some.inj H
    go_enter Try.func38, Try.ntmps38
    go_wp2_with (first | ((with_reducible refine gate_dst (N := 5) rfl ?_); refine Kd.R_lit kcol _ 62 ?hg (N := 5) ?hd (xs := ([] : List RC)) (inner := []) (ok := fun _ => True) (okp := fun _ => True) ?hr ?hp (fun _ hk => hk) trivial (Below.refl _ _) (Nat.le_refl _) (by simp) ?_; (case hd => rfl); (case hg => rfl); (case hr => first | (go_simp; done) | (go_simp; rfl)); (case hp => exact (Reps.none _ _)); intro v115 w3 ho4 hb hg_ hnew_; clear hg_ hnew_; (first | rw [← Ny114.out] at ho4 | (simp only [Int.reduceToNat] at ho4; rw [← Ny114.out] at ho4)); have n0_ := Aside0.mk (Kd.R_lower ho4 (below_size kau1_0)); have n1_ := Aside0.mk (below_step kau1_0 hb); clear HB; have HO116 := n0_; have HB := n1_; clear n0_ n1_; clear hb ho4) | ((with_reducible refine gate_builtin (b := .append) (xs := #[.tmp 5, .tmp 6]) rfl ?_); at_builtin; refine Kd.R_append_rows kcol (w0 := w) w.heap.size rfl (.tmp 5) (.tmp 6) 53 62 (.agg #[.slice none 0 0, .int .i64 0, .bool false]) 40 rfl Try.underlying53 info62_ rfl (by decide) (by omega) v115 y114 l0 _ _ _ (fun _ => True) (fun _ => False) rfl rfl ?aO ?aR (fun _ _ h => h) (fun _ h => h.elim) ?aF ?aB ?aS ?aL ?_; (case aR => repeat (first | exact (Kd.C_below HR0.out HB.out) | (with_reducible refine Kd.C_alloc ?_ _) | (with_reducible refine Kd.C_drewN ?_ _) | (with_reducible refine Kd.C_drew ?_))); (case aB => exact kau1_0); (case aF => exact (fun _ _ => trivial)); (case aO => exact (by (with_reducible repeat (first | apply Kd.R_alloc | apply Kd.R_drewN | apply Kd.R_drew)); exact HO116.out)); (case aS => exact (below_size kau1_0)); (case aL => have := LMc2.out; omega); intro v118 w5 ho hb hg hat; rw [← Ny117.out] at ho; have n0_ := Aside0.mk (hb); have n1_ := Aside0.mk (ho); clear HB; clear HO116; have HB := n0_; have HO119 := n1_; clear n0_ n1_; clear ho hb hg hat))
    go_ret
    exact ⟨_, kau1_8, by (with_reducible repeat (first | apply Kd.R_alloc | apply Kd.R_drewN | apply Kd.R_drew)); exact HO119.out, kau1_0⟩
  · rw [if_neg c2] at H
    exact absurd H (by simp)


theorem cloneC_eq {l : List RC} (h : l.length < 1000000) : cloneC.f l = some l := by
  unfold cloneC.f
  rw [Option.bind_some, if_pos (by simpa using h)]
  rfl
theorem cols_are {w : World} {g1 t : Nat} {cells : Array Value} {vs : List RC} (h : w.heap[g1]? = some (.cells cells t (0, 0))) (hC : ∀ j u, (flatC vs)[j]? = some u → w.cell? ⟨g1, j, none⟩ = some u) : ∃ zs, cells = (flatC vs ++ zs).toArray := by
  refine ⟨cells.toList.drop (flatC vs).length, ?_⟩
  apply Array.ext'
  show cells.toList = flatC vs ++ cells.toList.drop (flatC vs).length
  have hlook : ∀ j u, (flatC vs)[j]? = some u → cells.toList[j]? = some u := fun j u hj => by
    have h1 := hC j u hj
    rw [blk_cell h j] at h1
    rw [Array.getElem?_toList]
    exact h1
  have htake : cells.toList.take (flatC vs).length = flatC vs := by
    apply List.ext_getElem?
    intro j
    rcases Nat.lt_or_ge j (flatC vs).length with hj | hj
    · rw [List.getElem?_take_of_lt hj, List.getElem?_eq_getElem hj]
      exact hlook j _ (List.getElem?_eq_getElem hj)
    · rw [List.getElem?_eq_none (by rw [List.length_take]; omega), List.getElem?_eq_none hj]
  conv => lhs; rw [← List.take_append_drop (flatC vs).length cells.toList, htake]
theorem flat_idx {vs : List RC} {j : Nat} {u : Value} (hj : (flatC vs)[j]? = some u) : ∃ k r, ∃ h : k < vs.length, j = k * 3 + r ∧ [vs[k].1, .int .i64 vs[k].2.1, .bool vs[k].2.2][r]? = some u := by
  have hl := (List.getElem?_eq_some_iff.1 hj).1
  rw [flatC_len] at hl
  have hk : j / 3 < vs.length := by omega
  obtain ⟨h0, h1, h2⟩ := flatC_get vs (j / 3) hk
  have hm : j % 3 = 0 ∨ j % 3 = 1 ∨ j % 3 = 2 := by omega
  refine ⟨j / 3, j % 3, hk, by omega, ?_⟩
  rcases hm with e | e | e
  · have ej : 3 * (j / 3) = j := by omega
    rw [ej, hj] at h0
    rw [e]; exact h0.symm
  · have ej : 3 * (j / 3) + 1 = j := by omega
    rw [ej, hj] at h1
    rw [e]; exact h1.symm
  · have ej : 3 * (j / 3) + 2 = j := by omega
    rw [ej, hj] at h2
    rw [e]; exact h2.symm
theorem C_cols {w : World} {ga t : Nat} {vs : List RC} {zs : List Value} (h : w.heap[ga]? = some (.cells (flatC vs ++ zs).toArray t (0, 0))) (h1 : ∀ j (hj : j < vs.length), vs[j].1.oneCell' = true) (hn : vs.length ≤ 1000000) : Kd.C kcol w (some ⟨ga, 0, none⟩) vs.length vs := by
  refine ⟨rfl, by omega, fun _ => ⟨_, rfl, fun j p hj => ⟨[p.1, .int .i64 p.2.1, .bool p.2.2], rfl, ⟨rfl, ?_⟩, fun i u hi => ?_⟩⟩⟩
  · have hl := (List.getElem?_eq_some_iff.1 hj).1
    have he := (List.getElem?_eq_some_iff.1 hj).2
    rw [← he]
    exact h1 j hl
  · have hl := (List.getElem?_eq_some_iff.1 hj).1
    have he := (List.getElem?_eq_some_iff.1 hj).2
    obtain ⟨c0, c1, c2⟩ := flatC_get vs j hl
    rw [he] at c0 c1 c2
    have hadd : (⟨ga, 0, none⟩ : Addr).add (j * kcol.sz + i) = ⟨ga, j * 3 + i, none⟩ := by
      show (⟨ga, 0, none⟩ : Addr).add (j * 3 + i) = _
      unfold Addr.add
      by_cases h0 : j * 3 + i = 0
      · rw [if_pos h0, h0]
      · rw [if_neg h0, Nat.zero_add]
    rw [hadd, blk_cell h]
    have hi3 : i < 3 := by have := (List.getElem?_eq_some_iff.1 hi).1; simpa using this
    have hlf := flatC_len vs
    have look : ∀ t u, (flatC vs)[t]? = some u → (flatC vs ++ zs).toArray[t]? = some u := fun t u hu => by
      have ht : t < (flatC vs).length := (List.getElem?_eq_some_iff.1 hu).1
      rw [List.getElem?_toArray, List.getElem?_append_left ht]
      exact hu
    have hm : i = 0 ∨ i = 1 ∨ i = 2 := by omega
    rcases hm with rfl | rfl | rfl
    · have : u = p.1 := by simpa using hi.symm
      rw [this, Nat.mul_comm j 3]; exact look _ _ c0
    · have : u = .int .i64 p.2.1 := by simpa using hi.symm
      rw [this, Nat.mul_comm j 3]; exact look _ _ c1
    · have : u = .bool p.2.2 := by simpa using hi.symm
      rw [this, Nat.mul_comm j 3]; exact look _ _ c2
theorem RowS.one {w : World} {Z : Nat → Prop} {v : Value} {l : List In} (h : RowS w Z v l) : v.oneCell' = true := by
  obtain ⟨A, c, rfl, _⟩ := h
  rfl
theorem add0_ (g m : Nat) : (⟨g, 0, none⟩ : Addr).add m = ⟨g, m, none⟩ := by
  unfold Addr.add
  by_cases h0 : m = 0
  · rw [if_pos h0, h0]
  · rw [if_neg h0, Nat.zero_add]
theorem TabG.clone {w w1 : World} {g1 cap base : Nat} {ok : Nat → Prop} {Z : Nat → Prop} {cs : List Col} {vs : List RC} {cells : Array Value} (hz : ∀ k, Z k → k < w.heap.size) (h6 : vs.length = cs.length) (h7 : ∀ j (h1 : j < vs.length) (h2 : j < cs.length), vs[j].2.1 = cs[j].e ∧ vs[j].2.2 = cs[j].d ∧ RowS w Z vs[j].1 cs[j].l) (hR : Kd.R kcol 62 w1 base ok (.slice (some ⟨g1, 0, none⟩) cs.length cap) vs) (hB : Below w.heap.size w w1) (hbk : w1.heap[g1]? = some (.cells cells 62 (0, 0))) (hg1 : w.heap.size ≤ g1 ∧ g1 < w1.heap.size) (h0 : 0 < cs.length) :
    TabG (w1.alloc (.cells #[.slice (some ⟨g1, 0, none⟩) cs.length cap] 57)) w1.heap.size g1 Z cs := by
  have hs := hB.size
  have hle := (Kd.R_reads' hR).2.1
  have hC := (Kd.R_reads' hR).2.2
  obtain ⟨ad, he, hall⟩ := hC.2.2 (by omega)
  have he1 : ad = ⟨g1, 0, none⟩ := (Option.some.inj he).symm
  subst he1
  obtain ⟨zs, hcells⟩ := cols_are (vs := vs) hbk (fun j u hj => by
    obtain ⟨k, r, hk, e1, e2⟩ := flat_idx hj
    obtain ⟨cl, _, hK, hc⟩ := hall k vs[k] (List.getElem?_eq_getElem hk)
    have hcl : cl = [vs[k].1, .int .i64 vs[k].2.1, .bool vs[k].2.2] := hK.1
    subst hcl
    have := hc r u e2
    rw [add0_] at this
    rw [e1]
    exact this)
  refine ⟨by omega, fun hZ => ?_, fun hZ => ?_, ⟨cap, ?_, hle⟩, ⟨vs, zs, ?_, h6, fun j a b => ?_⟩⟩
  · have := hz _ hZ; omega
  · have := hz _ hZ; omega
  · show (w1.heap.push _)[w1.heap.size]? = _
    exact Array.getElem?_push_size
  · rw [← hcells]
    exact (Below.heap_alloc _ _ _ hg1.2).trans hbk
  · refine ⟨(h7 j a b).1, (h7 j a b).2.1, (h7 j a b).2.2.step (fun _ h => h) (fun k hk => ?_)⟩
    have := hz k hk
    exact (Below.heap_alloc _ _ _ (by omega)).trans (hB.block k this)
set_option maxHeartbeats 4000000 in
set_option maxRecDepth 100000 in
theorem fork.calls {w : World} {g ga : Nat} {Z : Nat → Prop} {cs : List Col} (h : TabG w g ga Z cs) (hl : g < w.heap.size ∧ ga < w.heap.size) (hz : ∀ k, Z k → k < w.heap.size) (hn : cs.length ≤ 900000) (h0 : 0 < cs.length) (hlen : ∀ c ∈ cs, c.l.length ≤ 10000) :
    Calls Try.prog 21 #[.pointer (some ⟨g, 0, none⟩)] w fun e w' => ∃ g' ga', e = .returned (.pointer (some ⟨g', 0, none⟩)) ∧ Below w.heap.size w w' ∧ w.heap.size ≤ g' ∧ w.heap.size ≤ ga' ∧ g' < w'.heap.size ∧ ga' < w'.heap.size ∧ TabG w' g' ga' Z cs := by
  obtain ⟨c, bk, hc⟩ := h.tbl
  have hc0 : w.cell? ⟨g, 0, none⟩ = some (.slice (some ⟨ga, 0, none⟩) cs.length c) := (blk_cell bk 0).trans rfl
  obtain ⟨vs, zs, h5, h6, h7⟩ := h.cols
  have hone : ∀ j (hj : j < vs.length), vs[j].1.oneCell' = true := fun j hj => (h7 j hj (by omega)).2.2.one
  have hC := C_cols h5 hone (by omega)
  have H7 := Aside0.mk h7
  have H6 := Aside0.mk h6
  have HC := Aside0.mk hC
  have HLE := Aside0.mk hlen
  have hcl := cloneC.calls (some ⟨ga, 0, none⟩) c vs _ w hC (by omega) (cloneC_eq (by omega))
  rw [h6] at hcl
  clear h5 h7 hC bk hone h6 hlen
  go_enter Try.func21, Try.ntmps21
  go_wp2_with (first | (go_at_call 38; (with_reducible refine hcl.mono ?_); rintro e_ w1 ⟨v1, rfl, hR1, hB1⟩; obtain ⟨g1, cap, e1, g2, g3, cells, g4⟩ := Kd.R_form hR1 (by rw [H6.out]; exact h0); have h6v := H6.out; rw [h6v] at e1; subst e1; have hT1 := TabG.clone hz h6v H7.out hR1 hB1 g4 (And.intro g2 g3) h0; have HT1 := Aside0.mk hT1; clear hT1; have HB1 := Aside0.mk hB1; have G23 := Aside0.mk (And.intro g2 g3); clear hR1 hB1 g4 g2 g3 h6v))
  obtain ⟨gt, hgt⟩ : ∃ gt, w1.heap.size = gt := ⟨_, rfl⟩
  obtain ⟨w2, hw2⟩ : ∃ w2, w1.alloc (.cells #[.slice (some ⟨g1, 0, none⟩) cs.length cap] 57) = w2 := ⟨_, rfl⟩
  have HB2 := Aside0.mk (show Below w.heap.size w w2 ∧ w.heap.size ≤ gt ∧ gt < w2.heap.size ∧ w.heap.size ≤ g1 ∧ g1 < w2.heap.size by
    have := HB1.out.size; have := G23.out; rw [← hw2, ← hgt]; refine ⟨HB1.out.alloc (by omega) _, by omega, ?_, by omega, ?_⟩ <;> rw [World.size_alloc] <;> omega)
  have HT2 := Aside0.mk (show TabG w2 gt g1 Z cs by rw [← hw2, ← hgt]; exact HT1.out)
  rw [hw2, hgt]
  clear hw2 hgt HT1 HB1 G23 hcl
  go_loopg [22] (cs.length + 1) (fun kq v22 w' => ∃ i : Nat, v22 = .int .i64 (i : Int) ∧ Aside0 (i + kq = cs.length + 1) ∧ Aside0 (i ≤ cs.length) ∧ Aside0 ((Below w.heap.size w w' ∧ w.heap.size ≤ gt ∧ gt < w'.heap.size ∧ w.heap.size ≤ g1 ∧ g1 < w'.heap.size) ∧ TabG w' gt g1 Z cs))
  case atStart => exact ⟨0, rfl, ⟨by omega⟩, ⟨by omega⟩, ⟨HB2.out, HT2.out⟩⟩
  case round =>
    obtain ⟨i, rfl, HK, HI, HT⟩ := hrel
    clear HB2 HT2
    by_cases hil : i < cs.length
    · have d1 : decide ((i : Int) < (cs.length : Int)) = true := decide_eq_true (by omega)
      obtain ⟨c9, bk9, hc9⟩ := HT.out.2.tbl
      have ct := (blk_cell bk9 0).trans rfl
      obtain ⟨v0, c0, c1, c2, ⟨A, cp, rfl, hcp, hr⟩, hf⟩ := HT.out.2.cell i hil
      have hA : A = none → cs[i].l.length = 0 := fun e => by
        subst e
        have hC := hr _ (fun _ _ => rfl)
        rcases Nat.eq_zero_or_pos cs[i].l.length with h | h
        · exact h
        · obtain ⟨_, e, _⟩ := hC.2.2 h; cases e
      have hm : cs[i].l.length ≤ 1000000 := by have := HLE.out _ (List.getElem_mem hil); omega
      obtain ⟨L, hL⟩ : ∃ L, cs[i].l = L := ⟨_, rfl⟩
      rw [hL] at c0 hcp hr hA hm
      have HL := Aside0.mk hL
      clear hL c1 c2
      have HR := Aside0.mk hr
      clear hr
      go_wp2
      refine wp_region_held_drew (S := (fun w' => w'.cell? ⟨gt, 0, none⟩ = some (.slice (some ⟨g1, 0, none⟩) cs.length c9))) (by kernel_rfl) ?_ (fun hHeld => ?_)
      · (exact ct)
      refine takeW (i := 0) (v := ?_) rfl rfl (by kernel_rfl) (by kernel_rfl) (by kernel_rfl) (fun _ _ _ h => h) (by rfl) ?_ hHeld ?_
      rotate_left 1
      · (intro w hSw; (try dsimp only at hSw); go_simp <;> (try with_reducible rfl))
      (try simp only [Act.put, List.setIfInBounds_toArray, List.set_cons_zero, List.set_cons_succ])
      refine takeW (i := 1) (v := ?_) rfl rfl (by kernel_rfl) (by kernel_rfl) (by kernel_rfl) (fun _ _ _ h => h) (by rfl) ?_ hHeld ?_
      rotate_left 1
      · (intro w hSw; (try dsimp only at hSw); go_simp <;> (try with_reducible rfl))
      (try simp only [Act.put, List.setIfInBounds_toArray, List.set_cons_zero, List.set_cons_succ])
      refine takeW (i := 2) (v := ?_) rfl rfl (by kernel_rfl) (by kernel_rfl) (by kernel_rfl) (fun _ _ _ h => h) (by rfl) ?_ hHeld ?_
      rotate_left 1
      · (intro w hSw; (try dsimp only at hSw); go_simp <;> (try with_reducible rfl))
      (try simp only [Act.put, List.setIfInBounds_toArray, List.set_cons_zero, List.set_cons_succ])
      refine takeW (i := 3) (v := ?_) rfl rfl (by kernel_rfl) (by kernel_rfl) (by kernel_rfl) (fun _ _ _ h => h) (by rfl) ?_ hHeld ?_
      rotate_left 1
      · (intro w hSw; (try dsimp only at hSw); go_simp <;> (try with_reducible rfl))
      (try simp only [Act.put, List.setIfInBounds_toArray, List.set_cons_zero, List.set_cons_succ])
      refine takeW (i := 4) (v := ?_) rfl rfl (by kernel_rfl) (by kernel_rfl) (by kernel_rfl) (fun _ _ _ h => h) (by rfl) ?_ hHeld ?_
      rotate_left 1
      · (intro w hSw; (try dsimp only at hSw); go_simp <;> (try with_reducible rfl))
      (try simp only [Act.put, List.setIfInBounds_toArray, List.set_cons_zero, List.set_cons_succ])
      refine takeW (i := 5) (v := ?_) rfl rfl (by kernel_rfl) (by kernel_rfl) (by kernel_rfl) (fun _ _ _ h => h) (by rfl) ?_ hHeld ?_
      rotate_left 1
      · (intro w hSw; (try dsimp only at hSw); go_simp <;> (try with_reducible rfl))
      (try simp only [Act.put, List.setIfInBounds_toArray, List.set_cons_zero, List.set_cons_succ])
      refine takeW (i := 6) (v := ?_) rfl rfl (by kernel_rfl) (by kernel_rfl) (by kernel_rfl) (fun _ _ _ h => h) (by rfl) ?_ hHeld ?_
      rotate_left 1
      · (intro w hSw; (try dsimp only at hSw); go_simp <;> (try with_reducible rfl))
      (try simp only [Act.put, List.setIfInBounds_toArray, List.set_cons_zero, List.set_cons_succ])
      refine takeW (i := 7) (v := ?_) rfl rfl (by kernel_rfl) (by kernel_rfl) (by kernel_rfl) (fun _ _ _ h => h) (by rfl) ?_ hHeld ?_
      rotate_left 1
      · (intro w hSw; (try dsimp only at hSw); go_simp <;> (try with_reducible rfl))
      (try simp only [Act.put, List.setIfInBounds_toArray, List.set_cons_zero, List.set_cons_succ])
      refine takeW (i := 8) (v := ?_) rfl rfl (by kernel_rfl) (by kernel_rfl) (by kernel_rfl) (fun _ _ _ h => h) (by rfl) ?_ hHeld ?_
      rotate_left 1
      · (intro w hSw; (try dsimp only at hSw); go_simp <;> (try with_reducible rfl))
      (try simp only [Act.put, List.setIfInBounds_toArray, List.set_cons_zero, List.set_cons_succ])
      refine takeW (i := 9) (v := ?_) rfl rfl (by kernel_rfl) (by kernel_rfl) (by kernel_rfl) (fun _ _ _ h => h) (by rfl) ?_ hHeld ?_
      rotate_left 1
      · (intro w hSw; (try dsimp only at hSw); go_simp <;> (try with_reducible rfl))
      (try simp only [Act.put, List.setIfInBounds_toArray, List.set_cons_zero, List.set_cons_succ])
      refine takeW (i := 10) (v := ?_) rfl rfl (by kernel_rfl) (by kernel_rfl) (by kernel_rfl) (fun _ _ _ h => h) (by rfl) ?_ hHeld ?_
      rotate_left 1
      · (intro w hSw; (try dsimp only at hSw); go_simp <;> (try with_reducible rfl))
      (try simp only [Act.put, List.setIfInBounds_toArray, List.set_cons_zero, List.set_cons_succ])
      refine takeW (i := 11) (v := ?_) rfl rfl (by kernel_rfl) (by kernel_rfl) (by kernel_rfl) (fun _ _ _ h => h) (by rfl) ?_ hHeld ?_
      rotate_left 1
      · (intro w hSw; (try dsimp only at hSw); go_simp <;> (try with_reducible rfl))
      (try simp only [Act.put, List.setIfInBounds_toArray, List.set_cons_zero, List.set_cons_succ])
      refine takeW (i := 12) (v := ?_) rfl rfl (by kernel_rfl) (by kernel_rfl) (by kernel_rfl) (fun _ _ _ h => h) (by rfl) ?_ hHeld ?_
      rotate_left 1
      · (intro w hSw; (try dsimp only at hSw); go_simp <;> (try with_reducible rfl))
      (try simp only [Act.put, List.setIfInBounds_toArray, List.set_cons_zero, List.set_cons_succ])
      refine takeW (i := 13) (v := ?_) rfl rfl (by kernel_rfl) (by kernel_rfl) (by kernel_rfl) (fun _ _ _ h => h) (by rfl) ?_ hHeld ?_
      rotate_left 1
      · (intro w hSw; (try dsimp only at hSw); go_simp <;> (try with_reducible rfl))
      (try simp only [Act.put, List.setIfInBounds_toArray, List.set_cons_zero, List.set_cons_succ])
      refine callC (i := 14) rfl (by kernel_rfl) (by rfl) (fun K hK => ?_)
      clear hHeld
      (refine wp_of_list (ops := #[]) (by rfl) ?_; go_wp2; change K _ _)
      refine hK.out _ _ ?_ (fun hHeld => ?_)
      · (exact ct)
      clear hK K
      (try simp only [Act.put, List.setIfInBounds_toArray, List.set_cons_zero, List.set_cons_succ])
      refine callC (i := 15) rfl (by kernel_rfl) (by rfl) (fun K hK => ?_)
      clear hHeld
      (go_wp2_with ((go_at_call 32; refine (clip.calls A _ cp _ hA hcp hm).mono ?_; rintro e w3 ⟨rfl, hb3⟩; have ct3 := pw_cell_below hb3 ct; have HB3 := Aside0.mk hb3; have HT3 := Aside0.mk (HT.out.2.below (hb3.block _ HT.out.1.2.2.1) (hb3.block _ HT.out.1.2.2.2.2) (fun k hk => hb3.block _ (Nat.lt_of_lt_of_le (hz k hk) HT.out.1.1.size))); obtain ⟨v3, c03, _, _, _, hf3⟩ := HT3.out.cell i hil; have bk3 := (hb3.block gt HT.out.1.2.2.1).trans bk9; clear c0 hf ct)))
      refine hK.out _ _ ?_ (fun hHeld => ?_)
      · (exact ct3)
      clear hK K
      (try simp only [Act.put, List.setIfInBounds_toArray, List.set_cons_zero, List.set_cons_succ])
      refine takeW (i := 16) (v := ?_) rfl rfl (by kernel_rfl) (by kernel_rfl) (by kernel_rfl) (fun _ _ _ h => h) (by rfl) ?_ hHeld ?_
      rotate_left 1
      · (intro w hSw; (try dsimp only at hSw); go_simp <;> (try with_reducible rfl))
      (try simp only [Act.put, List.setIfInBounds_toArray, List.set_cons_zero, List.set_cons_succ])
      refine takeW (i := 17) (v := ?_) rfl rfl (by kernel_rfl) (by kernel_rfl) (by kernel_rfl) (fun _ _ _ h => h) (by rfl) ?_ hHeld ?_
      rotate_left 1
      · (intro w hSw; (try dsimp only at hSw); go_simp <;> (try with_reducible rfl))
      (try simp only [Act.put, List.setIfInBounds_toArray, List.set_cons_zero, List.set_cons_succ])
      refine callC (i := 18) rfl (by kernel_rfl) (by rfl) (fun K hK => ?_)
      clear hHeld
      (refine wp_of_list (ops := #[]) (by rfl) ?_; go_wp2; change K _ _)
      refine hK.out _ _ ?_ (fun hHeld => ?_)
      · (exact (blk_cell ((far_set gt HT.out.2.ne).trans bk3) 0).trans rfl)
      clear hK K
      (try simp only [Act.put, List.setIfInBounds_toArray, List.set_cons_zero, List.set_cons_succ])
      refine wpAnyH_done (by kernel_rfl) ?_ _
      go_wp2
      cases gk with
      | zero => exact absurd HK.out (by omega)
      | succ k1 =>
        go_roundg k1
        case measure => have := HK.out; omega
        case rel =>
          refine ⟨i + 1, rfl, ⟨by have := HK.out; omega⟩, ⟨by omega⟩, ⟨?_, ?_⟩⟩
          · have hb := HT.out.1
            have h3 := HB3.out
            have hs3 : wr.heap.size ≤ w3.heap.size := h3.size
            refine ⟨below_set (below_step (Below.drew hb.1) h3) hb.2.2.2.1, hb.2.1, ?_, hb.2.2.2.1, ?_⟩ <;> rw [World.size_setCell] <;> omega
          · have hput := HT3.out.put0 i hil (.slice A L.length L.length) L (fun _ h => h) HT3.out.ng HT3.out.na ⟨A, L.length, rfl, Nat.le_refl _, fun w' hw' => HR.out w' (fun k hk => (hw' k hk).trans (HB3.out.block _ (Nat.lt_of_lt_of_le (hz k hk) HT.out.1.1.size)))⟩
            have e : cs.set i ⟨L, cs[i].e, cs[i].d⟩ = cs := by rw [← HL.out]; exact List.set_getElem_self _
            rwa [e] at hput
    · have d1 : decide ((i : Int) < (cs.length : Int)) = false := decide_eq_false (by omega)
      go_wp2
      go_ret
      exact ⟨gt, g1, rfl, HT.out.1.1, HT.out.1.2.1, HT.out.1.2.2.2.1, HT.out.1.2.2.1, HT.out.1.2.2.2.2, HT.out.2⟩
end Go.Proofs.Ytkgjokidfbpnbaa.InW
namespace Go.Proofs.Ytkgjokidfbpnbaa.InW
open Go.RowKit Go.Proofs.YtkgjokidfbpnbaaW.PrintWords Go.Proofs.YtkgjokidfbpnbaaW.PrintLast Go.Proofs.YtkgjokidfbpnbaaW.PrintMore Go.Proofs.Ytkgjokidfbpnbaa.Sep
set_option linter.unusedVariables false
set_option linter.unusedSimpArgs false
/-- two tables that share rows -/
def tabs2 (g g' : Nat) (cs cs' : List Col) : Asr where
  P w S := (∀ k, S k → k < w.heap.size) ∧ S g ∧ S g' ∧ ∃ (ga ga' : Nat) (Z Z' : Nat → Prop), S ga ∧ S ga' ∧ (∀ k, Z k → S k) ∧ (∀ k, Z' k → S k) ∧ ga ≠ g' ∧ ga ≠ ga' ∧ ¬ Z' ga ∧ TabG w g ga Z cs ∧ TabG w g' ga' Z' cs'
  loc := by
    rintro w w' S ⟨h1, h2, h3, ga, ga', Z, Z', k1, k2, k3, k4, k5, k6, k7, t1, t2⟩ hz hs
    exact ⟨fun k hk => Nat.lt_of_lt_of_le (h1 k hk) hz, h2, h3, ga, ga', Z, Z', k1, k2, k3, k4, k5, k6, k7, t1.below (hs _ h2) (hs _ k1) (fun k hk => hs _ (k3 k hk)), t2.below (hs _ h3) (hs _ k2) (fun k hk => hs _ (k4 k hk))⟩
  lt := fun h => h.1
section
variable {w0 w : World} {base g g' : Nat} {cs cs' : List Col} {F : List Asr}
theorem fork.H (h : Has w0 base w (tab g cs :: F)) (hw : wfT cs) (h0 : 0 < cs.length) (hn : cs.length ≤ 900000) :
    Calls Try.prog 21 #[.pointer (some ⟨g, 0, none⟩)] w fun e w' => ∃ g', e = .returned (.pointer (some ⟨g', 0, none⟩)) ∧ Has w0 base w' (tabs2 g g' cs cs :: F) := by
  obtain ⟨S1, ⟨h1, h2, ga, h3, h4⟩, hS, hout⟩ := h.out
  refine (fork.calls h4 ⟨h1 _ h2, h1 _ h3⟩ (fun k hk => h1 k hk.1) hn h0 (fun c hc => (hw.2 c hc).1)).mono ?_
  rintro e w' ⟨g', ga', rfl, hb, l1, l2, l3, l4, hT⟩
  have hz := hb.size
  have hg := h1 _ h2
  have hga := h1 _ h3
  refine ⟨g', rfl, hout w' (tabs2 g g' cs cs) (fun k => S1 k ∨ k = g' ∨ k = ga') (h.step hb).below hz ⟨?_, .inl h2, .inr (.inl rfl), ga, ga', _, _, .inl h3, .inr (.inr rfl), fun k hk => .inl hk.1, fun k hk => .inl hk.1, by omega, by omega, fun x => x.2.2 rfl, h4.below (hb.block _ hg) (hb.block _ hga) (fun k hk => hb.block _ (h1 k hk.1)), hT⟩ ?_ (fun k hk _ => hb.block k hk)⟩
  · rintro k (hk | rfl | rfl)
    · exact Nat.lt_of_lt_of_le (h1 k hk) hz
    · exact l3
    · exact l4
  · rintro k (hk | rfl | rfl)
    · exact .inl hk
    · exact .inr l1
    · exact .inr l2
theorem have2.H (h : Has w0 base w (tabs2 g g' cs cs' :: F)) (hw : wfT cs) (p : Int) (hp : I64 p) :
    Calls Try.prog 14 #[.pointer (some ⟨g, 0, none⟩), .int .i64 p] w fun e w' => e = .returned (.int .i64 (have_ cs p)) ∧ Has w0 base w' (tabs2 g g' cs cs' :: F) := by
  obtain ⟨S1, ⟨h1, h2, h3, ga, ga', Z, Z', k1, k2, k3, k4, k5, k6, k7, t1, t2⟩, hS, hout⟩ := h.out
  refine (have.calls t1 ⟨h1 _ h2, h1 _ k1⟩ (fun k hk => h1 k (k3 k hk)) p hp hw.1).mono ?_
  rintro e w' ⟨rfl, hb⟩
  exact ⟨rfl, h.step hb⟩
/-- the old one is added to, and no longer spoken of -/
theorem add2.H (h : Has w0 base w (tabs2 g g' cs cs' :: F)) (hw : wfT cs) (p fr : Int) (hp : I64 p) (hfr : I64 fr) (A : Option Addr) (cx : Nat) (xs : List In) (hx : xs.length ≤ 1000000) (hxs : ∀ (W : World), Has w0 base W (tab g' cs' :: F) → Kd.C kin W A xs.length xs) :
    Calls Try.prog 12 #[.pointer (some ⟨g, 0, none⟩), .int .i64 p, .int .i64 fr, .slice A xs.length cx] w fun e w' => e = .returned (.int .i64 (add_ cs p fr xs).1) ∧ Has w0 base w' (tab g' cs' :: F) := by
  obtain ⟨S1, ⟨h1, h2, h3, ga, ga', Z, Z', k1, k2, k3, k4, k5, k6, k7, t1, t2⟩, hS, hout⟩ := h.out
  have hfin : ∀ w' : World, Below base w0 w' → w.heap.size ≤ w'.heap.size → (∀ k, k < w.heap.size → k ≠ ga → w'.heap[k]? = w.heap[k]?) → Has w0 base w' (tab g' cs' :: F) := by
    intro w' hb hz hf
    have hT : TabG w' g' ga' Z' cs' := t2.below (hf _ (h1 _ h3) (fun e => k5 e.symm)) (hf _ (h1 _ k2) (fun e => k6 e.symm)) (fun k hk => hf _ (h1 _ (k4 k hk)) (fun e => k7 (e ▸ hk)))
    refine hout w' (tab g' cs') (fun k => k = g' ∨ k = ga' ∨ Z' k) hb hz ⟨?_, .inl rfl, ga', .inr (.inl rfl), hT.weak (fun k hk => ⟨.inr (.inr hk), fun e => hT.ng (e ▸ hk), fun e => hT.na (e ▸ hk)⟩) (fun x => x.2.1 rfl) (fun x => x.2.2 rfl)⟩ ?_ (fun k hk hn => hf k hk (fun e => hn (e ▸ k1)))
    · rintro k (rfl | rfl | hk)
      · exact Nat.lt_of_lt_of_le (h1 _ h3) hz
      · exact Nat.lt_of_lt_of_le (h1 _ k2) hz
      · exact Nat.lt_of_lt_of_le (h1 _ (k4 k hk)) hz
    · rintro k (rfl | rfl | hk)
      · exact .inl h3
      · exact .inl k2
      · exact .inl (k4 k hk)
  refine (add.calls t1 h.below (hS _ k1) ⟨h1 _ h2, h1 _ k1⟩ (fun k hk => h1 k (k3 k hk)) p fr hp hfr hw.1 (hw.at p) A cx xs hx (fun W i n c hI => hxs W (hfin W hI.below hI.size hI.frame))).mono ?_
  rintro e w' ⟨Z2, rfl, hb, hs, hf, z1, z2, z3, hT'⟩
  exact ⟨rfl, hfin w' hb hs hf⟩
end
end Go.Proofs.Ytkgjokidfbpnbaa.InW
namespace Go.Proofs.Ytkgjokidfbpnbaa.InW
open Go.RowKit Go.Proofs.YtkgjokidfbpnbaaW.PrintWords Go.Proofs.YtkgjokidfbpnbaaW.PrintLast Go.Proofs.YtkgjokidfbpnbaaW.PrintMore Go.Proofs.Ytkgjokidfbpnbaa.Sep
set_option linter.unusedVariables false
set_option linter.unusedSimpArgs false
theorem stars_split : ∀ (L F : List Asr) {w : World} {S : Nat → Prop}, (stars (L ++ F)).P w S → ∃ S1 S2 : Nat → Prop, (∀ k, S k ↔ S1 k ∨ S2 k) ∧ (∀ k, S1 k → ¬ S2 k) ∧ (stars L).P w S1 ∧ (stars F).P w S2 := by
  intro L F
  induction L with
  | nil => intro w S h; exact ⟨fun _ => False, S, fun k => by simp, fun k hk => hk.elim, fun k hk => hk, h⟩
  | cons A L ih =>
    intro w S h
    obtain ⟨SA, SR, e, d, hA, hR⟩ := h
    obtain ⟨T1, T2, e2, d2, h1, h2⟩ := ih hR
    refine ⟨fun k => SA k ∨ T1 k, T2, fun k => ?_, fun k hk h2' => ?_, ⟨SA, T1, fun k => Iff.rfl, fun k hk ht => d k hk ((e2 k).2 (.inl ht)), hA, h1⟩, h2⟩
    · rw [e k, e2 k]; exact or_assoc.symm
    · rcases hk with hk | hk
      · exact d k hk ((e2 k).2 (.inr h2'))
      · exact d2 k hk h2'
theorem stars_join : ∀ (L F : List Asr) {w : World} {S S1 S2 : Nat → Prop}, (∀ k, S k ↔ S1 k ∨ S2 k) → (∀ k, S1 k → ¬ S2 k) → (stars L).P w S1 → (stars F).P w S2 → (stars (L ++ F)).P w S := by
  intro L F
  induction L with
  | nil =>
    intro w S S1 S2 e d h1 h2
    have h1' : ∀ k, ¬ S1 k := h1
    have : S = S2 := funext fun k => propext ((e k).trans ⟨fun x => x.resolve_left (h1' k), .inr⟩)
    rw [this]; exact h2
  | cons A L ih =>
    intro w S S1 S2 e d h1 h2
    obtain ⟨SA, SL, e1, d1, hA, hL⟩ := h1
    refine ⟨SA, fun k => SL k ∨ S2 k, fun k => ?_, fun k hk hx => ?_, hA, ih (fun k => Iff.rfl) (fun k hk hx => d k ((e1 k).2 (.inr hk)) hx) hL h2⟩
    · rw [e k, e1 k]; exact or_assoc
    · rcases hx with hx | hx
      · exact d1 k hk hx
      · exact d k ((e1 k).2 (.inl hk)) hx
theorem Has.open {w0 w : World} {base : Nat} {L F : List Asr} (h : Has w0 base w (stars L :: F)) : Has w0 base w (L ++ F) := by
  obtain ⟨h1, h2, S, ⟨S1, S2, e, d, hA, hF⟩, hb⟩ := h
  exact ⟨h1, h2, S, stars_join L F e d hA hF, hb⟩
theorem Has.shut {w0 w : World} {base : Nat} {L F : List Asr} (h : Has w0 base w (L ++ F)) : Has w0 base w (stars L :: F) := by
  obtain ⟨h1, h2, S, hS, hb⟩ := h
  exact ⟨h1, h2, S, stars_split L F hS, hb⟩
/-- a column of the document's table: its row as it lies, its end -/
abbrev RR := Value × Int
structure Rc where
  l : List In
  e : Int
def flatR : List RR → List Value
  | [] => []
  | x :: r => x.1 :: .int .i64 x.2 :: flatR r
theorem flatR_len : ∀ vs : List RR, (flatR vs).length = 2 * vs.length := by
  intro vs
  induction vs with
  | nil => rfl
  | cons x r ih => simp only [flatR, List.length_cons, ih]; omega
theorem flatR_get : ∀ (vs : List RR) (j : Nat) (h : j < vs.length), (flatR vs)[j * 2]? = some vs[j].1 ∧ (flatR vs)[j * 2 + 1]? = some (.int .i64 vs[j].2) := by
  intro vs
  induction vs with
  | nil => intro j h; simp at h
  | cons x r ih =>
    intro j h
    cases j with
    | zero => exact ⟨rfl, rfl⟩
    | succ j =>
      have := ih j (by simpa using h)
      have e : (j + 1) * 2 = j * 2 + 1 + 1 := by omega
      rw [e]
      exact this
theorem flatR_set0 : ∀ (vs : List RR) (j : Nat) (h : j < vs.length) (v : Value), (flatR vs).set (j * 2) v = flatR (vs.set j (v, vs[j].2)) := by
  intro vs
  induction vs with
  | nil => intro j h; simp at h
  | cons x r ih =>
    intro j h v
    cases j with
    | zero => rfl
    | succ j =>
      have e : (j + 1) * 2 = j * 2 + 1 + 1 := by omega
      rw [e]
      show x.1 :: .int .i64 x.2 :: (flatR r).set (j * 2) v = _
      rw [ih j (by simpa using h)]
      rfl
theorem flatR_set1 : ∀ (vs : List RR) (j : Nat) (h : j < vs.length) (e : Int), (flatR vs).set (j * 2 + 1) (.int .i64 e) = flatR (vs.set j (vs[j].1, e)) := by
  intro vs
  induction vs with
  | nil => intro j h; simp at h
  | cons x r ih =>
    intro j h e
    cases j with
    | zero => rfl
    | succ j =>
      have e1 : (j + 1) * 2 + 1 = j * 2 + 1 + 1 + 1 := by omega
      rw [e1]
      show x.1 :: .int .i64 x.2 :: (flatR r).set (j * 2 + 1) (.int .i64 e) = _
      rw [ih j (by simpa using h)]
      rfl
def rowsR : List RR → List Rc → List Asr
  | v :: vs, c :: cs => row kin 24 v.1 c.l :: rowsR vs cs
  | _, _ => []
theorem rowsR_mid : ∀ (vs : List RR) (cs : List Rc) (j : Nat) (h1 : j < vs.length) (h2 : j < cs.length), rowsR vs cs = rowsR (vs.take j) (cs.take j) ++ row kin 24 vs[j].1 cs[j].l :: rowsR (vs.drop (j + 1)) (cs.drop (j + 1)) := by
  intro vs
  induction vs with
  | nil => intro cs j h1; simp at h1
  | cons v vs ih =>
    intro cs j h1 h2
    cases cs with
    | nil => simp at h2
    | cons c cs =>
      cases j with
      | zero => rfl
      | succ j =>
        show _ :: rowsR vs cs = _ :: (rowsR (vs.take j) (cs.take j) ++ _)
        rw [ih cs j (by simpa using h1) (by simpa using h2)]
        rfl
theorem rowsR_set {vs : List RR} {cs : List Rc} {j : Nat} (h1 : j < vs.length) (h2 : j < cs.length) (v : RR) (c : Rc) : rowsR (vs.set j v) (cs.set j c) = rowsR (vs.take j) (cs.take j) ++ row kin 24 v.1 c.l :: rowsR (vs.drop (j + 1)) (cs.drop (j + 1)) := by
  rw [rowsR_mid _ _ j (by simpa using h1) (by simpa using h2)]
  simp [List.take_set_of_le, List.drop_set_of_lt]
theorem rowsR_e {vs : List RR} {cs : List Rc} {j : Nat} (h1 : j < vs.length) (h2 : j < cs.length) (e e' : Int) : rowsR (vs.set j (vs[j].1, e)) (cs.set j ⟨cs[j].l, e'⟩) = rowsR vs cs := by rw [rowsR_set h1 h2, rowsR_mid vs cs j h1 h2]
/-- the document's table -/
def refT (r : Nat) (cs : List Rc) : Asr where
  P w S := ∃ (ra c : Nat) (vs : List RR) (zs : List Value), vs.length = cs.length ∧ cs.length ≤ c ∧ (∀ j (h1 : j < vs.length) (h2 : j < cs.length), vs[j].2 = cs[j].e) ∧
    (stars (blk r (.cells #[.slice (some ⟨ra, 0, none⟩) cs.length c] 69 (0, 0)) :: blk ra (.cells (flatR vs ++ zs).toArray 71 (0, 0)) :: rowsR vs cs)).P w S
  loc := by
    rintro w w' S ⟨ra, c, vs, zs, h1, h2, h3, h⟩ hz hs
    exact ⟨ra, c, vs, zs, h1, h2, h3, (stars _).loc h hz hs⟩
  lt := fun ⟨ra, c, vs, zs, h1, h2, h3, h⟩ => (stars _).lt h
section
variable {w0 w : World} {base r : Nat} {cs : List Rc} {F : List Asr}
theorem ref_open (h : Has w0 base w (refT r cs :: F)) : ∃ (ra c : Nat) (vs : List RR) (zs : List Value), vs.length = cs.length ∧ cs.length ≤ c ∧ (∀ j (h1 : j < vs.length) (h2 : j < cs.length), vs[j].2 = cs[j].e) ∧
    Has w0 base w (blk r (.cells #[.slice (some ⟨ra, 0, none⟩) cs.length c] 69 (0, 0)) :: blk ra (.cells (flatR vs ++ zs).toArray 71 (0, 0)) :: (rowsR vs cs ++ F)) := by
  obtain ⟨h1, h2, S, ⟨S1, S2, e, d, ⟨ra, c, vs, zs, k1, k2, k3, k4⟩, hF⟩, hb⟩ := h
  exact ⟨ra, c, vs, zs, k1, k2, k3, Has.open (L := _ :: _ :: rowsR vs cs) ⟨h1, h2, S, ⟨S1, S2, e, d, k4, hF⟩, hb⟩⟩
theorem ref_shut {ra c : Nat} {vs : List RR} {zs : List Value} (h1 : vs.length = cs.length) (h2 : cs.length ≤ c) (h3 : ∀ j (h1 : j < vs.length) (h2 : j < cs.length), vs[j].2 = cs[j].e)
    (h : Has w0 base w (blk r (.cells #[.slice (some ⟨ra, 0, none⟩) cs.length c] 69 (0, 0)) :: blk ra (.cells (flatR vs ++ zs).toArray 71 (0, 0)) :: (rowsR vs cs ++ F))) : Has w0 base w (refT r cs :: F) := by
  have h' := Has.shut (L := _ :: _ :: rowsR vs cs) h
  exact h'.imp (fun hP => ⟨ra, c, vs, zs, h1, h2, h3, hP⟩)
/-- a column's row comes to the front, and goes back -/
theorem ref_front {A B : Asr} {vs : List RR} (j : Nat) (h1 : j < vs.length) (h2 : j < cs.length) (h : Has w0 base w (A :: B :: (rowsR vs cs ++ F))) : Has w0 base w (row kin 24 vs[j].1 cs[j].l :: A :: B :: (rowsR (vs.take j) (cs.take j) ++ (rowsR (vs.drop (j + 1)) (cs.drop (j + 1)) ++ F))) := by
  rw [rowsR_mid vs cs j h1 h2, List.append_assoc, List.cons_append] at h
  exact h.perm (List.perm_middle (l₁ := A :: B :: rowsR (vs.take j) (cs.take j)))
theorem ref_back {A B : Asr} {vs : List RR} (j : Nat) (h1 : j < vs.length) (h2 : j < cs.length) (v : RR) (c : Rc) (h : Has w0 base w (row kin 24 v.1 c.l :: A :: B :: (rowsR (vs.take j) (cs.take j) ++ (rowsR (vs.drop (j + 1)) (cs.drop (j + 1)) ++ F)))) : Has w0 base w (A :: B :: (rowsR (vs.set j v) (cs.set j c) ++ F)) := by
  rw [rowsR_set h1 h2, List.append_assoc, List.cons_append]
  exact h.perm (List.perm_middle (l₁ := A :: B :: rowsR (vs.take j) (cs.take j))).symm
end
end Go.Proofs.Ytkgjokidfbpnbaa.InW
namespace Go.Proofs.Ytkgjokidfbpnbaa.InW
open Go.RowKit Go.Proofs.YtkgjokidfbpnbaaW.PrintWords Go.Proofs.YtkgjokidfbpnbaaW.PrintLast Go.Proofs.YtkgjokidfbpnbaaW.PrintMore Go.Proofs.Ytkgjokidfbpnbaa.Sep
attribute [local go_sem] max2_int min2_int max_two min_two max_three min_three max_four min_four   -- for this text's walks alone
set_option linter.unusedVariables false
set_option linter.unusedSimpArgs false
def rIs (n : Nat) (p : Int) : Bool := decide (1 ≤ p ∧ p ≤ n)
theorem rIs_yes {n : Nat} {p : Int} (h : 1 ≤ p ∧ p ≤ n) : rIs n p = true := decide_eq_true h
theorem rIs_no {n : Nat} {p : Int} (h : ¬ (1 ≤ p ∧ p ≤ n)) : rIs n p = false := decide_eq_false h
set_option maxHeartbeats 4000000 in
set_option maxRecDepth 100000 in
theorem ris.calls {w : World} {r n c : Nat} {A : Option Addr} (hc0 : w.cell? ⟨r, 0, none⟩ = some (.slice A n c)) (p : Int) (hp : I64 p) (hn : n ≤ 1000000) :
    Calls Try.prog 37 #[.pointer (some ⟨r, 0, none⟩), .int .i64 p] w fun e w' => e = .returned (.bool (rIs n p)) ∧ Below w.heap.size w w' := by
  by_cases h1 : 1 ≤ p
  · have d1 : decide (1 ≤ p) = true := decide_eq_true h1
    by_cases h2 : p ≤ n
    · have d2 : decide (p ≤ (n : Int)) = true := decide_eq_true h2
      go_enter Try.func37, Try.ntmps37
      go_wp2
      go_ret
      rw [rIs_yes ⟨h1, h2⟩]
      exact ⟨rfl, Below.refl _ _⟩
    · have d2 : decide (p ≤ (n : Int)) = false := decide_eq_false h2
      go_enter Try.func37, Try.ntmps37
      go_wp2
      go_ret
      rw [rIs_no (by omega)]
      exact ⟨rfl, Below.refl _ _⟩
  · have d1 : decide (1 ≤ p) = false := decide_eq_false h1
    go_enter Try.func37, Try.ntmps37
    go_wp2
    go_ret
    rw [rIs_no (by omega)]
    exact ⟨rfl, Below.refl _ _⟩
/-- a player's column -/
def rAt (cs : List Rc) (p : Int) : Rc := cs.getD (p.toNat - 1) ⟨[], -1⟩
theorem rAt_get {cs : List Rc} {p : Int} (h : p.toNat - 1 < cs.length) : rAt cs p = cs[p.toNat - 1] := by simp [rAt, List.getD_eq_getElem?_getD, h]
def rHave (cs : List Rc) (p : Int) : Int := if 1 ≤ p ∧ p ≤ (cs.length : Int) then (rAt cs p).l.length else 0
theorem rHave_yes {cs : List Rc} {p : Int} (h : 1 ≤ p ∧ p ≤ (cs.length : Int)) : rHave cs p = (rAt cs p).l.length := by unfold rHave; rw [if_pos h]
theorem rHave_no {cs : List Rc} {p : Int} (h : ¬ (1 ≤ p ∧ p ≤ (cs.length : Int))) : rHave cs p = 0 := by unfold rHave; rw [if_neg h]
section
variable {w0 w : World} {base r : Nat} {cs : List Rc} {F : List Asr}
/-- what the document's table tells to who reads -/
theorem ref_cells (h : Has w0 base w (refT r cs :: F)) : ∃ (ra c : Nat), w.cell? ⟨r, 0, none⟩ = some (.slice (some ⟨ra, 0, none⟩) cs.length c) ∧ cs.length ≤ c ∧ (∀ t, w.frozen? ⟨ra, t, none⟩ = false) ∧
    ∀ p : Int, 1 ≤ p ∧ p ≤ (cs.length : Int) → ∃ A c2, w.cell? ⟨ra, (p.toNat - 1) * 2, none⟩ = some (.slice A (rAt cs p).l.length c2) ∧ w.cell? ⟨ra, (p.toNat - 1) * 2 + 1, none⟩ = some (.int .i64 (rAt cs p).e) ∧ (rAt cs p).l.length ≤ c2 ∧ Kd.C kin w A (rAt cs p).l.length (rAt cs p).l := by
  obtain ⟨ra, c, vs, zs, k1, k2, k3, k4⟩ := ref_open h
  have bk := k4.blk
  have bk2 := k4.sw.blk
  refine ⟨ra, c, (blk_cell bk 0).trans rfl, k2, blk_frozen bk2, fun p hp => ?_⟩
  have hj : p.toNat - 1 < cs.length := by omega
  have hjv : p.toNat - 1 < vs.length := by omega
  have hf := ref_front (p.toNat - 1) hjv hj k4
  obtain ⟨A, c2, e, hle, hC⟩ := hf.row_reads
  obtain ⟨q0, q1⟩ := flatR_get vs (p.toNat - 1) hjv
  have hlen := flatR_len vs
  have look : ∀ t u, (flatR vs)[t]? = some u → w.cell? ⟨ra, t, none⟩ = some u := fun t u hu => by
    have ht : t < (flatR vs).length := (List.getElem?_eq_some_iff.1 hu).1
    rw [blk_cell bk2, List.getElem?_toArray, List.getElem?_append_left ht]
    exact hu
  rw [rAt_get hj]
  rw [e] at q0
  rw [k3 _ hjv hj] at q1
  exact ⟨A, c2, look _ _ q0, look _ _ q1, hle, hC⟩
end
set_option maxHeartbeats 4000000 in
set_option maxRecDepth 100000 in
theorem rhave.H {w0 w : World} {base r : Nat} {cs : List Rc} {F : List Asr} (h : Has w0 base w (refT r cs :: F)) (hn : cs.length ≤ 1000000) (p : Int) (hp : I64 p) :
    Calls Try.prog 25 #[.pointer (some ⟨r, 0, none⟩), .int .i64 p] w fun e w' => e = .returned (.int .i64 (rHave cs p)) ∧ Has w0 base w' (refT r cs :: F) := by
  obtain ⟨ra, c, c0, hc, _, _⟩ := ref_cells h
  by_cases h1 : 1 ≤ p ∧ p ≤ (cs.length : Int)
  · go_enter Try.func25, Try.ntmps25
    go_wp2_with (first | (go_at_call 37; (refine (ris.calls c0 p hp hn).mono ?_); rintro e w1 ⟨rfl, hb1⟩; rw [rIs_yes h1]; have H1 := Aside0.mk (h.step hb1); clear c0; obtain ⟨ra, c, c0, hc, hf, hall⟩ := ref_cells H1.out; obtain ⟨A, c2, x0, x1, hle, hC⟩ := hall p h1; clear hall))
    go_ret
    rw [rHave_yes h1]
    exact ⟨rfl, H1.out⟩
  · go_enter Try.func25, Try.ntmps25
    go_wp2_with (first | (go_at_call 37; (refine (ris.calls c0 p hp hn).mono ?_); rintro e w1 ⟨rfl, hb1⟩; rw [rIs_no h1]; have H1 := Aside0.mk (h.step hb1)))
    go_ret
    rw [rHave_no h1]
    exact ⟨rfl, H1.out⟩
def rEnded (cs : List Rc) (p : Int) : Int × Bool := if (1 ≤ p ∧ p ≤ (cs.length : Int)) ∧ 0 ≤ (rAt cs p).e then ((rAt cs p).e, true) else (0, false)
theorem rEnded_yes {cs : List Rc} {p : Int} (h : (1 ≤ p ∧ p ≤ (cs.length : Int)) ∧ 0 ≤ (rAt cs p).e) : rEnded cs p = ((rAt cs p).e, true) := by unfold rEnded; rw [if_pos h]
theorem rEnded_no {cs : List Rc} {p : Int} (h : ¬ ((1 ≤ p ∧ p ≤ (cs.length : Int)) ∧ 0 ≤ (rAt cs p).e)) : rEnded cs p = (0, false) := by unfold rEnded; rw [if_neg h]
set_option maxHeartbeats 4000000 in
set_option maxRecDepth 100000 in
theorem rended.H {w0 w : World} {base r : Nat} {cs : List Rc} {F : List Asr} (h : Has w0 base w (refT r cs :: F)) (hn : cs.length ≤ 1000000) (p : Int) (hp : I64 p) :
    Calls Try.prog 27 #[.pointer (some ⟨r, 0, none⟩), .int .i64 p] w fun e w' => e = .returned (.tuple #[.int .i64 (rEnded cs p).1, .bool (rEnded cs p).2]) ∧ Has w0 base w' (refT r cs :: F) := by
  obtain ⟨ra, c, c0, hc, _, _⟩ := ref_cells h
  by_cases h1 : 1 ≤ p ∧ p ≤ (cs.length : Int)
  · by_cases h2 : (rAt cs p).e < 0
    · have d2 : decide ((rAt cs p).e < 0) = true := decide_eq_true h2
      go_enter Try.func27, Try.ntmps27
      go_wp2_with (first | (go_at_call 37; (refine (ris.calls c0 p hp hn).mono ?_); rintro e w1 ⟨rfl, hb1⟩; rw [rIs_yes h1]; have H1 := Aside0.mk (h.step hb1); clear c0; obtain ⟨ra, c, c0, hc, hf, hall⟩ := ref_cells H1.out; obtain ⟨A, c2, x0, x1, hle, hC⟩ := hall p h1; clear hall))
      go_ret2
      rw [rEnded_no (by omega)]
      exact ⟨rfl, H1.out⟩
    · have d2 : decide ((rAt cs p).e < 0) = false := decide_eq_false h2
      go_enter Try.func27, Try.ntmps27
      go_wp2_with (first | (go_at_call 37; (refine (ris.calls c0 p hp hn).mono ?_); rintro e w1 ⟨rfl, hb1⟩; rw [rIs_yes h1]; have H1 := Aside0.mk (h.step hb1); clear c0; obtain ⟨ra, c, c0, hc, hf, hall⟩ := ref_cells H1.out; obtain ⟨A, c2, x0, x1, hle, hC⟩ := hall p h1; clear hall))
      go_ret2
      rw [rEnded_yes ⟨h1, by omega⟩]
      exact ⟨rfl, H1.out⟩
  · go_enter Try.func27, Try.ntmps27
    go_wp2_with (first | (go_at_call 37; (refine (ris.calls c0 p hp hn).mono ?_); rintro e w1 ⟨rfl, hb1⟩; rw [rIs_no h1]; have H1 := Aside0.mk (h.step hb1)))
    go_ret2
    rw [rEnded_no (fun x => h1 x.1)]
    exact ⟨rfl, H1.out⟩
/-- the end of a column is written -/
theorem ref_put1 {w0 w : World} {base r : Nat} {cs : List Rc} {F : List Asr} (h : Has w0 base w (refT r cs :: F)) {ra n c : Nat} (hc : w.cell? ⟨r, 0, none⟩ = some (.slice (some ⟨ra, 0, none⟩) n c)) (p : Int) (hp : 1 ≤ p ∧ p ≤ (cs.length : Int)) (e : Int) :
    Has w0 base (w.setCell ⟨ra, (p.toNat - 1) * 2 + 1, none⟩ (.int .i64 e)) (refT r (cs.set (p.toNat - 1) ⟨(rAt cs p).l, e⟩) :: F) := by
  obtain ⟨ra2, c2, vs, zs, k1, k2, k3, k4⟩ := ref_open h
  have hx := ((blk_cell k4.blk 0).trans rfl).symm.trans hc
  have hra : ra2 = ra := by injection hx with hx; injection hx with hx _ _; injection hx with hx; injection hx
  subst hra
  have hj : p.toNat - 1 < cs.length := by omega
  have hjv : p.toNat - 1 < vs.length := by omega
  have hlen := flatR_len vs
  have k5 := (k4.sw.set (cs2 := (flatR (vs.set (p.toNat - 1) (vs[p.toNat - 1].1, e)) ++ zs).toArray) ((p.toNat - 1) * 2 + 1) (.int .i64 e) (by
    rw [List.setIfInBounds_toArray, List.set_append_left _ _ (by omega), flatR_set1 vs _ hjv])).sw
  have hl : (cs.set (p.toNat - 1) ⟨cs[p.toNat - 1].l, e⟩).length = cs.length := List.length_set
  rw [rAt_get hj]
  refine ref_shut (ra := ra2) (c := c2) (vs := vs.set (p.toNat - 1) (vs[p.toNat - 1].1, e)) (zs := zs) (by rw [List.length_set, hl]; exact k1) (by rw [hl]; exact k2) (fun j h1 h2 => ?_) ?_
  · rw [List.getElem_set, List.getElem_set]
    split
    · rfl
    · exact k3 _ _ _
  · rw [hl, rowsR_e hjv hj]
    exact k5
def rEnd (cs : List Rc) (p n : Int) : Bool × List Rc := if (1 ≤ p ∧ p ≤ (cs.length : Int)) ∧ (rAt cs p).e < 0 ∧ (rAt cs p).l.length ≤ n ∧ n ≤ 10000 then (true, cs.set (p.toNat - 1) ⟨(rAt cs p).l, n⟩) else (false, cs)
theorem rEnd_no {cs : List Rc} {p n : Int} (h : ¬ ((1 ≤ p ∧ p ≤ (cs.length : Int)) ∧ (rAt cs p).e < 0 ∧ (rAt cs p).l.length ≤ n ∧ n ≤ 10000)) : rEnd cs p n = (false, cs) := by unfold rEnd; rw [if_neg h]
theorem rEnd_yes {cs : List Rc} {p n : Int} (h : (1 ≤ p ∧ p ≤ (cs.length : Int)) ∧ (rAt cs p).e < 0 ∧ (rAt cs p).l.length ≤ n ∧ n ≤ 10000) : rEnd cs p n = (true, cs.set (p.toNat - 1) ⟨(rAt cs p).l, n⟩) := by unfold rEnd; rw [if_pos h]
set_option maxHeartbeats 4000000 in
set_option maxRecDepth 100000 in
theorem rend.H {w0 w : World} {base r : Nat} {cs : List Rc} {F : List Asr} (h : Has w0 base w (refT r cs :: F)) (hn : cs.length ≤ 1000000) (p n : Int) (hp : I64 p) (hn2 : I64 n) :
    Calls Try.prog 20 #[.pointer (some ⟨r, 0, none⟩), .int .i64 p, .int .i64 n] w fun e w' => e = .returned (.bool (rEnd cs p n).1) ∧ Has w0 base w' (refT r (rEnd cs p n).2 :: F) := by
  obtain ⟨ra, c, c0, hc, _, _⟩ := ref_cells h
  by_cases h1 : 1 ≤ p ∧ p ≤ (cs.length : Int)
  · by_cases h2 : 0 ≤ (rAt cs p).e
    · have d2 : decide (0 ≤ (rAt cs p).e) = true := decide_eq_true h2
      go_enter Try.func20, Try.ntmps20
      go_wp2_with (first | (go_at_call 37; (refine (ris.calls c0 p hp hn).mono ?_); rintro e w1 ⟨rfl, hb1⟩; rw [rIs_yes h1]; have H1 := Aside0.mk (h.step hb1); clear c0; obtain ⟨ra, c, c0, hc, hf, hall⟩ := ref_cells H1.out; obtain ⟨A, c2, x0, x1, hle, hC⟩ := hall p h1; clear hall))
      go_ret
      rw [rEnd_no (by omega)]
      exact ⟨rfl, H1.out⟩
    have d2 : decide (0 ≤ (rAt cs p).e) = false := decide_eq_false h2
    have hw := rHave_yes h1
    by_cases h3 : n < (rAt cs p).l.length
    · have d3 : decide (n < ((rAt cs p).l.length : Int)) = true := decide_eq_true h3
      go_enter Try.func20, Try.ntmps20
      go_wp2_with (first | (go_at_call 37; (refine (ris.calls c0 p hp hn).mono ?_); rintro e w1 ⟨rfl, hb1⟩; rw [rIs_yes h1]; have H1 := Aside0.mk (h.step hb1); clear c0; obtain ⟨ra, c, c0, hc, hf, hall⟩ := ref_cells H1.out; obtain ⟨A, c2, x0, x1, hle, hC⟩ := hall p h1; clear hall) | (go_at_call 25; (refine (rhave.H H1.out hn p hp).mono ?_); rintro e w2 ⟨rfl, h2_⟩; rw [hw]; have H2 := Aside0.mk h2_; clear h2_ c0 x0 x1 hf hC; obtain ⟨ra, c, c0, hc, hf, hall⟩ := ref_cells H2.out; obtain ⟨A, c2, x0, x1, hle, hC⟩ := hall p h1; clear hall))
      go_ret
      rw [rEnd_no (by omega)]
      exact ⟨rfl, H2.out⟩
    have d3 : decide (n < ((rAt cs p).l.length : Int)) = false := decide_eq_false h3
    by_cases h4 : 10000 < n
    · have d4 : decide (10000 < n) = true := decide_eq_true h4
      go_enter Try.func20, Try.ntmps20
      go_wp2_with (first | (go_at_call 37; (refine (ris.calls c0 p hp hn).mono ?_); rintro e w1 ⟨rfl, hb1⟩; rw [rIs_yes h1]; have H1 := Aside0.mk (h.step hb1); clear c0; obtain ⟨ra, c, c0, hc, hf, hall⟩ := ref_cells H1.out; obtain ⟨A, c2, x0, x1, hle, hC⟩ := hall p h1; clear hall) | (go_at_call 25; (refine (rhave.H H1.out hn p hp).mono ?_); rintro e w2 ⟨rfl, h2_⟩; rw [hw]; have H2 := Aside0.mk h2_; clear h2_ c0 x0 x1 hf hC; obtain ⟨ra, c, c0, hc, hf, hall⟩ := ref_cells H2.out; obtain ⟨A, c2, x0, x1, hle, hC⟩ := hall p h1; clear hall))
      go_ret
      rw [rEnd_no (by omega)]
      exact ⟨rfl, H2.out⟩
    · have d4 : decide (10000 < n) = false := decide_eq_false h4
      go_enter Try.func20, Try.ntmps20
      go_wp2_with (first | (go_at_call 37; (refine (ris.calls c0 p hp hn).mono ?_); rintro e w1 ⟨rfl, hb1⟩; rw [rIs_yes h1]; have H1 := Aside0.mk (h.step hb1); clear c0; obtain ⟨ra, c, c0, hc, hf, hall⟩ := ref_cells H1.out; obtain ⟨A, c2, x0, x1, hle, hC⟩ := hall p h1; clear hall) | (go_at_call 25; (refine (rhave.H H1.out hn p hp).mono ?_); rintro e w2 ⟨rfl, h2_⟩; rw [hw]; have H2 := Aside0.mk h2_; clear h2_ c0 x0 x1 hf hC; obtain ⟨ra, c, c0, hc, hf, hall⟩ := ref_cells H2.out; obtain ⟨A, c2, x0, x1, hle, hC⟩ := hall p h1; have hf1 := hf ((p.toNat - 1) * 2 + 1); clear hall))
      go_ret
      rw [rEnd_yes ⟨h1, by omega, by omega, by omega⟩]
      exact ⟨rfl, ref_put1 H2.out c0 p h1 n⟩
  · go_enter Try.func20, Try.ntmps20
    go_wp2_with (first | (go_at_call 37; (refine (ris.calls c0 p hp hn).mono ?_); rintro e w1 ⟨rfl, hb1⟩; rw [rIs_no h1]; have H1 := Aside0.mk (h.step hb1)))
    go_ret
    rw [rEnd_no (fun x => h1 x.1)]
    exact ⟨rfl, H1.out⟩
end Go.Proofs.Ytkgjokidfbpnbaa.InW
namespace Go.Proofs.Ytkgjokidfbpnbaa.InW
open Go.RowKit Go.Proofs.YtkgjokidfbpnbaaW.PrintWords Go.Proofs.YtkgjokidfbpnbaaW.PrintLast Go.Proofs.YtkgjokidfbpnbaaW.PrintMore Go.Proofs.Ytkgjokidfbpnbaa.Sep
attribute [local go_sem] max2_int min2_int max_two min_two max_three min_three max_four min_four   -- for this text's walks alone
set_option linter.unusedVariables false
set_option linter.unusedSimpArgs false
set_option maxHeartbeats 4000000 in
set_option maxRecDepth 100000 in
theorem rinput.calls (x : In) (w : World) :
    Calls Try.prog 29 #[.agg #[.int .i64 x.1, .int .i64 x.2.1, .bool x.2.2]] w fun e w' => e = .returned (.bool (rightI x)) ∧ Below w.heap.size w w' := by
  obtain ⟨x1, x2, x3⟩ := x
  by_cases h1 : -2 ≤ x1
  · have d1 : decide (-2 ≤ x1) = true := decide_eq_true h1
    by_cases h2 : x1 ≤ 2
    · have d2 : decide (x1 ≤ 2) = true := decide_eq_true h2
      by_cases h3 : -2 ≤ x2
      · have d3 : decide (-2 ≤ x2) = true := decide_eq_true h3
        go_enter Try.func29, Try.ntmps29
        go_wp2
        go_ret
        have e : rightI (x1, x2, x3) = decide (x2 ≤ 2) := by unfold rightI; simp [h1, h2, h3]
        rw [e]
        exact ⟨rfl, below_alloc (Below.refl _ _) _⟩
      · have d3 : decide (-2 ≤ x2) = false := decide_eq_false h3
        go_enter Try.func29, Try.ntmps29
        go_wp2
        go_ret
        have e : rightI (x1, x2, x3) = false := decide_eq_false (by simp only []; omega)
        rw [e]
        exact ⟨rfl, below_alloc (Below.refl _ _) _⟩
    · have d2 : decide (x1 ≤ 2) = false := decide_eq_false h2
      go_enter Try.func29, Try.ntmps29
      go_wp2
      go_ret
      have e : rightI (x1, x2, x3) = false := decide_eq_false (by simp only []; omega)
      rw [e]
      exact ⟨rfl, below_alloc (Below.refl _ _) _⟩
  · have d1 : decide (-2 ≤ x1) = false := decide_eq_false h1
    go_enter Try.func29, Try.ntmps29
    go_wp2
    go_ret
    have e : rightI (x1, x2, x3) = false := decide_eq_false (by simp only []; omega)
    rw [e]
    exact ⟨rfl, below_alloc (Below.refl _ _) _⟩
theorem al0 (w : World) (o1 o2 : Obj) : ((w.alloc o1).alloc o2).heap[w.heap.size]? = some o1 := by
  refine (Below.heap_alloc _ _ _ (by rw [World.size_alloc]; omega)).trans ?_
  show (w.heap.push _)[w.heap.size]? = _
  exact Array.getElem?_push_size
theorem al1 (w : World) (o1 o2 : Obj) : ((w.alloc o1).alloc o2).heap[w.heap.size + 1]? = some o2 := by
  have e : (w.alloc o1).heap.size = w.heap.size + 1 := World.size_alloc _ _
  rw [← e]
  show ((w.alloc o1).heap.push _)[(w.alloc o1).heap.size]? = _
  exact Array.getElem?_push_size
set_option maxHeartbeats 4000000 in
set_option maxRecDepth 100000 in
theorem rguess.calls (x : In) (w : World) :
    Calls Try.prog 39 #[.agg #[.int .i64 x.1, .int .i64 x.2.1, .bool x.2.2], .bool true] w fun e w' => e = .returned (.agg #[.int .i64 (guessI x true).1, .int .i64 (guessI x true).2.1, .bool (guessI x true).2.2]) ∧ Below w.heap.size w w' := by
  have hu24 := Try.underlying24
  by_cases h1 : rightI x = true
  · have e : guessI x true = (x.1, x.2.1, false) := if_pos ⟨rfl, h1⟩
    rw [e]
    go_enter Try.func39, Try.ntmps39
    go_wp2_with (first | (go_at_call 29; (refine (rinput.calls x _).mono ?_); rintro e w1 ⟨rfl, hb1⟩; rw [h1]; have bk0 : w1.heap[w.heap.size]? = some (.cells #[.int .i64 x.1, .int .i64 x.2.1, .bool x.2.2] 24 (0, 0)) := (hb1.block _ (by simp only [World.size_alloc]; omega)).trans (al0 _ _ _); have bk1 : w1.heap[w.heap.size + 1]? = some (.cells #[.int .i64 0, .int .i64 0, .bool false] 24 (0, 0)) := (hb1.block _ (by simp only [World.size_alloc]; omega)).trans (al1 _ _ _); have BK0 := Aside0.mk bk0; have BK1 := Aside0.mk bk1; have HB := Aside0.mk (below_step (below_alloc (below_alloc (Below.refl _ _) _) _) hb1); have u0 : w1.cell? ⟨w.heap.size, 0, none⟩ = some (.int .i64 x.1) := (blk_cell bk0 0).trans rfl; have u1 : w1.cell? ⟨w.heap.size, 1, none⟩ = some (.int .i64 x.2.1) := (blk_cell bk0 1).trans rfl; have u2 : w1.cell? ⟨w.heap.size, 2, none⟩ = some (.bool x.2.2) := (blk_cell bk0 2).trans rfl; have v0 : w1.cell? ⟨w.heap.size + 1, 0, none⟩ = some (.int .i64 0) := (blk_cell bk1 0).trans rfl; have v1 : w1.cell? ⟨w.heap.size + 1, 1, none⟩ = some (.int .i64 0) := (blk_cell bk1 1).trans rfl; have v2 : w1.cell? ⟨w.heap.size + 1, 2, none⟩ = some (.bool false) := (blk_cell bk1 2).trans rfl; have f2 := blk_frozen bk0 2; have g0 := blk_frozen bk1 0; have g1 := blk_frozen bk1 1; have g2 := blk_frozen bk1 2; clear bk0 bk1 hb1))
    refine bodyPost_ret (results_cell_row rfl _ _ (w.heap.size + 1) 24 #[.int .i64 x.1, .int .i64 x.2.1, .bool false] (0, 0) _ rfl (by refine blk_put (cs := #[.int .i64 x.1, .int .i64 x.2.1, .bool false]) ?_ 2 _ rfl; refine blk_put (cs := #[.int .i64 x.1, .int .i64 0, .bool false]) ?_ 1 _ rfl; refine blk_put (cs := #[.int .i64 0, .int .i64 0, .bool false]) ?_ 0 _ rfl; exact (far_set _ (by omega)).trans BK1.out) Try.underlying24 rfl (by kernel_rfl)) rfl ?_
    exact ⟨rfl, below_set (below_set (below_set (below_set HB.out (Nat.le_refl _)) (Nat.le_succ _)) (Nat.le_succ _)) (Nat.le_succ _)⟩
  · have e : guessI x true = (0, 0, false) := if_neg (fun y => h1 y.2)
    rw [e]
    replace h1 : rightI x = false := by simpa using h1
    go_enter Try.func39, Try.ntmps39
    go_wp2_with (first | (go_at_call 29; (refine (rinput.calls x _).mono ?_); rintro e w1 ⟨rfl, hb1⟩; rw [h1]; have bk0 : w1.heap[w.heap.size]? = some (.cells #[.int .i64 x.1, .int .i64 x.2.1, .bool x.2.2] 24 (0, 0)) := (hb1.block _ (by simp only [World.size_alloc]; omega)).trans (al0 _ _ _); have bk1 : w1.heap[w.heap.size + 1]? = some (.cells #[.int .i64 0, .int .i64 0, .bool false] 24 (0, 0)) := (hb1.block _ (by simp only [World.size_alloc]; omega)).trans (al1 _ _ _); have BK0 := Aside0.mk bk0; have BK1 := Aside0.mk bk1; have HB := Aside0.mk (below_step (below_alloc (below_alloc (Below.refl _ _) _) _) hb1); have u0 : w1.cell? ⟨w.heap.size, 0, none⟩ = some (.int .i64 x.1) := (blk_cell bk0 0).trans rfl; have u1 : w1.cell? ⟨w.heap.size, 1, none⟩ = some (.int .i64 x.2.1) := (blk_cell bk0 1).trans rfl; have u2 : w1.cell? ⟨w.heap.size, 2, none⟩ = some (.bool x.2.2) := (blk_cell bk0 2).trans rfl; have v0 : w1.cell? ⟨w.heap.size + 1, 0, none⟩ = some (.int .i64 0) := (blk_cell bk1 0).trans rfl; have v1 : w1.cell? ⟨w.heap.size + 1, 1, none⟩ = some (.int .i64 0) := (blk_cell bk1 1).trans rfl; have v2 : w1.cell? ⟨w.heap.size + 1, 2, none⟩ = some (.bool false) := (blk_cell bk1 2).trans rfl; have f2 := blk_frozen bk0 2; have g0 := blk_frozen bk1 0; have g1 := blk_frozen bk1 1; have g2 := blk_frozen bk1 2; clear bk0 bk1 hb1))
    refine bodyPost_ret (results_cell_row rfl _ _ (w.heap.size + 1) 24 #[.int .i64 0, .int .i64 0, .bool false] (0, 0) _ rfl (by refine blk_put (cs := #[.int .i64 0, .int .i64 0, .bool false]) ?_ 2 _ rfl; refine blk_put (cs := #[.int .i64 0, .int .i64 0, .bool false]) ?_ 1 _ rfl; refine blk_put (cs := #[.int .i64 0, .int .i64 0, .bool false]) ?_ 0 _ rfl; exact BK1.out) Try.underlying24 rfl (by kernel_rfl)) rfl ?_
    exact ⟨rfl, below_set (below_set (below_set HB.out (Nat.le_succ _)) (Nat.le_succ _)) (Nat.le_succ _)⟩
def rAtf (cs : List Rc) (p f : Int) : In × Bool :=
  if (1 ≤ p ∧ p ≤ (cs.length : Int)) ∧ 0 ≤ f then
    if f < (rAt cs p).l.length then (rdI (rAt cs p).l f, true)
    else if 0 ≤ (rAt cs p).e ∧ (rAt cs p).e ≤ f then ((0, 0, false), true)
    else if (rAt cs p).l.length = 0 then ((0, 0, false), false)
    else (guessI (rdI (rAt cs p).l ((rAt cs p).l.length - 1)) true, false)
  else ((0, 0, false), false)
end Go.Proofs.Ytkgjokidfbpnbaa.InW
