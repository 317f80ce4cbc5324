/- The document's table: a column laid open; At; The document's table: Add; The document's table: Stream and New; The document's table: New. Conditions: as told at each. -/
import Derived.Test.YtkgjokidfbpnbaaMc
import Derived.Test.YtkgjokidfbpnbaaRules2
import Derived.Test.YtkgjokidfbpnbaaRegK
import Derived.Test.YtkgjokidfbpnbaaWGuard
namespace Go.Proofs.Ytkgjokidfbpnbaa.InW
open Go.RowKit Go.Proofs.YtkgjokidfbpnbaaW.PrintWords Go.Proofs.YtkgjokidfbpnbaaW.PrintLast Go.Proofs.YtkgjokidfbpnbaaW.PrintMore Go.Proofs.Ytkgjokidfbpnbaa.Sep
attribute [local go_sem] max2_int min2_int max_two min_two max_three min_three max_four min_four   -- for this text's walks alone
set_option linter.unusedVariables false
set_option linter.unusedSimpArgs false
theorem size_flat {vs : List RR} {zs : List Value} {j : Nat} (h : j < vs.length) : j * 2 + 1 < (flatR vs ++ zs).toArray.size := by
  have := flatR_len vs
  simp
  omega
/-- column j laid open: its row, the table, the columns' cells; and how it is shut again -/
theorem ref_zoom {w0 w : World} {base r : Nat} {cs : List Rc} {F : List Asr} (h : Has w0 base w (refT r cs :: F)) (j : Nat) (hj : j < cs.length) :
    ∃ (ra k : Nat) (A : Option Addr) (c2 : Nat) (G : List Asr) (cells : Array Value), cells[j * 2]? = some (.slice A cs[j].l.length c2) ∧ cells[j * 2 + 1]? = some (.int .i64 cs[j].e) ∧ cs.length ≤ k ∧ cs[j].l.length ≤ c2 ∧ j * 2 + 1 < cells.size ∧
      Has w0 base w (row kin 24 (.slice A cs[j].l.length c2) cs[j].l :: blk r (.cells #[.slice (some ⟨ra, 0, none⟩) cs.length k] 69 (0, 0)) :: blk ra (.cells cells 71 (0, 0)) :: (G ++ F)) ∧
      (∀ (w' : World) (F' : List Asr) (v' : Value) (l' : List In), Has w0 base w' (row kin 24 v' l' :: blk r (.cells #[.slice (some ⟨ra, 0, none⟩) cs.length k] 69 (0, 0)) :: blk ra (.cells (cells.setIfInBounds (j * 2) v') 71 (0, 0)) :: (G ++ F')) → Has w0 base w' (refT r (cs.set j ⟨l', cs[j].e⟩) :: F')) ∧
      (∀ (w' : World) (F' : List Asr), Has w0 base w' (row kin 24 (.slice A cs[j].l.length c2) cs[j].l :: blk r (.cells #[.slice (some ⟨ra, 0, none⟩) cs.length k] 69 (0, 0)) :: blk ra (.cells cells 71 (0, 0)) :: (G ++ F')) → Has w0 base w' (refT r cs :: F')) := by
  obtain ⟨ra, k, vs, zs, k1, k2, k3, k4⟩ := ref_open h
  have hjv : j < vs.length := by omega
  have hf := ref_front j hjv hj k4
  obtain ⟨A, c2, e⟩ := hf.rowIs
  have hl := flatR_len vs
  obtain ⟨g0, g1⟩ := flatR_get vs j hjv
  have look : ∀ t u, (flatR vs)[t]? = some u → (flatR vs ++ zs).toArray[t]? = some u := fun t u hu => by
    have ht : t < (flatR vs).length := (List.getElem?_eq_some_iff.1 hu).1
    rw [List.getElem?_toArray, List.getElem?_append_left ht]
    exact hu
  rw [e] at g0
  rw [k3 j hjv hj] at g1
  have hle : cs[j].l.length ≤ c2 := by rw [e] at hf; exact hf.rowN.2.1
  have back : ∀ (w' : World) (F' : List Asr) (v' : Value) (l' : List In), Has w0 base w' (row kin 24 v' l' :: blk r (.cells #[.slice (some ⟨ra, 0, none⟩) cs.length k] 69 (0, 0)) :: blk ra (.cells ((flatR vs ++ zs).toArray.setIfInBounds (j * 2) v') 71 (0, 0)) :: ((rowsR (vs.take j) (cs.take j) ++ rowsR (vs.drop (j + 1)) (cs.drop (j + 1))) ++ F')) → Has w0 base w' (refT r (cs.set j ⟨l', cs[j].e⟩) :: F') := by
    intro w' F' v' l' h'
    rw [List.append_assoc] at h'
    have hb := ref_back (cs := cs) (vs := vs) j hjv hj (v', vs[j].2) ⟨l', cs[j].e⟩ h'
    have hc : (flatR vs ++ zs).toArray.setIfInBounds (j * 2) v' = (flatR (vs.set j (v', vs[j].2)) ++ zs).toArray := by
      rw [List.setIfInBounds_toArray, List.set_append_left _ _ (by omega), flatR_set0 vs j hjv]
    rw [hc] at hb
    have hln : (cs.set j ⟨l', cs[j].e⟩).length = cs.length := List.length_set
    refine ref_shut (ra := ra) (c := k) (vs := vs.set j (v', vs[j].2)) (zs := zs) (by rw [List.length_set, hln]; exact k1) (by rw [hln]; exact k2) (fun i h1 h2 => ?_) ?_
    · rw [List.getElem_set, List.getElem_set]
      split
      · exact k3 _ _ _
      · exact k3 _ _ _
    · rw [hln]
      exact hb
  refine ⟨ra, k, A, c2, rowsR (vs.take j) (cs.take j) ++ rowsR (vs.drop (j + 1)) (cs.drop (j + 1)), (flatR vs ++ zs).toArray, look _ _ g0, look _ _ g1, k2, hle, size_flat hjv, ?_, back, fun w' F' h' => ?_⟩
  · rw [e] at hf
    rw [List.append_assoc]
    exact hf
  · have hset : (flatR vs ++ zs).toArray.setIfInBounds (j * 2) (.slice A cs[j].l.length c2) = (flatR vs ++ zs).toArray := by
      apply Array.ext'
      rw [Array.toList_setIfInBounds]
      apply List.ext_getElem?
      intro i
      rw [List.getElem?_set]
      split
      · rename_i ei
        subst ei
        have := look _ _ g0
        rw [List.getElem?_toArray] at this
        split
        · exact this.symm
        · rename_i hn
          have := (List.getElem?_eq_some_iff.1 this).1
          exact absurd this (by simpa using hn)
      · rfl
    have := back w' F' (.slice A cs[j].l.length c2) cs[j].l (by rw [hset]; exact h')
    have hcs : cs.set j ⟨cs[j].l, cs[j].e⟩ = cs := List.set_getElem_self _
    rwa [hcs] at this
theorem zoom_cells {w0 w : World} {base ra T : Nat} {cells : Array Value} {F : List Asr} {j : Nat} {u v : Value} (h : Has w0 base w (blk ra (.cells cells T (0, 0)) :: F)) (h0 : cells[j * 2]? = some u) (h1 : cells[j * 2 + 1]? = some v) : w.cell? ⟨ra, j * 2, none⟩ = some u ∧ w.cell? ⟨ra, j * 2 + 1, none⟩ = some v :=
  ⟨(blk_cell h.blk _).trans h0, (blk_cell h.blk _).trans h1⟩
theorem rAtf_no {cs : List Rc} {p f : Int} (h : ¬ ((1 ≤ p ∧ p ≤ (cs.length : Int)) ∧ 0 ≤ f)) : rAtf cs p f = ((0, 0, false), false) := by unfold rAtf; rw [if_neg h]
set_option maxHeartbeats 4000000 in
set_option maxRecDepth 100000 in
theorem rat.H {w0 w : World} {base r : Nat} {cs : List Rc} {F : List Asr} (h : Has w0 base w (refT r cs :: F)) (hn : cs.length ≤ 1000000) (hl : ∀ c ∈ cs, c.l.length ≤ 1000000 ∧ I64 c.e) (p f : Int) (hp : I64 p) (hf : I64 f) :
    Calls Try.prog 26 #[.pointer (some ⟨r, 0, none⟩), .int .i64 p, .int .i64 f] w fun e w' => e = .returned (.tuple #[.agg #[.int .i64 (rAtf cs p f).1.1, .int .i64 (rAtf cs p f).1.2.1, .bool (rAtf cs p f).1.2.2], .bool (rAtf cs p f).2]) ∧ Has w0 base w' (refT r cs :: F) := by
  have hu24 := Try.underlying24
  have hu71 := Try.underlying71
  by_cases h1 : 1 ≤ p ∧ p ≤ (cs.length : Int)
  · have hj : p.toNat - 1 < cs.length := by omega
    obtain ⟨ra, k, A, c2, G, cells, g0, g1, hk, hle, hsz, hZ, -, hback⟩ := ref_zoom h (p.toNat - 1) hj
    have hrA := rAt_get hj
    have hcl := hl _ (List.getElem_mem hj)
    rw [← hrA] at g0 g1 hle hZ hback hcl
    obtain ⟨L, hL⟩ : ∃ L, (rAt cs p).l = L := ⟨_, rfl⟩
    obtain ⟨e, he⟩ : ∃ e, (rAt cs p).e = e := ⟨_, rfl⟩
    rw [hL] at g0 hle hZ hback hcl
    rw [he] at g1 hcl
    have HZ := Aside0.mk hZ
    have HBK := Aside0.mk hback
    have G0 := Aside0.mk g0
    have G1 := Aside0.mk g1
    have HL := Aside0.mk hL
    have HE := Aside0.mk he
    obtain ⟨hcl1, hcl2⟩ := hcl
    clear hZ hback g0 g1 hrA hL he h hl hsz
    obtain ⟨fr, hfr⟩ : ∃ fr, rAtf cs p f = fr := ⟨_, rfl⟩
    have HFR := Aside0.mk hfr
    rw [hfr]
    clear hfr
    by_cases h2 : f < 0
    · have d2 : decide (f < 0) = true := decide_eq_true h2
      go_enter Try.func26, Try.ntmps26
      go_wp2_with (first | ((with_reducible refine gate_dst (N := 6) rfl ?_); refine box_event ?hg (N := 6) ?hd (cs := #[.int .i64 0, .int .i64 0, .bool false]) (t := 24) ?hr ?_; (case hd => rfl); (case hg => rfl); (case hr => first | (go_simp; done) | (go_simp; rfl)); intro gz hgb_ wa1 hbox_ hb5_; have h_new := Has.ownNew HZ.out hgb_ hb5_ hbox_; clear hgb_ hb5_ hbox_; have Ha1 := Aside0.mk h_new; clear h_new HZ; have c_tb_0 : wa1.cell? ⟨r, 0, none⟩ = some (.slice (some ⟨ra, 0, none⟩) cs.length k) := (blk_cell (Ha1.out.up2).blk 0).trans rfl) | ((go_at_call 37); (with_reducible refine (ris.calls c_tb_0 p hp hn).mono ?_); rintro e_ wa2 ⟨rfl, hb_⟩; have h_new := Ha1.out.step hb_; clear hb_; have Ha2 := Aside0.mk h_new; clear h_new Ha1; clear c_tb_0; have c_tb_0 : wa2.cell? ⟨r, 0, none⟩ = some (.slice (some ⟨ra, 0, none⟩) cs.length k) := (blk_cell (Ha2.out.up2).blk 0).trans rfl; rw [rIs_yes h1]) | ((with_reducible refine gate_store (t := 24) (p := 6) rfl ?_); refine wp_storeB rfl rfl 24 _ _ rfl (g := gz) (j := 0) (u := (.agg #[.int .i64 0, .int .i64 0, .bool false])) (cs2 := #[.int .i64 0, .int .i64 0, .bool false]) [.int .i64 0, .int .i64 0, .bool false] rfl rfl rfl ?sI (by simp [Value.oneCell']) rfl (Ha2.out) (by simp) ?_; (case sI => first | rfl | kernel_rfl); intro wa3 h_new; have Ha3 := Aside0.mk h_new; clear h_new Ha2; clear c_tb_0; have c_tb_0 : wa3.cell? ⟨r, 0, none⟩ = some (.slice (some ⟨ra, 0, none⟩) cs.length k) := (blk_cell (Ha3.out.up2).blk 0).trans rfl))
      refine bodyPost_ret (results_ct rfl _ _ gz 24 #[.int .i64 0, .int .i64 0, .bool false] (0, 0) _ rfl Ha3.out.blk Try.underlying24 rfl (by kernel_rfl)) rfl ?_
      have e9 := HFR.out
      rw [rAtf_no (by omega)] at e9
      subst e9
      exact ⟨rfl, HBK.out _ _ Ha3.out.drop⟩
    · have d2 : decide (f < 0) = false := decide_eq_false h2
      by_cases h3 : f < (L.length : Int)
      · have d3 : decide (f < (L.length : Int)) = true := decide_eq_true h3
        obtain ⟨ad, eA, -⟩ := at_inI HZ.out.rowN.2.2 f (by omega) h3
        subst eA
        obtain ⟨x, hx⟩ : ∃ x, rdI L f = x := ⟨_, rfl⟩
        have HX := Aside0.mk hx
        clear hx
        go_enter Try.func26, Try.ntmps26
        go_wp2_with (first | ((with_reducible refine gate_dst (N := 6) rfl ?_); refine box_event ?hg (N := 6) ?hd (cs := #[.int .i64 0, .int .i64 0, .bool false]) (t := 24) ?hr ?_; (case hd => rfl); (case hg => rfl); (case hr => first | (go_simp; done) | (go_simp; rfl)); intro gz hgb_ wb1 hbox_ hb5_; have h_new := Has.ownNew HZ.out hgb_ hb5_ hbox_; clear hgb_ hb5_ hbox_; have Hb1 := Aside0.mk h_new; clear h_new HZ; have c_tb_0 : wb1.cell? ⟨r, 0, none⟩ = some (.slice (some ⟨ra, 0, none⟩) cs.length k) := (blk_cell (Hb1.out.up2).blk 0).trans rfl) | ((go_at_call 37); (with_reducible refine (ris.calls c_tb_0 p hp hn).mono ?_); rintro e_ wb2 ⟨rfl, hb_⟩; have h_new := Hb1.out.step hb_; clear hb_; have Hb2 := Aside0.mk h_new; clear h_new Hb1; clear c_tb_0; have c_tb_0 : wb2.cell? ⟨r, 0, none⟩ = some (.slice (some ⟨ra, 0, none⟩) cs.length k) := (blk_cell (Hb2.out.up2).blk 0).trans rfl; rw [rIs_yes h1]; obtain ⟨x0, x1⟩ := zoom_cells (Hb2.out.up3) G0.out G1.out) | ((with_reducible refine gate_dst (N := 8) rfl ?_); refine box_event ?hg (N := 8) ?hd (cs := #[.slice none 0 0, .int .i64 0]) (t := 71) ?hr ?_; (case hd => rfl); (case hg => rfl); (case hr => first | (go_simp; done) | (go_simp; rfl)); intro gc hgb_ wb3 hbox_ hb5_; have h_new := Has.ownNew Hb2.out hgb_ hb5_ hbox_; clear hgb_ hb5_ hbox_; have Hb3 := Aside0.mk h_new; clear h_new Hb2; clear c_tb_0; have c_tb_0 : wb3.cell? ⟨r, 0, none⟩ = some (.slice (some ⟨ra, 0, none⟩) cs.length k) := (blk_cell (Hb3.out.up3).blk 0).trans rfl) | ((with_reducible refine gate_store (t := 71) (p := 8) rfl ?_); refine wp_storeB rfl rfl 71 _ _ rfl (g := gc) (j := 0) (u := (.agg #[.slice (some ad) L.length c2, .int .i64 e])) (cs2 := #[.slice (some ad) L.length c2, .int .i64 e]) [.slice (some ad) L.length c2, .int .i64 e] rfl rfl rfl ?sI (by simp [Value.oneCell']) rfl (Hb3.out) (by simp) ?_; (case sI => first | rfl | kernel_rfl); intro wb4 h_new; have Hb4 := Aside0.mk h_new; clear h_new Hb3; clear c_tb_0; have c_co_0 : wb4.cell? ⟨gc, 0, none⟩ = some (.slice (some ad) L.length c2) := (blk_cell (Hb4.out).blk 0).trans rfl; have c_co_1 : wb4.cell? ⟨gc, 1, none⟩ = some (.int .i64 e) := (blk_cell (Hb4.out).blk 1).trans rfl; obtain ⟨ad9, ea9, y0, y1, y2⟩ := at_inI (Hb4.out.up2).rowN.2.2 f (by omega) h3; obtain rfl := Option.some.inj ea9; rw [HX.out] at y0 y1 y2) | ((with_reducible refine gate_store (t := 24) (p := 6) rfl ?_); refine wp_storeB rfl rfl 24 _ _ rfl (g := gz) (j := 0) (u := (.agg #[.int .i64 x.1, .int .i64 x.2.1, .bool x.2.2])) (cs2 := #[.int .i64 x.1, .int .i64 x.2.1, .bool x.2.2]) [.int .i64 x.1, .int .i64 x.2.1, .bool x.2.2] rfl rfl rfl ?sI (by simp [Value.oneCell']) rfl (Hb4.out.sw) (by simp) ?_; (case sI => first | rfl | kernel_rfl); intro wb5 h_new; have Hb5 := Aside0.mk h_new; clear h_new Hb4; clear c_co_0 c_co_1; have c_co_0 : wb5.cell? ⟨gc, 0, none⟩ = some (.slice (some ad) L.length c2) := (blk_cell (Hb5.out.sw).blk 0).trans rfl; have c_co_1 : wb5.cell? ⟨gc, 1, none⟩ = some (.int .i64 e) := (blk_cell (Hb5.out.sw).blk 1).trans rfl))
        refine bodyPost_ret (results_ct rfl _ _ gz 24 #[.int .i64 x.1, .int .i64 x.2.1, .bool x.2.2] (0, 0) _ rfl Hb5.out.blk Try.underlying24 rfl (by kernel_rfl)) rfl ?_
        have e9 := HFR.out
        unfold rAtf at e9; rw [HL.out, HE.out, if_pos ⟨h1, by omega⟩, if_pos h3, HX.out] at e9
        subst e9
        exact ⟨rfl, HBK.out _ _ (Hb5.out.drop.drop.up2.up2.up2)⟩
      · have d3 : decide (f < (L.length : Int)) = false := decide_eq_false h3
        by_cases h4 : 0 ≤ e
        · have d4 : decide (0 ≤ e) = true := decide_eq_true h4
          by_cases h5 : e ≤ f
          · have d5 : decide (e ≤ f) = true := decide_eq_true h5
            go_enter Try.func26, Try.ntmps26
            go_wp2_with (first | ((with_reducible refine gate_dst (N := 6) rfl ?_); refine box_event ?hg (N := 6) ?hd (cs := #[.int .i64 0, .int .i64 0, .bool false]) (t := 24) ?hr ?_; (case hd => rfl); (case hg => rfl); (case hr => first | (go_simp; done) | (go_simp; rfl)); intro gz hgb_ wc1 hbox_ hb5_; have h_new := Has.ownNew HZ.out hgb_ hb5_ hbox_; clear hgb_ hb5_ hbox_; have Hc1 := Aside0.mk h_new; clear h_new HZ; have c_tb_0 : wc1.cell? ⟨r, 0, none⟩ = some (.slice (some ⟨ra, 0, none⟩) cs.length k) := (blk_cell (Hc1.out.up2).blk 0).trans rfl) | ((go_at_call 37); (with_reducible refine (ris.calls c_tb_0 p hp hn).mono ?_); rintro e_ wc2 ⟨rfl, hb_⟩; have h_new := Hc1.out.step hb_; clear hb_; have Hc2 := Aside0.mk h_new; clear h_new Hc1; clear c_tb_0; have c_tb_0 : wc2.cell? ⟨r, 0, none⟩ = some (.slice (some ⟨ra, 0, none⟩) cs.length k) := (blk_cell (Hc2.out.up2).blk 0).trans rfl; rw [rIs_yes h1]; obtain ⟨x0, x1⟩ := zoom_cells (Hc2.out.up3) G0.out G1.out) | ((with_reducible refine gate_dst (N := 8) rfl ?_); refine box_event ?hg (N := 8) ?hd (cs := #[.slice none 0 0, .int .i64 0]) (t := 71) ?hr ?_; (case hd => rfl); (case hg => rfl); (case hr => first | (go_simp; done) | (go_simp; rfl)); intro gc hgb_ wc3 hbox_ hb5_; have h_new := Has.ownNew Hc2.out hgb_ hb5_ hbox_; clear hgb_ hb5_ hbox_; have Hc3 := Aside0.mk h_new; clear h_new Hc2; clear c_tb_0; have c_tb_0 : wc3.cell? ⟨r, 0, none⟩ = some (.slice (some ⟨ra, 0, none⟩) cs.length k) := (blk_cell (Hc3.out.up3).blk 0).trans rfl) | ((with_reducible refine gate_store (t := 71) (p := 8) rfl ?_); refine wp_storeB rfl rfl 71 _ _ rfl (g := gc) (j := 0) (u := (.agg #[.slice A L.length c2, .int .i64 e])) (cs2 := #[.slice A L.length c2, .int .i64 e]) [.slice A L.length c2, .int .i64 e] rfl rfl rfl ?sI (by simp [Value.oneCell']) rfl (Hc3.out) (by simp) ?_; (case sI => first | rfl | kernel_rfl); intro wc4 h_new; have Hc4 := Aside0.mk h_new; clear h_new Hc3; clear c_tb_0; have c_co_0 : wc4.cell? ⟨gc, 0, none⟩ = some (.slice A L.length c2) := (blk_cell (Hc4.out).blk 0).trans rfl; have c_co_1 : wc4.cell? ⟨gc, 1, none⟩ = some (.int .i64 e) := (blk_cell (Hc4.out).blk 1).trans rfl) | ((with_reducible refine gate_store (t := 24) (p := 6) rfl ?_); refine wp_storeB rfl rfl 24 _ _ rfl (g := gz) (j := 0) (u := (.agg #[.int .i64 0, .int .i64 0, .bool false])) (cs2 := #[.int .i64 0, .int .i64 0, .bool false]) [.int .i64 0, .int .i64 0, .bool false] rfl rfl rfl ?sI (by simp [Value.oneCell']) rfl (Hc4.out.sw) (by simp) ?_; (case sI => first | rfl | kernel_rfl); intro wc5 h_new; have Hc5 := Aside0.mk h_new; clear h_new Hc4; clear c_co_0 c_co_1; have c_co_0 : wc5.cell? ⟨gc, 0, none⟩ = some (.slice A L.length c2) := (blk_cell (Hc5.out.sw).blk 0).trans rfl; have c_co_1 : wc5.cell? ⟨gc, 1, none⟩ = some (.int .i64 e) := (blk_cell (Hc5.out.sw).blk 1).trans rfl))
            refine bodyPost_ret (results_ct rfl _ _ gz 24 #[.int .i64 0, .int .i64 0, .bool false] (0, 0) _ rfl Hc5.out.blk Try.underlying24 rfl (by kernel_rfl)) rfl ?_
            have e9 := HFR.out
            unfold rAtf at e9; rw [HL.out, HE.out, if_pos ⟨h1, by omega⟩, if_neg (by omega), if_pos (by omega)] at e9
            subst e9
            exact ⟨rfl, HBK.out _ _ (Hc5.out.drop.drop.up2.up2.up2)⟩
          · have d5 : decide (e ≤ f) = false := decide_eq_false h5
            by_cases h6 : L.length = 0
            · have d6 : decide ((L.length : Int) = 0) = true := decide_eq_true (by omega)
              have d7 : ((L.length : Int) == 0) = true := by simpa using d6
              have d8 : decide (L.length = 0) = true := decide_eq_true h6
              have H6 := Aside0.mk h6
              clear h6
              go_enter Try.func26, Try.ntmps26
              go_wp2_with (first | ((with_reducible refine gate_dst (N := 6) rfl ?_); refine box_event ?hg (N := 6) ?hd (cs := #[.int .i64 0, .int .i64 0, .bool false]) (t := 24) ?hr ?_; (case hd => rfl); (case hg => rfl); (case hr => first | (go_simp; done) | (go_simp; rfl)); intro gz hgb_ wd1 hbox_ hb5_; have h_new := Has.ownNew HZ.out hgb_ hb5_ hbox_; clear hgb_ hb5_ hbox_; have Hd1 := Aside0.mk h_new; clear h_new HZ; have c_tb_0 : wd1.cell? ⟨r, 0, none⟩ = some (.slice (some ⟨ra, 0, none⟩) cs.length k) := (blk_cell (Hd1.out.up2).blk 0).trans rfl) | ((go_at_call 37); (with_reducible refine (ris.calls c_tb_0 p hp hn).mono ?_); rintro e_ wd2 ⟨rfl, hb_⟩; have h_new := Hd1.out.step hb_; clear hb_; have Hd2 := Aside0.mk h_new; clear h_new Hd1; clear c_tb_0; have c_tb_0 : wd2.cell? ⟨r, 0, none⟩ = some (.slice (some ⟨ra, 0, none⟩) cs.length k) := (blk_cell (Hd2.out.up2).blk 0).trans rfl; rw [rIs_yes h1]; obtain ⟨x0, x1⟩ := zoom_cells (Hd2.out.up3) G0.out G1.out) | ((with_reducible refine gate_dst (N := 8) rfl ?_); refine box_event ?hg (N := 8) ?hd (cs := #[.slice none 0 0, .int .i64 0]) (t := 71) ?hr ?_; (case hd => rfl); (case hg => rfl); (case hr => first | (go_simp; done) | (go_simp; rfl)); intro gc hgb_ wd3 hbox_ hb5_; have h_new := Has.ownNew Hd2.out hgb_ hb5_ hbox_; clear hgb_ hb5_ hbox_; have Hd3 := Aside0.mk h_new; clear h_new Hd2; clear c_tb_0; have c_tb_0 : wd3.cell? ⟨r, 0, none⟩ = some (.slice (some ⟨ra, 0, none⟩) cs.length k) := (blk_cell (Hd3.out.up3).blk 0).trans rfl) | ((with_reducible refine gate_store (t := 71) (p := 8) rfl ?_); refine wp_storeB rfl rfl 71 _ _ rfl (g := gc) (j := 0) (u := (.agg #[.slice A L.length c2, .int .i64 e])) (cs2 := #[.slice A L.length c2, .int .i64 e]) [.slice A L.length c2, .int .i64 e] rfl rfl rfl ?sI (by simp [Value.oneCell']) rfl (Hd3.out) (by simp) ?_; (case sI => first | rfl | kernel_rfl); intro wd4 h_new; have Hd4 := Aside0.mk h_new; clear h_new Hd3; clear c_tb_0; have c_co_0 : wd4.cell? ⟨gc, 0, none⟩ = some (.slice A L.length c2) := (blk_cell (Hd4.out).blk 0).trans rfl; have c_co_1 : wd4.cell? ⟨gc, 1, none⟩ = some (.int .i64 e) := (blk_cell (Hd4.out).blk 1).trans rfl) | ((with_reducible refine gate_store (t := 24) (p := 6) rfl ?_); refine wp_storeB rfl rfl 24 _ _ rfl (g := gz) (j := 0) (u := (.agg #[.int .i64 0, .int .i64 0, .bool false])) (cs2 := #[.int .i64 0, .int .i64 0, .bool false]) [.int .i64 0, .int .i64 0, .bool false] rfl rfl rfl ?sI (by simp [Value.oneCell']) rfl (Hd4.out.sw) (by simp) ?_; (case sI => first | rfl | kernel_rfl); intro wd5 h_new; have Hd5 := Aside0.mk h_new; clear h_new Hd4; clear c_co_0 c_co_1; have c_co_0 : wd5.cell? ⟨gc, 0, none⟩ = some (.slice A L.length c2) := (blk_cell (Hd5.out.sw).blk 0).trans rfl; have c_co_1 : wd5.cell? ⟨gc, 1, none⟩ = some (.int .i64 e) := (blk_cell (Hd5.out.sw).blk 1).trans rfl))
              refine bodyPost_ret (results_ct rfl _ _ gz 24 #[.int .i64 0, .int .i64 0, .bool false] (0, 0) _ rfl Hd5.out.blk Try.underlying24 rfl (by kernel_rfl)) rfl ?_
              have e9 := HFR.out
              unfold rAtf at e9; rw [HL.out, HE.out, if_pos ⟨h1, by omega⟩, if_neg (by omega), if_neg (by omega), if_pos H6.out] at e9
              subst e9
              exact ⟨rfl, HBK.out _ _ (Hd5.out.drop.drop.up2.up2.up2)⟩
            · have d6 : decide ((L.length : Int) = 0) = false := decide_eq_false (by omega)
              have d7 : ((L.length : Int) == 0) = false := by simpa using d6
              have d8 : decide (L.length = 0) = false := decide_eq_false h6
              have HM1 := Aside0.mk (show ((L.length : Int) - 1).toNat = L.length - 1 by omega)
              have hm0 : (0 : Int) ≤ (L.length : Int) - 1 := by omega
              have hm1 : (L.length : Int) - 1 < (L.length : Int) := by omega
              obtain ⟨ad, eA, -⟩ := at_inI HZ.out.rowN.2.2 ((L.length : Int) - 1) (by omega) (by omega)
              subst eA
              obtain ⟨x, hx⟩ : ∃ x, rdI L ((L.length : Int) - 1) = x := ⟨_, rfl⟩
              have HX := Aside0.mk hx
              clear hx
              go_enter Try.func26, Try.ntmps26
              go_wp2_with (first | ((with_reducible refine gate_dst (N := 6) rfl ?_); refine box_event ?hg (N := 6) ?hd (cs := #[.int .i64 0, .int .i64 0, .bool false]) (t := 24) ?hr ?_; (case hd => rfl); (case hg => rfl); (case hr => first | (go_simp; done) | (go_simp; rfl)); intro gz hgb_ wg1 hbox_ hb5_; have h_new := Has.ownNew HZ.out hgb_ hb5_ hbox_; clear hgb_ hb5_ hbox_; have Hg1 := Aside0.mk h_new; clear h_new HZ; have c_tb_0 : wg1.cell? ⟨r, 0, none⟩ = some (.slice (some ⟨ra, 0, none⟩) cs.length k) := (blk_cell (Hg1.out.up2).blk 0).trans rfl) | ((go_at_call 37); (with_reducible refine (ris.calls c_tb_0 p hp hn).mono ?_); rintro e_ wg2 ⟨rfl, hb_⟩; have h_new := Hg1.out.step hb_; clear hb_; have Hg2 := Aside0.mk h_new; clear h_new Hg1; clear c_tb_0; have c_tb_0 : wg2.cell? ⟨r, 0, none⟩ = some (.slice (some ⟨ra, 0, none⟩) cs.length k) := (blk_cell (Hg2.out.up2).blk 0).trans rfl; rw [rIs_yes h1]; obtain ⟨x0, x1⟩ := zoom_cells (Hg2.out.up3) G0.out G1.out) | ((with_reducible refine gate_dst (N := 8) rfl ?_); refine box_event ?hg (N := 8) ?hd (cs := #[.slice none 0 0, .int .i64 0]) (t := 71) ?hr ?_; (case hd => rfl); (case hg => rfl); (case hr => first | (go_simp; done) | (go_simp; rfl)); intro gc hgb_ wg3 hbox_ hb5_; have h_new := Has.ownNew Hg2.out hgb_ hb5_ hbox_; clear hgb_ hb5_ hbox_; have Hg3 := Aside0.mk h_new; clear h_new Hg2; clear c_tb_0; have c_tb_0 : wg3.cell? ⟨r, 0, none⟩ = some (.slice (some ⟨ra, 0, none⟩) cs.length k) := (blk_cell (Hg3.out.up3).blk 0).trans rfl) | ((with_reducible refine gate_store (t := 71) (p := 8) rfl ?_); refine wp_storeB rfl rfl 71 _ _ rfl (g := gc) (j := 0) (u := (.agg #[.slice (some ad) L.length c2, .int .i64 e])) (cs2 := #[.slice (some ad) L.length c2, .int .i64 e]) [.slice (some ad) L.length c2, .int .i64 e] rfl rfl rfl ?sI (by simp [Value.oneCell']) rfl (Hg3.out) (by simp) ?_; (case sI => first | rfl | kernel_rfl); intro wg4 h_new; have Hg4 := Aside0.mk h_new; clear h_new Hg3; clear c_tb_0; have c_co_0 : wg4.cell? ⟨gc, 0, none⟩ = some (.slice (some ad) L.length c2) := (blk_cell (Hg4.out).blk 0).trans rfl; have c_co_1 : wg4.cell? ⟨gc, 1, none⟩ = some (.int .i64 e) := (blk_cell (Hg4.out).blk 1).trans rfl; obtain ⟨ad9, ea9, y0, y1, y2⟩ := at_inI (Hg4.out.up2).rowN.2.2 ((L.length : Int) - 1) (by omega) (by omega); obtain rfl := Option.some.inj ea9; rw [HX.out, HM1.out] at y0 y1 y2) | ((go_at_call 39); (with_reducible refine (rguess.calls x _).mono ?_); rintro e_ wg5 ⟨rfl, hb_⟩; have h_new := Hg4.out.step hb_; clear hb_; have Hg5 := Aside0.mk h_new; clear h_new Hg4; clear c_co_0 c_co_1; have c_co_0 : wg5.cell? ⟨gc, 0, none⟩ = some (.slice (some ad) L.length c2) := (blk_cell (Hg5.out).blk 0).trans rfl; have c_co_1 : wg5.cell? ⟨gc, 1, none⟩ = some (.int .i64 e) := (blk_cell (Hg5.out).blk 1).trans rfl) | ((with_reducible refine gate_store (t := 24) (p := 6) rfl ?_); refine wp_storeB rfl rfl 24 _ _ rfl (g := gz) (j := 0) (u := (.agg #[.int .i64 (guessI x true).1, .int .i64 (guessI x true).2.1, .bool (guessI x true).2.2])) (cs2 := #[.int .i64 (guessI x true).1, .int .i64 (guessI x true).2.1, .bool (guessI x true).2.2]) [.int .i64 (guessI x true).1, .int .i64 (guessI x true).2.1, .bool (guessI x true).2.2] rfl rfl rfl ?sI (by simp [Value.oneCell']) rfl (Hg5.out.sw) (by simp) ?_; (case sI => first | rfl | kernel_rfl); intro wg6 h_new; have Hg6 := Aside0.mk h_new; clear h_new Hg5; clear c_co_0 c_co_1; have c_co_0 : wg6.cell? ⟨gc, 0, none⟩ = some (.slice (some ad) L.length c2) := (blk_cell (Hg6.out.sw).blk 0).trans rfl; have c_co_1 : wg6.cell? ⟨gc, 1, none⟩ = some (.int .i64 e) := (blk_cell (Hg6.out.sw).blk 1).trans rfl))
              refine bodyPost_ret (results_ct rfl _ _ gz 24 #[.int .i64 (guessI x true).1, .int .i64 (guessI x true).2.1, .bool (guessI x true).2.2] (0, 0) _ rfl Hg6.out.blk Try.underlying24 rfl (by kernel_rfl)) rfl ?_
              have e9 := HFR.out
              unfold rAtf at e9; rw [HL.out, HE.out, if_pos ⟨h1, by omega⟩, if_neg (by omega), if_neg (by omega), if_neg (by omega), HX.out] at e9
              subst e9
              exact ⟨rfl, HBK.out _ _ (Hg6.out.drop.drop.up2.up2.up2)⟩
        · have d4 : decide (0 ≤ e) = false := decide_eq_false h4
          by_cases h6 : L.length = 0
          · have d6 : decide ((L.length : Int) = 0) = true := decide_eq_true (by omega)
            have d7 : ((L.length : Int) == 0) = true := by simpa using d6
            have d8 : decide (L.length = 0) = true := decide_eq_true h6
            have H6 := Aside0.mk h6
            clear h6
            go_enter Try.func26, Try.ntmps26
            go_wp2_with (first | ((with_reducible refine gate_dst (N := 6) rfl ?_); refine box_event ?hg (N := 6) ?hd (cs := #[.int .i64 0, .int .i64 0, .bool false]) (t := 24) ?hr ?_; (case hd => rfl); (case hg => rfl); (case hr => first | (go_simp; done) | (go_simp; rfl)); intro gz hgb_ wd6 hbox_ hb5_; have h_new := Has.ownNew HZ.out hgb_ hb5_ hbox_; clear hgb_ hb5_ hbox_; have Hd6 := Aside0.mk h_new; clear h_new HZ; have c_tb_0 : wd6.cell? ⟨r, 0, none⟩ = some (.slice (some ⟨ra, 0, none⟩) cs.length k) := (blk_cell (Hd6.out.up2).blk 0).trans rfl) | ((go_at_call 37); (with_reducible refine (ris.calls c_tb_0 p hp hn).mono ?_); rintro e_ wd7 ⟨rfl, hb_⟩; have h_new := Hd6.out.step hb_; clear hb_; have Hd7 := Aside0.mk h_new; clear h_new Hd6; clear c_tb_0; have c_tb_0 : wd7.cell? ⟨r, 0, none⟩ = some (.slice (some ⟨ra, 0, none⟩) cs.length k) := (blk_cell (Hd7.out.up2).blk 0).trans rfl; rw [rIs_yes h1]; obtain ⟨x0, x1⟩ := zoom_cells (Hd7.out.up3) G0.out G1.out) | ((with_reducible refine gate_dst (N := 8) rfl ?_); refine box_event ?hg (N := 8) ?hd (cs := #[.slice none 0 0, .int .i64 0]) (t := 71) ?hr ?_; (case hd => rfl); (case hg => rfl); (case hr => first | (go_simp; done) | (go_simp; rfl)); intro gc hgb_ wd8 hbox_ hb5_; have h_new := Has.ownNew Hd7.out hgb_ hb5_ hbox_; clear hgb_ hb5_ hbox_; have Hd8 := Aside0.mk h_new; clear h_new Hd7; clear c_tb_0; have c_tb_0 : wd8.cell? ⟨r, 0, none⟩ = some (.slice (some ⟨ra, 0, none⟩) cs.length k) := (blk_cell (Hd8.out.up3).blk 0).trans rfl) | ((with_reducible refine gate_store (t := 71) (p := 8) rfl ?_); refine wp_storeB rfl rfl 71 _ _ rfl (g := gc) (j := 0) (u := (.agg #[.slice A L.length c2, .int .i64 e])) (cs2 := #[.slice A L.length c2, .int .i64 e]) [.slice A L.length c2, .int .i64 e] rfl rfl rfl ?sI (by simp [Value.oneCell']) rfl (Hd8.out) (by simp) ?_; (case sI => first | rfl | kernel_rfl); intro wd9 h_new; have Hd9 := Aside0.mk h_new; clear h_new Hd8; clear c_tb_0; have c_co_0 : wd9.cell? ⟨gc, 0, none⟩ = some (.slice A L.length c2) := (blk_cell (Hd9.out).blk 0).trans rfl; have c_co_1 : wd9.cell? ⟨gc, 1, none⟩ = some (.int .i64 e) := (blk_cell (Hd9.out).blk 1).trans rfl) | ((with_reducible refine gate_store (t := 24) (p := 6) rfl ?_); refine wp_storeB rfl rfl 24 _ _ rfl (g := gz) (j := 0) (u := (.agg #[.int .i64 0, .int .i64 0, .bool false])) (cs2 := #[.int .i64 0, .int .i64 0, .bool false]) [.int .i64 0, .int .i64 0, .bool false] rfl rfl rfl ?sI (by simp [Value.oneCell']) rfl (Hd9.out.sw) (by simp) ?_; (case sI => first | rfl | kernel_rfl); intro wd10 h_new; have Hd10 := Aside0.mk h_new; clear h_new Hd9; clear c_co_0 c_co_1; have c_co_0 : wd10.cell? ⟨gc, 0, none⟩ = some (.slice A L.length c2) := (blk_cell (Hd10.out.sw).blk 0).trans rfl; have c_co_1 : wd10.cell? ⟨gc, 1, none⟩ = some (.int .i64 e) := (blk_cell (Hd10.out.sw).blk 1).trans rfl))
            refine bodyPost_ret (results_ct rfl _ _ gz 24 #[.int .i64 0, .int .i64 0, .bool false] (0, 0) _ rfl Hd10.out.blk Try.underlying24 rfl (by kernel_rfl)) rfl ?_
            have e9 := HFR.out
            unfold rAtf at e9; rw [HL.out, HE.out, if_pos ⟨h1, by omega⟩, if_neg (by omega), if_neg (by omega), if_pos H6.out] at e9
            subst e9
            exact ⟨rfl, HBK.out _ _ (Hd10.out.drop.drop.up2.up2.up2)⟩
          · have d6 : decide ((L.length : Int) = 0) = false := decide_eq_false (by omega)
            have d7 : ((L.length : Int) == 0) = false := by simpa using d6
            have d8 : decide (L.length = 0) = false := decide_eq_false h6
            have HM1 := Aside0.mk (show ((L.length : Int) - 1).toNat = L.length - 1 by omega)
            have hm0 : (0 : Int) ≤ (L.length : Int) - 1 := by omega
            have hm1 : (L.length : Int) - 1 < (L.length : Int) := by omega
            obtain ⟨ad, eA, -⟩ := at_inI HZ.out.rowN.2.2 ((L.length : Int) - 1) (by omega) (by omega)
            subst eA
            obtain ⟨x, hx⟩ : ∃ x, rdI L ((L.length : Int) - 1) = x := ⟨_, rfl⟩
            have HX := Aside0.mk hx
            clear hx
            go_enter Try.func26, Try.ntmps26
            go_wp2_with (first | ((with_reducible refine gate_dst (N := 6) rfl ?_); refine box_event ?hg (N := 6) ?hd (cs := #[.int .i64 0, .int .i64 0, .bool false]) (t := 24) ?hr ?_; (case hd => rfl); (case hg => rfl); (case hr => first | (go_simp; done) | (go_simp; rfl)); intro gz hgb_ wg7 hbox_ hb5_; have h_new := Has.ownNew HZ.out hgb_ hb5_ hbox_; clear hgb_ hb5_ hbox_; have Hg7 := Aside0.mk h_new; clear h_new HZ; have c_tb_0 : wg7.cell? ⟨r, 0, none⟩ = some (.slice (some ⟨ra, 0, none⟩) cs.length k) := (blk_cell (Hg7.out.up2).blk 0).trans rfl) | ((go_at_call 37); (with_reducible refine (ris.calls c_tb_0 p hp hn).mono ?_); rintro e_ wg8 ⟨rfl, hb_⟩; have h_new := Hg7.out.step hb_; clear hb_; have Hg8 := Aside0.mk h_new; clear h_new Hg7; clear c_tb_0; have c_tb_0 : wg8.cell? ⟨r, 0, none⟩ = some (.slice (some ⟨ra, 0, none⟩) cs.length k) := (blk_cell (Hg8.out.up2).blk 0).trans rfl; rw [rIs_yes h1]; obtain ⟨x0, x1⟩ := zoom_cells (Hg8.out.up3) G0.out G1.out) | ((with_reducible refine gate_dst (N := 8) rfl ?_); refine box_event ?hg (N := 8) ?hd (cs := #[.slice none 0 0, .int .i64 0]) (t := 71) ?hr ?_; (case hd => rfl); (case hg => rfl); (case hr => first | (go_simp; done) | (go_simp; rfl)); intro gc hgb_ wg9 hbox_ hb5_; have h_new := Has.ownNew Hg8.out hgb_ hb5_ hbox_; clear hgb_ hb5_ hbox_; have Hg9 := Aside0.mk h_new; clear h_new Hg8; clear c_tb_0; have c_tb_0 : wg9.cell? ⟨r, 0, none⟩ = some (.slice (some ⟨ra, 0, none⟩) cs.length k) := (blk_cell (Hg9.out.up3).blk 0).trans rfl) | ((with_reducible refine gate_store (t := 71) (p := 8) rfl ?_); refine wp_storeB rfl rfl 71 _ _ rfl (g := gc) (j := 0) (u := (.agg #[.slice (some ad) L.length c2, .int .i64 e])) (cs2 := #[.slice (some ad) L.length c2, .int .i64 e]) [.slice (some ad) L.length c2, .int .i64 e] rfl rfl rfl ?sI (by simp [Value.oneCell']) rfl (Hg9.out) (by simp) ?_; (case sI => first | rfl | kernel_rfl); intro wg10 h_new; have Hg10 := Aside0.mk h_new; clear h_new Hg9; clear c_tb_0; have c_co_0 : wg10.cell? ⟨gc, 0, none⟩ = some (.slice (some ad) L.length c2) := (blk_cell (Hg10.out).blk 0).trans rfl; have c_co_1 : wg10.cell? ⟨gc, 1, none⟩ = some (.int .i64 e) := (blk_cell (Hg10.out).blk 1).trans rfl; obtain ⟨ad9, ea9, y0, y1, y2⟩ := at_inI (Hg10.out.up2).rowN.2.2 ((L.length : Int) - 1) (by omega) (by omega); obtain rfl := Option.some.inj ea9; rw [HX.out, HM1.out] at y0 y1 y2) | ((go_at_call 39); (with_reducible refine (rguess.calls x _).mono ?_); rintro e_ wg11 ⟨rfl, hb_⟩; have h_new := Hg10.out.step hb_; clear hb_; have Hg11 := Aside0.mk h_new; clear h_new Hg10; clear c_co_0 c_co_1; have c_co_0 : wg11.cell? ⟨gc, 0, none⟩ = some (.slice (some ad) L.length c2) := (blk_cell (Hg11.out).blk 0).trans rfl; have c_co_1 : wg11.cell? ⟨gc, 1, none⟩ = some (.int .i64 e) := (blk_cell (Hg11.out).blk 1).trans rfl) | ((with_reducible refine gate_store (t := 24) (p := 6) rfl ?_); refine wp_storeB rfl rfl 24 _ _ rfl (g := gz) (j := 0) (u := (.agg #[.int .i64 (guessI x true).1, .int .i64 (guessI x true).2.1, .bool (guessI x true).2.2])) (cs2 := #[.int .i64 (guessI x true).1, .int .i64 (guessI x true).2.1, .bool (guessI x true).2.2]) [.int .i64 (guessI x true).1, .int .i64 (guessI x true).2.1, .bool (guessI x true).2.2] rfl rfl rfl ?sI (by simp [Value.oneCell']) rfl (Hg11.out.sw) (by simp) ?_; (case sI => first | rfl | kernel_rfl); intro wg12 h_new; have Hg12 := Aside0.mk h_new; clear h_new Hg11; clear c_co_0 c_co_1; have c_co_0 : wg12.cell? ⟨gc, 0, none⟩ = some (.slice (some ad) L.length c2) := (blk_cell (Hg12.out.sw).blk 0).trans rfl; have c_co_1 : wg12.cell? ⟨gc, 1, none⟩ = some (.int .i64 e) := (blk_cell (Hg12.out.sw).blk 1).trans rfl))
            refine bodyPost_ret (results_ct rfl _ _ gz 24 #[.int .i64 (guessI x true).1, .int .i64 (guessI x true).2.1, .bool (guessI x true).2.2] (0, 0) _ rfl Hg12.out.blk Try.underlying24 rfl (by kernel_rfl)) rfl ?_
            have e9 := HFR.out
            unfold rAtf at e9; rw [HL.out, HE.out, if_pos ⟨h1, by omega⟩, if_neg (by omega), if_neg (by omega), if_neg (by omega), HX.out] at e9
            subst e9
            exact ⟨rfl, HBK.out _ _ (Hg12.out.drop.drop.up2.up2.up2)⟩
  · have H := Aside0.mk h
    obtain ⟨ra, k, c0, -, -, -⟩ := ref_cells h
    clear h
    rw [rAtf_no (fun x => h1 x.1)]
    go_enter Try.func26, Try.ntmps26
    go_wp2_with (first | ((with_reducible refine gate_dst (N := 6) rfl ?_); refine box_event ?hg (N := 6) ?hd (cs := #[.int .i64 0, .int .i64 0, .bool false]) (t := 24) ?hr ?_; (case hd => rfl); (case hg => rfl); (case hr => first | (go_simp; done) | (go_simp; rfl)); intro gz hgb_ wn1 hbox_ hb5_; have h_new := Has.ownNew H.out hgb_ hb5_ hbox_; clear hgb_ hb5_ hbox_; have Hn1 := Aside0.mk h_new; clear h_new H; clear c0; obtain ⟨ra, k, c0, -, -, -⟩ := ref_cells (Hn1.out.sw)) | ((go_at_call 37); (with_reducible refine (ris.calls c0 p hp hn).mono ?_); rintro e_ wn2 ⟨rfl, hb_⟩; have h_new := Hn1.out.step hb_; clear hb_; have Hn2 := Aside0.mk h_new; clear h_new Hn1; rw [rIs_no h1]) | ((with_reducible refine gate_store (t := 24) (p := 6) rfl ?_); refine wp_storeB rfl rfl 24 _ _ rfl (g := gz) (j := 0) (u := (.agg #[.int .i64 0, .int .i64 0, .bool false])) (cs2 := #[.int .i64 0, .int .i64 0, .bool false]) [.int .i64 0, .int .i64 0, .bool false] rfl rfl rfl ?sI (by simp [Value.oneCell']) rfl (Hn2.out) (by simp) ?_; (case sI => first | rfl | kernel_rfl); intro wn3 h_new; have Hn3 := Aside0.mk h_new; clear h_new Hn2))
    refine bodyPost_ret (results_ct rfl _ _ gz 24 #[.int .i64 0, .int .i64 0, .bool false] (0, 0) _ rfl Hn3.out.blk Try.underlying24 rfl (by kernel_rfl)) rfl ?_
    exact ⟨rfl, Hn3.out.drop⟩
end Go.Proofs.Ytkgjokidfbpnbaa.InW
namespace Go.Proofs.Ytkgjokidfbpnbaa.InW
open Go.RowKit Go.Proofs.YtkgjokidfbpnbaaW.PrintWords Go.Proofs.YtkgjokidfbpnbaaW.PrintLast Go.Proofs.YtkgjokidfbpnbaaW.PrintMore Go.Proofs.Ytkgjokidfbpnbaa.Sep
attribute [local go_sem] max2_int min2_int max_two min_two max_three min_three max_four min_four   -- for this text's walks alone
set_option linter.unusedVariables false
set_option linter.unusedSimpArgs false
def rGo (fr e : Int) : List In → Nat → List In → Int → List In × Int
  | L, i, [], n => (L, n)
  | L, i, x :: xs, n => if rightI x = false then (L, n) else if (i : Int) < L.length - fr then rGo fr e L (i + 1) xs n else if ((i : Int) ≠ L.length - fr ∨ (0 ≤ e ∧ e ≤ L.length) ∨ 10000 ≤ (L.length : Int)) then (L, n) else rGo fr e (L ++ [x]) (i + 1) xs (n + 1)
def rAdd (cs : List Rc) (p fr : Int) (xs : List In) : Int × List Rc := if (1 ≤ p ∧ p ≤ (cs.length : Int)) ∧ 0 ≤ fr then ((rGo fr (rAt cs p).e (rAt cs p).l 0 xs 0).2, cs.set (p.toNat - 1) ⟨(rGo fr (rAt cs p).e (rAt cs p).l 0 xs 0).1, (rAt cs p).e⟩) else (0, cs)
theorem rAdd_no {cs : List Rc} {p fr : Int} {xs : List In} (h : ¬ ((1 ≤ p ∧ p ≤ (cs.length : Int)) ∧ 0 ≤ fr)) : rAdd cs p fr xs = (0, cs) := by unfold rAdd; rw [if_neg h]
theorem rGo_bad {fr e : Int} {L : List In} {i : Nat} {x : In} {xs : List In} {n : Int} (h : rightI x = false) : rGo fr e L i (x :: xs) n = (L, n) := by rw [rGo, if_pos h]
theorem rGo_skip {fr e : Int} {L : List In} {i : Nat} {x : In} {xs : List In} {n : Int} (h : rightI x = true) (h2 : (i : Int) < L.length - fr) : rGo fr e L i (x :: xs) n = rGo fr e L (i + 1) xs n := by rw [rGo, if_neg (by rw [h]; decide), if_pos h2]
theorem rGo_end {fr e : Int} {L : List In} {i : Nat} {x : In} {xs : List In} {n : Int} (h : rightI x = true) (h2 : ¬ (i : Int) < L.length - fr) (h3 : (i : Int) ≠ L.length - fr ∨ (0 ≤ e ∧ e ≤ L.length) ∨ 10000 ≤ (L.length : Int)) : rGo fr e L i (x :: xs) n = (L, n) := by rw [rGo, if_neg (by rw [h]; decide), if_neg h2, if_pos h3]
theorem rGo_put {fr e : Int} {L : List In} {i : Nat} {x : In} {xs : List In} {n : Int} (h : rightI x = true) (h2 : ¬ (i : Int) < L.length - fr) (h3 : ¬ ((i : Int) ≠ L.length - fr ∨ (0 ≤ e ∧ e ≤ L.length) ∨ 10000 ≤ (L.length : Int))) : rGo fr e L i (x :: xs) n = rGo fr e (L ++ [x]) (i + 1) xs (n + 1) := by rw [rGo, if_neg (by rw [h]; decide), if_neg h2, if_neg h3]
theorem set_same {cs : Array Value} {i : Nat} {v : Value} (h : cs[i]? = some v) : cs.setIfInBounds i v = cs := by
  apply Array.ext'
  rw [Array.toList_setIfInBounds]
  apply List.ext_getElem?
  intro k
  rw [List.getElem?_set, Array.getElem?_toList]
  split
  · rename_i e
    subst e
    split
    · exact h.symm
    · rename_i hn
      exact absurd (Array.getElem?_eq_some_iff.1 h).1 (by simpa using hn)
  · rfl
theorem set_at {cs : Array Value} {i : Nat} (v : Value) (h : i < cs.size) : (cs.setIfInBounds i v)[i]? = some v := by rw [Array.getElem?_setIfInBounds_self]; exact if_pos h
theorem set_next {cs : Array Value} {i : Nat} (v u : Value) (h : cs[i + 1]? = some u) : (cs.setIfInBounds i v)[i + 1]? = some u := by rw [Array.getElem?_setIfInBounds_ne (by omega)]; exact h
theorem set_two {cs : Array Value} {i : Nat} (v u : Value) : Sep.setSeg (cs.setIfInBounds i v) i [u] = cs.setIfInBounds i u := by
  show (cs.setIfInBounds i v).setIfInBounds i u = _
  rw [Array.setIfInBounds_setIfInBounds]
set_option maxHeartbeats 4000000 in
set_option maxRecDepth 100000 in
theorem radd.H {w0 w : World} {base r : Nat} {cs : List Rc} {F : List Asr} (h : Has w0 base w (refT r cs :: F)) (hb0 : w0.heap.size ≤ base) (hn : cs.length ≤ 1000000) (hl : ∀ c ∈ cs, c.l.length ≤ 10000 ∧ I64 c.e) (p fr : Int) (hp : I64 p) (hfr : I64 fr) (Ax : Option Addr) (cx : Nat) (xs : List In) (hx : xs.length ≤ 1000000) (hC : Kd.C kin w0 Ax xs.length xs) :
    Calls Try.prog 23 #[.pointer (some ⟨r, 0, none⟩), .int .i64 p, .int .i64 fr, .slice Ax xs.length cx] w fun e w' => e = .returned (.int .i64 (rAdd cs p fr xs).1) ∧ Has w0 base w' (refT r (rAdd cs p fr xs).2 :: F) := by
  have hu24 := Try.underlying24
  have hu71 := Try.underlying71
  by_cases h1 : 1 ≤ p ∧ p ≤ (cs.length : Int)
  · have hj : p.toNat - 1 < cs.length := by omega
    by_cases h2 : fr < 0
    · have d2 : decide (fr < 0) = true := decide_eq_true h2
      rw [rAdd_no (by omega)]
      have H := Aside0.mk h
      obtain ⟨ra, k, c0, -, -, -⟩ := ref_cells h
      clear h
      go_enter Try.func23, Try.ntmps23
      go_wp2_with (first | ((go_at_call 37); (with_reducible refine (ris.calls c0 p hp hn).mono ?_); rintro e_ wa1 ⟨rfl, hb_⟩; have h_new := H.out.step hb_; clear hb_; have Ha1 := Aside0.mk h_new; clear h_new H; rw [rIs_yes h1]))
      go_ret
      exact ⟨rfl, Ha1.out⟩
    have d2 : decide (fr < 0) = false := decide_eq_false h2
    obtain ⟨ra, k, A, c2, G, cells, g0, g1, hk, hle, hsz, hZ, hback, -⟩ := ref_zoom h (p.toNat - 1) hj
    have hrA := rAt_get hj
    have hcl := hl _ (List.getElem_mem hj)
    rw [← hrA] at g0 g1 hle hZ hback hcl
    obtain ⟨L0, hL⟩ : ∃ L, (rAt cs p).l = L := ⟨_, rfl⟩
    obtain ⟨e, he⟩ : ∃ e, (rAt cs p).e = e := ⟨_, rfl⟩
    rw [hL] at g0 hle hZ hcl
    rw [he] at g1 hcl hback
    rw [← set_same g0] at hZ
    have HZ := Aside0.mk hZ
    have HBK := Aside0.mk hback
    have G1 := Aside0.mk g1
    have SZ := Aside0.mk hsz
    have HCX := Aside0.mk hC
    have HRES := Aside0.mk (show rAdd cs p fr xs = ((rGo fr e L0 0 xs 0).2, cs.set (p.toNat - 1) ⟨(rGo fr e L0 0 xs 0).1, e⟩) by unfold rAdd; rw [if_pos ⟨h1, by omega⟩, hL, he])
    obtain ⟨hcl1, hcl2⟩ := hcl
    clear hZ hback g0 g1 hrA hL he h hl hsz hC
    rw [HRES.out]
    rcases Ax with _ | adx
    · skip
      go_enter Try.func23, Try.ntmps23
      have c_tb_0 : w.cell? ⟨r, 0, none⟩ = some (.slice (some ⟨ra, 0, none⟩) cs.length k) := (blk_cell (HZ.out.sw).blk 0).trans rfl
      go_wp2_with (first | ((go_at_call 37); (with_reducible refine (ris.calls c_tb_0 p hp hn).mono ?_); rintro e_ wbn1 ⟨rfl, hb_⟩; have h_new := HZ.out.step hb_; clear hb_; have Hbn1 := Aside0.mk h_new; clear h_new HZ; clear c_tb_0; have c_tb_0 : wbn1.cell? ⟨r, 0, none⟩ = some (.slice (some ⟨ra, 0, none⟩) cs.length k) := (blk_cell (Hbn1.out.sw).blk 0).trans rfl; rw [rIs_yes h1]))
      go_loopg [9, 11] (xs.length + 1) (fun kq v9 v11 w' => ∃ (i : Nat) (n : Int) (A : Option Addr) (c2 : Nat) (L : List In), v9 = .int .i64 n ∧ v11 = .int .i64 (i : Int) ∧ Aside0 (i + kq = xs.length + 1) ∧ Aside0 (i ≤ xs.length ∧ 0 ≤ n ∧ n ≤ i ∧ L.length ≤ 10000 + i) ∧ Aside0 (rGo fr e L0 0 xs 0 = rGo fr e L i (xs.drop i) n) ∧ Aside0 (Has w0 base w' (row kin 24 (.slice A L.length c2) L :: blk r (.cells #[.slice (some ⟨ra, 0, none⟩) cs.length k] 69 (0, 0)) :: blk ra (.cells (cells.setIfInBounds ((p.toNat - 1) * 2) (.slice A L.length c2)) 71 (0, 0)) :: (G ++ F))))
      case atStart => exact ⟨0, 0, A, c2, L0, rfl, rfl, ⟨by omega⟩, ⟨by omega⟩, ⟨rfl⟩, Hbn1⟩
      case round =>
        clear Hbn1 c_tb_0 hle hcl1
        clear A c2
        obtain ⟨i, n, A, c2, L, rfl, rfl, HK, HI, HG, HW⟩ := hrel
        obtain ⟨hi1, hi2, hi3, hi4⟩ := HI.out
        have hil : ¬ i < xs.length := fun h9 => by obtain ⟨ad, eA, -⟩ := at_inI HCX.out (i : Int) (by omega) (by omega); cases eA
        have e1 : decide ((i : Int) < (xs.length : Int)) = false := decide_eq_false (by omega)
        have e1b : decide (i < xs.length) = false := decide_eq_false hil
        go_wp2
        go_ret
        have hg := HG.out
        rw [List.drop_eq_nil_of_le (by omega)] at hg
        have hg2 : rGo fr e L i [] n = (L, n) := rfl
        rw [hg, hg2]
        exact ⟨rfl, HBK.out _ _ _ _ HW.out⟩
    · skip
      go_enter Try.func23, Try.ntmps23
      have c_tb_0 : w.cell? ⟨r, 0, none⟩ = some (.slice (some ⟨ra, 0, none⟩) cs.length k) := (blk_cell (HZ.out.sw).blk 0).trans rfl
      go_wp2_with (first | ((go_at_call 37); (with_reducible refine (ris.calls c_tb_0 p hp hn).mono ?_); rintro e_ wb1 ⟨rfl, hb_⟩; have h_new := HZ.out.step hb_; clear hb_; have Hb1 := Aside0.mk h_new; clear h_new HZ; clear c_tb_0; have c_tb_0 : wb1.cell? ⟨r, 0, none⟩ = some (.slice (some ⟨ra, 0, none⟩) cs.length k) := (blk_cell (Hb1.out.sw).blk 0).trans rfl; rw [rIs_yes h1]))
      go_loopg [9, 11] (xs.length + 1) (fun kq v9 v11 w' => ∃ (i : Nat) (n : Int) (A : Option Addr) (c2 : Nat) (L : List In), v9 = .int .i64 n ∧ v11 = .int .i64 (i : Int) ∧ Aside0 (i + kq = xs.length + 1) ∧ Aside0 (i ≤ xs.length ∧ 0 ≤ n ∧ n ≤ i ∧ L.length ≤ 10000 + i) ∧ Aside0 (rGo fr e L0 0 xs 0 = rGo fr e L i (xs.drop i) n) ∧ Aside0 (Has w0 base w' (row kin 24 (.slice A L.length c2) L :: blk r (.cells #[.slice (some ⟨ra, 0, none⟩) cs.length k] 69 (0, 0)) :: blk ra (.cells (cells.setIfInBounds ((p.toNat - 1) * 2) (.slice A L.length c2)) 71 (0, 0)) :: (G ++ F))))
      case atStart => exact ⟨0, 0, A, c2, L0, rfl, rfl, ⟨by omega⟩, ⟨by omega⟩, ⟨rfl⟩, Hb1⟩
      case round =>
        clear Hb1 c_tb_0 hle hcl1
        clear A c2
        obtain ⟨i, n, A, c2, L, rfl, rfl, HK, HI, HG, HW⟩ := hrel
        obtain ⟨hi1, hi2, hi3, hi4⟩ := HI.out
        by_cases hil : i < xs.length
        · have e1 : decide ((i : Int) < (xs.length : Int)) = true := decide_eq_true (by omega)
          have e1b : decide (i < xs.length) = true := decide_eq_true hil
          have hi9 : (i : Int) < (xs.length : Int) := by omega
          have hi0 : (0 : Int) ≤ (i : Int) := by omega
          obtain ⟨ad, eA, y0, y1, y2⟩ := at_inI HCX.out (i : Int) hi0 hi9
          obtain rfl := Option.some.inj eA
          obtain ⟨x, hx9⟩ : ∃ x, rdI xs (i : Int) = x := ⟨_, rfl⟩
          rw [hx9, Int.toNat_natCast] at y0 y1 y2
          have hdr : xs.drop i = x :: xs.drop (i + 1) := by
            rw [List.drop_eq_getElem_cons hil, ← hx9]
            congr 1
            simp [rdI, List.getD_eq_getElem?_getD, hil]
          have HDR := Aside0.mk hdr
          clear hdr hx9 eA
          have Y0 := Aside0.mk y0
          have Y1 := Aside0.mk y1
          have Y2 := Aside0.mk y2
          have y0 : wr.cell? _ = _ := pw_cell_below (HW.out.below.mono hb0) Y0.out
          have y1 : wr.cell? _ = _ := pw_cell_below (HW.out.below.mono hb0) Y1.out
          have y2 : wr.cell? _ = _ := pw_cell_below (HW.out.below.mono hb0) Y2.out
          have hll := HW.out.rowN.2.1
          cases gk with
          | zero => exact absurd HK.out (by omega)
          | succ k1 =>
            have n1 : IntKind.i64.wrap ((L.length : Int) - fr) = (L.length : Int) - fr := by rw [IntKind.wrap_i64]; omega
            cases hrt : rightI x with
            | false =>
              have HRT := Aside0.mk hrt
              clear hrt
              go_wp2_with (first | ((go_at_call 29); (with_reducible refine (rinput.calls x _).mono ?_); rintro e_ wc1 ⟨rfl, hb_⟩; have h_new := HW.out.step hb_; clear hb_; have Hc1 := Aside0.mk h_new; clear h_new HW; rw [HRT.out]; obtain ⟨x0, x1⟩ := zoom_cells (Hc1.out.up2) (set_at _ (by have := SZ.out; omega)) (set_next _ _ G1.out)))
              go_ret
              have hg := HG.out
              rw [HDR.out, rGo_bad HRT.out] at hg
              rw [hg]
              exact ⟨rfl, HBK.out _ _ _ _ Hc1.out⟩
            | true =>
              have HRT := Aside0.mk hrt
              clear hrt
              by_cases h3 : (i : Int) < (L.length : Int) - fr
              · have d3 : decide ((i : Int) < (L.length : Int) - fr) = true := decide_eq_true h3
                go_wp2_with (first | ((go_at_call 29); (with_reducible refine (rinput.calls x _).mono ?_); rintro e_ wc2 ⟨rfl, hb_⟩; have h_new := HW.out.step hb_; clear hb_; have Hc2 := Aside0.mk h_new; clear h_new HW; rw [HRT.out]; obtain ⟨x0, x1⟩ := zoom_cells (Hc2.out.up2) (set_at _ (by have := SZ.out; omega)) (set_next _ _ G1.out)))
                go_roundg k1
                case measure => have := HK.out; omega
                case rel => exact ⟨i + 1, n, A, c2, L, rfl, rfl, ⟨by have := HK.out; omega⟩, ⟨by omega⟩, ⟨by rw [HG.out, HDR.out, rGo_skip HRT.out h3]⟩, Hc2⟩
              · have d3 : decide ((i : Int) < (L.length : Int) - fr) = false := decide_eq_false h3
                have key : ((((i : Int) != (L.length : Int) - fr) = true ∧ ((i : Int) == (L.length : Int) - fr) = false ∧ decide ((i : Int) = (L.length : Int) - fr) = false) ∧ Aside0 ((i : Int) ≠ L.length - fr ∨ (0 ≤ e ∧ e ≤ L.length) ∨ 10000 ≤ (L.length : Int))) ∨
                    ((((i : Int) != (L.length : Int) - fr) = false ∧ ((i : Int) == (L.length : Int) - fr) = true ∧ decide ((i : Int) = (L.length : Int) - fr) = true) ∧ decide (0 ≤ e) = true ∧ decide (e ≤ (L.length : Int)) = true ∧ Aside0 ((i : Int) ≠ L.length - fr ∨ (0 ≤ e ∧ e ≤ L.length) ∨ 10000 ≤ (L.length : Int))) ∨
                    ((((i : Int) != (L.length : Int) - fr) = false ∧ ((i : Int) == (L.length : Int) - fr) = true ∧ decide ((i : Int) = (L.length : Int) - fr) = true) ∧ decide (0 ≤ e) = false ∧ (decide ((10000 : Int) ≤ (L.length : Int)) = true ∧ decide (10000 ≤ L.length) = true) ∧ Aside0 ((i : Int) ≠ L.length - fr ∨ (0 ≤ e ∧ e ≤ L.length) ∨ 10000 ≤ (L.length : Int))) ∨
                    ((((i : Int) != (L.length : Int) - fr) = false ∧ ((i : Int) == (L.length : Int) - fr) = true ∧ decide ((i : Int) = (L.length : Int) - fr) = true) ∧ decide (0 ≤ e) = true ∧ decide (e ≤ (L.length : Int)) = false ∧ (decide ((10000 : Int) ≤ (L.length : Int)) = true ∧ decide (10000 ≤ L.length) = true) ∧ Aside0 ((i : Int) ≠ L.length - fr ∨ (0 ≤ e ∧ e ≤ L.length) ∨ 10000 ≤ (L.length : Int))) ∨
                    (((((i : Int) != (L.length : Int) - fr) = false ∧ ((i : Int) == (L.length : Int) - fr) = true ∧ decide ((i : Int) = (L.length : Int) - fr) = true) ∧ decide (0 ≤ e) = false ∨ (((i : Int) != (L.length : Int) - fr) = false ∧ ((i : Int) == (L.length : Int) - fr) = true ∧ decide ((i : Int) = (L.length : Int) - fr) = true) ∧ decide (0 ≤ e) = true ∧ decide (e ≤ (L.length : Int)) = false) ∧ (decide ((10000 : Int) ≤ (L.length : Int)) = false ∧ decide (10000 ≤ L.length) = false) ∧ L.length < 10000 ∧ Aside0 (¬ ((i : Int) ≠ L.length - fr ∨ (0 ≤ e ∧ e ≤ L.length) ∨ 10000 ≤ (L.length : Int)))) := by
                  by_cases h4 : (i : Int) = L.length - fr
                  · have a4 : (((i : Int) != (L.length : Int) - fr) = false ∧ ((i : Int) == (L.length : Int) - fr) = true ∧ decide ((i : Int) = (L.length : Int) - fr) = true) := ⟨by simpa using h4, by simpa using h4, decide_eq_true h4⟩
                    by_cases h5 : 0 ≤ e
                    · by_cases h6 : e ≤ (L.length : Int)
                      · exact .inr (.inl ⟨a4, decide_eq_true h5, decide_eq_true h6, ⟨.inr (.inl ⟨h5, h6⟩)⟩⟩)
                      · by_cases h7 : 10000 ≤ L.length
                        · exact .inr (.inr (.inr (.inl ⟨a4, decide_eq_true h5, decide_eq_false h6, ⟨decide_eq_true (by omega), decide_eq_true h7⟩, ⟨.inr (.inr (by omega))⟩⟩)))
                        · exact .inr (.inr (.inr (.inr ⟨.inr ⟨a4, decide_eq_true h5, decide_eq_false h6⟩, ⟨decide_eq_false (by omega), decide_eq_false h7⟩, by omega, ⟨by omega⟩⟩)))
                    · by_cases h7 : 10000 ≤ L.length
                      · exact .inr (.inr (.inl ⟨a4, decide_eq_false h5, ⟨decide_eq_true (by omega), decide_eq_true h7⟩, ⟨.inr (.inr (by omega))⟩⟩))
                      · exact .inr (.inr (.inr (.inr ⟨.inl ⟨a4, decide_eq_false h5⟩, ⟨decide_eq_false (by omega), decide_eq_false h7⟩, by omega, ⟨by omega⟩⟩)))
                  · exact .inl ⟨⟨by simpa using h4, by simpa using h4, decide_eq_false h4⟩, ⟨.inl h4⟩⟩
                rcases key with ⟨⟨d4c, d4, d4b⟩, HS⟩ | ⟨⟨d4c, d4, d4b⟩, d5, d6, HS⟩ | ⟨⟨d4c, d4, d4b⟩, d5, ⟨d7, d7b⟩, HS⟩ | ⟨⟨d4c, d4, d4b⟩, d5, d6, ⟨d7, d7b⟩, HS⟩ | ⟨key, ⟨d7, d7b⟩, h7, HS⟩
                iterate 4
                  · skip
                    go_wp2_with (first | ((go_at_call 29); (with_reducible refine (rinput.calls x _).mono ?_); rintro e_ wc3 ⟨rfl, hb_⟩; have h_new := HW.out.step hb_; clear hb_; have Hc3 := Aside0.mk h_new; clear h_new HW; rw [HRT.out]; obtain ⟨x0, x1⟩ := zoom_cells (Hc3.out.up2) (set_at _ (by have := SZ.out; omega)) (set_next _ _ G1.out)))
                    go_ret
                    have hg := HG.out
                    rw [HDR.out, rGo_end HRT.out (by omega) HS.out] at hg
                    rw [hg]
                    exact ⟨rfl, HBK.out _ _ _ _ Hc3.out⟩
                · rcases key with ⟨⟨d4c, d4, d4b⟩, d5⟩ | ⟨⟨d4c, d4, d4b⟩, d5, d6⟩
                  all_goals
                    go_wp2_with (first | ((go_at_call 29); (with_reducible refine (rinput.calls x _).mono ?_); rintro e_ wc4 ⟨rfl, hb_⟩; have h_new := HW.out.step hb_; clear hb_; have Hc4 := Aside0.mk h_new; clear h_new HW; rw [HRT.out]; obtain ⟨x0, x1⟩ := zoom_cells (Hc4.out.up2) (set_at _ (by have := SZ.out; omega)) (set_next _ _ G1.out)))
                    have Hg5 := Aside0.mk Hc4.out.drew
                    refine wp_regionK (T := (fun w' => w'.cell? ⟨ra, (p.toNat - 1) * 2, none⟩ = some (.slice A L.length c2) ∧ w'.cell? (adx.add (i * 3)) = some (.int .i64 x.1) ∧ w'.cell? ⟨(adx.add (i * 3)).block, (adx.add (i * 3)).off + 1, none⟩ = some (.int .i64 x.2.1) ∧ w'.cell? ⟨(adx.add (i * 3)).block, (adx.add (i * 3)).off + 2, none⟩ = some (.bool x.2.2))) 13 (by kernel_rfl) ?_ (fun hHeld => ?_)
                    · exact ⟨(zoom_cells (Hg5.out.up2) (set_at _ (by have := SZ.out; omega)) (set_next _ _ G1.out)).1, pw_cell_below (Hg5.out.below.mono hb0) Y0.out, pw_cell_below (Hg5.out.below.mono hb0) Y1.out, pw_cell_below (Hg5.out.below.mono hb0) Y2.out⟩
                    refine takeWK (i := 0) (v := ?_) rfl rfl (by kernel_rfl) (by kernel_rfl) (by kernel_rfl) (by kernel_rfl) (by rfl) (by rfl) (by kernel_rfl) (fun _ _ _ h => h) (by rfl) ?_ hHeld ?_
                    rotate_left 1
                    · (intro w hSw; (try dsimp only at hSw); go_simp <;> (try with_reducible rfl))
                    (try simp only [Act.put, List.setIfInBounds_toArray, List.set_cons_zero, List.set_cons_succ])
                    refine takeWK (i := 1) (v := ?_) rfl rfl (by kernel_rfl) (by kernel_rfl) (by kernel_rfl) (by kernel_rfl) (by rfl) (by rfl) (by kernel_rfl) (fun _ _ _ h => h) (by rfl) ?_ hHeld ?_
                    rotate_left 1
                    · (intro w hSw; (try dsimp only at hSw); go_simp <;> (try with_reducible rfl))
                    (try simp only [Act.put, List.setIfInBounds_toArray, List.set_cons_zero, List.set_cons_succ])
                    refine takeWK (i := 2) (v := ?_) rfl rfl (by kernel_rfl) (by kernel_rfl) (by kernel_rfl) (by kernel_rfl) (by rfl) (by rfl) (by kernel_rfl) (fun _ _ _ h => h) (by rfl) ?_ hHeld ?_
                    rotate_left 1
                    · (intro w hSw; (try dsimp only at hSw); go_simp <;> (try with_reducible rfl))
                    (try simp only [Act.put, List.setIfInBounds_toArray, List.set_cons_zero, List.set_cons_succ])
                    refine takeWK (i := 3) (v := ?_) rfl rfl (by kernel_rfl) (by kernel_rfl) (by kernel_rfl) (by kernel_rfl) (by rfl) (by rfl) (by kernel_rfl) (fun _ _ _ h => h) (by rfl) ?_ hHeld ?_
                    rotate_left 1
                    · (intro w hSw; (try dsimp only at hSw); go_simp <;> (try with_reducible rfl))
                    (try simp only [Act.put, List.setIfInBounds_toArray, List.set_cons_zero, List.set_cons_succ])
                    refine takeWK (i := 4) (v := ?_) rfl rfl (by kernel_rfl) (by kernel_rfl) (by kernel_rfl) (by kernel_rfl) (by rfl) (by rfl) (by kernel_rfl) (fun _ _ _ h => h) (by rfl) ?_ hHeld ?_
                    rotate_left 1
                    · (intro w hSw; (try dsimp only at hSw); go_simp <;> (try with_reducible rfl))
                    (try simp only [Act.put, List.setIfInBounds_toArray, List.set_cons_zero, List.set_cons_succ])
                    refine takeWK (i := 5) (v := ?_) rfl rfl (by kernel_rfl) (by kernel_rfl) (by kernel_rfl) (by kernel_rfl) (by rfl) (by rfl) (by kernel_rfl) (fun _ _ _ h => h) (by rfl) ?_ hHeld ?_
                    rotate_left 1
                    · (intro w hSw; (try dsimp only at hSw); go_simp <;> (try with_reducible rfl))
                    (try simp only [Act.put, List.setIfInBounds_toArray, List.set_cons_zero, List.set_cons_succ])
                    refine takeWK (i := 6) (v := ?_) rfl rfl (by kernel_rfl) (by kernel_rfl) (by kernel_rfl) (by kernel_rfl) (by rfl) (by rfl) (by kernel_rfl) (fun _ _ _ h => h) (by rfl) ?_ hHeld ?_
                    rotate_left 1
                    · (intro w hSw; (try dsimp only at hSw); go_simp <;> (try with_reducible rfl))
                    (try simp only [Act.put, List.setIfInBounds_toArray, List.set_cons_zero, List.set_cons_succ])
                    refine takeWK (i := 7) (v := ?_) rfl rfl (by kernel_rfl) (by kernel_rfl) (by kernel_rfl) (by kernel_rfl) (by rfl) (by rfl) (by kernel_rfl) (fun _ _ _ h => h) (by rfl) ?_ hHeld ?_
                    rotate_left 1
                    · (intro w hSw; (try dsimp only at hSw); go_simp <;> (try with_reducible rfl))
                    (try simp only [Act.put, List.setIfInBounds_toArray, List.set_cons_zero, List.set_cons_succ])
                    refine takeWK (i := 8) (v := ?_) rfl rfl (by kernel_rfl) (by kernel_rfl) (by kernel_rfl) (by kernel_rfl) (by rfl) (by rfl) (by kernel_rfl) (fun _ _ _ h => h) (by rfl) ?_ hHeld ?_
                    rotate_left 1
                    · (intro w hSw; (try dsimp only at hSw); go_simp <;> (try with_reducible rfl))
                    (try simp only [Act.put, List.setIfInBounds_toArray, List.set_cons_zero, List.set_cons_succ])
                    refine readyK (rs := [9]) (by kernel_rfl) (by simp) (AllK.cons (i := 9) rfl (by rfl) (fun K hK => ?_) AllK.nil)
                    clear hHeld
                    (refine wp_of_list (ops := #[]) (by rfl) ?_; (with_reducible refine gate_dst (N := 85) rfl ?_); refine wp_litF kin 24 rfl (N := 85) rfl (xs := [x]) (inner := [.int .i64 x.1, .int .i64 x.2.1, .bool x.2.2]) (n := 1) ?lR ?lP rfl (by decide) (Hg5.out) ?_; (case lR => first | (go_simp; done) | (go_simp; rfl)); (case lP => exact reps_one (kin_mkM _ _ _ x) rfl); intro glx c_lx wg6 h_new hc_lx; have Hg6 := Aside0.mk h_new; clear h_new Hg5; change K _ _)
                    refine hK.out _ _ ?_ (fun hHeld => ?_)
                    · exact fun _ => ⟨(zoom_cells (Hg6.out.up3) (set_at _ (by have := SZ.out; omega)) (set_next _ _ G1.out)).1, pw_cell_below (Hg6.out.below.mono hb0) Y0.out, pw_cell_below (Hg6.out.below.mono hb0) Y1.out, pw_cell_below (Hg6.out.below.mono hb0) Y2.out⟩
                    replace hHeld := hHeld (by rfl)
                    clear hK K
                    (try simp only [Act.put, List.setIfInBounds_toArray, List.set_cons_zero, List.set_cons_succ])
                    refine readyK (rs := [10]) (by kernel_rfl) (by simp) (AllK.cons (i := 10) rfl (by rfl) (fun K hK => ?_) AllK.nil)
                    clear hHeld
                    (refine wp_of_list (ops := #[]) (by rfl) ?_; (with_reducible refine gate_dst (N := 86) rfl ?_); at_builtin; refine wp_appR kin rfl (.tmp 80) (.tmp 85) 22 24 (.agg #[.int .i64 0, .int .i64 0, .bool false]) 24 rfl Try.underlying22 info24_ rfl (by decide) (by decide) (n := L.length) (m := 1) (L) ([x]) rfl rfl (Hg6.out.sw) (rfl) ?aL ?_; (case aL => omega); intro A_rw c_rw wg7 h_new hc_rw; have Hg7 := Aside0.mk h_new; clear h_new Hg6; change K _ _)
                    refine hK.out _ _ ?_ (fun hHeld => ?_)
                    · exact fun _ => ⟨(zoom_cells (Hg7.out.up2) (set_at _ (by have := SZ.out; omega)) (set_next _ _ G1.out)).1, pw_cell_below (Hg7.out.below.mono hb0) Y0.out, pw_cell_below (Hg7.out.below.mono hb0) Y1.out, pw_cell_below (Hg7.out.below.mono hb0) Y2.out⟩
                    replace hHeld := hHeld (by rfl)
                    clear hK K
                    (try simp only [Act.put, List.setIfInBounds_toArray, List.set_cons_zero, List.set_cons_succ])
                    refine takeWK (i := 11) (v := ?_) rfl rfl (by kernel_rfl) (by kernel_rfl) (by kernel_rfl) (by kernel_rfl) (by rfl) (by rfl) (by kernel_rfl) (fun _ _ _ h => h) (by rfl) ?_ hHeld ?_
                    rotate_left 1
                    · (intro w hSw; (try dsimp only at hSw); go_simp <;> (try with_reducible rfl))
                    (try simp only [Act.put, List.setIfInBounds_toArray, List.set_cons_zero, List.set_cons_succ])
                    refine takeWK (i := 12) (v := ?_) rfl rfl (by kernel_rfl) (by kernel_rfl) (by kernel_rfl) (by kernel_rfl) (by rfl) (by rfl) (by kernel_rfl) (fun _ _ _ h => h) (by rfl) ?_ hHeld ?_
                    rotate_left 1
                    · (intro w hSw; (try dsimp only at hSw); go_simp <;> (try with_reducible rfl))
                    (try simp only [Act.put, List.setIfInBounds_toArray, List.set_cons_zero, List.set_cons_succ])
                    refine readyK (rs := [13]) (by kernel_rfl) (by simp) (AllK.cons (i := 13) rfl (by rfl) (fun K hK => ?_) AllK.nil)
                    clear hHeld
                    (refine wp_of_list (ops := #[]) (by rfl) ?_; (with_reducible refine gate_store (t := 22) (p := 88) rfl ?_); refine wp_storeB rfl rfl 22 _ _ rfl (g := ra) (j := (p.toNat - 1) * 2) (u := (.slice A_rw (L.length + 1) c_rw)) (cs2 := (cells.setIfInBounds ((p.toNat - 1) * 2) (.slice A_rw (L.length + 1) c_rw))) [(.slice A_rw (L.length + 1) c_rw)] ?sA rfl rfl ?sI (by simp [Value.oneCell']) (set_two _ _) (Hg7.out.up2) (by have := SZ.out; simp; omega) ?_; (case sI => first | rfl | kernel_rfl); (case sA => first | rfl | (go_simp; done) | (go_simp; rfl)); intro wg8 h_new; have Hg8 := Aside0.mk h_new; clear h_new Hg7; change K _ _)
                    refine hK.out _ _ ?_ (fun hHeld => ?_)
                    · exact fun h => absurd (show (true = false) from h) (by decide)
                    clear hHeld
                    clear hK K
                    (try simp only [Act.put, List.setIfInBounds_toArray, List.set_cons_zero, List.set_cons_succ])
                    refine doneK (by kernel_rfl) ?_ _
                    go_wp2
                    go_roundg k1
                    case measure => have := HK.out; omega
                    case rel =>
                      refine ⟨i + 1, n + 1, A_rw, c_rw, L ++ [x], rfl, rfl, ⟨by have := HK.out; omega⟩, ⟨⟨by omega, by omega, by omega, by rw [List.length_append]; simp; omega⟩⟩, ⟨by rw [HG.out, HDR.out, rGo_put HRT.out (by omega) HS.out]⟩, ⟨?_⟩⟩
                      have el : (L ++ [x]).length = L.length + 1 := by simp
                      rw [el]
                      exact (Hg8.out.up2.up2)
        · have e1 : decide ((i : Int) < (xs.length : Int)) = false := decide_eq_false (by omega)
          have e1b : decide (i < xs.length) = false := decide_eq_false hil
          go_wp2
          go_ret
          have hg := HG.out
          rw [List.drop_eq_nil_of_le (by omega)] at hg
          have hg2 : rGo fr e L i [] n = (L, n) := rfl
          rw [hg, hg2]
          exact ⟨rfl, HBK.out _ _ _ _ HW.out⟩
  · rw [rAdd_no (fun x => h1 x.1)]
    have H := Aside0.mk h
    obtain ⟨ra, k, c0, -, -, -⟩ := ref_cells h
    clear h
    go_enter Try.func23, Try.ntmps23
    go_wp2_with (first | ((go_at_call 37); (with_reducible refine (ris.calls c0 p hp hn).mono ?_); rintro e_ wd1 ⟨rfl, hb_⟩; have h_new := H.out.step hb_; clear hb_; have Hd1 := Aside0.mk h_new; clear h_new H; rw [rIs_no h1]))
    go_ret
    exact ⟨rfl, Hd1.out⟩
end Go.Proofs.Ytkgjokidfbpnbaa.InW
namespace Go.Proofs.Ytkgjokidfbpnbaa.InW
open Go.RowKit Go.Proofs.YtkgjokidfbpnbaaW.PrintWords Go.Proofs.YtkgjokidfbpnbaaW.PrintLast Go.Proofs.YtkgjokidfbpnbaaW.PrintMore Go.Proofs.Ytkgjokidfbpnbaa.Sep
attribute [local go_sem] max2_int min2_int max_two min_two max_three min_three max_four min_four   -- for this text's walks alone
set_option linter.unusedVariables false
set_option linter.unusedSimpArgs false
def rStream (cs : List Rc) (p fr mo : Int) : List In := if (1 ≤ p ∧ p ≤ (cs.length : Int)) ∧ 0 ≤ fr ∧ fr < (rAt cs p).l.length ∧ 1 ≤ mo then ((rAt cs p).l.drop fr.toNat).take (min mo ((rAt cs p).l.length - fr)).toNat else []
theorem rStream_no {cs : List Rc} {p fr mo : Int} (h : ¬ ((1 ≤ p ∧ p ≤ (cs.length : Int)) ∧ 0 ≤ fr ∧ fr < (rAt cs p).l.length ∧ 1 ≤ mo)) : rStream cs p fr mo = [] := by unfold rStream; rw [if_neg h]
theorem perm_back (X A B C : Asr) (G F : List Asr) : (X :: A :: B :: C :: (G ++ F)).Perm (A :: B :: C :: (G ++ (X :: F))) := by
  have h1 : (X :: ([A, B, C] ++ G ++ F)).Perm ([A, B, C] ++ G ++ X :: F) := List.perm_middle.symm
  simpa using h1
set_option maxHeartbeats 4000000 in
set_option maxRecDepth 100000 in
theorem rhave.cells {w : World} {r ra n k m c2 T1 T2 : Nat} {A : Option Addr} {cells : Array Value} (b0 : w.heap[r]? = some (.cells #[.slice (some ⟨ra, 0, none⟩) n k] T1 (0, 0))) (b1 : w.heap[ra]? = some (.cells cells T2 (0, 0))) (p : Int) (hx : cells[(p.toNat - 1) * 2]? = some (.slice A m c2)) (hp : I64 p) (h1 : 1 ≤ p ∧ p ≤ (n : Int)) (hn : n ≤ 1000000) :
    Calls Try.prog 25 #[.pointer (some ⟨r, 0, none⟩), .int .i64 p] w fun e w' => e = .returned (.int .i64 m) ∧ Below w.heap.size w w' := by
  have hu71 := Try.underlying71
  have B0 := Aside0.mk b0
  have B1 := Aside0.mk b1
  have HX := Aside0.mk hx
  have c0 : w.cell? ⟨r, 0, none⟩ = some (.slice (some ⟨ra, 0, none⟩) n k) := (blk_cell b0 0).trans rfl
  clear b0 b1 hx
  go_enter Try.func25, Try.ntmps25
  go_wp2_with (first | (go_at_call 37; (with_reducible refine (ris.calls c0 p hp hn).mono ?_); rintro e w1 ⟨rfl, hb1⟩; rw [rIs_yes h1]; have d0 : w1.cell? ⟨r, 0, none⟩ = some (.slice (some ⟨ra, 0, none⟩) n k) := pw_cell_below hb1 c0; have x0 : w1.cell? ⟨ra, (p.toNat - 1) * 2, none⟩ = some (.slice A m c2) := pw_cell_below hb1 ((blk_cell B1.out _).trans HX.out); clear c0; have HB := Aside0.mk hb1; clear hb1))
  go_ret
  exact ⟨rfl, HB.out⟩
set_option maxHeartbeats 4000000 in
set_option maxRecDepth 100000 in
theorem rstream.H {w0 w : World} {base r : Nat} {cs : List Rc} {F : List Asr} (h : Has w0 base w (refT r cs :: F)) (hn : cs.length ≤ 1000000) (hl : ∀ c ∈ cs, c.l.length ≤ 1000000) (p fr mo : Int) (hp : I64 p) (hfr : I64 fr) (hmo : I64 mo) :
    Calls Try.prog 28 #[.pointer (some ⟨r, 0, none⟩), .int .i64 p, .int .i64 fr, .int .i64 mo] w fun e w' => ∃ A c, e = .returned (.slice A (rStream cs p fr mo).length c) ∧ (rStream cs p fr mo).length ≤ c ∧ Has w0 base w' (row kin 24 (.slice A (rStream cs p fr mo).length c) (rStream cs p fr mo) :: refT r cs :: F) := by
  have hu24 := Try.underlying24
  have hu71 := Try.underlying71
  have H := Aside0.mk h
  obtain ⟨ra0, k0, c0, -, -, -⟩ := ref_cells h
  by_cases h1 : 1 ≤ p ∧ p ≤ (cs.length : Int)
  · have hcl := hl _ (List.getElem_mem (show p.toNat - 1 < cs.length by omega))
    rw [← rAt_get (show p.toNat - 1 < cs.length by omega)] at hcl
    have hw := Aside0.mk (rHave_yes h1)
    by_cases hall : 0 ≤ fr ∧ fr < (rAt cs p).l.length ∧ 1 ≤ mo
    · obtain ⟨h2, h3, h4⟩ := hall
      have d2 : decide (fr < 0) = false := decide_eq_false (by omega)
      have d3 : decide (((rAt cs p).l.length : Int) ≤ fr) = false := decide_eq_false (by omega)
      have d4 : decide (mo < 1) = false := decide_eq_false (by omega)
      obtain ⟨ra, k, A, c2, G, cells, g0, g1, hk, hle, hsz, hZ, -, hback⟩ := ref_zoom h (p.toNat - 1) (by omega)
      have hrA := rAt_get (show p.toNat - 1 < cs.length by omega)
      rw [← hrA] at g0 g1 hle hZ hback
      obtain ⟨f, rfl⟩ : ∃ f : Nat, fr = f := ⟨fr.toNat, by omega⟩
      obtain ⟨q, hq⟩ : ∃ q : Nat, (q : Int) = min mo (((rAt cs p).l.length : Int) - f) := ⟨(min mo (((rAt cs p).l.length : Int) - f)).toNat, by omega⟩
      have HES := Aside0.mk (show rStream cs p (f : Int) mo = ((rAt cs p).l.drop f).take q by unfold rStream; rw [if_pos ⟨h1, by omega, by omega, by omega⟩, ← hq]; rfl)
      obtain ⟨L, hL⟩ : ∃ L, (rAt cs p).l = L := ⟨_, rfl⟩
      obtain ⟨e, he⟩ : ∃ e, (rAt cs p).e = e := ⟨_, rfl⟩
      rw [hL] at g0 hle hZ hback h3 d3 hcl hq HES
      rw [he] at g1
      clear hL he hrA hw h H
      rw [HES.out]
      have HZ := Aside0.mk hZ
      have HBK := Aside0.mk hback
      have G0 := Aside0.mk g0
      have G1 := Aside0.mk g1
      obtain ⟨ad, eA, -⟩ := at_inI HZ.out.rowN.2.2 (f : Int) (by omega) (by omega)
      subst eA
      have hqn : ((L.drop f).take q).length = q := by rw [List.length_take, List.length_drop]; omega
      have HQN := Aside0.mk hqn
      have hm : (if ((L.length : Int) - f) < mo then ((L.length : Int) - f) else mo) = (q : Int) := by split <;> omega
      have d3b : decide (L.length ≤ f) = false := decide_eq_false (by omega)
      have hm0 : (if ((L.length - f : Nat) : Int) < mo then ((L.length - f : Nat) : Int) else mo) = (q : Int) := by split <;> omega
      have hm2 : (if mo < ((L.length : Int) - f) then mo else ((L.length : Int) - f)) = (q : Int) := by split <;> omega
      have hcf : ¬ c2 = f := by omega
      have hf1 : f ≤ L.length := by omega
      have hf2 : L.length ≤ c2 := hle
      have hqle : q ≤ L.length - f := by omega
      have hq9 : q ≤ c2 - f := by omega
      have hNS : IntKind.i64.wrap (((L.length - f : Nat) : Int)) = (L.length : Int) - f := by rw [IntKind.wrap_i64]; omega
      have hCUT : Aside0 (∀ W : World, Kd.C kin W (some ad) L.length L → Kd.C kin W (some (ad.add (f * 3))) q ((L.drop f).take q)) := ⟨fun W hC => by
        have hC1 := Kd.C_drop (m := f) (c := c2) hC (by omega) hle
        rw [if_neg hcf] at hC1
        have hC2 := Kd.C_take (m := q) hC1 (by rw [List.length_drop]; omega)
        rw [hqn] at hC2
        exact hC2⟩
      clear hZ hback g0 g1 hqn hq hsz
      go_enter Try.func28, Try.ntmps28
      have c_tb_0 : w.cell? ⟨r, 0, none⟩ = some (.slice (some ⟨ra, 0, none⟩) cs.length k) := (blk_cell (HZ.out.sw).blk 0).trans rfl
      go_wp2_with (first | ((go_at_call 37); (with_reducible refine (ris.calls c_tb_0 p hp hn).mono ?_); rintro e_ wz1 ⟨rfl, hb_⟩; have h_new := HZ.out.step hb_; clear hb_; have Hz1 := Aside0.mk h_new; clear h_new HZ; clear c_tb_0; have c_tb_0 : wz1.cell? ⟨r, 0, none⟩ = some (.slice (some ⟨ra, 0, none⟩) cs.length k) := (blk_cell (Hz1.out.sw).blk 0).trans rfl; rw [rIs_yes h1]; obtain ⟨x0, x1⟩ := zoom_cells (Hz1.out.up2) G0.out G1.out) | ((go_at_call 25); (with_reducible refine (rhave.cells (Hz1.out.sw).blk (Hz1.out.up2).blk p G0.out hp h1 hn).mono ?_); rintro e_ wz2 ⟨rfl, hb_⟩; have h_new := Hz1.out.step hb_; clear hb_; have Hz2 := Aside0.mk h_new; clear h_new Hz1; clear c_tb_0; have c_tb_0 : wz2.cell? ⟨r, 0, none⟩ = some (.slice (some ⟨ra, 0, none⟩) cs.length k) := (blk_cell (Hz2.out.sw).blk 0).trans rfl; clear x0 x1; obtain ⟨x0, x1⟩ := zoom_cells (Hz2.out.up2) G0.out G1.out) | (((with_reducible refine gate_dst (N := 46) rfl ?_); at_builtin; refine wp_appNil kin rfl (.const (.slice none 0 0)) (.tmp 45) 22 24 (.agg #[.int .i64 0, .int .i64 0, .bool false]) 24 rfl Try.underlying22 info24_ rfl (by decide) (by decide) (m := q) ((L.drop f).take q) rfl rfl Hz2.out (hCUT.out _ (Hz2.out).rowN.2.2) (fun x cs hK => by rw [kin_K hK]; exact kin_mkM _ _ _ x) (by omega) ?_; intro A' c' w9 h9 hc9; have H9 := Aside0.mk h9; clear h9)))
      go_ret
      rw [HQN.out]
      exact ⟨A', c', rfl, hc9, (HBK.out _ (row kin 24 (.slice A' q c') ((L.drop f).take q) :: F) (H9.out.perm (perm_back _ _ _ _ _ _))).sw⟩
    · have key : decide (fr < 0) = true ∨ (decide (fr < 0) = false ∧ decide (((rAt cs p).l.length : Int) ≤ fr) = true) ∨ (decide (fr < 0) = false ∧ decide (((rAt cs p).l.length : Int) ≤ fr) = false ∧ decide (mo < 1) = true) := by
        by_cases h2 : fr < 0
        · exact .inl (decide_eq_true h2)
        · by_cases h3 : ((rAt cs p).l.length : Int) ≤ fr
          · exact .inr (.inl ⟨decide_eq_false h2, decide_eq_true h3⟩)
          · exact .inr (.inr ⟨decide_eq_false h2, decide_eq_false h3, decide_eq_true (by omega)⟩)
      rw [rStream_no (fun x => hall x.2)]
      clear hall h
      rcases key with d2 | ⟨d2, d3⟩ | ⟨d2, d3, d4⟩
      · go_enter Try.func28, Try.ntmps28
        go_wp2_with (first | ((go_at_call 37); (with_reducible refine (ris.calls c0 p hp hn).mono ?_); rintro e_ wa1 ⟨rfl, hb_⟩; have h_new := H.out.step hb_; clear hb_; have Ha1 := Aside0.mk h_new; clear h_new H; rw [rIs_yes h1]))
        go_ret
        exact ⟨none, 0, rfl, Nat.le_refl _, Ha1.out.rowNil kin 24⟩
      all_goals
        go_enter Try.func28, Try.ntmps28
        go_wp2_with (first | ((go_at_call 37); (with_reducible refine (ris.calls c0 p hp hn).mono ?_); rintro e_ wb1 ⟨rfl, hb_⟩; have h_new := H.out.step hb_; clear hb_; have Hb1 := Aside0.mk h_new; clear h_new H; rw [rIs_yes h1]) | ((go_at_call 25); (with_reducible refine (rhave.H (Hb1.out) hn p hp).mono ?_); rintro e_ wb2 ⟨rfl, h_new⟩; have Hb2 := Aside0.mk h_new; clear h_new Hb1; rw [hw.out]))
        go_ret
        exact ⟨none, 0, rfl, Nat.le_refl _, Hb2.out.rowNil kin 24⟩
  · rw [rStream_no (fun x => h1 x.1)]
    clear h
    go_enter Try.func28, Try.ntmps28
    go_wp2_with (first | ((go_at_call 37); (with_reducible refine (ris.calls c0 p hp hn).mono ?_); rintro e_ wd1 ⟨rfl, hb_⟩; have h_new := H.out.step hb_; clear hb_; have Hd1 := Aside0.mk h_new; clear h_new H; rw [rIs_no h1]))
    go_ret
    exact ⟨none, 0, rfl, Nat.le_refl _, Hd1.out.rowNil kin 24⟩
end Go.Proofs.Ytkgjokidfbpnbaa.InW
namespace Go.Proofs.Ytkgjokidfbpnbaa.InW
open Go.RowKit Go.Proofs.YtkgjokidfbpnbaaW.PrintWords Go.Proofs.YtkgjokidfbpnbaaW.PrintLast Go.Proofs.YtkgjokidfbpnbaaW.PrintMore Go.Proofs.Ytkgjokidfbpnbaa.Sep
attribute [local go_sem] max2_int min2_int max_two min_two max_three min_three max_four min_four   -- for this text's walks alone
set_option linter.unusedVariables false
set_option linter.unusedSimpArgs false
def encR (x : RR) : List Value := [x.1, .int .i64 x.2]
def kraw : Kd RR := kflat 2 encR (fun _ => rfl)
def nilC : RR := (.slice none 0 0, -1)
theorem flatR_map : ∀ xs : List RR, xs.flatMap encR = flatR xs := by
  intro xs
  induction xs with
  | nil => rfl
  | cons x xs ih => rw [List.flatMap_cons, ih]; rfl
theorem info71_ : (Try.prog.info? 71).map (fun i => (i.zero, i.size, i.bytes)) = some (some (.agg #[.slice none 0 0, .int .i64 0]), 2, 32) := by kernel_rfl
theorem nil_ok {w : World} {b : Nat} {ok : Nat → Prop} : kraw.M w b ok nilC [.slice none 0 0, .int .i64 (-1)] := by
  refine ⟨rfl, fun u hu => ?_⟩
  simp only [List.mem_cons, List.not_mem_nil, or_false] at hu
  rcases hu with rfl | rfl
  · rfl
  · rfl
theorem rows_nil {w0 w : World} {base : Nat} {F : List Asr} (h : Has w0 base w F) : ∀ n : Nat, Has w0 base w (rowsR (List.replicate n nilC) (List.replicate n ⟨[], -1⟩) ++ F) := by
  intro n
  induction n with
  | zero => exact h
  | succ n ih => exact ih.rowNil kin 24
theorem perm_mid2 (A B : Asr) (R F : List Asr) : (R ++ A :: B :: F).Perm (A :: B :: (R ++ F)) :=
  List.perm_middle.trans (.cons _ List.perm_middle)
set_option maxHeartbeats 4000000 in
set_option maxRecDepth 100000 in
theorem rnew.H {w0 w : World} {base : Nat} {F : List Asr} (n : Int) (hn : I64 n) (h : Has w0 base w F) :
    Calls Try.prog 19 #[.int .i64 n] w fun e w' => ∃ r, e = .returned (.pointer (some ⟨r, 0, none⟩)) ∧ Has w0 base w' (refT r (List.replicate (clampP n) ⟨[], -1⟩) :: F) := by
  have hu71 := Try.underlying71
  have hu69 := Try.underlying69
  obtain ⟨z, hz⟩ : ∃ z : Int, (if (6 : Int) < n then (6 : Int) else n) = z := ⟨_, rfl⟩
  obtain ⟨m, hm⟩ : ∃ m : Nat, clampP n = m := ⟨_, rfl⟩
  have hmz : (m : Int) = max (min n 6) 1 := by rw [← hm]; unfold clampP; omega
  have hz2 : (if (1 : Int) < z then z else (1 : Int)) = (m : Int) := by split at hz <;> split <;> omega
  have hz3 : (if z < (1 : Int) then (1 : Int) else z) = (m : Int) := by split at hz <;> split <;> omega
  have hm6 : 1 ≤ m ∧ m ≤ 6 := by omega
  rw [hm]
  have H := Aside0.mk h
  clear hm hmz h
  go_enter Try.func19, Try.ntmps19
  go_wp2_with (first | ((with_reducible refine gate_dst (N := 6) rfl ?_); refine box_event ?hg (N := 6) ?hd (cs := #[.slice none 0 0]) (t := 69) ?hr ?_; (case hd => rfl); (case hg => rfl); (case hr => first | (go_simp; done) | (go_simp; rfl)); intro gr hgb_ wa1 hbox_ hb5_; have h_new := Has.ownNew H.out hgb_ hb5_ hbox_; clear hgb_ hb5_ hbox_; have Ha1 := Aside0.mk h_new; clear h_new H))
  have H0 := Aside0.mk (Ha1.out.rowNil kraw 71)
  clear Ha1
  go_loopg [4] (m + 1) (fun kq v4 w' => ∃ (i : Nat) (A : Option Addr) (c : Nat), v4 = .int .i64 (i : Int) ∧ Aside0 (i + kq = m + 1) ∧ Aside0 (i ≤ m) ∧ Aside0 (Has w0 base w' (row kraw 71 (.slice A i c) (List.replicate i nilC) :: blk gr (.cells #[.slice A i c] 69 (0, 0)) :: F)))
  case atStart => exact ⟨0, none, 0, rfl, ⟨by omega⟩, ⟨by omega⟩, H0⟩
  case round =>
    clear H0
    obtain ⟨i, A, c, rfl, HK, HI, HW⟩ := hrel
    have hii := HI.out
    by_cases hil : i < m
    · have e1 : decide ((i : Int) < (m : Int)) = true := decide_eq_true (by omega)
      have e2 : decide (i < m) = true := decide_eq_true hil
      cases gk with
      | zero => exact absurd HK.out (by omega)
      | succ k1 =>
        have c_tb_0 : wr.cell? ⟨gr, 0, none⟩ = some (.slice A i c) := (blk_cell (HW.out.sw).blk 0).trans rfl
        have f_tb_0 := blk_frozen (HW.out.sw).blk 0
        go_wp2_with (first | ((with_reducible refine gate_dst (N := 20) rfl ?_); refine wp_litF kraw 71 rfl (N := 20) rfl (xs := [nilC]) (inner := [.slice none 0 0, .int .i64 (-1)]) (n := 1) ?lR ?lP rfl (by decide) (HW.out) ?_; (case lR => first | (go_simp; done) | (go_simp; rfl)); (case lP => exact reps_one nil_ok rfl); intro glt c_lt wb1 h_new hc_lt; have Hb1 := Aside0.mk h_new; clear h_new HW; clear c_tb_0 f_tb_0; have c_tb_0 : wb1.cell? ⟨gr, 0, none⟩ = some (.slice A i c) := (blk_cell (Hb1.out.up2).blk 0).trans rfl; have f_tb_0 := blk_frozen (Hb1.out.up2).blk 0) | ((with_reducible refine gate_dst (N := 21) rfl ?_); at_builtin; refine wp_appR kraw rfl (.tmp 18) (.tmp 20) 67 71 (.agg #[.slice none 0 0, .int .i64 0]) 32 rfl Try.underlying67 info71_ rfl (by decide) (by decide) (n := i) (m := 1) ((List.replicate i nilC)) ([nilC]) rfl rfl (Hb1.out.sw) (List.length_replicate) ?aL ?_; (case aL => rw [List.length_replicate]; omega); intro A_rw c_rw wb2 h_new hc_rw; rw [show ((List.replicate i nilC)) ++ ([nilC]) = (List.replicate (i + 1) nilC) from (List.replicate_succ' ..).symm] at h_new; have Hb2 := Aside0.mk h_new; clear h_new Hb1; clear c_tb_0 f_tb_0; have c_tb_0 : wb2.cell? ⟨gr, 0, none⟩ = some (.slice A i c) := (blk_cell (Hb2.out.sw).blk 0).trans rfl; have f_tb_0 := blk_frozen (Hb2.out.sw).blk 0) | ((with_reducible refine gate_store (t := 67) (p := 23) rfl ?_); refine wp_storeB rfl rfl 67 _ _ rfl (g := gr) (j := 0) (u := (.slice A_rw (i + 1) c_rw)) (cs2 := #[.slice A_rw (i + 1) c_rw]) [.slice A_rw (i + 1) c_rw] rfl rfl rfl ?sI (by simp [Value.oneCell']) rfl (Hb2.out.sw) (by simp) ?_; (case sI => first | rfl | kernel_rfl); intro wb3 h_new; have Hb3 := Aside0.mk h_new; clear h_new Hb2; clear c_tb_0 f_tb_0; have c_tb_0 : wb3.cell? ⟨gr, 0, none⟩ = some (.slice A_rw (i + 1) c_rw) := (blk_cell (Hb3.out).blk 0).trans rfl; have f_tb_0 := blk_frozen (Hb3.out).blk 0))
        go_roundg k1
        case measure => have := HK.out; omega
        case rel => exact ⟨i + 1, A_rw, c_rw, rfl, ⟨by have := HK.out; omega⟩, ⟨by omega⟩, ⟨(Hb3.out.sw)⟩⟩
    · have e1 : decide ((i : Int) < (m : Int)) = false := decide_eq_false (by omega)
      have e2 : decide (i < m) = false := decide_eq_false hil
      obtain rfl : i = m := by omega
      go_wp2
      go_ret
      refine ⟨gr, rfl, ?_⟩
      obtain ⟨g, zs, rfl, -, hle, h2⟩ := Has.rowBlk (by decide) HW.out (by rw [List.length_replicate]; omega)
      rw [flatR_map] at h2
      have h3 := (rows_nil h2.sw i).perm (perm_mid2 _ _ _ _)
      refine ref_shut (ra := g) (c := c) (vs := List.replicate i nilC) (zs := zs) (by simp) (by simpa using hle) (fun j h1 h2 => by simp [nilC]) ?_
      rw [List.length_replicate]
      exact h3
end Go.Proofs.Ytkgjokidfbpnbaa.InW
