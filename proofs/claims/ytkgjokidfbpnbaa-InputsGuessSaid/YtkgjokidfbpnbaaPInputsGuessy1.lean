/- What the law InputsGuess comes to: true of all inputs. No condition. -/
import Derived.Test.YtkgjokidfbpnbaaPInputsGuessz0
import Derived.Test.YtkgjokidfbpnbaaInI
namespace Go.Proofs.Ytkgjokidfbpnbaa.PInputsGuess
open Go.RowKit Go.Proofs.YtkgjokidfbpnbaaW.PrintWords Go.Proofs.YtkgjokidfbpnbaaW.PrintLast Go.Proofs.YtkgjokidfbpnbaaW.PrintMore Go.Proofs.Ytkgjokidfbpnbaa.InW Go.Proofs.Ytkgjokidfbpnbaa.Sep
attribute [local go_sem] max2_int min2_int max_two min_two max_three min_three max_four min_four   -- for this text's walks alone
set_option linter.unusedVariables false
set_option linter.unusedSimpArgs false
/-- the table behind i rounds -/
def tb (l : List In) (o : In) (i : Nat) : List Col := [⟨(l.take i).map playI, 0, false⟩, ⟨List.replicate i (playI o), 0, false⟩]
/-- the last one -/
def lastI (l : List In) (i : Nat) : In := ((l.take i).map playI).getLastD (0, 0, false)
theorem take_map {l : List In} {i : Nat} (hi : i < l.length) : (l.take (i + 1)).map playI = (l.take i).map playI ++ [playI l[i]] := by
  rw [List.take_succ_eq_append_getElem hi, List.map_append]
  rfl
theorem tb_1 {l : List In} {o : In} {i : Nat} (hi : i < l.length) (hi2 : i < 30) : add_ (tb l o i) 1 i [playI l[i]] = (1, [⟨(l.take (i + 1)).map playI, 0, false⟩, ⟨List.replicate i (playI o), 0, false⟩]) := by
  have hln : ((l.take i).map playI).length = i := by simp; omega
  have := add_one (cs := tb l o i) (p := 1) (l := (l.take i).map playI) (e := 0) (x := playI l[i]) (by unfold isP tb; simp) rfl (playI_right _) (by omega)
  rw [hln] at this
  rw [this, take_map hi]
  rfl
theorem tb_2 {l : List In} {o : In} {i : Nat} (hi : i < l.length) (hi2 : i < 30) : add_ [⟨(l.take (i + 1)).map playI, 0, false⟩, ⟨List.replicate i (playI o), 0, false⟩] 2 i [playI o] = (1, tb l o (i + 1)) := by
  have := add_one (cs := [⟨(l.take (i + 1)).map playI, 0, false⟩, ⟨List.replicate i (playI o), 0, false⟩]) (p := 2) (l := List.replicate i (playI o)) (e := 0) (x := playI o) (by unfold isP; simp) rfl (playI_right _) (by simp; omega)
  rw [List.length_replicate] at this
  rw [this, ← List.replicate_succ']
  simp [tb]
theorem lastI_succ {l : List In} {i : Nat} (hi : i < l.length) : lastI l (i + 1) = playI l[i] := by
  unfold lastI
  rw [take_map hi, List.getLastD_concat]
theorem wf_tb (l : List In) (o : In) {i : Nat} (hi : i ≤ 30) : wfT (tb l o i) := by
  refine ⟨by simp [tb], fun c hc => ?_⟩
  simp only [tb, List.mem_cons, List.not_mem_nil, or_false] at hc
  rcases hc with rfl | rfl
  · exact ⟨by simp; omega, show I64 0 by omega⟩
  · exact ⟨by simp; omega, show I64 0 by omega⟩
theorem wf_tb1 (l : List In) (o : In) {i : Nat} (hi : i < 30) : wfT [⟨(l.take (i + 1)).map playI, 0, false⟩, ⟨List.replicate i (playI o), 0, false⟩] := by
  refine ⟨by simp, fun c hc => ?_⟩
  simp only [List.mem_cons, List.not_mem_nil, or_false] at hc
  rcases hc with rfl | rfl
  · exact ⟨by simp; omega, show I64 0 by omega⟩
  · exact ⟨by simp; omega, show I64 0 by omega⟩
theorem Has.ne {w0 w : World} {base a b : Nat} {o o2 : Obj} {F : List Asr} (h : Has w0 base w (blk a o :: blk b o2 :: F)) : a ≠ b := by
  obtain ⟨S1, S2, h1, h2, _, hd, _⟩ := h.out2
  intro e
  subst e
  exact hd _ h1.2.1 h2.2.1
abbrev cI (x : In) : Obj := .cells #[.int .i64 x.1, .int .i64 x.2.1, .bool x.2.2] 24 (0, 0)
def joustlaw15_InputsGuess.f (l0 : List In) (a1 : Int) (a2_0 : Int) (a2_1 : Int) (a2_2 : Bool) : Option Bool := some true
set_option maxHeartbeats 1600000 in
set_option maxRecDepth 100000 in
theorem joustlaw15_InputsGuess.calls (A0 : Option Addr) (c0 : Nat) (l0 : List In) (a1 : Int) (a2_0 : Int) (a2_1 : Int) (a2_2 : Bool) (r : Bool) (w : World) (hr_ : Aside0 (r = true)) (hr0 : Kd.C kin w A0 l0.length l0) (hc0 : l0.length ≤ c0) (h : joustlaw15_InputsGuess.f l0 a1 a2_0 a2_1 a2_2 = some r) :
    Calls Try.prog 3 #[.slice A0 l0.length c0, .int .i64 a1, .agg #[.int .i64 a2_0, .int .i64 a2_1, .bool a2_2]] w fun e w' => e = .returned (.bool r) ∧ Below w.heap.size w w' := by
  obtain rfl := hr_.out
  clear h hr_
  have hu24 := Try.underlying24
  have HR0 := Aside0.mk hr0
  clear hr0
  obtain ⟨q, hq⟩ : ∃ q : Int, q = IntKind.u64.wrap a1 % 100 := ⟨_, rfl⟩
  have hu0 : 0 ≤ IntKind.u64.wrap a1 := by rw [IntKind.wrap_u64]; omega
  have hq1 : 0 ≤ q ∧ q < 100 := by omega
  have hq2 : Int.tmod (IntKind.u64.wrap a1) 100 = q := by rw [Int.tmod_eq_emod_of_nonneg hu0]; exact hq.symm
  have HQ := Aside0.mk hq
  clear hq hu0
  obtain ⟨o, ho⟩ : ∃ o : In, o = (a2_0, a2_1, a2_2) := ⟨_, rfl⟩
  have ho1 : a2_0 = o.1 := by rw [ho]
  have ho2 : a2_1 = o.2.1 := by rw [ho]
  have ho3 : a2_2 = o.2.2 := by rw [ho]
  clear ho
  subst ho1 ho2 ho3
  go_enter Try.func3, Try.ntmps3
  go_wp2_with (first | ((with_reducible refine gate_dst (N := 5) rfl ?_); refine box_event ?hg (N := 5) ?hd (cs := #[.int .i64 o.1, .int .i64 o.2.1, .bool o.2.2]) (t := 24) ?hr ?_; (case hd => rfl); (case hg => rfl); (case hr => first | (go_simp; done) | (go_simp; rfl)); intro g5 hgb w5 hbox hb5; have HS5 := Aside0.mk (Has.box (Has.nil (Nat.le_refl _)) hgb hb5 hbox); clear hgb hb5 hbox) | (go_at_call 9; (refine (new.H 2 (by omega) HS5.out).mono ?_); rintro e w1 ⟨g, rfl, h1⟩; have H1 := Aside0.mk h1; clear h1 HS5) | (go_at_call 10; (refine (awake.H H1.out).mono ?_); rintro e w2 ⟨rfl, h2⟩; have H2 := Aside0.mk h2; clear h2 H1) | ((with_reducible refine gate_dst (N := 8) rfl ?_); refine box_event ?hg (N := 8) ?hd (cs := #[.int .i64 0, .int .i64 0, .bool false]) (t := 24) ?hr ?_; (case hd => rfl); (case hg => rfl); (case hr => first | (go_simp; done) | (go_simp; rfl)); intro g8 hgb w8 hbox hb8; have HS8 := Aside0.mk (Has.set3 (x := (0, 0, false)) (Has.box H2.out hgb hb8 hbox)); have BK8 := Aside0.mk hbox; clear hgb hb8 hbox H2; have hcz0 : w8.cell? ⟨g8, 0, none⟩ = some (.int .i64 0) := (blk_cell BK8.out 0).trans rfl; have hcz1 : w8.cell? ⟨g8, 1, none⟩ = some (.int .i64 0) := (blk_cell BK8.out 1).trans rfl; have hcz2 : w8.cell? ⟨g8, 2, none⟩ = some (.bool false) := (blk_cell BK8.out 2).trans rfl; have hfz0 := blk_frozen BK8.out 0; have hfz1 := blk_frozen BK8.out 1; have hfz2 := blk_frozen BK8.out 2))
  go_loopg [9, 10] (l0.length + 1) (fun kq v9 v10 w' => ∃ i : Nat, v9 = .bool (decide (0 < i)) ∧ v10 = .int .i64 (i : Int) ∧ Aside0 (i + kq = l0.length + 1) ∧ Aside0 (i ≤ l0.length ∧ i ≤ 30) ∧ Aside0 (Has w w.heap.size w' [tab g (tb l0 o i), blk g8 (cI (lastI l0 i)), blk g5 (cI o)]))
  case atStart => exact ⟨0, rfl, rfl, ⟨by omega⟩, ⟨by omega⟩, ⟨HS8.out.sw⟩⟩
  case round =>
    obtain ⟨i, rfl, rfl, HK, HI, HW⟩ := hrel
    by_cases hil : i < l0.length ∧ i < 30
    · obtain ⟨hi1, hi2⟩ := hil
      have e1 : decide ((i : Int) < (l0.length : Int)) = true := decide_eq_true (by omega)
      have e2 : decide ((i : Int) < 30) = true := decide_eq_true (by omega)
      obtain ⟨ad, rfl, x0, x1, x2⟩ := at_inI (HW.out.came (Nat.le_refl _) HR0.out) (i : Int) (by omega) (by omega)
      obtain ⟨x, hx9⟩ : ∃ x, rdI l0 (i : Int) = x := ⟨_, rfl⟩
      rw [hx9, Int.toNat_natCast] at x0 x1 x2
      have hxx : l0[i] = x := by rw [← hx9]; simp [rdI, List.getD_eq_getElem?_getD, hi1]
      have HT1 := Aside0.mk (tb_1 (o := o) hi1 hi2)
      have HT2 := Aside0.mk (tb_2 (o := o) hi1 hi2)
      have HL := Aside0.mk (lastI_succ hi1)
      rw [hxx] at HT1 HL
      clear hxx hx9
      cases gk with
      | zero => exact absurd HK.out (by omega)
      | succ k1 =>
        go_wp2_with (first | (go_at_call 11; (with_reducible refine (PInputsEnd.joustplay_Input.calls x.1 x.2.1 x.2.2 _ _ _ _ (play_eq x)).mono ?_); rintro e w11 ⟨rfl, hb11⟩; have HW11 := Aside0.mk (HW.out.step hb11); clear hb11) | ((with_reducible refine gate_dst (N := 11) rfl ?_); refine box_event ?hg (N := 11) ?hd (cs := #[.int .i64 0, .int .i64 0, .bool false]) (t := 24) ?hr ?_; (case hd => rfl); (case hg => rfl); (case hr => first | (go_simp; done) | (go_simp; rfl)); intro gb hgb w12 hbox hb5; have HS12 := Aside0.mk (Has.set3 (x := playI x) (Has.box HW11.out hgb hb5 hbox)); have BK := Aside0.mk hbox; clear hgb hb5 hbox HW11; have hcz0 : w12.cell? ⟨gb, 0, none⟩ = some (.int .i64 0) := (blk_cell BK.out 0).trans rfl; have hcz1 : w12.cell? ⟨gb, 1, none⟩ = some (.int .i64 0) := (blk_cell BK.out 1).trans rfl; have hcz2 : w12.cell? ⟨gb, 2, none⟩ = some (.bool false) := (blk_cell BK.out 2).trans rfl; have hfz0 := blk_frozen BK.out 0; have hfz1 := blk_frozen BK.out 1; have hfz2 := blk_frozen BK.out 2) | (go_at_call 12; have hown := HS12.out.own #[.int .i64 (playI x).1, .int .i64 (playI x).2.1, .bool (playI x).2.2] 24; rw [size_set3] at hown; (refine (add.H hown.up2 (wf_tb l0 o (by omega)) 1 i (by omega) (by omega) (some ⟨w12.heap.size, 0, none⟩) 1 [playI x] (by simp) (fun W cs' hW => C_one hW.sw.blk)).mono ?_); rintro e w13 ⟨rfl, h13⟩; rw [HT1.out] at h13 ⊢; have H13 := Aside0.mk h13.drop2; clear h13 hown HS12 hcz0 hcz1 hcz2 hfz0 hfz1 hfz2; have bk5 := H13.out.up3.blk; have ho0 : w13.cell? ⟨g5, 0, none⟩ = some (.int .i64 o.1) := (blk_cell bk5 0).trans rfl; have ho1 : w13.cell? ⟨g5, 1, none⟩ = some (.int .i64 o.2.1) := (blk_cell bk5 1).trans rfl; have ho2 : w13.cell? ⟨g5, 2, none⟩ = some (.bool o.2.2) := (blk_cell bk5 2).trans rfl; clear bk5) | (go_at_call 11; (with_reducible refine (PInputsEnd.joustplay_Input.calls o.1 o.2.1 o.2.2 _ _ _ _ (play_eq o)).mono ?_); rintro e w14 ⟨rfl, hb14⟩; have H14 := Aside0.mk (H13.out.step hb14); clear hb14 H13 ho0 ho1 ho2) | (go_at_call 12; have hown := H14.out.own #[.int .i64 (playI o).1, .int .i64 (playI o).2.1, .bool (playI o).2.2] 24; (refine (add.H hown.sw (wf_tb1 l0 o (by omega)) 2 i (by omega) (by omega) (some ⟨w14.heap.size, 0, none⟩) 1 [playI o] (by simp) (fun W cs' hW => C_one hW.sw.blk)).mono ?_); rintro e w15 ⟨rfl, h15⟩; rw [HT2.out] at h15 ⊢; have H15 := Aside0.mk h15.drop2; clear h15 hown H14; have bkb := H15.out.sw.blk; have bk8 := H15.out.up2.blk; have hx0 : w15.cell? ⟨gb, 0, none⟩ = some (.int .i64 (playI x).1) := (blk_cell bkb 0).trans rfl; have hx1 : w15.cell? ⟨gb, 1, none⟩ = some (.int .i64 (playI x).2.1) := (blk_cell bkb 1).trans rfl; have hx2 : w15.cell? ⟨gb, 2, none⟩ = some (.bool (playI x).2.2) := (blk_cell bkb 2).trans rfl; have hy0 : w15.cell? ⟨g8, 0, none⟩ = some (.int .i64 (lastI l0 i).1) := (blk_cell bk8 0).trans rfl; have hy1 : w15.cell? ⟨g8, 1, none⟩ = some (.int .i64 (lastI l0 i).2.1) := (blk_cell bk8 1).trans rfl; have hy2 : w15.cell? ⟨g8, 2, none⟩ = some (.bool (lastI l0 i).2.2) := (blk_cell bk8 2).trans rfl; have hf0 := blk_frozen bk8 0; have hf1 := blk_frozen bk8 1; have hf2 := blk_frozen bk8 2; clear bkb bk8))
        go_roundg k1
        case measure => have := HK.out; omega
        case rel => exact ⟨i + 1, by rw [decide_eq_true (show 0 < i + 1 by omega)], rfl, ⟨by have := HK.out; omega⟩, ⟨by omega⟩, ⟨by rw [HL.out]; exact (Has.set3 (x := playI x) H15.out.up2).sw.drop3⟩⟩
    · have e0 : (decide ((i : Int) < (l0.length : Int)) = false) ∨ (decide ((i : Int) < (l0.length : Int)) = true ∧ decide ((i : Int) < 30) = false) := by
        by_cases h9 : i < l0.length
        · exact .inr ⟨decide_eq_true (by omega), decide_eq_false (by omega)⟩
        · exact .inl (decide_eq_false (by omega))
      have hi30 := HI.out.2
      by_cases hm : i = 0
      · subst hm
        have EA := Aside0.mk (show at_ (tb l0 o 0) 1 q = ((0, 0, false), false) from at_nil (by unfold isP tb; simp) (by omega) (by simp [cAt, tb]) (by simp [cAt, tb]))
        have e1 : decide (((0 : Nat) : Int) < (l0.length : Int)) = false := decide_eq_false (by omega)
        go_wp2_with (first | (go_at_call 13; (refine (at.H HW.out (wf_tb l0 o (by omega)) 1 q (by omega) (by omega)).mono ?_); rintro e w20 ⟨rfl, h20⟩; rw [EA.out]; have H20 := Aside0.mk h20; clear h20 HW) | ((with_reducible refine gate_dst (N := 12) rfl ?_); refine box_event ?hg (N := 12) ?hd (cs := #[.int .i64 0, .int .i64 0, .bool false]) (t := 24) ?hr ?_; (case hd => rfl); (case hg => rfl); (case hr => first | (go_simp; done) | (go_simp; rfl)); intro gb12 hgb wb12 hbox hb5; have HX12 := Aside0.mk (Has.box H20.out hgb hb5 hbox); have HS12 := Aside0.mk (Has.set3 (x := (0, 0, false)) HX12.out); have BK12 := Aside0.mk hbox; clear hgb hb5 hbox; have hcz0 : wb12.cell? ⟨gb12, 0, none⟩ = some (.int .i64 0) := (blk_cell BK12.out 0).trans rfl; have hcz1 : wb12.cell? ⟨gb12, 1, none⟩ = some (.int .i64 0) := (blk_cell BK12.out 1).trans rfl; have hcz2 : wb12.cell? ⟨gb12, 2, none⟩ = some (.bool false) := (blk_cell BK12.out 2).trans rfl; have hfz0 := blk_frozen BK12.out 0; have hfz1 := blk_frozen BK12.out 1; have hfz2 := blk_frozen BK12.out 2))
        go_ret
        exact ⟨rfl, HS12.out.below⟩
      · have hl9 : i - 1 < l0.length := by have := HI.out.1; omega
        obtain ⟨v, hv9⟩ : ∃ v, v = playI l0[i - 1] := ⟨_, rfl⟩
        have hr9 : rightI v = true := by rw [hv9]; exact playI_right _
        have hlast : lastI l0 i = v := by
          have := lastI_succ hl9
          rw [show i - 1 + 1 = i from by omega] at this
          rw [this, hv9]
        have hlen : ((l0.take i).map playI).length = i := by simp; have := HI.out.1; omega
        have hget : ((l0.take i).map playI)[((l0.take i).map playI).length - 1]? = some v := by
          rw [hlen, List.getElem?_map, List.getElem?_take_of_lt (by omega), List.getElem?_eq_getElem hl9, hv9]
          rfl
        have hpp : isP (tb l0 o i) 1 := by unfold isP tb; simp
        have EH := Aside0.mk (show have_ (tb l0 o i) 1 = i from by rw [have_yes hpp]; show ((((l0.take i).map playI).length : Nat) : Int) = i; rw [hlen])
        have EA := Aside0.mk (show at_ (tb l0 o i) 1 ((i : Int) + q) = ((v.1, v.2.1, false), false) from at_last hpp (by omega) (by show ((((l0.take i).map playI).length : Nat) : Int) ≤ _; rw [hlen]; omega) (by simp [cAt, tb]) (by show 0 < ((l0.take i).map playI).length; rw [hlen]; omega) hget hr9)
        have EB := Aside0.mk (show at_ (tb l0 o i) 1 (-1) = ((0, 0, false), false) from at_no (by omega))
        rw [hlast] at HW
        have hk9 : decide (0 < i) = true := decide_eq_true (by omega)
        have bk8 := HW.out.sw.blk
        have hy2 : _ = some _ := (blk_cell bk8 2).trans rfl
        have hf2 := blk_frozen bk8 2
        clear bk8 hget hlen hlast hv9
        have hq19 := hq1
        rcases e0 with e1 | ⟨e1, e2⟩
        · go_wp2_with (first | (go_at_call 14; (refine (have.H (Has.set HW.out.sw 2 (.bool false) (cs2 := #[.int .i64 v.1, .int .i64 v.2.1, .bool false]) rfl).sw (wf_tb l0 o (by omega)) 1 (by omega)).mono ?_); rintro e w20 ⟨rfl, h20⟩; rw [EH.out]; have H20 := Aside0.mk h20; clear h20 HW hy2 hf2) | (go_at_call 13; (refine (at.H H20.out (wf_tb l0 o (by omega)) 1 ((i : Int) + q) (by omega) (by omega)).mono ?_); rintro e w21 ⟨rfl, h21⟩; rw [EA.out]; have H21 := Aside0.mk h21; clear h21 H20) | ((with_reducible refine gate_dst (N := 14) rfl ?_); refine box_event ?hg (N := 14) ?hd (cs := #[.int .i64 0, .int .i64 0, .bool false]) (t := 24) ?hr ?_; (case hd => rfl); (case hg => rfl); (case hr => first | (go_simp; done) | (go_simp; rfl)); intro gb14 hgb wb14 hbox hb5; have HX14 := Aside0.mk (Has.box H21.out hgb hb5 hbox); have HS14 := Aside0.mk (Has.set3 (x := (v.1, v.2.1, false)) HX14.out); have BK14 := Aside0.mk hbox; clear hgb hb5 hbox; have hcz0 : wb14.cell? ⟨gb14, 0, none⟩ = some (.int .i64 0) := (blk_cell BK14.out 0).trans rfl; have hcz1 : wb14.cell? ⟨gb14, 1, none⟩ = some (.int .i64 0) := (blk_cell BK14.out 1).trans rfl; have hcz2 : wb14.cell? ⟨gb14, 2, none⟩ = some (.bool false) := (blk_cell BK14.out 2).trans rfl; have hfz0 := blk_frozen BK14.out 0; have hfz1 := blk_frozen BK14.out 1; have hfz2 := blk_frozen BK14.out 2) | (go_at_call 13; (refine (at.H HS14.out.sw (wf_tb l0 o (by omega)) 1 (-1) (by omega) (by omega)).mono ?_); rintro e w22 ⟨rfl, h22⟩; rw [EB.out]; have H22 := Aside0.mk h22; clear h22 HS14 HX14 hcz0 hcz1 hcz2 hfz0 hfz1 hfz2) | ((with_reducible refine gate_dst (N := 16) rfl ?_); refine box_event ?hg (N := 16) ?hd (cs := #[.int .i64 0, .int .i64 0, .bool false]) (t := 24) ?hr ?_; (case hd => rfl); (case hg => rfl); (case hr => first | (go_simp; done) | (go_simp; rfl)); intro gb16 hgb wb16 hbox hb5; have HX16 := Aside0.mk (Has.box H22.out hgb hb5 hbox); have HS16 := Aside0.mk (Has.set3 (x := (0, 0, false)) HX16.out); have BK16 := Aside0.mk hbox; clear hgb hb5 hbox; have hcz0 : wb16.cell? ⟨gb16, 0, none⟩ = some (.int .i64 0) := (blk_cell BK16.out 0).trans rfl; have hcz1 : wb16.cell? ⟨gb16, 1, none⟩ = some (.int .i64 0) := (blk_cell BK16.out 1).trans rfl; have hcz2 : wb16.cell? ⟨gb16, 2, none⟩ = some (.bool false) := (blk_cell BK16.out 2).trans rfl; have hfz0 := blk_frozen BK16.out 0; have hfz1 := blk_frozen BK16.out 1; have hfz2 := blk_frozen BK16.out 2; have hn1 := Has.ne HX16.out.up2.sw; have hn2 := hn1.symm; have hn3 := Has.ne HX16.out.up3.sw; have hn4 := hn3.symm; have bk14 := HX16.out.up2.blk; have bk8 := HX16.out.up3.blk; have hv0 : wb16.cell? ⟨gb14, 0, none⟩ = some (.int .i64 v.1) := (blk_cell bk14 0).trans rfl; have hv1 : wb16.cell? ⟨gb14, 1, none⟩ = some (.int .i64 v.2.1) := (blk_cell bk14 1).trans rfl; have hv2 : wb16.cell? ⟨gb14, 2, none⟩ = some (.bool false) := (blk_cell bk14 2).trans rfl; have hu0 : wb16.cell? ⟨g8, 0, none⟩ = some (.int .i64 v.1) := (blk_cell bk8 0).trans rfl; have hu1 : wb16.cell? ⟨g8, 1, none⟩ = some (.int .i64 v.2.1) := (blk_cell bk8 1).trans rfl; have hu2 : wb16.cell? ⟨g8, 2, none⟩ = some (.bool false) := (blk_cell bk8 2).trans rfl))
          all_goals (go_ret; exact ⟨rfl, HS16.out.below⟩)
        · go_wp2_with (first | (go_at_call 14; (refine (have.H (Has.set HW.out.sw 2 (.bool false) (cs2 := #[.int .i64 v.1, .int .i64 v.2.1, .bool false]) rfl).sw (wf_tb l0 o (by omega)) 1 (by omega)).mono ?_); rintro e w20 ⟨rfl, h20⟩; rw [EH.out]; have H20 := Aside0.mk h20; clear h20 HW hy2 hf2) | (go_at_call 13; (refine (at.H H20.out (wf_tb l0 o (by omega)) 1 ((i : Int) + q) (by omega) (by omega)).mono ?_); rintro e w21 ⟨rfl, h21⟩; rw [EA.out]; have H21 := Aside0.mk h21; clear h21 H20) | ((with_reducible refine gate_dst (N := 14) rfl ?_); refine box_event ?hg (N := 14) ?hd (cs := #[.int .i64 0, .int .i64 0, .bool false]) (t := 24) ?hr ?_; (case hd => rfl); (case hg => rfl); (case hr => first | (go_simp; done) | (go_simp; rfl)); intro gb14 hgb wb14 hbox hb5; have HX14 := Aside0.mk (Has.box H21.out hgb hb5 hbox); have HS14 := Aside0.mk (Has.set3 (x := (v.1, v.2.1, false)) HX14.out); have BK14 := Aside0.mk hbox; clear hgb hb5 hbox; have hcz0 : wb14.cell? ⟨gb14, 0, none⟩ = some (.int .i64 0) := (blk_cell BK14.out 0).trans rfl; have hcz1 : wb14.cell? ⟨gb14, 1, none⟩ = some (.int .i64 0) := (blk_cell BK14.out 1).trans rfl; have hcz2 : wb14.cell? ⟨gb14, 2, none⟩ = some (.bool false) := (blk_cell BK14.out 2).trans rfl; have hfz0 := blk_frozen BK14.out 0; have hfz1 := blk_frozen BK14.out 1; have hfz2 := blk_frozen BK14.out 2) | (go_at_call 13; (refine (at.H HS14.out.sw (wf_tb l0 o (by omega)) 1 (-1) (by omega) (by omega)).mono ?_); rintro e w22 ⟨rfl, h22⟩; rw [EB.out]; have H22 := Aside0.mk h22; clear h22 HS14 HX14 hcz0 hcz1 hcz2 hfz0 hfz1 hfz2) | ((with_reducible refine gate_dst (N := 16) rfl ?_); refine box_event ?hg (N := 16) ?hd (cs := #[.int .i64 0, .int .i64 0, .bool false]) (t := 24) ?hr ?_; (case hd => rfl); (case hg => rfl); (case hr => first | (go_simp; done) | (go_simp; rfl)); intro gb16 hgb wb16 hbox hb5; have HX16 := Aside0.mk (Has.box H22.out hgb hb5 hbox); have HS16 := Aside0.mk (Has.set3 (x := (0, 0, false)) HX16.out); have BK16 := Aside0.mk hbox; clear hgb hb5 hbox; have hcz0 : wb16.cell? ⟨gb16, 0, none⟩ = some (.int .i64 0) := (blk_cell BK16.out 0).trans rfl; have hcz1 : wb16.cell? ⟨gb16, 1, none⟩ = some (.int .i64 0) := (blk_cell BK16.out 1).trans rfl; have hcz2 : wb16.cell? ⟨gb16, 2, none⟩ = some (.bool false) := (blk_cell BK16.out 2).trans rfl; have hfz0 := blk_frozen BK16.out 0; have hfz1 := blk_frozen BK16.out 1; have hfz2 := blk_frozen BK16.out 2; have hn1 := Has.ne HX16.out.up2.sw; have hn2 := hn1.symm; have hn3 := Has.ne HX16.out.up3.sw; have hn4 := hn3.symm; have bk14 := HX16.out.up2.blk; have bk8 := HX16.out.up3.blk; have hv0 : wb16.cell? ⟨gb14, 0, none⟩ = some (.int .i64 v.1) := (blk_cell bk14 0).trans rfl; have hv1 : wb16.cell? ⟨gb14, 1, none⟩ = some (.int .i64 v.2.1) := (blk_cell bk14 1).trans rfl; have hv2 : wb16.cell? ⟨gb14, 2, none⟩ = some (.bool false) := (blk_cell bk14 2).trans rfl; have hu0 : wb16.cell? ⟨g8, 0, none⟩ = some (.int .i64 v.1) := (blk_cell bk8 0).trans rfl; have hu1 : wb16.cell? ⟨g8, 1, none⟩ = some (.int .i64 v.2.1) := (blk_cell bk8 1).trans rfl; have hu2 : wb16.cell? ⟨g8, 2, none⟩ = some (.bool false) := (blk_cell bk8 2).trans rfl))
          all_goals (go_ret; exact ⟨rfl, HS16.out.below⟩)
end Go.Proofs.Ytkgjokidfbpnbaa.PInputsGuess
