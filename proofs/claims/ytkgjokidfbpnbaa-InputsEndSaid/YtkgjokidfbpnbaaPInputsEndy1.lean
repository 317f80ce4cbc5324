/- What the law InputsEnd comes to: true of all inputs. No condition. -/
import Derived.Test.YtkgjokidfbpnbaaPInputsEndz0
import Derived.Test.YtkgjokidfbpnbaaInI
namespace Go.Proofs.Ytkgjokidfbpnbaa.PInputsEnd
open Go.RowKit Go.Proofs.YtkgjokidfbpnbaaW.PrintWords Go.Proofs.YtkgjokidfbpnbaaW.PrintLast Go.Proofs.YtkgjokidfbpnbaaW.PrintMore Go.Proofs.Ytkgjokidfbpnbaa.InW Go.Proofs.Ytkgjokidfbpnbaa.Sep
attribute [local go_sem] max2_int min2_int max_two min_two max_three min_three max_four min_four   -- for this text's walks alone
set_option linter.unusedVariables false
set_option linter.unusedSimpArgs false
theorem take_map {l : List In} {i : Nat} (hi : i < l.length) : (l.take (i + 1)).map playI = (l.take i).map playI ++ [playI l[i]] := by
  rw [List.take_succ_eq_append_getElem hi, List.map_append]
  rfl
theorem te_1 {l : List In} {i : Nat} (hi : i < l.length) (hi2 : i < 20) : add_ [⟨(l.take i).map playI, 0, false⟩] 1 i [playI l[i]] = (1, [⟨(l.take (i + 1)).map playI, 0, false⟩]) := by
  have hln : ((l.take i).map playI).length = i := by simp; omega
  have := add_one (cs := [⟨(l.take i).map playI, 0, false⟩]) (p := 1) (l := (l.take i).map playI) (e := 0) (x := playI l[i]) (by unfold isP; simp) rfl (playI_right _) (by omega)
  rw [hln] at this
  rw [this, take_map hi]
  rfl
theorem wf_one (l : List In) (e : Int) (d : Bool) (hl : l.length ≤ 10000) (he : I64 e) : wfT [⟨l, e, d⟩] := by
  refine ⟨by simp, fun c hc => ?_⟩
  simp only [List.mem_cons, List.not_mem_nil, or_false] at hc
  subst hc
  exact ⟨hl, he⟩
theorem at_unsure {cs : List Col} {p : Int} (hp : isP cs p) (f : Int) (h0 : 0 ≤ f) (h1 : (cAt cs p).l.length ≤ f) (h2 : ¬ ((cAt cs p).d = true ∧ (cAt cs p).e ≤ f)) : ∃ x1 x2, at_ cs p f = ((x1, x2, false), false) := by
  have hg : ∀ y k, ∃ x1 x2, guessI y k = (x1, x2, false) := fun y k => by unfold guessI; split <;> exact ⟨_, _, rfl⟩
  unfold at_
  rw [if_pos ⟨hp, h0⟩, if_neg (by omega), if_neg h2]
  split
  · obtain ⟨x1, x2, e⟩ := hg (0, 0, false) false
    exact ⟨x1, x2, by rw [e]⟩
  · obtain ⟨x1, x2, e⟩ := hg (rdI (cAt cs p).l ((cAt cs p).l.length - 1)) true
    exact ⟨x1, x2, by rw [e]⟩
/-- nothings come until the end -/
theorem addGo_fill (q : Int) (fr : Int) : ∀ (k : Nat) (C : List In) (i : Nat) (n : Int), (C.length : Int) = fr + i → (C.length : Int) ≤ q → q - C.length < k → q < 40 → addGo ⟨C, q, true⟩ fr i (List.replicate k (0, 0, false)) n = (⟨C ++ List.replicate (q - C.length).toNat (0, 0, false), q, true⟩, n + (q - C.length)) := by
  intro k
  induction k with
  | zero => intro C i n h1 h2 h3 h4; omega
  | succ k ih =>
    intro C i n h1 h2 h3 h4
    rw [List.replicate_succ, addGo]
    have n1 : ¬ (rightI (0, 0, false) = false ∨ (C.length : Int) < fr ∨ (C.length : Int) - fr < i) := by
      rintro (h | h | h)
      · exact absurd h (by decide)
      · omega
      · omega
    have n2 : ¬ ((i : Int) < (C.length : Int) - fr) := by omega
    dsimp only
    rw [if_neg n1, if_neg n2]
    by_cases h5 : q ≤ C.length
    · rw [if_pos (.inl ⟨rfl, h5⟩)]
      have e : q - (C.length : Int) = 0 := by omega
      rw [e]
      simp
    · rw [if_neg (by rintro (h | h); exact h5 h.2; omega)]
      have hl : ((C ++ [(0, 0, false)]).length : Int) = C.length + 1 := by simp
      rw [ih (C ++ [(0, 0, false)]) (i + 1) (n + 1) (by rw [hl]; push_cast; omega) (by rw [hl]; omega) (by rw [hl]; omega) h4, hl]
      have e : (q - (C.length : Int)).toNat = (q - (C.length + 1)).toNat + 1 := by omega
      rw [e, List.replicate_succ, List.append_assoc]
      simp only [List.singleton_append, Prod.mk.injEq, true_and]
      omega
def joustlaw15_InputsEnd.f (l0 : List In) (a1 : Int) (a2 : Int) : Option Bool := if I64 a1 ∧ I64 a2 then some true else none
set_option maxHeartbeats 1600000 in
set_option maxRecDepth 100000 in
theorem joustlaw15_InputsEnd.calls (A0 : Option Addr) (c0 : Nat) (l0 : List In) (a1 : Int) (a2 : Int) (r : Bool) (w : World) (hr_ : Aside0 (r = true)) (hr0 : Kd.C kin w A0 l0.length l0) (hc0 : l0.length ≤ c0) (h : joustlaw15_InputsEnd.f l0 a1 a2 = some r) :
    Calls Try.prog 4 #[.slice A0 l0.length c0, .int .i64 a1, .int .i64 a2] w fun e w' => e = .returned (.bool r) ∧ Below w.heap.size w w' := by
  obtain rfl := hr_.out
  have ha : I64 a1 ∧ I64 a2 := by
    unfold joustlaw15_InputsEnd.f at h
    by_cases hc : I64 a1 ∧ I64 a2
    · exact hc
    · rw [if_neg hc] at h; cases h
  clear h hr_
  have hu24 := Try.underlying24
  have HR0 := Aside0.mk hr0
  clear hr0
  obtain ⟨q, hq⟩ : ∃ q : Int, q = IntKind.u64.wrap a1 % 40 := ⟨_, rfl⟩
  have hu0 : 0 ≤ IntKind.u64.wrap a1 := by rw [IntKind.wrap_u64]; omega
  have hq1 : 0 ≤ q ∧ q < 40 := by omega
  have hq2 : Int.tmod (IntKind.u64.wrap a1) 40 = q := by rw [Int.tmod_eq_emod_of_nonneg hu0]; exact hq.symm
  clear hq hu0
  go_enter Try.func4, Try.ntmps4
  go_wp2_with (first | (go_at_call 9; (refine (new.H 1 (by omega) (Has.nil (Nat.le_refl _))).mono ?_); rintro e w1 ⟨g, rfl, h1⟩; have H1 := Aside0.mk h1; clear h1) | (go_at_call 10; (refine (awake.H H1.out).mono ?_); rintro e w2 ⟨rfl, h2⟩; have H2 := Aside0.mk h2; clear h2 H1))
  go_loopg [8, 9] (l0.length + 1) (fun kq v8 v9 w' => ∃ i : Nat, v8 = .int .i64 (i : Int) ∧ v9 = .int .i64 (i : Int) ∧ Aside0 (i + kq = l0.length + 1) ∧ Aside0 (i ≤ l0.length ∧ i ≤ 20) ∧ Aside0 (Has w w.heap.size w' [tab g [⟨(l0.take i).map playI, 0, false⟩]]))
  case atStart => exact ⟨0, rfl, rfl, ⟨by omega⟩, ⟨by omega⟩, H2⟩
  case round =>
    obtain ⟨i, rfl, rfl, HK, HI, HW⟩ := hrel
    by_cases hil : i < l0.length ∧ i < 20
    · obtain ⟨hi1, hi2⟩ := hil
      have e1 : decide ((i : Int) < (l0.length : Int)) = true := decide_eq_true (by omega)
      have e2 : decide ((i : Int) < 20) = true := decide_eq_true (by omega)
      obtain ⟨ad, rfl, x0, x1, x2⟩ := at_inI (HW.out.came (Nat.le_refl _) HR0.out) (i : Int) (by omega) (by omega)
      obtain ⟨x, hx9⟩ : ∃ x, rdI l0 (i : Int) = x := ⟨_, rfl⟩
      rw [hx9, Int.toNat_natCast] at x0 x1 x2
      have hxx : l0[i] = x := by rw [← hx9]; simp [rdI, List.getD_eq_getElem?_getD, hi1]
      have HT1 := Aside0.mk (te_1 hi1 hi2)
      rw [hxx] at HT1
      clear hxx hx9
      have HWF := Aside0.mk (wf_one ((l0.take i).map playI) 0 false (by simp; omega) (by omega))
      cases gk with
      | zero => exact absurd HK.out (by omega)
      | succ k1 =>
        go_wp2_with (first | (go_at_call 11; (with_reducible refine (PInputsEnd.joustplay_Input.calls x.1 x.2.1 x.2.2 _ _ _ _ (play_eq x)).mono ?_); rintro e w11 ⟨rfl, hb11⟩; have HW11 := Aside0.mk (HW.out.step hb11); clear hb11) | (go_at_call 12; have hown := HW11.out.own #[.int .i64 (playI x).1, .int .i64 (playI x).2.1, .bool (playI x).2.2] 24; (refine (add.H hown.sw HWF.out 1 i (by omega) (by omega) (some ⟨w11.heap.size, 0, none⟩) 1 [playI x] (by simp) (fun W cs' hW => C_one hW.sw.blk)).mono ?_); rintro e w13 ⟨rfl, h13⟩; rw [HT1.out] at h13 ⊢; have H13 := Aside0.mk h13.drop2; clear h13 hown HW11))
        go_roundg k1
        case measure => have := HK.out; omega
        case rel => exact ⟨i + 1, rfl, rfl, ⟨by have := HK.out; omega⟩, ⟨by omega⟩, H13⟩
    · have e0 : (decide ((i : Int) < (l0.length : Int)) = false) ∨ (decide ((i : Int) < (l0.length : Int)) = true ∧ decide ((i : Int) < 20) = false) := by
        by_cases h9 : i < l0.length
        · exact .inr ⟨decide_eq_true (by omega), decide_eq_false (by omega)⟩
        · exact .inl (decide_eq_false (by omega))
      have hi20 := HI.out.2
      have hi0 := HI.out.1
      obtain ⟨C, hC⟩ : ∃ C, C = (l0.take i).map playI := ⟨_, rfl⟩
      have hlen : C.length = i := by rw [hC]; simp; omega
      rw [← hC] at HW
      clear hC
      have hpp : ∀ e d, isP [⟨C, e, d⟩] 1 := fun e d => by unfold isP; simp
      by_cases hmq : (i : Int) ≤ q
      · have f1 : decide ((i : Int) ≤ q) = true := decide_eq_true hmq
        have E1 := Aside0.mk (show end_ [⟨C, 0, false⟩] 1 q = (true, [⟨C, q, true⟩]) from end_yes ⟨hpp _ _, rfl, by show ((C.length : Nat) : Int) ≤ q; rw [hlen]; exact hmq, by omega⟩)
        have W0 := Aside0.mk (wf_one C 0 false (by omega) (by omega))
        have W2 := Aside0.mk (wf_one C q true (by omega) (by omega))
        have E2 := Aside0.mk (show end_ [⟨C, q, true⟩] 1 a2 = (false, [⟨C, q, true⟩]) from end_no (fun x => Bool.noConfusion x.2.1))
        have E3 := Aside0.mk (show ended_ [⟨C, q, true⟩] 1 = (q, true) from ended_yes (hpp _ _) rfl)
        obtain ⟨D, hD⟩ : ∃ D, D = C ++ List.replicate (q - C.length).toNat ((0, 0, false) : In) := ⟨_, rfl⟩
        have hDl : (D.length : Int) = q := by rw [hD, List.length_append, List.length_replicate]; omega
        have EP := Aside0.mk (show add_ [⟨C, q, true⟩] 1 (i : Int) (List.replicate 60 (0, 0, false)) = (q - i, [⟨D, q, true⟩]) from by
          rw [add_yes (hpp _ _) (by omega)]
          have := addGo_fill q (i : Int) 60 C 0 0 (by omega) (by omega) (by omega) (by omega)
          show (((addGo ⟨C, q, true⟩ i 0 _ 0).2, [(addGo ⟨C, q, true⟩ i 0 _ 0).1]) : Int × List Col) = _
          rw [this, ← hD, hlen]
          simp)
        have W3 := Aside0.mk (wf_one D q true (by omega) (by omega))
        have EH := Aside0.mk (show have_ [⟨D, q, true⟩] 1 = q from by rw [have_yes (show isP [⟨D, q, true⟩] 1 by unfold isP; simp)]; exact hDl)
        have hs60 : IntKind.i64.wrap (q - (i : Int)) = q - i := by rw [IntKind.wrap_i64]; omega
        clear hD hDl
        rcases e0 with e1 | ⟨e1, e2⟩
        · go_wp2_with (first | (go_at_call 15; (refine (end.H HW.out W0.out 1 q (by omega) (by omega)).mono ?_); rintro e w20 ⟨rfl, h20⟩; rw [E1.out] at h20 ⊢; have H20 := Aside0.mk h20; clear h20 HW) | (go_at_call 15; (refine (end.H H20.out W2.out 1 a2 (by omega) (by omega)).mono ?_); rintro e w21 ⟨rfl, h21⟩; rw [E2.out] at h21 ⊢; have H21 := Aside0.mk h21; clear h21 H20) | (go_at_call 16; (refine (ended.H H21.out W2.out 1 (by omega)).mono ?_); rintro e w22 ⟨rfl, h22⟩; rw [E3.out]; have H22 := Aside0.mk h22; clear h22 H21))
          all_goals
            go_loopg [14] (50 + 1) (fun kq v14 w' => ∃ f : Nat, v14 = .int .i64 (f : Int) ∧ Aside0 (51 ≤ f + kq) ∧ Aside0 (i ≤ f ∧ f ≤ 50) ∧ Aside0 (Has w w.heap.size w' [tab g [⟨C, q, true⟩]]))
            case atStart => exact ⟨i, rfl, ⟨by omega⟩, ⟨by omega⟩, H22⟩
            case round =>
              obtain ⟨f, rfl, HK2, HF, HV⟩ := hrel
              have hff := HF.out
              by_cases hf5 : f < 50
              · have g1 : decide ((f : Int) < 50) = true := decide_eq_true (by omega)
                cases gk with
                | zero => exact absurd HK2.out (by omega)
                | succ k2 =>
                  by_cases hqf : q ≤ (f : Int)
                  · have g2 : decide (q ≤ (f : Int)) = true := decide_eq_true hqf
                    have EA := Aside0.mk (show at_ [⟨C, q, true⟩] 1 (f : Int) = ((0, 0, false), true) from at_end (hpp _ _) (by omega) (by show ((C.length : Nat) : Int) ≤ f; omega) ⟨rfl, hqf⟩)
                    go_wp2_with (first | (go_at_call 13; (refine (at.H HV.out W2.out 1 (f : Int) (by omega) (by omega)).mono ?_); rintro e w40 ⟨rfl, h40⟩; rw [EA.out]; have H40 := Aside0.mk h40; clear h40) | ((with_reducible refine gate_dst (N := 15) rfl ?_); refine box_event ?hg (N := 15) ?hd (cs := #[.int .i64 0, .int .i64 0, .bool false]) (t := 24) ?hr ?_; (case hd => rfl); (case hg => rfl); (case hr => first | (go_simp; done) | (go_simp; rfl)); intro gb hgb wb hbox hb5; have HS15 := Aside0.mk (Has.set3 (x := (0, 0, false)) (Has.box H40.out hgb hb5 hbox)); have BK := Aside0.mk hbox; clear hgb hb5 hbox H40; have hcz0 : wb.cell? ⟨gb, 0, none⟩ = some (.int .i64 0) := (blk_cell BK.out 0).trans rfl; have hcz1 : wb.cell? ⟨gb, 1, none⟩ = some (.int .i64 0) := (blk_cell BK.out 1).trans rfl; have hcz2 : wb.cell? ⟨gb, 2, none⟩ = some (.bool false) := (blk_cell BK.out 2).trans rfl; have hfz0 := blk_frozen BK.out 0; have hfz1 := blk_frozen BK.out 1; have hfz2 := blk_frozen BK.out 2))
                    all_goals (go_roundg k2; (case measure => have := HK2.out; omega); (case rel => exact ⟨f + 1, rfl, ⟨by have := HK2.out; omega⟩, ⟨by omega⟩, ⟨HS15.out.drop⟩⟩))
                  · have g2 : decide (q ≤ (f : Int)) = false := decide_eq_false hqf
                    obtain ⟨x1, x2, hx⟩ := at_unsure (hpp q true) (f : Int) (by omega) (show ((C.length : Nat) : Int) ≤ f by omega) (fun x => hqf x.2)
                    have EA := Aside0.mk hx
                    clear hx
                    go_wp2_with (first | (go_at_call 13; (refine (at.H HV.out W2.out 1 (f : Int) (by omega) (by omega)).mono ?_); rintro e w40 ⟨rfl, h40⟩; rw [EA.out]; have H40 := Aside0.mk h40; clear h40) | ((with_reducible refine gate_dst (N := 15) rfl ?_); refine box_event ?hg (N := 15) ?hd (cs := #[.int .i64 0, .int .i64 0, .bool false]) (t := 24) ?hr ?_; (case hd => rfl); (case hg => rfl); (case hr => first | (go_simp; done) | (go_simp; rfl)); intro gb hgb wb hbox hb5; have HS15 := Aside0.mk (Has.set3 (x := (x1, x2, false)) (Has.box H40.out hgb hb5 hbox)); have BK := Aside0.mk hbox; clear hgb hb5 hbox H40; have hcz0 : wb.cell? ⟨gb, 0, none⟩ = some (.int .i64 0) := (blk_cell BK.out 0).trans rfl; have hcz1 : wb.cell? ⟨gb, 1, none⟩ = some (.int .i64 0) := (blk_cell BK.out 1).trans rfl; have hcz2 : wb.cell? ⟨gb, 2, none⟩ = some (.bool false) := (blk_cell BK.out 2).trans rfl; have hfz0 := blk_frozen BK.out 0; have hfz1 := blk_frozen BK.out 1; have hfz2 := blk_frozen BK.out 2))
                    all_goals (go_roundg k2; (case measure => have := HK2.out; omega); (case rel => exact ⟨f + 1, rfl, ⟨by have := HK2.out; omega⟩, ⟨by omega⟩, ⟨HS15.out.drop⟩⟩))
              · have g1 : decide ((f : Int) < 50) = false := decide_eq_false (by omega)
                go_wp2_with (first | ((with_reducible refine gate_dst (N := 119) rfl ?_); refine Kd.R_make kin _ 24 rfl rfl 22 _ _ rfl 60 rfl rfl Try.underlying22 _ 24 info24_ rfl (by decide) (by decide) (0, 0, false) (ok := fun _ => True) (okp := fun _ => True) ?hM (fun _ h => h) trivial (by omega) (by decide) (Below.refl _ _) (Nat.le_refl _) ?_; (case hM => exact kin_mkM _ _ _ (0, 0, false)); intro v50 w50 hR hB _ _; obtain ⟨A9, c9, e9⟩ := Kd.R_slice hR; subst e9; have H50 := Aside0.mk (Has.newRow HV.out hB hR); clear hR hB) | (go_at_call 12; (refine (add.H H50.out.sw W2.out 1 (i : Int) (by omega) (by omega) A9 c9 (List.replicate 60 (0, 0, false)) (by simp) (fun W cs' hW => by obtain ⟨A, c, e, _, hC⟩ := hW.sw.row_reads; rw [(Value.slice.inj e).1]; exact hC)).mono ?_); rintro e w51 ⟨rfl, h51⟩; rw [EP.out] at h51 ⊢; have H51 := Aside0.mk h51; clear h51 H50) | (go_at_call 14; (refine (have.H H51.out W3.out 1 (by omega)).mono ?_); rintro e w52 ⟨rfl, h52⟩; rw [EH.out]; have H52 := Aside0.mk h52; clear h52 H51))
                all_goals (go_ret; exact ⟨rfl, H52.out.below⟩)
        · go_wp2_with (first | (go_at_call 15; (refine (end.H HW.out W0.out 1 q (by omega) (by omega)).mono ?_); rintro e w20 ⟨rfl, h20⟩; rw [E1.out] at h20 ⊢; have H20 := Aside0.mk h20; clear h20 HW) | (go_at_call 15; (refine (end.H H20.out W2.out 1 a2 (by omega) (by omega)).mono ?_); rintro e w21 ⟨rfl, h21⟩; rw [E2.out] at h21 ⊢; have H21 := Aside0.mk h21; clear h21 H20) | (go_at_call 16; (refine (ended.H H21.out W2.out 1 (by omega)).mono ?_); rintro e w22 ⟨rfl, h22⟩; rw [E3.out]; have H22 := Aside0.mk h22; clear h22 H21))
          all_goals
            go_loopg [14] (50 + 1) (fun kq v14 w' => ∃ f : Nat, v14 = .int .i64 (f : Int) ∧ Aside0 (51 ≤ f + kq) ∧ Aside0 (i ≤ f ∧ f ≤ 50) ∧ Aside0 (Has w w.heap.size w' [tab g [⟨C, q, true⟩]]))
            case atStart => exact ⟨i, rfl, ⟨by omega⟩, ⟨by omega⟩, H22⟩
            case round =>
              obtain ⟨f, rfl, HK2, HF, HV⟩ := hrel
              have hff := HF.out
              by_cases hf5 : f < 50
              · have g1 : decide ((f : Int) < 50) = true := decide_eq_true (by omega)
                cases gk with
                | zero => exact absurd HK2.out (by omega)
                | succ k2 =>
                  by_cases hqf : q ≤ (f : Int)
                  · have g2 : decide (q ≤ (f : Int)) = true := decide_eq_true hqf
                    have EA := Aside0.mk (show at_ [⟨C, q, true⟩] 1 (f : Int) = ((0, 0, false), true) from at_end (hpp _ _) (by omega) (by show ((C.length : Nat) : Int) ≤ f; omega) ⟨rfl, hqf⟩)
                    go_wp2_with (first | (go_at_call 13; (refine (at.H HV.out W2.out 1 (f : Int) (by omega) (by omega)).mono ?_); rintro e w40 ⟨rfl, h40⟩; rw [EA.out]; have H40 := Aside0.mk h40; clear h40) | ((with_reducible refine gate_dst (N := 15) rfl ?_); refine box_event ?hg (N := 15) ?hd (cs := #[.int .i64 0, .int .i64 0, .bool false]) (t := 24) ?hr ?_; (case hd => rfl); (case hg => rfl); (case hr => first | (go_simp; done) | (go_simp; rfl)); intro gb hgb wb hbox hb5; have HS15 := Aside0.mk (Has.set3 (x := (0, 0, false)) (Has.box H40.out hgb hb5 hbox)); have BK := Aside0.mk hbox; clear hgb hb5 hbox H40; have hcz0 : wb.cell? ⟨gb, 0, none⟩ = some (.int .i64 0) := (blk_cell BK.out 0).trans rfl; have hcz1 : wb.cell? ⟨gb, 1, none⟩ = some (.int .i64 0) := (blk_cell BK.out 1).trans rfl; have hcz2 : wb.cell? ⟨gb, 2, none⟩ = some (.bool false) := (blk_cell BK.out 2).trans rfl; have hfz0 := blk_frozen BK.out 0; have hfz1 := blk_frozen BK.out 1; have hfz2 := blk_frozen BK.out 2))
                    all_goals (go_roundg k2; (case measure => have := HK2.out; omega); (case rel => exact ⟨f + 1, rfl, ⟨by have := HK2.out; omega⟩, ⟨by omega⟩, ⟨HS15.out.drop⟩⟩))
                  · have g2 : decide (q ≤ (f : Int)) = false := decide_eq_false hqf
                    obtain ⟨x1, x2, hx⟩ := at_unsure (hpp q true) (f : Int) (by omega) (show ((C.length : Nat) : Int) ≤ f by omega) (fun x => hqf x.2)
                    have EA := Aside0.mk hx
                    clear hx
                    go_wp2_with (first | (go_at_call 13; (refine (at.H HV.out W2.out 1 (f : Int) (by omega) (by omega)).mono ?_); rintro e w40 ⟨rfl, h40⟩; rw [EA.out]; have H40 := Aside0.mk h40; clear h40) | ((with_reducible refine gate_dst (N := 15) rfl ?_); refine box_event ?hg (N := 15) ?hd (cs := #[.int .i64 0, .int .i64 0, .bool false]) (t := 24) ?hr ?_; (case hd => rfl); (case hg => rfl); (case hr => first | (go_simp; done) | (go_simp; rfl)); intro gb hgb wb hbox hb5; have HS15 := Aside0.mk (Has.set3 (x := (x1, x2, false)) (Has.box H40.out hgb hb5 hbox)); have BK := Aside0.mk hbox; clear hgb hb5 hbox H40; have hcz0 : wb.cell? ⟨gb, 0, none⟩ = some (.int .i64 0) := (blk_cell BK.out 0).trans rfl; have hcz1 : wb.cell? ⟨gb, 1, none⟩ = some (.int .i64 0) := (blk_cell BK.out 1).trans rfl; have hcz2 : wb.cell? ⟨gb, 2, none⟩ = some (.bool false) := (blk_cell BK.out 2).trans rfl; have hfz0 := blk_frozen BK.out 0; have hfz1 := blk_frozen BK.out 1; have hfz2 := blk_frozen BK.out 2))
                    all_goals (go_roundg k2; (case measure => have := HK2.out; omega); (case rel => exact ⟨f + 1, rfl, ⟨by have := HK2.out; omega⟩, ⟨by omega⟩, ⟨HS15.out.drop⟩⟩))
              · have g1 : decide ((f : Int) < 50) = false := decide_eq_false (by omega)
                go_wp2_with (first | ((with_reducible refine gate_dst (N := 119) rfl ?_); refine Kd.R_make kin _ 24 rfl rfl 22 _ _ rfl 60 rfl rfl Try.underlying22 _ 24 info24_ rfl (by decide) (by decide) (0, 0, false) (ok := fun _ => True) (okp := fun _ => True) ?hM (fun _ h => h) trivial (by omega) (by decide) (Below.refl _ _) (Nat.le_refl _) ?_; (case hM => exact kin_mkM _ _ _ (0, 0, false)); intro v50 w50 hR hB _ _; obtain ⟨A9, c9, e9⟩ := Kd.R_slice hR; subst e9; have H50 := Aside0.mk (Has.newRow HV.out hB hR); clear hR hB) | (go_at_call 12; (refine (add.H H50.out.sw W2.out 1 (i : Int) (by omega) (by omega) A9 c9 (List.replicate 60 (0, 0, false)) (by simp) (fun W cs' hW => by obtain ⟨A, c, e, _, hC⟩ := hW.sw.row_reads; rw [(Value.slice.inj e).1]; exact hC)).mono ?_); rintro e w51 ⟨rfl, h51⟩; rw [EP.out] at h51 ⊢; have H51 := Aside0.mk h51; clear h51 H50) | (go_at_call 14; (refine (have.H H51.out W3.out 1 (by omega)).mono ?_); rintro e w52 ⟨rfl, h52⟩; rw [EH.out]; have H52 := Aside0.mk h52; clear h52 H51))
                all_goals (go_ret; exact ⟨rfl, H52.out.below⟩)
      · have f1 : decide ((i : Int) ≤ q) = false := decide_eq_false hmq
        have E1 := Aside0.mk (show end_ [⟨C, 0, false⟩] 1 q = (false, [⟨C, 0, false⟩]) from end_no (fun x => hmq (by have h3 : ((C.length : Nat) : Int) ≤ q := x.2.2.1; rw [hlen] at h3; exact h3)))
        have W0 := Aside0.mk (wf_one C 0 false (by omega) (by omega))
        by_cases h2 : (i : Int) ≤ a2 ∧ a2 ≤ 10000
        · have f2 : decide ((i : Int) ≤ a2) = true := decide_eq_true h2.1
          have f3 : decide (a2 ≤ 10000) = true := decide_eq_true h2.2
          have E2 := Aside0.mk (show end_ [⟨C, 0, false⟩] 1 a2 = (true, [⟨C, a2, true⟩]) from end_yes ⟨hpp _ _, rfl, by show ((C.length : Nat) : Int) ≤ a2; rw [hlen]; exact h2.1, h2.2⟩)
          have W2 := Aside0.mk (wf_one C a2 true (by omega) ha.2)
          have E3 := Aside0.mk (show ended_ [⟨C, a2, true⟩] 1 = (a2, true) from ended_yes (hpp _ _) rfl)
          rcases e0 with e1 | ⟨e1, e2⟩
          · go_wp2_with (first | (go_at_call 15; (refine (end.H HW.out W0.out 1 q (by omega) (by omega)).mono ?_); rintro e w20 ⟨rfl, h20⟩; rw [E1.out] at h20 ⊢; have H20 := Aside0.mk h20; clear h20 HW) | (go_at_call 15; (refine (end.H H20.out W0.out 1 a2 (by omega) (by omega)).mono ?_); rintro e w21 ⟨rfl, h21⟩; rw [E2.out] at h21 ⊢; have H21 := Aside0.mk h21; clear h21 H20) | (go_at_call 16; (refine (ended.H H21.out W2.out 1 (by omega)).mono ?_); rintro e w22 ⟨rfl, h22⟩; rw [E3.out]; have H22 := Aside0.mk h22; clear h22 H21))
            all_goals (go_ret; exact ⟨rfl, H22.out.below⟩)
          · go_wp2_with (first | (go_at_call 15; (refine (end.H HW.out W0.out 1 q (by omega) (by omega)).mono ?_); rintro e w20 ⟨rfl, h20⟩; rw [E1.out] at h20 ⊢; have H20 := Aside0.mk h20; clear h20 HW) | (go_at_call 15; (refine (end.H H20.out W0.out 1 a2 (by omega) (by omega)).mono ?_); rintro e w21 ⟨rfl, h21⟩; rw [E2.out] at h21 ⊢; have H21 := Aside0.mk h21; clear h21 H20) | (go_at_call 16; (refine (ended.H H21.out W2.out 1 (by omega)).mono ?_); rintro e w22 ⟨rfl, h22⟩; rw [E3.out]; have H22 := Aside0.mk h22; clear h22 H21))
            all_goals (go_ret; exact ⟨rfl, H22.out.below⟩)
        · have E2 := Aside0.mk (show end_ [⟨C, 0, false⟩] 1 a2 = (false, [⟨C, 0, false⟩]) from end_no (fun x => h2 ⟨by have h3 : ((C.length : Nat) : Int) ≤ a2 := x.2.2.1; rw [hlen] at h3; exact h3, x.2.2.2⟩))
          have E3 := Aside0.mk (show ended_ [⟨C, 0, false⟩] 1 = (0, false) from ended_no (fun x => Bool.noConfusion x.2))
          rcases e0 with e1 | ⟨e1, e2⟩
          · go_wp2_with (first | (go_at_call 15; (refine (end.H HW.out W0.out 1 q (by omega) (by omega)).mono ?_); rintro e w20 ⟨rfl, h20⟩; rw [E1.out] at h20 ⊢; have H20 := Aside0.mk h20; clear h20 HW) | (go_at_call 15; (refine (end.H H20.out W0.out 1 a2 (by omega) (by omega)).mono ?_); rintro e w21 ⟨rfl, h21⟩; rw [E2.out] at h21 ⊢; have H21 := Aside0.mk h21; clear h21 H20) | (go_at_call 16; (refine (ended.H H21.out W0.out 1 (by omega)).mono ?_); rintro e w22 ⟨rfl, h22⟩; rw [E3.out]; have H22 := Aside0.mk h22; clear h22 H21))
            all_goals (go_ret; exact ⟨rfl, H22.out.below⟩)
          · go_wp2_with (first | (go_at_call 15; (refine (end.H HW.out W0.out 1 q (by omega) (by omega)).mono ?_); rintro e w20 ⟨rfl, h20⟩; rw [E1.out] at h20 ⊢; have H20 := Aside0.mk h20; clear h20 HW) | (go_at_call 15; (refine (end.H H20.out W0.out 1 a2 (by omega) (by omega)).mono ?_); rintro e w21 ⟨rfl, h21⟩; rw [E2.out] at h21 ⊢; have H21 := Aside0.mk h21; clear h21 H20) | (go_at_call 16; (refine (ended.H H21.out W0.out 1 (by omega)).mono ?_); rintro e w22 ⟨rfl, h22⟩; rw [E3.out]; have H22 := Aside0.mk h22; clear h22 H21))
            all_goals (go_ret; exact ⟨rfl, H22.out.below⟩)
end Go.Proofs.Ytkgjokidfbpnbaa.PInputsEnd
