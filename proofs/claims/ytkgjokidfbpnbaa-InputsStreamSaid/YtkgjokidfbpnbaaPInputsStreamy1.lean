/- What the law InputsStream comes to: true of all inputs. No condition. -/
import Derived.Test.YtkgjokidfbpnbaaPInputsStreamz0
import Derived.Test.YtkgjokidfbpnbaaInL
namespace Go.Proofs.Ytkgjokidfbpnbaa.PInputsStream
open Go.RowKit Go.Proofs.YtkgjokidfbpnbaaW.PrintWords Go.Proofs.YtkgjokidfbpnbaaW.PrintLast Go.Proofs.YtkgjokidfbpnbaaW.PrintMore Go.Proofs.Ytkgjokidfbpnbaa.InW Go.Proofs.Ytkgjokidfbpnbaa.Sep
attribute [local go_sem] max2_int min2_int max_two min_two max_three min_three max_four min_four   -- for this text's walks alone
set_option linter.unusedVariables false
set_option linter.unusedSimpArgs false
theorem take_map {l : List In} {i : Nat} (hi : i < l.length) : (l.take (i + 1)).map playI = (l.take i).map playI ++ [playI l[i]] := by
  rw [List.take_succ_eq_append_getElem hi, List.map_append]
  rfl
theorem te_1 {l : List In} {i : Nat} (hi : i < l.length) (hi2 : i < 40) : add_ [⟨(l.take i).map playI, 0, false⟩] 1 i [playI l[i]] = (1, [⟨(l.take (i + 1)).map playI, 0, false⟩]) := by
  have hln : ((l.take i).map playI).length = i := by simp; omega
  have := add_one (cs := [⟨(l.take i).map playI, 0, false⟩]) (p := 1) (l := (l.take i).map playI) (e := 0) (x := playI l[i]) (by unfold isP; simp) rfl (playI_right _) (by omega)
  rw [hln] at this
  rw [this, take_map hi]
  rfl
theorem wf_one (l : List In) (e : Int) (d : Bool) (hl : l.length ≤ 10000) (he : I64 e) : wfT [⟨l, e, d⟩] := by
  refine ⟨by simp, fun c hc => ?_⟩
  simp only [List.mem_cons, List.not_mem_nil, or_false] at hc
  subst hc
  exact ⟨hl, he⟩
theorem isP1 (C : List In) (e : Int) (d : Bool) : isP [⟨C, e, d⟩] 1 := by unfold isP; simp
theorem st_1 (C : List In) (q : Nat) (hq : q ≤ C.length) : stream_ [⟨C, 0, false⟩] 1 0 q = C.take q := by
  unfold stream_
  by_cases h : q = 0
  · subst h
    rw [if_neg (fun x => by omega)]
    rfl
  · rw [if_pos ⟨isP1 _ _ _, by omega, by show (0 : Int) < (C.length : Nat); omega, by omega⟩]
    show (C.drop (0 : Int).toNat).take (min (q : Int) ((C.length : Nat) - 0)).toNat = _
    have e : (min (q : Int) ((C.length : Nat) - 0)).toNat = q := by omega
    rw [e]
    rfl
theorem st_2 (C : List In) (q : Nat) (m : Int) (hq : q ≤ C.length) (hm : 1 ≤ m ∧ m ≤ 20) : ∃ S, stream_ [⟨C, 0, false⟩] 1 q m = S ∧ (S.length : Int) = (if (C.length : Int) - q < m then (C.length : Int) - q else m) ∧ S = (C.drop q).take S.length := by
  unfold stream_
  by_cases h : q = C.length
  · subst h
    rw [if_neg (fun x => by have h3 : ((C.length : Nat) : Int) < (C.length : Nat) := x.2.2.1; omega)]
    refine ⟨[], rfl, ?_, rfl⟩
    split
    · simp
    · rename_i h9
      simp at h9
      omega
  · rw [if_pos ⟨isP1 _ _ _, by omega, by show (q : Int) < (C.length : Nat); omega, by omega⟩]
    refine ⟨_, rfl, ?_, ?_⟩
    · show ((((C.drop (q : Int).toNat).take (min m ((C.length : Nat) - q)).toNat).length : Nat) : Int) = _
      rw [List.length_take, List.length_drop]
      split <;> omega
    · show (C.drop (q : Int).toNat).take (min m ((C.length : Nat) - q)).toNat = _
      rw [List.length_take, List.length_drop]
      have e : (q : Int).toNat = q := by omega
      rw [e]
      show _ = (C.drop q).take (min (min m ((C.length : Nat) - q)).toNat ((cAt [⟨C, 0, false⟩] 1).l.length - (q : Int).toNat))
      have e2 : (min (min m ((C.length : Nat) - q)).toNat ((cAt [⟨C, 0, false⟩] 1).l.length - (q : Int).toNat)) = (min m ((C.length : Nat) - q)).toNat := by
        show (min (min m ((C.length : Nat) - q)).toNat (C.length - (q : Int).toNat)) = _
        omega
      rw [e2]
theorem ad_1 (C xs : List In) (hx : ∀ x ∈ xs, rightI x = true) (hl : C.length + xs.length ≤ 10000) : add_ [⟨C, 0, false⟩] 1 C.length xs = ((xs.length : Int), [⟨C ++ xs, 0, false⟩]) := add_all (isP1 _ _ _) rfl hx hl
theorem at_1 (C : List In) (f : Nat) (x : In) (h : C[f]? = some x) : at_ [⟨C, 0, false⟩] 1 f = (x, true) := by
  have hf := (List.getElem?_eq_some_iff.1 h).1
  rw [at_have (isP1 _ _ _) (by omega) (by show (f : Int) < (C.length : Nat); omega)]
  show (rdI C f, true) = _
  unfold rdI
  rw [List.getD_eq_getElem?_getD]
  have e : (f : Int).toNat = f := by omega
  rw [e, h]
  rfl
theorem Has.ne {w0 w : World} {base a b : Nat} {o o2 : Obj} {F : List Asr} (h : Has w0 base w (blk a o :: blk b o2 :: F)) : a ≠ b := by
  obtain ⟨S1, S2, h1, h2, _, hd, _⟩ := h.out2
  intro e
  subst e
  exact hd _ h1.2.1 h2.2.1
theorem take_two (C : List In) (q s : Nat) : C.take q ++ (C.drop q).take s = C.take (q + s) := by rw [List.take_add]
def joustlaw15_InputsStream.f (l0 : List In) (a1 : Int) (a2 : Int) : Option Bool := some true
set_option maxHeartbeats 1600000 in
set_option maxRecDepth 100000 in
theorem joustlaw15_InputsStream.calls (A0 : Option Addr) (c0 : Nat) (l0 : List In) (a1 : Int) (a2 : Int) (r : Bool) (w : World) (hr_ : Aside0 (r = true)) (hr0 : Kd.C kin w A0 l0.length l0) (hc0 : l0.length ≤ c0) (h : joustlaw15_InputsStream.f l0 a1 a2 = some r) :
    Calls Try.prog 6 #[.slice A0 l0.length c0, .int .i64 a1, .int .i64 a2] w fun e w' => e = .returned (.bool r) ∧ Below w.heap.size w w' := by
  obtain rfl := hr_.out
  clear h hr_
  have hu24 := Try.underlying24
  have HR0 := Aside0.mk hr0
  clear hr0
  have hu0 : 0 ≤ IntKind.u64.wrap a1 := by rw [IntKind.wrap_u64]; omega
  have hv0 : 0 ≤ IntKind.u64.wrap a2 := by rw [IntKind.wrap_u64]; omega
  obtain ⟨m, hm⟩ : ∃ m : Int, m = IntKind.u64.wrap a2 % 20 := ⟨_, rfl⟩
  have hm1 : 0 ≤ m ∧ m < 20 := by omega
  have hm2 : Int.tmod (IntKind.u64.wrap a2) 20 = m := by rw [Int.tmod_eq_emod_of_nonneg hv0]; exact hm.symm
  clear hm hv0
  have W0 := Aside0.mk (wf_one [] 0 false (by simp) (by omega))
  go_enter Try.func6, Try.ntmps6
  go_wp2_with (first | (go_at_call 9; (with_reducible refine (new.H 1 (by omega) (Has.nil (w := w) (base := w.heap.size) (Nat.le_refl _))).mono ?_); rintro e_ w1 ⟨ga, rfl, h_new⟩; have H1 := Aside0.mk h_new; clear h_new) | (go_at_call 9; (with_reducible refine (new.H 1 (by omega) H1.out).mono ?_); rintro e_ w2 ⟨gb, rfl, h_new⟩; have H2 := Aside0.mk h_new; clear h_new H1) | (go_at_call 10; (with_reducible refine (awake.H H2.out).mono ?_); rintro e_ w3 ⟨rfl, h_new⟩; have H3 := Aside0.mk h_new; clear h_new H2))
  go_loopg [9] (l0.length + 1) (fun kq v9 w' => ∃ i : Nat, v9 = .int .i64 (i : Int) ∧ Aside0 (i + kq = l0.length + 1) ∧ Aside0 (i ≤ l0.length ∧ i ≤ 40) ∧ Aside0 (Has w w.heap.size w' [tab ga [⟨(l0.take i).map playI, 0, false⟩], tab gb [⟨[], 0, false⟩]]))
  case atStart => exact ⟨0, rfl, ⟨by omega⟩, ⟨by omega⟩, ⟨H3.out.sw⟩⟩
  case round =>
    obtain ⟨i, rfl, HK, HI, HW⟩ := hrel
    by_cases hil : i < l0.length ∧ i < 40
    · obtain ⟨hi1, hi2⟩ := hil
      have e1 : decide ((i : Int) < (l0.length : Int)) = true := decide_eq_true (by omega)
      have e2 : decide ((i : Int) < 40) = true := decide_eq_true (by omega)
      obtain ⟨ad, rfl, x0, x1, x2⟩ := at_inI (HW.out.came (Nat.le_refl _) HR0.out) (i : Int) (by omega) (by omega)
      obtain ⟨x, hx9⟩ : ∃ x, rdI l0 (i : Int) = x := ⟨_, rfl⟩
      rw [hx9, Int.toNat_natCast] at x0 x1 x2
      have hxx : l0[i] = x := by rw [← hx9]; simp [rdI, List.getD_eq_getElem?_getD, hi1]
      have HT1 := Aside0.mk (te_1 hi1 hi2)
      rw [hxx] at HT1
      clear hxx hx9
      have HWF := Aside0.mk (wf_one ((l0.take i).map playI) 0 false (by simp; omega) (by omega))
      cases gk with
      | zero => exact absurd HK.out (by omega)
      | succ k1 =>
        go_wp2_with (first | (go_at_call 11; (with_reducible refine (PInputsEnd.joustplay_Input.calls x.1 x.2.1 x.2.2 _ _ _ _ (play_eq x)).mono ?_); rintro e w11 ⟨rfl, hb11⟩; have HW11 := Aside0.mk (HW.out.step hb11); clear hb11) | (go_at_call 12; (refine (add.H (HW11.out.own #[.int .i64 (playI x).1, .int .i64 (playI x).2.1, .bool (playI x).2.2] 24).sw HWF.out 1 i (by omega) (by omega) (some ⟨w11.heap.size, 0, none⟩) 1 [playI x] (by simp) (fun W cs' hW => C_one hW.sw.blk)).mono ?_); rintro e_ w13 ⟨rfl, h_new⟩; rw [HT1.out] at h_new ⊢; have H13 := Aside0.mk h_new; clear h_new HW11))
        go_roundg k1
        case measure => have := HK.out; omega
        case rel => exact ⟨i + 1, rfl, ⟨by have := HK.out; omega⟩, ⟨by omega⟩, ⟨H13.out.drop2⟩⟩
    · have e0 : (decide ((i : Int) < (l0.length : Int)) = false) ∨ (decide ((i : Int) < (l0.length : Int)) = true ∧ decide ((i : Int) < 40) = false) := by
        by_cases h9 : i < l0.length
        · exact .inr ⟨decide_eq_true (by omega), decide_eq_false (by omega)⟩
        · exact .inl (decide_eq_false (by omega))
      have hi40 := HI.out.2
      have hi0 := HI.out.1
      obtain ⟨C, hC⟩ : ∃ C, C = (l0.take i).map playI := ⟨_, rfl⟩
      have hlen : C.length = i := by rw [hC]; simp; omega
      have hrt : ∀ x ∈ C, rightI x = true := by rw [hC]; intro x hx; obtain ⟨y, _, rfl⟩ := List.mem_map.1 hx; exact playI_right y
      rw [← hC] at HW
      clear hC
      obtain ⟨q, hq⟩ : ∃ q : Nat, (q : Int) = Int.tmod (IntKind.u64.wrap a1) ((i : Int) + 1) := by
        rw [Int.tmod_eq_emod_of_nonneg hu0]
        have := Int.emod_nonneg (IntKind.u64.wrap a1) (show (i : Int) + 1 ≠ 0 by omega)
        exact ⟨((IntKind.u64.wrap a1) % ((i : Int) + 1)).toNat, by omega⟩
      have hqi : q ≤ i := by
        rw [Int.tmod_eq_emod_of_nonneg hu0] at hq
        have := Int.emod_lt_of_pos (IntKind.u64.wrap a1) (show (0 : Int) < (i : Int) + 1 by omega)
        omega
      have hq2 := hq.symm
      clear hq
      obtain ⟨S, hS, hS1, hS2⟩ := st_2 C q (1 + m) (by omega) (by omega)
      rw [hlen] at hS1
      have hS3 := hS1.symm
      have hsl : S.length ≤ 20 ∧ q + S.length ≤ i := by split at hS1 <;> omega
      have hCq : (C.take q).length = q := by rw [List.length_take]; omega
      have EH := Aside0.mk (show have_ [⟨C, 0, false⟩] 1 = i from by rw [have_yes (isP1 _ _ _)]; show ((C.length : Nat) : Int) = i; rw [hlen])
      have E1 := Aside0.mk (st_1 C q (by omega))
      have E2 := Aside0.mk (show add_ [⟨[], 0, false⟩] 1 0 (C.take q) = ((q : Int), [⟨C.take q, 0, false⟩]) from by have := ad_1 [] (C.take q) (fun x hx => hrt x (List.mem_of_mem_take hx)) (by simp; omega); rw [hCq] at this; exact this)
      have E3 := Aside0.mk hS
      have hD : C.take q ++ S = C.take (q + S.length) := by rw [← take_two, ← hS2]
      have E4 := Aside0.mk (show add_ [⟨C.take q, 0, false⟩] 1 q S = ((S.length : Int), [⟨C.take (q + S.length), 0, false⟩]) from by have := ad_1 (C.take q) S (fun x hx => by rw [hS2] at hx; exact hrt x (List.mem_of_mem_drop (List.mem_of_mem_take hx))) (by omega); rw [hCq, hD] at this; exact this)
      have hDl : (C.take (q + S.length)).length = q + S.length := by rw [List.length_take]; omega
      have E5 := Aside0.mk (show have_ [⟨C.take (q + S.length), 0, false⟩] 1 = (q : Int) + S.length from by rw [have_yes (isP1 _ _ _)]; show (((C.take (q + S.length)).length : Nat) : Int) = _; rw [hDl]; push_cast; rfl)
      have WC := Aside0.mk (wf_one C 0 false (by omega) (by omega))
      have WQ := Aside0.mk (wf_one (C.take q) 0 false (by omega) (by omega))
      have WD := Aside0.mk (wf_one (C.take (q + S.length)) 0 false (by omega) (by omega))
      have HS2 := Aside0.mk hS2
      have n1 : IntKind.i64.wrap ((i : Int) - q) = (i : Int) - q := by rw [IntKind.wrap_i64]; omega
      have n2 : IntKind.i64.wrap ((q : Int) + S.length) = (q : Int) + S.length := by rw [IntKind.wrap_i64]; omega
      have n3 : IntKind.i64.wrap (1 + m) = 1 + m := by rw [IntKind.wrap_i64]; omega
      have n4 : IntKind.u64.wrap ((i : Int) + 1) = (i : Int) + 1 := by rw [IntKind.wrap_u64]; omega
      have n5 : IntKind.i64.wrap (q : Int) = (q : Int) := by rw [IntKind.wrap_i64]; omega
      have n6 : IntKind.i64.wrap ((i : Int) + 1) = (i : Int) + 1 := by rw [IntKind.wrap_i64]; omega
      have HCQ := Aside0.mk hCq
      clear hS hS1 hS2 hD hrt hu0 hCq hDl
      have hzq : q = 0 → C.take q = [] := fun e => by rw [e]; rfl
      have HD := Aside0.mk (show ∀ f, f < q + S.length → (C.take (q + S.length))[f]? = C[f]? from fun f hf => List.getElem?_take_of_lt hf)
      generalize hDD : C.take (q + S.length) = D at *
      generalize hQQ : C.take q = Q at *
      clear hDD hQQ
      generalize hqz : (q : Int) = qi at *
      have hqz0 : 0 ≤ qi ∧ qi ≤ i := by omega
      have ez : qi = 0 ∨ ¬ qi = 0 := by omega
      rcases ez with ez | ez
      · subst ez
        rcases e0 with e1 | ⟨e1, e2⟩
        all_goals
          go_wp2_with (first | (go_at_call 14; (with_reducible refine (have.H HW.out WC.out 1 (by omega)).mono ?_); rintro e_ w20 ⟨rfl, h_new⟩; rw [EH.out]; have H20 := Aside0.mk h_new; clear h_new HW) | (go_at_call 18; (with_reducible refine (stream.H H20.out WC.out 1 0 0 (by omega) (by omega) (by omega)).mono ?_); rintro e_ w21 ⟨A21, c21, rfl, hle21, h_new⟩; rw [E1.out] at h_new ⊢; have H21 := Aside0.mk h_new; clear h_new H20) | (go_at_call 12; (with_reducible refine (add.H H21.out.up2 W0.out 1 0 (by omega) (by omega) A21 c21 Q (by rw [HCQ.out]; omega) (fun W cs' hW => row_C hW.sw)).mono ?_); rintro e_ w22 ⟨rfl, h_new⟩; rw [E2.out] at h_new ⊢; have H22 := Aside0.mk h_new; clear h_new H21) | (go_at_call 9; (with_reducible refine (new.H 1 (by omega) H22.out.drop.drop).mono ?_); rintro e_ w22 ⟨gc, rfl, h_new⟩; rw [(show List.replicate (clampP 1) col0 = [⟨Q, 0, false⟩] from by rw [hzq (by omega)]; rfl)] at h_new; have H23 := Aside0.mk h_new; clear h_new H22) | (go_at_call 18; (with_reducible refine (stream.H H23.out.sw WC.out 1 0 (1 + m) (by omega) (by omega) (by omega)).mono ?_); rintro e_ w24 ⟨A24, c24, rfl, hle24, h_new⟩; rw [E3.out] at h_new ⊢; have H24 := Aside0.mk h_new; clear h_new H23) | (go_at_call 12; (with_reducible refine (add.H H24.out.up2 WQ.out 1 0 (by omega) (by omega) A24 c24 S (by omega) (fun W cs' hW => row_C hW.sw)).mono ?_); rintro e_ w25 ⟨rfl, h_new⟩; rw [E4.out] at h_new ⊢; have H25 := Aside0.mk h_new; clear h_new H24) | (go_at_call 14; (with_reducible refine (have.H H25.out WD.out 1 (by omega)).mono ?_); rintro e_ w26 ⟨rfl, h_new⟩; rw [E5.out]; have H26 := Aside0.mk h_new; clear h_new H25))
          all_goals
            go_loopg [12] (i + 2) (fun kq v12 w' => ∃ f : Nat, v12 = .int .i64 (f : Int) ∧ Aside0 (i + 2 ≤ f + kq) ∧ Aside0 (f ≤ q + S.length) ∧ Aside0 (Has w w.heap.size w' [tab gc [⟨D, 0, false⟩], tab ga [⟨C, 0, false⟩]]))
            case atStart => exact ⟨0, rfl, ⟨by omega⟩, ⟨by omega⟩, ⟨H26.out.drop2⟩⟩
            case round =>
              obtain ⟨f, rfl, HK2, HF, HV⟩ := hrel
              have hff := HF.out
              by_cases hf5 : f < q + S.length
              · have g1 : decide ((f : Int) < 0 + S.length) = true := decide_eq_true (by omega)
                obtain ⟨x, hx⟩ : ∃ x, C[f]? = some x := ⟨_, List.getElem?_eq_getElem (by omega)⟩
                have EA := Aside0.mk (at_1 C f x hx)
                have EB := Aside0.mk (at_1 D f x ((HD.out f hf5).trans hx))
                clear hx
                cases gk with
                | zero => exact absurd HK2.out (by omega)
                | succ k2 =>
                  go_wp2_with (first | (go_at_call 14; (with_reducible refine (have.H HV.out WD.out 1 (by omega)).mono ?_); rintro e_ w30 ⟨rfl, h_new⟩; rw [E5.out]; have H30 := Aside0.mk h_new; clear h_new) | (go_at_call 13; (with_reducible refine (at.H H30.out.sw WC.out 1 (f : Int) (by omega) (by omega)).mono ?_); rintro e_ w31 ⟨rfl, h_new⟩; rw [EA.out]; have H31 := Aside0.mk h_new; clear h_new H30) | ((with_reducible refine gate_dst (N := 13) rfl ?_); refine box_event ?hg (N := 13) ?hd (cs := #[.int .i64 0, .int .i64 0, .bool false]) (t := 24) ?hr ?_; (case hd => rfl); (case hg => rfl); (case hr => first | (go_simp; done) | (go_simp; rfl)); intro g13 hgb w32 hbox hb5; have HX13 := Aside0.mk (Has.box H31.out hgb hb5 hbox); have HS13 := Aside0.mk (Has.set3 (x := x) HX13.out); have BK_g13 := Aside0.mk hbox; clear hgb hb5 hbox H31; have hcg130 : w32.cell? ⟨g13, 0, none⟩ = some (.int .i64 0) := (blk_cell BK_g13.out 0).trans rfl; have hcg131 : w32.cell? ⟨g13, 1, none⟩ = some (.int .i64 0) := (blk_cell BK_g13.out 1).trans rfl; have hcg132 : w32.cell? ⟨g13, 2, none⟩ = some (.bool false) := (blk_cell BK_g13.out 2).trans rfl; have hfg130 := blk_frozen BK_g13.out 0; have hfg131 := blk_frozen BK_g13.out 1; have hfg132 := blk_frozen BK_g13.out 2) | (go_at_call 13; (with_reducible refine (at.H HS13.out.up2 WD.out 1 (f : Int) (by omega) (by omega)).mono ?_); rintro e_ w33 ⟨rfl, h_new⟩; rw [EB.out]; have H33 := Aside0.mk h_new; clear h_new HS13 HX13 hcg130 hcg131 hcg132 hfg130 hfg131 hfg132) | ((with_reducible refine gate_dst (N := 15) rfl ?_); refine box_event ?hg (N := 15) ?hd (cs := #[.int .i64 0, .int .i64 0, .bool false]) (t := 24) ?hr ?_; (case hd => rfl); (case hg => rfl); (case hr => first | (go_simp; done) | (go_simp; rfl)); intro g15 hgb w34 hbox hb5; have HX15 := Aside0.mk (Has.box H33.out hgb hb5 hbox); have HS15 := Aside0.mk (Has.set3 (x := x) HX15.out); have BK15 := Aside0.mk hbox; clear hgb hb5 hbox H33; have hcz0 : w34.cell? ⟨g15, 0, none⟩ = some (.int .i64 0) := (blk_cell BK15.out 0).trans rfl; have hcz1 : w34.cell? ⟨g15, 1, none⟩ = some (.int .i64 0) := (blk_cell BK15.out 1).trans rfl; have hcz2 : w34.cell? ⟨g15, 2, none⟩ = some (.bool false) := (blk_cell BK15.out 2).trans rfl; have hfz0 := blk_frozen BK15.out 0; have hfz1 := blk_frozen BK15.out 1; have hfz2 := blk_frozen BK15.out 2; have hn1 := Has.ne HX15.out.up2.sw; have hn2 := hn1.symm; have bk13 := HX15.out.up2.blk; have hv0 : w34.cell? ⟨g13, 0, none⟩ = some (.int .i64 x.1) := (blk_cell bk13 0).trans rfl; have hv1 : w34.cell? ⟨g13, 1, none⟩ = some (.int .i64 x.2.1) := (blk_cell bk13 1).trans rfl; have hv2 : w34.cell? ⟨g13, 2, none⟩ = some (.bool x.2.2) := (blk_cell bk13 2).trans rfl))
                  all_goals (go_roundg k2; (case measure => have := HK2.out; omega); (case rel => exact ⟨f + 1, rfl, ⟨by have := HK2.out; omega⟩, ⟨by omega⟩, ⟨HS15.out.drop.drop2⟩⟩))
              · have g1 : decide ((f : Int) < 0 + S.length) = false := decide_eq_false (by omega)
                go_wp2_with (first | (go_at_call 14; (with_reducible refine (have.H HV.out WD.out 1 (by omega)).mono ?_); rintro e_ w30 ⟨rfl, h_new⟩; rw [E5.out]; have H30 := Aside0.mk h_new; clear h_new))
                all_goals (go_ret; exact ⟨rfl, H30.out.below⟩)
      · have ez1 : decide (qi = 0) = false := decide_eq_false ez
        rcases e0 with e1 | ⟨e1, e2⟩
        all_goals
          go_wp2_with (first | (go_at_call 14; (with_reducible refine (have.H HW.out WC.out 1 (by omega)).mono ?_); rintro e_ w20 ⟨rfl, h_new⟩; rw [EH.out]; have H20 := Aside0.mk h_new; clear h_new HW) | (go_at_call 18; (with_reducible refine (stream.H H20.out WC.out 1 0 qi (by omega) (by omega) (by omega)).mono ?_); rintro e_ w21 ⟨A21, c21, rfl, hle21, h_new⟩; rw [E1.out] at h_new ⊢; have H21 := Aside0.mk h_new; clear h_new H20) | (go_at_call 12; (with_reducible refine (add.H H21.out.up2 W0.out 1 0 (by omega) (by omega) A21 c21 Q (by rw [HCQ.out]; omega) (fun W cs' hW => row_C hW.sw)).mono ?_); rintro e_ w22 ⟨rfl, h_new⟩; rw [E2.out] at h_new ⊢; have H23 := Aside0.mk h_new; clear h_new H21) | (fail) | (go_at_call 18; (with_reducible refine (stream.H H23.out.drop2.sw WC.out 1 qi (1 + m) (by omega) (by omega) (by omega)).mono ?_); rintro e_ w24 ⟨A24, c24, rfl, hle24, h_new⟩; rw [E3.out] at h_new ⊢; have H24 := Aside0.mk h_new; clear h_new H23) | (go_at_call 12; (with_reducible refine (add.H H24.out.up2 WQ.out 1 qi (by omega) (by omega) A24 c24 S (by omega) (fun W cs' hW => row_C hW.sw)).mono ?_); rintro e_ w25 ⟨rfl, h_new⟩; rw [E4.out] at h_new ⊢; have H25 := Aside0.mk h_new; clear h_new H24) | (go_at_call 14; (with_reducible refine (have.H H25.out WD.out 1 (by omega)).mono ?_); rintro e_ w26 ⟨rfl, h_new⟩; rw [E5.out]; have H26 := Aside0.mk h_new; clear h_new H25))
          all_goals
            go_loopg [12] (i + 2) (fun kq v12 w' => ∃ f : Nat, v12 = .int .i64 (f : Int) ∧ Aside0 (i + 2 ≤ f + kq) ∧ Aside0 (f ≤ q + S.length) ∧ Aside0 (Has w w.heap.size w' [tab gb [⟨D, 0, false⟩], tab ga [⟨C, 0, false⟩]]))
            case atStart => exact ⟨0, rfl, ⟨by omega⟩, ⟨by omega⟩, ⟨H26.out.drop2⟩⟩
            case round =>
              obtain ⟨f, rfl, HK2, HF, HV⟩ := hrel
              have hff := HF.out
              by_cases hf5 : f < q + S.length
              · have g1 : decide ((f : Int) < qi + S.length) = true := decide_eq_true (by omega)
                obtain ⟨x, hx⟩ : ∃ x, C[f]? = some x := ⟨_, List.getElem?_eq_getElem (by omega)⟩
                have EA := Aside0.mk (at_1 C f x hx)
                have EB := Aside0.mk (at_1 D f x ((HD.out f hf5).trans hx))
                clear hx
                cases gk with
                | zero => exact absurd HK2.out (by omega)
                | succ k2 =>
                  go_wp2_with (first | (go_at_call 14; (with_reducible refine (have.H HV.out WD.out 1 (by omega)).mono ?_); rintro e_ w30 ⟨rfl, h_new⟩; rw [E5.out]; have H30 := Aside0.mk h_new; clear h_new) | (go_at_call 13; (with_reducible refine (at.H H30.out.sw WC.out 1 (f : Int) (by omega) (by omega)).mono ?_); rintro e_ w31 ⟨rfl, h_new⟩; rw [EA.out]; have H31 := Aside0.mk h_new; clear h_new H30) | ((with_reducible refine gate_dst (N := 13) rfl ?_); refine box_event ?hg (N := 13) ?hd (cs := #[.int .i64 0, .int .i64 0, .bool false]) (t := 24) ?hr ?_; (case hd => rfl); (case hg => rfl); (case hr => first | (go_simp; done) | (go_simp; rfl)); intro g13 hgb w32 hbox hb5; have HX13 := Aside0.mk (Has.box H31.out hgb hb5 hbox); have HS13 := Aside0.mk (Has.set3 (x := x) HX13.out); have BK_g13 := Aside0.mk hbox; clear hgb hb5 hbox H31; have hcg130 : w32.cell? ⟨g13, 0, none⟩ = some (.int .i64 0) := (blk_cell BK_g13.out 0).trans rfl; have hcg131 : w32.cell? ⟨g13, 1, none⟩ = some (.int .i64 0) := (blk_cell BK_g13.out 1).trans rfl; have hcg132 : w32.cell? ⟨g13, 2, none⟩ = some (.bool false) := (blk_cell BK_g13.out 2).trans rfl; have hfg130 := blk_frozen BK_g13.out 0; have hfg131 := blk_frozen BK_g13.out 1; have hfg132 := blk_frozen BK_g13.out 2) | (go_at_call 13; (with_reducible refine (at.H HS13.out.up2 WD.out 1 (f : Int) (by omega) (by omega)).mono ?_); rintro e_ w33 ⟨rfl, h_new⟩; rw [EB.out]; have H33 := Aside0.mk h_new; clear h_new HS13 HX13 hcg130 hcg131 hcg132 hfg130 hfg131 hfg132) | ((with_reducible refine gate_dst (N := 15) rfl ?_); refine box_event ?hg (N := 15) ?hd (cs := #[.int .i64 0, .int .i64 0, .bool false]) (t := 24) ?hr ?_; (case hd => rfl); (case hg => rfl); (case hr => first | (go_simp; done) | (go_simp; rfl)); intro g15 hgb w34 hbox hb5; have HX15 := Aside0.mk (Has.box H33.out hgb hb5 hbox); have HS15 := Aside0.mk (Has.set3 (x := x) HX15.out); have BK15 := Aside0.mk hbox; clear hgb hb5 hbox H33; have hcz0 : w34.cell? ⟨g15, 0, none⟩ = some (.int .i64 0) := (blk_cell BK15.out 0).trans rfl; have hcz1 : w34.cell? ⟨g15, 1, none⟩ = some (.int .i64 0) := (blk_cell BK15.out 1).trans rfl; have hcz2 : w34.cell? ⟨g15, 2, none⟩ = some (.bool false) := (blk_cell BK15.out 2).trans rfl; have hfz0 := blk_frozen BK15.out 0; have hfz1 := blk_frozen BK15.out 1; have hfz2 := blk_frozen BK15.out 2; have hn1 := Has.ne HX15.out.up2.sw; have hn2 := hn1.symm; have bk13 := HX15.out.up2.blk; have hv0 : w34.cell? ⟨g13, 0, none⟩ = some (.int .i64 x.1) := (blk_cell bk13 0).trans rfl; have hv1 : w34.cell? ⟨g13, 1, none⟩ = some (.int .i64 x.2.1) := (blk_cell bk13 1).trans rfl; have hv2 : w34.cell? ⟨g13, 2, none⟩ = some (.bool x.2.2) := (blk_cell bk13 2).trans rfl))
                  all_goals (go_roundg k2; (case measure => have := HK2.out; omega); (case rel => exact ⟨f + 1, rfl, ⟨by have := HK2.out; omega⟩, ⟨by omega⟩, ⟨HS15.out.drop.drop2⟩⟩))
              · have g1 : decide ((f : Int) < qi + S.length) = false := decide_eq_false (by omega)
                go_wp2_with (first | (go_at_call 14; (with_reducible refine (have.H HV.out WD.out 1 (by omega)).mono ?_); rintro e_ w30 ⟨rfl, h_new⟩; rw [E5.out]; have H30 := Aside0.mk h_new; clear h_new))
                all_goals (go_ret; exact ⟨rfl, H30.out.below⟩)
end Go.Proofs.Ytkgjokidfbpnbaa.PInputsStream
