/- What the law InputsOrder comes to: true of all inputs. Condition: numbers are within int. -/
import Derived.Test.YtkgjokidfbpnbaaPInputsOrderz0
import Derived.Test.YtkgjokidfbpnbaaInN
import Derived.Test.YtkgjokidfbpnbaaReg
namespace Go.Proofs.Ytkgjokidfbpnbaa.PInputsOrder
open Go.RowKit Go.Proofs.YtkgjokidfbpnbaaW.PrintWords Go.Proofs.YtkgjokidfbpnbaaW.PrintLast Go.Proofs.YtkgjokidfbpnbaaW.PrintMore Go.Proofs.Ytkgjokidfbpnbaa.InW Go.Proofs.Ytkgjokidfbpnbaa.Sep
attribute [local go_sem high] eqA24
attribute [local go_sem] max2_int min2_int max_two min_two max_three min_three max_four min_four   -- for this text's walks alone
set_option linter.unusedVariables false
set_option linter.unusedSimpArgs false
theorem take_map {l : List In} {i : Nat} (hi : i < l.length) : (l.take i).map playI ++ [playI l[i]] = (l.take (i + 1)).map playI := by
  rw [List.take_succ_eq_append_getElem hi, List.map_append]
  rfl
theorem Has.ne {w0 w : World} {base a b : Nat} {o o2 : Obj} {F : List Asr} (h : Has w0 base w (blk a o :: blk b o2 :: F)) : a ≠ b := by
  obtain ⟨S1, S2, h1, h2, _, hd, _⟩ := h.out2
  intro e
  subst e
  exact hd _ h1.2.1 h2.2.1
theorem Has.neR {w0 w : World} {base a n c e : Nat} {ad : Addr} {o : Obj} {xs : List In} {F : List Asr} (h : Has w0 base w (blk a o :: row kin e (.slice (some ad) n c) xs :: F)) (hn : 0 < n) : ∀ k, (ad.add k).block ≠ a := by
  obtain ⟨S1, S2, h1, h2, _, hd, _⟩ := h.out2
  have hl := h.sw.rowN.1
  obtain ⟨g, cap, e1, _, _, _⟩ := Kd.R_form h2.1 (by omega)
  have e2 := (Value.slice.inj e1).1
  obtain rfl := Option.some.inj e2
  intro k e3
  have e4 : ((⟨g, 0, none⟩ : Addr).add k).block = g := add_block_ _ _
  rw [e4] at e3
  subst e3
  exact hd _ h1.2.1 (h2.1.1 g rfl)
theorem add_end {all : List In} {p : Int} {h : Nat} (hp : 1 ≤ p ∧ p ≤ 3) (hl : all.length ≤ 40) (hh : h ≤ all.length) (hr : ∀ x ∈ all, rightI x = true) : (add_ (tbl p (all.take h)) p 0 all).2 = tbl p all := by
  rw [add_yes (tbl_isP hp) (by omega), tbl_at hp]
  have := addGo_win all 0 all.length (Nat.le_refl _) hl hr all.length h 0 0 (by omega) (by omega) hh
  rw [Nat.zero_add, List.drop_zero, List.take_length] at this
  dsimp only
  rw [show (((0 : Nat) : Int)) = 0 from rfl] at this
  rw [this]
  dsimp only
  rw [tbl_set, show max h all.length = all.length by omega, List.take_length]
def joustlaw15_InputsOrder.f (l0 : List In) (l1 : List Int) (a2 : Int) : Option Bool := if ∀ x ∈ l1, I64 x then some true else none
set_option maxHeartbeats 1600000 in
set_option maxRecDepth 100000 in
theorem joustlaw15_InputsOrder.calls (A0 : Option Addr) (c0 : Nat) (l0 : List In) (A1 : Option Addr) (c1 : Nat) (l1 : List Int) (a2 : Int) (r : Bool) (w : World) (hr_ : Aside0 (r = true)) (hr0 : Kd.C kin w A0 l0.length l0) (hc0 : l0.length ≤ c0) (hr1 : Kd.C (Kd.int .i64) w A1 l1.length l1) (hc1 : l1.length ≤ c1) (h : joustlaw15_InputsOrder.f l0 l1 a2 = some r) :
    Calls Try.prog 5 #[.slice A0 l0.length c0, .slice A1 l1.length c1, .int .i64 a2] w fun e w' => e = .returned (.bool r) ∧ Below w.heap.size w w' := by
  obtain rfl := hr_.out
  have hI : ∀ x ∈ l1, I64 x := by
    unfold joustlaw15_InputsOrder.f at h
    by_cases hc : ∀ x ∈ l1, I64 x
    · exact hc
    · rw [if_neg hc] at h; cases h
  have HII := Aside0.mk hI
  clear h hr_ hI
  have hu24 := Try.underlying24
  have hu22 := Try.underlying22
  have HR0 := Aside0.mk hr0
  have HR1 := Aside0.mk hr1
  clear hr0 hr1
  have hu0 : 0 ≤ IntKind.u64.wrap a2 := by rw [IntKind.wrap_u64]; omega
  obtain ⟨q, hq⟩ : ∃ q : Int, q = IntKind.u64.wrap a2 % 3 := ⟨_, rfl⟩
  have hq1 : 0 ≤ q ∧ q < 3 := by omega
  have hq2 : Int.tmod (IntKind.u64.wrap a2) 3 = q := by rw [Int.tmod_eq_emod_of_nonneg hu0]; exact hq.symm
  clear hq hu0
  obtain ⟨p, hp0⟩ : ∃ p, 1 + q = p := ⟨_, rfl⟩
  have hp : 1 ≤ p ∧ p ≤ 3 := by omega
  have ET := Aside0.mk (tbl_start q hq1)
  rw [hp0] at ET
  go_enter Try.func5, Try.ntmps5
  go_wp2
  go_loopg [7, 8] (l0.length + 1) (fun kq v7 v8 w' => ∃ (i : Nat) (A : Option Addr) (c : Nat), v7 = .slice A i c ∧ v8 = .int .i64 (i : Int) ∧ Aside0 (i + kq = l0.length + 1) ∧ Aside0 (i ≤ l0.length ∧ i ≤ 40) ∧ Aside0 (Has w w.heap.size w' [row kin 24 (.slice A i c) ((l0.take i).map playI)]))
  case atStart => exact ⟨0, none, 0, rfl, rfl, ⟨by omega⟩, ⟨by omega⟩, ⟨(Has.nil (Nat.le_refl _)).rowNil kin 24⟩⟩
  case round =>
    obtain ⟨i, A, c, rfl, rfl, HK, HI, HW⟩ := hrel
    by_cases hil : i < l0.length ∧ i < 40
    · obtain ⟨hi1, hi2⟩ := hil
      have e1 : decide ((i : Int) < (l0.length : Int)) = true := decide_eq_true (by omega)
      have e2 : decide ((i : Int) < 40) = true := decide_eq_true (by omega)
      obtain ⟨ad, rfl, x0, x1, x2⟩ := at_inI (HW.out.came (Nat.le_refl _) HR0.out) (i : Int) (by omega) (by omega)
      obtain ⟨x, hx9⟩ : ∃ x, rdI l0 (i : Int) = x := ⟨_, rfl⟩
      rw [hx9, Int.toNat_natCast] at x0 x1 x2
      have hxx : l0[i] = x := by rw [← hx9]; simp [rdI, List.getD_eq_getElem?_getD, hi1]
      have HT := Aside0.mk (take_map hi1)
      rw [hxx] at HT
      clear hxx hx9
      obtain ⟨M, hM⟩ : ∃ M, (l0.take i).map playI = M := ⟨_, rfl⟩
      have hMl : M.length = i := by rw [← hM]; simp; omega
      rw [hM] at HW HT
      clear hM
      cases gk with
      | zero => exact absurd HK.out (by omega)
      | succ k1 =>
        go_wp2_with (first | (go_at_call 11; (with_reducible refine (PInputsEnd.joustplay_Input.calls x.1 x.2.1 x.2.2 _ _ _ _ (play_eq x)).mono ?_); rintro e w11 ⟨rfl, hb11⟩; have HW11 := Aside0.mk (HW.out.step hb11); clear hb11) | ((with_reducible refine gate_builtin (b := .append) (xs := #[.tmp 36, .tmp 42]) rfl ?_); at_builtin; refine wp_append1 kin (n := i) rfl (.tmp 36) (.tmp 42) 22 24 (.agg #[.int .i64 0, .int .i64 0, .bool false]) 24 rfl Try.underlying22 info24_ rfl (by decide) (by decide) (.slice A i c) M (playI x) (encI ((playI x))) rfl rfl ?aM HW11.out ?aN ?aL ?_; (case aM => exact kin_mkM _ _ _ _); (case aN => exact hMl); (case aL => omega); intro A_w12 c_w12 w12 h_new hc_w12; rw [HT.out] at h_new; have H12 := Aside0.mk h_new; clear h_new))
        go_roundg k1
        case measure => have := HK.out; omega
        case rel => exact ⟨i + 1, A_w12, c_w12, rfl, rfl, ⟨by have := HK.out; omega⟩, ⟨by omega⟩, H12⟩
    · have e0 : (decide (i < l0.length) = false) ∨ (decide (i < l0.length) = true ∧ decide ((i : Int) < 40) = false) := by
        by_cases h9 : i < l0.length
        · exact .inr ⟨decide_eq_true (by omega), decide_eq_false (by omega)⟩
        · exact .inl (decide_eq_false (by omega))
      have hi40 := HI.out.2
      have hi0 := HI.out.1
      obtain ⟨all, hC⟩ : ∃ all, all = (l0.take i).map playI := ⟨_, rfl⟩
      have hlen : all.length = i := by rw [hC]; simp; omega
      have HRT := Aside0.mk (show ∀ x ∈ all, rightI x = true from by rw [hC]; intro x hx; obtain ⟨y, _, rfl⟩ := List.mem_map.1 hx; exact playI_right y)
      rw [← hC] at HW
      clear hC
      have HLEN := Aside0.mk hlen
      clear hlen
      rcases e0 with e1 | ⟨e1, e2⟩
      all_goals
        go_wp2_with (first | (go_at_call 9; (with_reducible refine (new.H 3 (by omega) HW.out).mono ?_); rintro e_ w20 ⟨g, rfl, h_new⟩; rw [ET.out] at h_new; have H20 := Aside0.mk h_new; clear h_new HW) | (go_at_call 10; (with_reducible refine (awake.H H20.out).mono ?_); rintro e_ w21 ⟨rfl, h_new⟩; have H21 := Aside0.mk h_new; clear h_new H20))
      all_goals
        go_loopg [10] (l1.length + 1) (fun kq v10 w' => ∃ j h : Nat, v10 = .int .i64 (j : Int) ∧ Aside0 (j + kq = l1.length + 1) ∧ Aside0 (j ≤ l1.length ∧ j ≤ 60) ∧ Aside0 (h ≤ i) ∧ Aside0 (Has w w.heap.size w' [tab g (tbl p (all.take h)), row kin 24 (.slice A i c) all]))
        case atStart => exact ⟨0, 0, rfl, ⟨by omega⟩, ⟨by omega⟩, ⟨by omega⟩, H21⟩
        case round =>
          obtain ⟨j, h, rfl, HK2, HJ, HH, HV⟩ := hrel
          have hjj := HJ.out
          have hhh := HH.out
          have WH := Aside0.mk (wf_tbl p (all.take h) (by rw [List.length_take, HLEN.out]; omega))
          by_cases hjl : j < l1.length ∧ j < 60 ∧ 0 < i
          · obtain ⟨hj1, hj2, hj3⟩ := hjl
            have g1 : decide ((j : Int) < (l1.length : Int)) = true := decide_eq_true (by omega)
            have g2 : decide ((j : Int) < 60) = true := decide_eq_true (by omega)
            have g3 : decide ((0 : Int) < (i : Int)) = true := decide_eq_true (by omega)
            obtain ⟨ad1, rfl, x0⟩ := at_int (HV.out.came (Nat.le_refl _) HR1.out) j hj1
            obtain ⟨x, hx⟩ : ∃ x, l1[j] = x := ⟨_, rfl⟩
            have hxI : I64 x := by rw [← hx]; exact HII.out _ (List.getElem_mem hj1)
            rw [hx] at x0
            clear hx
            cases gk with
            | zero => exact absurd HK2.out (by omega)
            | succ k2 =>
              obtain ⟨fr, hfr⟩ : ∃ fr : Nat, (fr : Int) = Int.tmod (IntKind.u64.wrap x) (i : Int) := by
                have hux : 0 ≤ IntKind.u64.wrap x := by rw [IntKind.wrap_u64]; omega
                rw [Int.tmod_eq_emod_of_nonneg hux]
                have := Int.emod_nonneg (IntKind.u64.wrap x) (show (i : Int) ≠ 0 by omega)
                exact ⟨((IntKind.u64.wrap x) % (i : Int)).toNat, by omega⟩
              have hfi : fr < i := by
                have hux : 0 ≤ IntKind.u64.wrap x := by rw [IntKind.wrap_u64]; omega
                rw [Int.tmod_eq_emod_of_nonneg hux] at hfr
                have := Int.emod_lt_of_pos (IntKind.u64.wrap x) (show (0 : Int) < (i : Int) by omega)
                omega
              obtain ⟨z, hz⟩ : ∃ z : Nat, (z : Int) = Int.tmod (IntKind.u64.wrap (x.tdiv 7)) 9 := by
                have hux : 0 ≤ IntKind.u64.wrap (x.tdiv 7) := by rw [IntKind.wrap_u64]; omega
                rw [Int.tmod_eq_emod_of_nonneg hux]
                exact ⟨((IntKind.u64.wrap (x.tdiv 7)) % 9).toNat, by omega⟩
              have hz9 : z < 9 := by
                have hux : 0 ≤ IntKind.u64.wrap (x.tdiv 7) := by rw [IntKind.wrap_u64]; omega
                rw [Int.tmod_eq_emod_of_nonneg hux] at hz
                omega
              have hfr2 := hfr.symm
              have hz2 := hz.symm
              clear hfr hz
              obtain ⟨te, hte⟩ : ∃ te : Nat, (if (fr : Int) + 1 + z < (i : Int) then (fr : Int) + 1 + z else (i : Int)) = (te : Int) := ⟨(if (fr : Int) + 1 + z < (i : Int) then (fr : Int) + 1 + z else (i : Int)).toNat, by split <;> omega⟩
              have htb : fr < te ∧ te ≤ i := by split at hte <;> omega
              obtain ⟨hN, hNc, hC⟩ := HV.out.sw.rowN
              obtain ⟨ad, rfl, _⟩ := at_inI hC (0 : Int) (by omega) (by omega)
              have HNN := Aside0.mk hN
              have hcf : ¬ c = fr := by omega
              have HMID := Aside0.mk (show ∀ (W : World) (cs' : List Col), Has w w.heap.size W [tab g cs', row kin 24 (.slice (some ad) i c) all] → Kd.C kin W (some (ad.add (fr * 3))) ((all.take te).drop fr).length ((all.take te).drop fr) from by
                intro W cs' hW
                obtain ⟨e, _, hC9⟩ := hW.sw.rowN
                rw [e] at hC9
                have h9 := Kd.C_mid (c := c) hC9 (Nat.le_of_lt htb.1) (by omega) (by omega)
                rw [if_neg hcf] at h9
                exact h9)
              clear hN hC
              have EH := Aside0.mk (show have_ (tbl p (all.take h)) p = (h : Int) from by rw [have_tbl hp, List.length_take, HLEN.out]; omega)
              obtain ⟨n2, h2, hEA, hb1, hb2, hb3, hb4⟩ : ∃ n2 h2 : Nat, add_ (tbl p (all.take h)) p fr ((all.take te).drop fr) = ((n2 : Int), tbl p (all.take h2)) ∧ h2 = h + n2 ∧ (h < fr → n2 = 0) ∧ (fr ≤ h → h2 = max h te) ∧ h2 ≤ i := by
                rw [add_win hp ⟨htb.1, by rw [HLEN.out]; omega⟩ (by rw [HLEN.out]; omega) (by rw [HLEN.out]; omega) HRT.out]
                by_cases hf : fr ≤ h
                · exact ⟨max h te - h, max h te, by rw [if_pos hf], by omega, by omega, fun _ => rfl, by omega⟩
                · exact ⟨0, h, by rw [if_neg hf]; rfl, by omega, fun _ => rfl, by omega, by omega⟩
              have EA := Aside0.mk hEA
              have EH2 := Aside0.mk (show have_ (tbl p (all.take h2)) p = (h2 : Int) from by rw [have_tbl hp, List.length_take, HLEN.out]; omega)
              have WH2 := Aside0.mk (wf_tbl p (all.take h2) (by rw [List.length_take, HLEN.out]; omega))
              have hnn : ((all.take te).drop fr).length = te - fr := by rw [List.length_drop, List.length_take, HLEN.out]; omega
              have HNL := Aside0.mk hnn
              clear hEA hnn
              skip
              have t2 : (h : Int) < fr ∧ (n2 : Int) = 0 ∨ (fr : Int) ≤ h ∧ (if h < te then (te : Int) else (h : Int)) = (h2 : Int) := by
                by_cases hf : fr ≤ h
                · refine .inr ⟨by omega, ?_⟩
                  have := hb3 hf
                  split <;> omega
                · exact .inl ⟨by omega, by have := hb2 (by omega); omega⟩
              have he2 : fr ≤ te := by omega
              have he1 : te ≤ c := by omega
              have he3 : (te : Int) ≤ (c : Int) := by omega
              have u1 : IntKind.i64.wrap ((h : Int) + n2) = (h2 : Int) := by rw [IntKind.wrap_i64]; omega
              have t3 : decide ((h2 : Int) = (h2 : Int)) = true := decide_eq_true rfl
              clear hb2 hb3
              rcases t2 with ⟨t4, t5⟩ | ⟨t4, t5⟩
              · have t6 : decide ((h : Int) < fr) = true := decide_eq_true t4
                have t7 : decide ((n2 : Int) = 0) = true := decide_eq_true t5
                have t8 : decide ((fr : Int) ≤ (h : Int)) = false := decide_eq_false (by omega)
                go_wp2_with (first | (go_at_call 14; (with_reducible refine (have.H HV.out WH.out p (by omega)).mono ?_); rintro e_ w30 ⟨rfl, h_new⟩; rw [EH.out]; have H30 := Aside0.mk h_new; clear h_new HV) | (go_at_call 12; (with_reducible refine (add.Hn H30.out WH.out p (fr : Int) (by omega) (by omega) (some (ad.add (fr * 3))) (c - fr) (te - fr) ((all.take te).drop fr) HNL.out (by rw [HNL.out]; omega) HMID.out).mono ?_); rintro e_ w31 ⟨rfl, h_new⟩; rw [EA.out] at h_new ⊢; have H31 := Aside0.mk h_new; clear h_new H30) | (go_at_call 14; (with_reducible refine (have.H H31.out WH2.out p (by omega)).mono ?_); rintro e_ w32 ⟨rfl, h_new⟩; rw [EH2.out]; have H32 := Aside0.mk h_new; clear h_new H31))
                all_goals
                  go_loopg [16] (h2 + 1) (fun kq v16 w' => ∃ f : Nat, v16 = .int .i64 (f : Int) ∧ Aside0 (h2 + 1 ≤ f + kq) ∧ Aside0 (f ≤ h2) ∧ Aside0 (Has w w.heap.size w' [tab g (tbl p (all.take h2)), row kin 24 (.slice (some ad) i c) all]))
                  case atStart => exact ⟨0, rfl, ⟨by omega⟩, ⟨by omega⟩, H32⟩
                  case round =>
                    obtain ⟨f, rfl, HK3, HF, HU⟩ := hrel
                    have hff := HF.out
                    by_cases hf5 : f < h2
                    · have s1 : decide ((f : Int) < (h2 : Int)) = true := decide_eq_true (by omega)
                      obtain ⟨y, hy⟩ : ∃ y, all[f]? = some y := ⟨_, List.getElem?_eq_getElem (by rw [HLEN.out]; omega)⟩
                      have EAT := Aside0.mk (at_tbl (L := all.take h2) hp f y ((List.getElem?_take_of_lt hf5).trans hy))
                      have ERD := Aside0.mk (show rdI all (f : Int) = y from by unfold rdI; rw [List.getD_eq_getElem?_getD, Int.toNat_natCast, hy]; rfl)
                      clear hy
                      cases gk with
                      | zero => exact absurd HK3.out (by omega)
                      | succ k3 =>
                        go_wp2_with (first | (go_at_call 13; (with_reducible refine (at.H HU.out WH2.out p (f : Int) (by omega) (by omega)).mono ?_); rintro e_ w40 ⟨rfl, h_new⟩; rw [EAT.out]; have H40 := Aside0.mk h_new; clear h_new) | ((with_reducible refine gate_dst (N := 17) rfl ?_); refine box_event ?hg (N := 17) ?hd (cs := #[.int .i64 0, .int .i64 0, .bool false]) (t := 24) ?hr ?_; (case hd => rfl); (case hg => rfl); (case hr => first | (go_simp; done) | (go_simp; rfl)); intro gb hgb w41 hbox hb5; have HX := Aside0.mk (Has.box H40.out hgb hb5 hbox); have HS := Aside0.mk (Has.set3 (x := y) HX.out); have BK := Aside0.mk hbox; clear hgb hb5 hbox H40; have hcz0 : w41.cell? ⟨gb, 0, none⟩ = some (.int .i64 0) := (blk_cell BK.out 0).trans rfl; have hcz1 : w41.cell? ⟨gb, 1, none⟩ = some (.int .i64 0) := (blk_cell BK.out 1).trans rfl; have hcz2 : w41.cell? ⟨gb, 2, none⟩ = some (.bool false) := (blk_cell BK.out 2).trans rfl; have hfz0 := blk_frozen BK.out 0; have hfz1 := blk_frozen BK.out 1; have hfz2 := blk_frozen BK.out 2; have hna := Has.neR HX.out.up2.sw (by omega); obtain ⟨-, -, hC9⟩ := HX.out.up2.rowN; obtain ⟨ad9, e9, y0, y1, y2⟩ := at_inI hC9 (f : Int) (by omega) (by omega); obtain rfl := Option.some.inj e9; rw [ERD.out, Int.toNat_natCast] at y0 y1 y2; clear hC9))
                        all_goals
                          have bks := HS.out.blk
                          obtain ⟨-, -, hC8⟩ := HS.out.up2.rowN
                          obtain ⟨ad8, e8, z0, z1, z2⟩ := at_inI hC8 (f : Int) (by omega) (by omega)
                          obtain rfl := Option.some.inj e8
                          rw [ERD.out, Int.toNat_natCast] at z0 z1 z2
                          have q0 := (blk_cell bks 0).trans rfl
                          have q1 := (blk_cell bks 1).trans rfl
                          have q2 := (blk_cell bks 2).trans rfl
                          have k1_ : (0 : Int) ≤ (f : Int) := by omega
                          have k2_ : (f : Int) < (i : Int) := by omega
                          have k3_ : f < i := by omega
                          clear y0 y1 y2 hC8 bks hcz0 hcz1 hcz2 hfz0 hfz1 hfz2 hna
                          refine wp_region_held_drew (S := (fun w' => w'.cell? ⟨gb, 0, none⟩ = some (.int .i64 y.1) ∧ w'.cell? ⟨gb, 1, none⟩ = some (.int .i64 y.2.1) ∧ w'.cell? ⟨gb, 2, none⟩ = some (.bool y.2.2) ∧ w'.cell? (ad.add (f * 3)) = some (.int .i64 y.1) ∧ w'.cell? ⟨(ad.add (f * 3)).block, (ad.add (f * 3)).off + 1, none⟩ = some (.int .i64 y.2.1) ∧ w'.cell? ⟨(ad.add (f * 3)).block, (ad.add (f * 3)).off + 2, none⟩ = some (.bool y.2.2))) (by kernel_rfl) ?_ (fun hHeld => ?_)
                          · (exact ⟨q0, q1, q2, z0, z1, z2⟩)
                          refine Go.Proofs.Ytkgjokidfbpnbaa.Sep.takeW (i := 0) (v := ?_) rfl rfl (by kernel_rfl) (by kernel_rfl) (by kernel_rfl) (fun _ _ _ h => h) (by rfl) ?_ hHeld ?_
                          rotate_left 1
                          · (intro w hSw; (try dsimp only at hSw); go_simp <;> (try with_reducible rfl))
                          (try simp only [Act.put, List.setIfInBounds_toArray, List.set_cons_zero, List.set_cons_succ])
                          refine Go.Proofs.Ytkgjokidfbpnbaa.Sep.takeW (i := 1) (v := ?_) rfl rfl (by kernel_rfl) (by kernel_rfl) (by kernel_rfl) (fun _ _ _ h => h) (by rfl) ?_ hHeld ?_
                          rotate_left 1
                          · (intro w hSw; (try dsimp only at hSw); go_simp <;> (try with_reducible rfl))
                          (try simp only [Act.put, List.setIfInBounds_toArray, List.set_cons_zero, List.set_cons_succ])
                          refine Go.Proofs.Ytkgjokidfbpnbaa.Sep.takeW (i := 2) (v := ?_) rfl rfl (by kernel_rfl) (by kernel_rfl) (by kernel_rfl) (fun _ _ _ h => h) (by rfl) ?_ hHeld ?_
                          rotate_left 1
                          · (intro w hSw; (try dsimp only at hSw); go_simp <;> (try with_reducible rfl))
                          (try simp only [Act.put, List.setIfInBounds_toArray, List.set_cons_zero, List.set_cons_succ])
                          refine Go.Proofs.Ytkgjokidfbpnbaa.Sep.takeW (i := 3) (v := ?_) rfl rfl (by kernel_rfl) (by kernel_rfl) (by kernel_rfl) (fun _ _ _ h => h) (by rfl) ?_ hHeld ?_
                          rotate_left 1
                          · (intro w hSw; (try dsimp only at hSw); go_simp <;> (try with_reducible rfl))
                          (try simp only [Act.put, List.setIfInBounds_toArray, List.set_cons_zero, List.set_cons_succ])
                          refine Go.Proofs.Ytkgjokidfbpnbaa.Sep.takeW (i := 4) (v := ?_) rfl rfl (by kernel_rfl) (by kernel_rfl) (by kernel_rfl) (fun _ _ _ h => h) (by rfl) ?_ hHeld ?_
                          rotate_left 1
                          · (intro w hSw; (try dsimp only at hSw); go_simp <;> (try with_reducible rfl))
                          (try simp only [Act.put, List.setIfInBounds_toArray, List.set_cons_zero, List.set_cons_succ])
                          refine Go.Proofs.Ytkgjokidfbpnbaa.Sep.takeW (i := 5) (v := ?_) rfl rfl (by kernel_rfl) (by kernel_rfl) (by kernel_rfl) (fun _ _ _ h => h) (by rfl) ?_ hHeld ?_
                          rotate_left 1
                          · (intro w hSw; (try dsimp only at hSw); go_simp <;> (try with_reducible rfl))
                          (try simp only [Act.put, List.setIfInBounds_toArray, List.set_cons_zero, List.set_cons_succ])
                          refine Go.Proofs.Ytkgjokidfbpnbaa.Sep.takeW (i := 6) (v := ?_) rfl rfl (by kernel_rfl) (by kernel_rfl) (by kernel_rfl) (fun _ _ _ h => h) (by rfl) ?_ hHeld ?_
                          rotate_left 1
                          · (intro w hSw; (try dsimp only at hSw); go_simp <;> (try with_reducible rfl))
                          (try simp only [Act.put, List.setIfInBounds_toArray, List.set_cons_zero, List.set_cons_succ])
                          refine Go.Proofs.Ytkgjokidfbpnbaa.Sep.takeW (i := 7) (v := ?_) rfl rfl (by kernel_rfl) (by kernel_rfl) (by kernel_rfl) (fun _ _ _ h => h) (by rfl) ?_ hHeld ?_
                          rotate_left 1
                          · (intro w hSw; (try dsimp only at hSw); go_simp <;> (try with_reducible rfl))
                          (try simp only [Act.put, List.setIfInBounds_toArray, List.set_cons_zero, List.set_cons_succ])
                          refine Go.Proofs.Ytkgjokidfbpnbaa.Sep.takeW (i := 8) (v := ?_) rfl rfl (by kernel_rfl) (by kernel_rfl) (by kernel_rfl) (fun _ _ _ h => h) (by rfl) ?_ hHeld ?_
                          rotate_left 1
                          · (intro w hSw; (try dsimp only at hSw); go_simp <;> (try with_reducible rfl))
                          (try simp only [Act.put, List.setIfInBounds_toArray, List.set_cons_zero, List.set_cons_succ])
                          refine Go.Proofs.Ytkgjokidfbpnbaa.Sep.takeW (i := 9) (v := ?_) rfl rfl (by kernel_rfl) (by kernel_rfl) (by kernel_rfl) (fun _ _ _ h => h) (by rfl) ?_ hHeld ?_
                          rotate_left 1
                          · (intro w hSw; (try dsimp only at hSw); go_simp <;> (try with_reducible rfl))
                          (try simp only [Act.put, List.setIfInBounds_toArray, List.set_cons_zero, List.set_cons_succ])
                          refine wpAnyH_done (by kernel_rfl) ?_ _
                          go_wp2
                          all_goals (go_roundg k3; (case measure => have := HK3.out; omega); (case rel => exact ⟨f + 1, rfl, ⟨by have := HK3.out; omega⟩, ⟨by omega⟩, ⟨HS.out.drop.drew⟩⟩))
                    · have s1 : decide ((f : Int) < (h2 : Int)) = false := decide_eq_false (by omega)
                      go_wp2
                      all_goals (go_roundg k2; (case measure => have := HK2.out; omega); (case rel => exact ⟨j + 1, h2, rfl, ⟨by have := HK2.out; omega⟩, ⟨by omega⟩, ⟨by omega⟩, HU⟩))
              · have t6 : decide ((h : Int) < fr) = false := decide_eq_false (by omega)
                skip
                have t8 : decide ((fr : Int) ≤ (h : Int)) = true := decide_eq_true t4
                go_wp2_with (first | (go_at_call 14; (with_reducible refine (have.H HV.out WH.out p (by omega)).mono ?_); rintro e_ w30 ⟨rfl, h_new⟩; rw [EH.out]; have H30 := Aside0.mk h_new; clear h_new HV) | (go_at_call 12; (with_reducible refine (add.Hn H30.out WH.out p (fr : Int) (by omega) (by omega) (some (ad.add (fr * 3))) (c - fr) (te - fr) ((all.take te).drop fr) HNL.out (by rw [HNL.out]; omega) HMID.out).mono ?_); rintro e_ w31 ⟨rfl, h_new⟩; rw [EA.out] at h_new ⊢; have H31 := Aside0.mk h_new; clear h_new H30) | (go_at_call 14; (with_reducible refine (have.H H31.out WH2.out p (by omega)).mono ?_); rintro e_ w32 ⟨rfl, h_new⟩; rw [EH2.out]; have H32 := Aside0.mk h_new; clear h_new H31))
                all_goals
                  go_loopg [16] (h2 + 1) (fun kq v16 w' => ∃ f : Nat, v16 = .int .i64 (f : Int) ∧ Aside0 (h2 + 1 ≤ f + kq) ∧ Aside0 (f ≤ h2) ∧ Aside0 (Has w w.heap.size w' [tab g (tbl p (all.take h2)), row kin 24 (.slice (some ad) i c) all]))
                  case atStart => exact ⟨0, rfl, ⟨by omega⟩, ⟨by omega⟩, H32⟩
                  case round =>
                    obtain ⟨f, rfl, HK3, HF, HU⟩ := hrel
                    have hff := HF.out
                    by_cases hf5 : f < h2
                    · have s1 : decide ((f : Int) < (h2 : Int)) = true := decide_eq_true (by omega)
                      obtain ⟨y, hy⟩ : ∃ y, all[f]? = some y := ⟨_, List.getElem?_eq_getElem (by rw [HLEN.out]; omega)⟩
                      have EAT := Aside0.mk (at_tbl (L := all.take h2) hp f y ((List.getElem?_take_of_lt hf5).trans hy))
                      have ERD := Aside0.mk (show rdI all (f : Int) = y from by unfold rdI; rw [List.getD_eq_getElem?_getD, Int.toNat_natCast, hy]; rfl)
                      clear hy
                      cases gk with
                      | zero => exact absurd HK3.out (by omega)
                      | succ k3 =>
                        go_wp2_with (first | (go_at_call 13; (with_reducible refine (at.H HU.out WH2.out p (f : Int) (by omega) (by omega)).mono ?_); rintro e_ w40 ⟨rfl, h_new⟩; rw [EAT.out]; have H40 := Aside0.mk h_new; clear h_new) | ((with_reducible refine gate_dst (N := 17) rfl ?_); refine box_event ?hg (N := 17) ?hd (cs := #[.int .i64 0, .int .i64 0, .bool false]) (t := 24) ?hr ?_; (case hd => rfl); (case hg => rfl); (case hr => first | (go_simp; done) | (go_simp; rfl)); intro gb hgb w41 hbox hb5; have HX := Aside0.mk (Has.box H40.out hgb hb5 hbox); have HS := Aside0.mk (Has.set3 (x := y) HX.out); have BK := Aside0.mk hbox; clear hgb hb5 hbox H40; have hcz0 : w41.cell? ⟨gb, 0, none⟩ = some (.int .i64 0) := (blk_cell BK.out 0).trans rfl; have hcz1 : w41.cell? ⟨gb, 1, none⟩ = some (.int .i64 0) := (blk_cell BK.out 1).trans rfl; have hcz2 : w41.cell? ⟨gb, 2, none⟩ = some (.bool false) := (blk_cell BK.out 2).trans rfl; have hfz0 := blk_frozen BK.out 0; have hfz1 := blk_frozen BK.out 1; have hfz2 := blk_frozen BK.out 2; have hna := Has.neR HX.out.up2.sw (by omega); obtain ⟨-, -, hC9⟩ := HX.out.up2.rowN; obtain ⟨ad9, e9, y0, y1, y2⟩ := at_inI hC9 (f : Int) (by omega) (by omega); obtain rfl := Option.some.inj e9; rw [ERD.out, Int.toNat_natCast] at y0 y1 y2; clear hC9))
                        all_goals
                          have bks := HS.out.blk
                          obtain ⟨-, -, hC8⟩ := HS.out.up2.rowN
                          obtain ⟨ad8, e8, z0, z1, z2⟩ := at_inI hC8 (f : Int) (by omega) (by omega)
                          obtain rfl := Option.some.inj e8
                          rw [ERD.out, Int.toNat_natCast] at z0 z1 z2
                          have q0 := (blk_cell bks 0).trans rfl
                          have q1 := (blk_cell bks 1).trans rfl
                          have q2 := (blk_cell bks 2).trans rfl
                          have k1_ : (0 : Int) ≤ (f : Int) := by omega
                          have k2_ : (f : Int) < (i : Int) := by omega
                          have k3_ : f < i := by omega
                          clear y0 y1 y2 hC8 bks hcz0 hcz1 hcz2 hfz0 hfz1 hfz2 hna
                          refine wp_region_held_drew (S := (fun w' => w'.cell? ⟨gb, 0, none⟩ = some (.int .i64 y.1) ∧ w'.cell? ⟨gb, 1, none⟩ = some (.int .i64 y.2.1) ∧ w'.cell? ⟨gb, 2, none⟩ = some (.bool y.2.2) ∧ w'.cell? (ad.add (f * 3)) = some (.int .i64 y.1) ∧ w'.cell? ⟨(ad.add (f * 3)).block, (ad.add (f * 3)).off + 1, none⟩ = some (.int .i64 y.2.1) ∧ w'.cell? ⟨(ad.add (f * 3)).block, (ad.add (f * 3)).off + 2, none⟩ = some (.bool y.2.2))) (by kernel_rfl) ?_ (fun hHeld => ?_)
                          · (exact ⟨q0, q1, q2, z0, z1, z2⟩)
                          refine Go.Proofs.Ytkgjokidfbpnbaa.Sep.takeW (i := 0) (v := ?_) rfl rfl (by kernel_rfl) (by kernel_rfl) (by kernel_rfl) (fun _ _ _ h => h) (by rfl) ?_ hHeld ?_
                          rotate_left 1
                          · (intro w hSw; (try dsimp only at hSw); go_simp <;> (try with_reducible rfl))
                          (try simp only [Act.put, List.setIfInBounds_toArray, List.set_cons_zero, List.set_cons_succ])
                          refine Go.Proofs.Ytkgjokidfbpnbaa.Sep.takeW (i := 1) (v := ?_) rfl rfl (by kernel_rfl) (by kernel_rfl) (by kernel_rfl) (fun _ _ _ h => h) (by rfl) ?_ hHeld ?_
                          rotate_left 1
                          · (intro w hSw; (try dsimp only at hSw); go_simp <;> (try with_reducible rfl))
                          (try simp only [Act.put, List.setIfInBounds_toArray, List.set_cons_zero, List.set_cons_succ])
                          refine Go.Proofs.Ytkgjokidfbpnbaa.Sep.takeW (i := 2) (v := ?_) rfl rfl (by kernel_rfl) (by kernel_rfl) (by kernel_rfl) (fun _ _ _ h => h) (by rfl) ?_ hHeld ?_
                          rotate_left 1
                          · (intro w hSw; (try dsimp only at hSw); go_simp <;> (try with_reducible rfl))
                          (try simp only [Act.put, List.setIfInBounds_toArray, List.set_cons_zero, List.set_cons_succ])
                          refine Go.Proofs.Ytkgjokidfbpnbaa.Sep.takeW (i := 3) (v := ?_) rfl rfl (by kernel_rfl) (by kernel_rfl) (by kernel_rfl) (fun _ _ _ h => h) (by rfl) ?_ hHeld ?_
                          rotate_left 1
                          · (intro w hSw; (try dsimp only at hSw); go_simp <;> (try with_reducible rfl))
                          (try simp only [Act.put, List.setIfInBounds_toArray, List.set_cons_zero, List.set_cons_succ])
                          refine Go.Proofs.Ytkgjokidfbpnbaa.Sep.takeW (i := 4) (v := ?_) rfl rfl (by kernel_rfl) (by kernel_rfl) (by kernel_rfl) (fun _ _ _ h => h) (by rfl) ?_ hHeld ?_
                          rotate_left 1
                          · (intro w hSw; (try dsimp only at hSw); go_simp <;> (try with_reducible rfl))
                          (try simp only [Act.put, List.setIfInBounds_toArray, List.set_cons_zero, List.set_cons_succ])
                          refine Go.Proofs.Ytkgjokidfbpnbaa.Sep.takeW (i := 5) (v := ?_) rfl rfl (by kernel_rfl) (by kernel_rfl) (by kernel_rfl) (fun _ _ _ h => h) (by rfl) ?_ hHeld ?_
                          rotate_left 1
                          · (intro w hSw; (try dsimp only at hSw); go_simp <;> (try with_reducible rfl))
                          (try simp only [Act.put, List.setIfInBounds_toArray, List.set_cons_zero, List.set_cons_succ])
                          refine Go.Proofs.Ytkgjokidfbpnbaa.Sep.takeW (i := 6) (v := ?_) rfl rfl (by kernel_rfl) (by kernel_rfl) (by kernel_rfl) (fun _ _ _ h => h) (by rfl) ?_ hHeld ?_
                          rotate_left 1
                          · (intro w hSw; (try dsimp only at hSw); go_simp <;> (try with_reducible rfl))
                          (try simp only [Act.put, List.setIfInBounds_toArray, List.set_cons_zero, List.set_cons_succ])
                          refine Go.Proofs.Ytkgjokidfbpnbaa.Sep.takeW (i := 7) (v := ?_) rfl rfl (by kernel_rfl) (by kernel_rfl) (by kernel_rfl) (fun _ _ _ h => h) (by rfl) ?_ hHeld ?_
                          rotate_left 1
                          · (intro w hSw; (try dsimp only at hSw); go_simp <;> (try with_reducible rfl))
                          (try simp only [Act.put, List.setIfInBounds_toArray, List.set_cons_zero, List.set_cons_succ])
                          refine Go.Proofs.Ytkgjokidfbpnbaa.Sep.takeW (i := 8) (v := ?_) rfl rfl (by kernel_rfl) (by kernel_rfl) (by kernel_rfl) (fun _ _ _ h => h) (by rfl) ?_ hHeld ?_
                          rotate_left 1
                          · (intro w hSw; (try dsimp only at hSw); go_simp <;> (try with_reducible rfl))
                          (try simp only [Act.put, List.setIfInBounds_toArray, List.set_cons_zero, List.set_cons_succ])
                          refine Go.Proofs.Ytkgjokidfbpnbaa.Sep.takeW (i := 9) (v := ?_) rfl rfl (by kernel_rfl) (by kernel_rfl) (by kernel_rfl) (fun _ _ _ h => h) (by rfl) ?_ hHeld ?_
                          rotate_left 1
                          · (intro w hSw; (try dsimp only at hSw); go_simp <;> (try with_reducible rfl))
                          (try simp only [Act.put, List.setIfInBounds_toArray, List.set_cons_zero, List.set_cons_succ])
                          refine wpAnyH_done (by kernel_rfl) ?_ _
                          go_wp2
                          all_goals (go_roundg k3; (case measure => have := HK3.out; omega); (case rel => exact ⟨f + 1, rfl, ⟨by have := HK3.out; omega⟩, ⟨by omega⟩, ⟨HS.out.drop.drew⟩⟩))
                    · have s1 : decide ((f : Int) < (h2 : Int)) = false := decide_eq_false (by omega)
                      go_wp2
                      all_goals (go_roundg k2; (case measure => have := HK2.out; omega); (case rel => exact ⟨j + 1, h2, rfl, ⟨by have := HK2.out; omega⟩, ⟨by omega⟩, ⟨by omega⟩, HU⟩))
          · have e9 : decide (j < l1.length) = false ∨ (decide (j < l1.length) = true ∧ decide ((j : Int) < 60) = false) ∨ (decide (j < l1.length) = true ∧ decide ((j : Int) < 60) = true ∧ decide (0 < i) = false) := by
              by_cases h1 : j < l1.length
              · by_cases h2 : j < 60
                · exact .inr (.inr ⟨decide_eq_true h1, decide_eq_true (by omega), decide_eq_false (by omega)⟩)
                · exact .inr (.inl ⟨decide_eq_true h1, decide_eq_false (by omega)⟩)
              · exact .inl (decide_eq_false h1)
            obtain ⟨x1, x2, hxx⟩ := at_unsure (tbl_isP (L := all) hp) (i : Int) (by omega) (by rw [tbl_at hp]; show ((all.length : Nat) : Int) ≤ i; rw [HLEN.out]; omega) (by rw [tbl_at hp]; rintro ⟨h, _⟩; cases h)
            have EU := Aside0.mk hxx
            clear hxx
            have EE := Aside0.mk (add_end (all := all) (h := h) hp (by rw [HLEN.out]; omega) (by rw [HLEN.out]; omega) HRT.out)
            have EHA := Aside0.mk (show have_ (tbl p all) p = (i : Int) from by rw [have_tbl hp, HLEN.out])
            have EST := Aside0.mk (stream_tbl (L := all) hp (by rw [HLEN.out]; omega))
            have WA := Aside0.mk (wf_tbl p all (by rw [HLEN.out]; omega))
            rcases e9 with e9 | ⟨e9, e8⟩ | ⟨e9, e8, e7⟩
            all_goals
              go_wp2_with (first | (go_at_call 12; (with_reducible refine (add.Hn HV.out WH.out p 0 (by omega) (by omega) A c i all HLEN.out (by rw [HLEN.out]; omega) (fun W cs' hW => by obtain ⟨e, -, hC⟩ := hW.sw.rowN; rw [e] at hC; exact hC)).mono ?_); rintro e_ w50 ⟨rfl, h_new⟩; rw [EE.out] at h_new; have H50 := Aside0.mk h_new; clear h_new HV) | (go_at_call 13; (with_reducible refine (at.H H50.out WA.out p (i : Int) (by omega) (by omega)).mono ?_); rintro e_ w51 ⟨rfl, h_new⟩; rw [EU.out]; have H51 := Aside0.mk h_new; clear h_new H50) | ((with_reducible refine gate_dst (N := 19) rfl ?_); refine box_event ?hg (N := 19) ?hd (cs := #[.int .i64 0, .int .i64 0, .bool false]) (t := 24) ?hr ?_; (case hd => rfl); (case hg => rfl); (case hr => first | (go_simp; done) | (go_simp; rfl)); intro g19 hgb w52 hbox hb5; have HX19 := Aside0.mk (Has.box H51.out hgb hb5 hbox); have HS19 := Aside0.mk (Has.set3 (x := (x1, x2, false)) HX19.out); have BK_g19 := Aside0.mk hbox; clear hgb hb5 hbox H51; have hcg190 : w52.cell? ⟨g19, 0, none⟩ = some (.int .i64 0) := (blk_cell BK_g19.out 0).trans rfl; have hcg191 : w52.cell? ⟨g19, 1, none⟩ = some (.int .i64 0) := (blk_cell BK_g19.out 1).trans rfl; have hcg192 : w52.cell? ⟨g19, 2, none⟩ = some (.bool false) := (blk_cell BK_g19.out 2).trans rfl; have hfg190 := blk_frozen BK_g19.out 0; have hfg191 := blk_frozen BK_g19.out 1; have hfg192 := blk_frozen BK_g19.out 2) | (go_at_call 14; (with_reducible refine (have.H HS19.out.sw WA.out p (by omega)).mono ?_); rintro e_ w53 ⟨rfl, h_new⟩; rw [EHA.out]; have H53 := Aside0.mk h_new; clear h_new HS19 HX19 hcg190 hcg191 hcg192 hfg190 hfg191 hfg192; have bk9 := H53.out.sw.blk; have hc9 : w53.cell? ⟨g19, 2, none⟩ = some (.bool false) := (blk_cell bk9 2).trans rfl; clear bk9) | (go_at_call 18; (with_reducible refine (stream.H H53.out WA.out p 0 100 (by omega) (by omega) (by omega)).mono ?_); rintro e_ w54 ⟨A54, c54, rfl, hle54, h_new⟩; rw [EST.out] at h_new ⊢; have H54 := Aside0.mk h_new; clear h_new H53; rw [EST.out] at hle54) | (go_at_call 17; (with_reducible refine (plain.calls A54 A all.length c54 i c all all w54 H54.out.rowN.2.2 hle54 H54.out.up3.rowN.2.2 H54.out.up3.rowN.2.1 (by rw [HLEN.out]; omega)).mono ?_); rintro e w55 ⟨rfl, hb55⟩; rw [decide_eq_true (rfl : all = all)]; have H55 := Aside0.mk (H54.out.step hb55); clear hb55))
            all_goals (first | (go_ret; exact ⟨rfl, H55.out.below⟩) | fail "ret")
end Go.Proofs.Ytkgjokidfbpnbaa.PInputsOrder
