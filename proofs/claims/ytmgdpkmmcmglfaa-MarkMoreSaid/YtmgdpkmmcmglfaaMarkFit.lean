/- The laws' lines: fit, walked; each line's rows are its own. Condition: an arena that is right, lines as few says. -/
import Derived.Test.YtmgdpkmmcmglfaaMarkFit0
namespace Go.Proofs.Ytmgdpkmmcmglfaa.PMarkOrder
open Go Go.RowKit Go.Proofs.YtmgdpkmmcmglfaaW.PrintWords Go.Proofs.YtmgdpkmmcmglfaaW.PrintLast Go.Proofs.YtmgdpkmmcmglfaaW.PrintMore Go.Proofs.Ytmgdpkmmcmglfaa.Sep
open Go.Proofs.Ytmgdpkmmcmglfaa.MarkW (nearG kline at_line)
attribute [local go_sem] max2_int min2_int max_two min_two max_three min_three max_four min_four   -- for this text's walks alone
set_option linter.unusedVariables false
set_option linter.unusedSimpArgs false
theorem infoB : (Try.prog.info? 4).map (fun i => (i.zero, i.size, i.bytes)) = some (some (.bool false), 1, 1) := by kernel_rfl
theorem infoR : (Try.prog.info? 41).map (fun i => (i.zero, i.size, i.bytes)) = some (some (.slice none 0 0), 1, 24) := by kernel_rfl
theorem infoL : (Try.prog.info? 44).map (fun i => (i.zero, i.size, i.bytes)) = some (some (.agg #[.int .i64 0, .int .i64 0, .slice none 0 0, .slice none 0 0]), 4, 64) := by kernel_rfl
theorem C_kline {w : World} {A : Option Addr} {n : Nat} {l : List S44} (h : Kd.C k44 w A n l) : Kd.C kline w A n (l.map fun x => (x.f0, x.f1, x.f2, x.f3)) := by
  obtain ⟨h1, h2, h3⟩ := h
  refine ⟨by rw [List.length_map]; exact h1, h2, fun hn => ?_⟩
  obtain ⟨ad, e, hr⟩ := h3 hn
  refine ⟨ad, e, fun j p hj => ?_⟩
  rw [List.getElem?_map] at hj
  cases hx : l[j]? with
  | none => rw [hx] at hj; cases hj
  | some x =>
    rw [hx] at hj
    obtain rfl := Option.some.inj hj
    exact hr j x hx
theorem raw1_snoc (vs : List Value) (v : Value) : raw1 vs ++ [[v]] = raw1 (vs ++ [v]) := by simp [raw1]
theorem cells_ok {sz : Nat} {w : World} {b : Nat} {ok : Nat → Prop} {x : List Value} (h : x.length = sz) (h1 : ∀ u ∈ x, u.oneCell' = true) : (kcells sz).M w b ok x x := ⟨rfl, h, h1⟩
theorem fit_step (near : Nat) (known : List (List Bool)) (k : Nat) : (List.range (k + 1)).map (fitRow near known) = (List.range k).map (fitRow near known) ++ [fitRow near known k] := by rw [List.range_succ, List.map_append]; rfl
theorem perm_in (A B C D E X : Asr) (G F : List Asr) : (X :: A :: B :: C :: D :: E :: (G ++ F)).Perm (A :: B :: C :: D :: E :: (G ++ [X] ++ F)) := by
  have h1 : (X :: ([A, B, C, D, E] ++ G ++ F)).Perm ([A, B, C, D, E] ++ G ++ X :: F) := List.perm_middle.symm
  simpa using h1
theorem perm_out (A B C D : Asr) (G F : List Asr) : (A :: B :: C :: D :: (G ++ F)).Perm (A :: (G ++ (B :: C :: D :: F))) := by
  have h1 : ([B, C, D] ++ G ++ F).Perm (G ++ [B, C, D] ++ F) := List.perm_append_comm.append_right F
  exact List.Perm.cons A (by simpa using h1)
theorem perm_in2 (A B X : Asr) (G F : List Asr) : (X :: A :: B :: (G ++ F)).Perm (A :: B :: (G ++ [X] ++ F)) := by
  have h1 : (X :: ([A, B] ++ G ++ F)).Perm ([A, B] ++ G ++ X :: F) := List.perm_middle.symm
  simpa using h1
set_option maxHeartbeats 8000000 in
set_option maxRecDepth 100000 in
theorem fit.H {w0 w : World} {base : Nat} {F : List Asr} {c r p wi : Int} (s : Int) (h : Has w0 base w F) (hb0 : w0.heap.size ≤ base) (A1 : Option Addr) (c1 : Nat) (l : List S44) (hr1 : Kd.C k44 w0 A1 l.length l) (hR : R c r p wi) (hl : l.length ≤ 20) (hf : ∀ x ∈ l, x.f2.length ≤ 60 ∧ x.f3.length ≤ 60) :
    Calls Try.prog 14 #[.agg #[.int .i64 c, .int .i64 r, .int .i64 p, .int .i64 wi, .int .u64 s], .slice A1 l.length c1] w fun e w' => ∃ (A : Option Addr) (c' : Nat) (xs : List (Value × Value)), e = .returned (.slice A l.length c') ∧ xs.length = l.length ∧ Has w0 base w' (row (kcells 4) 44 (.slice A l.length c') (rawLs xs (fitL c r p wi s l)) :: (linesA xs (fitL c r p wi s l) ++ F)) := by
  have hu24 := Try.underlying24
  have hu44 := Try.underlying44
  have HL1 := Aside0.mk (C_kline hr1)
  have HRR := Aside0.mk hR
  have HFF := Aside0.mk hf
  have hcr := cr_bound hR
  obtain ⟨m, hm⟩ : ∃ m : Nat, (m : Int) = c * r := ⟨(c * r).toNat, by omega⟩
  have n1 : IntKind.i64.wrap (c * r) = (m : Int) := by rw [IntKind.wrap_i64]; omega
  have hm1 : 1 ≤ m := by omega
  have hm0 : ¬ m = 0 := by omega
  have hm16 : m ≤ 16 := by omega
  have hum : IntKind.u64.wrap (m : Int) = m := by rw [IntKind.wrap_u64]; omega
  have HMM := Aside0.mk hm
  have H0 := Aside0.mk h
  clear hr1 hR hf hcr hm h
  go_enter Try.func14, Try.ntmps14
  go_wp2_with (first | ((with_reducible refine gate_dst (N := 2) rfl ?_); refine box_event ?hg (N := 2) ?hd (cs := #[.int .i64 c, .int .i64 r, .int .i64 p, .int .i64 wi, .int .u64 s]) (t := 24) ?hr ?_; (case hd => rfl); (case hg => rfl); (case hr => first | (go_simp; done) | (go_simp; rfl)); intro g2 hgb_ wa1 hbox_ hb5_; have h_new := Has.ownNew H0.out hgb_ hb5_ hbox_; clear hgb_ hb5_ hbox_; have Ha1 := Aside0.mk h_new; clear h_new H0))
  have HX := Aside0.mk (Ha1.out.rowNil (kcells 4) 44)
  clear Ha1
  go_loopg [5, 6] (l.length + 1) (fun kq v5 v6 w' => ∃ (i : Nat) (A : Option Addr) (cA : Nat) (xs : List (Value × Value)), v5 = .slice A i cA ∧ v6 = .int .i64 (i : Int) ∧ Aside0 (i + kq = l.length + 1) ∧ Aside0 (i ≤ l.length) ∧ Aside0 (xs.length = i) ∧ Aside0 (Has w0 base w' (row (kcells 4) 44 (.slice A i cA) (rawLs xs ((fitL c r p wi s l).take i)) :: blk g2 (.cells #[.int .i64 c, .int .i64 r, .int .i64 p, .int .i64 wi, .int .u64 s] 24 (0, 0)) :: (linesA xs ((fitL c r p wi s l).take i) ++ F))))
  case atStart => exact ⟨0, none, 0, [], rfl, rfl, ⟨by omega⟩, ⟨by omega⟩, ⟨rfl⟩, HX⟩
  case round =>
    clear HX
    obtain ⟨i, A, cA, xs, rfl, rfl, HK, HI, HXS, HW⟩ := hrel
    have hii := HI.out
    by_cases hil : i < l.length
    · have e1 : decide ((i : Int) < (l.length : Int)) = true := decide_eq_true (by omega)
      have e1b : decide (i < l.length) = true := decide_eq_true hil
      have e3 : (i : Int) < (l.length : Int) := by omega
      have e4 : (0 : Int) ≤ (i : Int) := by omega
      obtain ⟨ad, A2, c2, A3, c3, ea, y0, y1, y2, y3, l2, g2_, l3, g3_⟩ := at_line HL1.out i (by rw [List.length_map]; exact hil)
      subst ea
      obtain ⟨x, hx⟩ : ∃ x, l[i] = x := ⟨_, rfl⟩
      rw [List.getElem_map, hx] at y0 y1 y2 y3 l2 g2_ l3 g3_
      have hfx := HFF.out x (by rw [← hx]; exact List.getElem_mem hil)
      have Y0 : Aside0 (_ = some (Value.int .i64 x.f0)) := ⟨y0⟩
      have Y1 : Aside0 (_ = some (Value.int .i64 x.f1)) := ⟨y1⟩
      have Y2 : Aside0 (_ = some (Value.slice A2 x.f2.length c2)) := ⟨y2⟩
      have Y3 : Aside0 (_ = some (Value.slice A3 x.f3.length c3)) := ⟨y3⟩
      have G2 : Aside0 (Kd.C Kd.bool w0 A2 x.f2.length x.f2) := ⟨g2_⟩
      have G3 : Aside0 (Kd.C (Kd.slice 4 Kd.bool) w0 A3 x.f3.length x.f3) := ⟨g3_⟩
      have HXL := Aside0.mk hx
      obtain ⟨hf2, hf3⟩ := hfx
      clear y0 y1 y2 y3 g2_ g3_ hx l2 l3
      have hu0 : 0 ≤ IntKind.u64.wrap x.f0 := by rw [IntKind.wrap_u64]; omega
      have hu1 : 0 ≤ IntKind.u64.wrap x.f1 := by rw [IntKind.wrap_u64]; omega
      obtain ⟨rg, hrg⟩ : ∃ rg : Nat, (rg : Int) = Int.tmod (IntKind.u64.wrap x.f0) (m : Int) := by
        rw [Int.tmod_eq_emod_of_nonneg hu0]
        have := Int.emod_nonneg (IntKind.u64.wrap x.f0) (show (m : Int) ≠ 0 by omega)
        exact ⟨((IntKind.u64.wrap x.f0) % (m : Int)).toNat, by omega⟩
      have hrm : rg < m := by
        rw [Int.tmod_eq_emod_of_nonneg hu0] at hrg
        have := Int.emod_lt_of_pos (IntKind.u64.wrap x.f0) (show (0 : Int) < (m : Int) by omega)
        omega
      obtain ⟨bs, hbs⟩ : ∃ bs : Nat, (bs : Int) = Int.tmod (IntKind.u64.wrap x.f1) 10 := by
        rw [Int.tmod_eq_emod_of_nonneg hu1]
        exact ⟨((IntKind.u64.wrap x.f1) % 10).toNat, by omega⟩
      have hbm : bs < 10 := by
        rw [Int.tmod_eq_emod_of_nonneg hu1] at hbs
        omega
      have hrg2 := hrg.symm
      have hbs2 := hbs.symm
      have HRG : Aside0 (fitRg c r x.f0 = (rg : Int)) := ⟨by unfold fitRg; rw [← HMM.out, hrg2, PMarkOrder.wr (by omega) (by omega)]⟩
      have HBS : Aside0 (fitBs x.f1 = (bs : Int)) := ⟨by unfold fitBs; rw [hbs2, PMarkOrder.wr (by omega) (by omega)]⟩
      have v1 : IntKind.i64.wrap (rg : Int) = rg := by rw [IntKind.wrap_i64]; omega
      have v2 : IntKind.i64.wrap (bs : Int) = bs := by rw [IntKind.wrap_i64]; omega
      clear hrg hbs hu0 hu1
      have hrr : (0 : Int) ≤ (rg : Int) ∧ (rg : Int) < c * r := ⟨by omega, by have := HMM.out; omega⟩
      have hne := GridP.near_ne s HRR.out hrr
      obtain ⟨nl, hnl⟩ : ∃ nl, nearG c r p wi s (rg : Int) = nl := ⟨_, rfl⟩
      rw [hnl] at hne
      have HNL : Aside0 (joustref03_Near.f 100 c r p wi s (rg : Int) = some nl) := ⟨by rw [rnear s HRR.out _ (by omega), hnl]⟩
      obtain ⟨nn, hnn⟩ : ∃ nn, nl.length = nn := ⟨_, rfl⟩
      have hnn9 : nn ≤ 9 := by rw [← hnn]; exact hne.2.2
      have HNN := Aside0.mk hnn
      obtain ⟨n, hn⟩ : ∃ n : Nat, min x.f2.length 20 = n := ⟨_, rfl⟩
      have hn20 : n ≤ 20 ∧ n ≤ x.f2.length := by omega
      have hmin : (if (20 : Int) < (x.f2.length : Int) then (20 : Int) else (x.f2.length : Int)) = (n : Int) := by split <;> omega
      have hmin2 : (if (x.f2.length : Int) < (20 : Int) then (x.f2.length : Int) else (20 : Int)) = (n : Int) := by split <;> omega
      have HONE : Aside0 (fitOne c r p wi s x = ⟨(rg : Int), (bs : Int), x.f2.take n, ((List.range n).map (fitRow nn x.f3))⟩) := ⟨by unfold fitOne; rw [HRG.out, HBS.out, hn, hnl, hnn]⟩
      clear hrr hne hnl hn hnn
      cases gk with
      | zero => exact absurd HK.out (by omega)
      | succ k1 =>
        have c_cf_0 : wr.cell? ⟨g2, 0, none⟩ = some (.int .i64 c) := (blk_cell (HW.out.sw).blk 0).trans rfl
        have c_cf_1 : wr.cell? ⟨g2, 1, none⟩ = some (.int .i64 r) := (blk_cell (HW.out.sw).blk 1).trans rfl
        have c_cf_2 : wr.cell? ⟨g2, 2, none⟩ = some (.int .i64 p) := (blk_cell (HW.out.sw).blk 2).trans rfl
        have c_cf_3 : wr.cell? ⟨g2, 3, none⟩ = some (.int .i64 wi) := (blk_cell (HW.out.sw).blk 3).trans rfl
        have c_cf_4 : wr.cell? ⟨g2, 4, none⟩ = some (.int .u64 s) := (blk_cell (HW.out.sw).blk 4).trans rfl
        have y0 : wr.cell? (ad.add (i * 4)) = some (.int .i64 x.f0) := pw_cell_below (HW.out.below.mono hb0) Y0.out
        have y1 : wr.cell? ⟨(ad.add (i * 4)).block, (ad.add (i * 4)).off + 1, none⟩ = some (.int .i64 x.f1) := pw_cell_below (HW.out.below.mono hb0) Y1.out
        have y2 : wr.cell? ⟨(ad.add (i * 4)).block, (ad.add (i * 4)).off + 2, none⟩ = some (.slice A2 x.f2.length c2) := pw_cell_below (HW.out.below.mono hb0) Y2.out
        have y3 : wr.cell? ⟨(ad.add (i * 4)).block, (ad.add (i * 4)).off + 3, none⟩ = some (.slice A3 x.f3.length c3) := pw_cell_below (HW.out.below.mono hb0) Y3.out
        go_wp2
        have Hb21 := Aside0.mk HW.out.drew
        clear c_cf_0 c_cf_1 c_cf_2 c_cf_3 c_cf_4 y0 y1 y2 y3
        have c_cf_0 : (wr).drew.cell? ⟨g2, 0, none⟩ = some (.int .i64 c) := (blk_cell (Hb21.out.sw).blk 0).trans rfl
        have c_cf_1 : (wr).drew.cell? ⟨g2, 1, none⟩ = some (.int .i64 r) := (blk_cell (Hb21.out.sw).blk 1).trans rfl
        have c_cf_2 : (wr).drew.cell? ⟨g2, 2, none⟩ = some (.int .i64 p) := (blk_cell (Hb21.out.sw).blk 2).trans rfl
        have c_cf_3 : (wr).drew.cell? ⟨g2, 3, none⟩ = some (.int .i64 wi) := (blk_cell (Hb21.out.sw).blk 3).trans rfl
        have c_cf_4 : (wr).drew.cell? ⟨g2, 4, none⟩ = some (.int .u64 s) := (blk_cell (Hb21.out.sw).blk 4).trans rfl
        have y0 : (wr).drew.cell? (ad.add (i * 4)) = some (.int .i64 x.f0) := pw_cell_below (Hb21.out.below.mono hb0) Y0.out
        have y1 : (wr).drew.cell? ⟨(ad.add (i * 4)).block, (ad.add (i * 4)).off + 1, none⟩ = some (.int .i64 x.f1) := pw_cell_below (Hb21.out.below.mono hb0) Y1.out
        have y2 : (wr).drew.cell? ⟨(ad.add (i * 4)).block, (ad.add (i * 4)).off + 2, none⟩ = some (.slice A2 x.f2.length c2) := pw_cell_below (Hb21.out.below.mono hb0) Y2.out
        have y3 : (wr).drew.cell? ⟨(ad.add (i * 4)).block, (ad.add (i * 4)).off + 3, none⟩ = some (.slice A3 x.f3.length c3) := pw_cell_below (Hb21.out.below.mono hb0) Y3.out
        refine wp_regionK (T := (fun w' => w'.cell? ⟨g2, 0, none⟩ = some (.int .i64 c) ∧ w'.cell? ⟨g2, 1, none⟩ = some (.int .i64 r) ∧ w'.cell? ⟨g2, 2, none⟩ = some (.int .i64 p) ∧ w'.cell? ⟨g2, 3, none⟩ = some (.int .i64 wi) ∧ w'.cell? ⟨g2, 4, none⟩ = some (.int .u64 s) ∧ w'.cell? (ad.add (i * 4)) = some (.int .i64 x.f0) ∧ w'.cell? ⟨(ad.add (i * 4)).block, (ad.add (i * 4)).off + 1, none⟩ = some (.int .i64 x.f1) ∧ w'.cell? ⟨(ad.add (i * 4)).block, (ad.add (i * 4)).off + 2, none⟩ = some (.slice A2 x.f2.length c2) ∧ w'.cell? ⟨(ad.add (i * 4)).block, (ad.add (i * 4)).off + 3, none⟩ = some (.slice A3 x.f3.length c3))) 24 (by kernel_rfl) ?_ (fun hHeld => ?_)
        · exact ⟨c_cf_0, c_cf_1, c_cf_2, c_cf_3, c_cf_4, y0, y1, y2, y3⟩
        refine takeWK (i := 0) (v := ?_) rfl rfl (by kernel_rfl) (by kernel_rfl) (by kernel_rfl) (by kernel_rfl) (by rfl) (by rfl) (by kernel_rfl) (fun _ _ _ h => h) (by rfl) ?_ hHeld ?_
        rotate_left 1
        · (intro w hSw; (try dsimp only at hSw); go_simp <;> (try with_reducible rfl))
        (try simp only [Act.put, List.setIfInBounds_toArray, List.set_cons_zero, List.set_cons_succ])
        refine takeWK (i := 1) (v := ?_) rfl rfl (by kernel_rfl) (by kernel_rfl) (by kernel_rfl) (by kernel_rfl) (by rfl) (by rfl) (by kernel_rfl) (fun _ _ _ h => h) (by rfl) ?_ hHeld ?_
        rotate_left 1
        · (intro w hSw; (try dsimp only at hSw); go_simp <;> (try with_reducible rfl))
        (try simp only [Act.put, List.setIfInBounds_toArray, List.set_cons_zero, List.set_cons_succ])
        refine takeWK (i := 2) (v := ?_) rfl rfl (by kernel_rfl) (by kernel_rfl) (by kernel_rfl) (by kernel_rfl) (by rfl) (by rfl) (by kernel_rfl) (fun _ _ _ h => h) (by rfl) ?_ hHeld ?_
        rotate_left 1
        · (intro w hSw; (try dsimp only at hSw); go_simp <;> (try with_reducible rfl))
        (try simp only [Act.put, List.setIfInBounds_toArray, List.set_cons_zero, List.set_cons_succ])
        refine takeWK (i := 3) (v := ?_) rfl rfl (by kernel_rfl) (by kernel_rfl) (by kernel_rfl) (by kernel_rfl) (by rfl) (by rfl) (by kernel_rfl) (fun _ _ _ h => h) (by rfl) ?_ hHeld ?_
        rotate_left 1
        · (intro w hSw; (try dsimp only at hSw); go_simp <;> (try with_reducible rfl))
        (try simp only [Act.put, List.setIfInBounds_toArray, List.set_cons_zero, List.set_cons_succ])
        refine takeWK (i := 4) (v := ?_) rfl rfl (by kernel_rfl) (by kernel_rfl) (by kernel_rfl) (by kernel_rfl) (by rfl) (by rfl) (by kernel_rfl) (fun _ _ _ h => h) (by rfl) ?_ hHeld ?_
        rotate_left 1
        · (intro w hSw; (try dsimp only at hSw); go_simp <;> (try with_reducible rfl))
        (try simp only [Act.put, List.setIfInBounds_toArray, List.set_cons_zero, List.set_cons_succ])
        refine takeWK (i := 5) (v := ?_) rfl rfl (by kernel_rfl) (by kernel_rfl) (by kernel_rfl) (by kernel_rfl) (by rfl) (by rfl) (by kernel_rfl) (fun _ _ _ h => h) (by rfl) ?_ hHeld ?_
        rotate_left 1
        · (intro w hSw; (try dsimp only at hSw); go_simp <;> (try with_reducible rfl))
        (try simp only [Act.put, List.setIfInBounds_toArray, List.set_cons_zero, List.set_cons_succ])
        refine takeWK (i := 6) (v := ?_) rfl rfl (by kernel_rfl) (by kernel_rfl) (by kernel_rfl) (by kernel_rfl) (by rfl) (by rfl) (by kernel_rfl) (fun _ _ _ h => h) (by rfl) ?_ hHeld ?_
        rotate_left 1
        · (intro w hSw; (try dsimp only at hSw); go_simp <;> (try with_reducible rfl))
        (try simp only [Act.put, List.setIfInBounds_toArray, List.set_cons_zero, List.set_cons_succ])
        refine takeWK (i := 7) (v := ?_) rfl rfl (by kernel_rfl) (by kernel_rfl) (by kernel_rfl) (by kernel_rfl) (by rfl) (by rfl) (by kernel_rfl) (fun _ _ _ h => h) (by rfl) ?_ hHeld ?_
        rotate_left 1
        · (intro w hSw; (try dsimp only at hSw); go_simp <;> (try with_reducible rfl))
        (try simp only [Act.put, List.setIfInBounds_toArray, List.set_cons_zero, List.set_cons_succ])
        refine takeWK (i := 8) (v := ?_) rfl rfl (by kernel_rfl) (by kernel_rfl) (by kernel_rfl) (by kernel_rfl) (by rfl) (by rfl) (by kernel_rfl) (fun _ _ _ h => h) (by rfl) ?_ hHeld ?_
        rotate_left 1
        · (intro w hSw; (try dsimp only at hSw); go_simp <;> (try with_reducible rfl))
        (try simp only [Act.put, List.setIfInBounds_toArray, List.set_cons_zero, List.set_cons_succ])
        refine takeWK (i := 9) (v := ?_) rfl rfl (by kernel_rfl) (by kernel_rfl) (by kernel_rfl) (by kernel_rfl) (by rfl) (by rfl) (by kernel_rfl) (fun _ _ _ h => h) (by rfl) ?_ hHeld ?_
        rotate_left 1
        · (intro w hSw; (try dsimp only at hSw); go_simp <;> (try with_reducible rfl))
        (try simp only [Act.put, List.setIfInBounds_toArray, List.set_cons_zero, List.set_cons_succ])
        refine takeWK (i := 10) (v := ?_) rfl rfl (by kernel_rfl) (by kernel_rfl) (by kernel_rfl) (by kernel_rfl) (by rfl) (by rfl) (by kernel_rfl) (fun _ _ _ h => h) (by rfl) ?_ hHeld ?_
        rotate_left 1
        · (intro w hSw; (try dsimp only at hSw); go_simp <;> (try with_reducible rfl))
        (try simp only [Act.put, List.setIfInBounds_toArray, List.set_cons_zero, List.set_cons_succ])
        refine takeWK (i := 11) (v := ?_) rfl rfl (by kernel_rfl) (by kernel_rfl) (by kernel_rfl) (by kernel_rfl) (by rfl) (by rfl) (by kernel_rfl) (fun _ _ _ h => h) (by rfl) ?_ hHeld ?_
        rotate_left 1
        · (intro w hSw; (try dsimp only at hSw); go_simp <;> (try with_reducible rfl))
        (try simp only [Act.put, List.setIfInBounds_toArray, List.set_cons_zero, List.set_cons_succ])
        refine takeWK (i := 12) (v := ?_) rfl rfl (by kernel_rfl) (by kernel_rfl) (by kernel_rfl) (by kernel_rfl) (by rfl) (by rfl) (by kernel_rfl) (fun _ _ _ h => h) (by rfl) ?_ hHeld ?_
        rotate_left 1
        · (intro w hSw; (try dsimp only at hSw); go_simp <;> (try with_reducible rfl))
        (try simp only [Act.put, List.setIfInBounds_toArray, List.set_cons_zero, List.set_cons_succ])
        refine takeWK (i := 13) (v := ?_) rfl rfl (by kernel_rfl) (by kernel_rfl) (by kernel_rfl) (by kernel_rfl) (by rfl) (by rfl) (by kernel_rfl) (fun _ _ _ h => h) (by rfl) ?_ hHeld ?_
        rotate_left 1
        · (intro w hSw; (try dsimp only at hSw); go_simp <;> (try with_reducible rfl))
        (try simp only [Act.put, List.setIfInBounds_toArray, List.set_cons_zero, List.set_cons_succ])
        refine takeWK (i := 14) (v := ?_) rfl rfl (by kernel_rfl) (by kernel_rfl) (by kernel_rfl) (by kernel_rfl) (by rfl) (by rfl) (by kernel_rfl) (fun _ _ _ h => h) (by rfl) ?_ hHeld ?_
        rotate_left 1
        · (intro w hSw; (try dsimp only at hSw); go_simp <;> (try with_reducible rfl))
        (try simp only [Act.put, List.setIfInBounds_toArray, List.set_cons_zero, List.set_cons_succ])
        refine takeWK (i := 15) (v := ?_) rfl rfl (by kernel_rfl) (by kernel_rfl) (by kernel_rfl) (by kernel_rfl) (by rfl) (by rfl) (by kernel_rfl) (fun _ _ _ h => h) (by rfl) ?_ hHeld ?_
        rotate_left 1
        · (intro w hSw; (try dsimp only at hSw); go_simp <;> (try with_reducible rfl))
        (try simp only [Act.put, List.setIfInBounds_toArray, List.set_cons_zero, List.set_cons_succ])
        refine takeWK (i := 16) (v := ?_) rfl rfl (by kernel_rfl) (by kernel_rfl) (by kernel_rfl) (by kernel_rfl) (by rfl) (by rfl) (by kernel_rfl) (fun _ _ _ h => h) (by rfl) ?_ hHeld ?_
        rotate_left 1
        · (intro w hSw; (try dsimp only at hSw); go_simp <;> (try with_reducible rfl))
        (try simp only [Act.put, List.setIfInBounds_toArray, List.set_cons_zero, List.set_cons_succ])
        refine takeWK (i := 17) (v := ?_) rfl rfl (by kernel_rfl) (by kernel_rfl) (by kernel_rfl) (by kernel_rfl) (by rfl) (by rfl) (by kernel_rfl) (fun _ _ _ h => h) (by rfl) ?_ hHeld ?_
        rotate_left 1
        · (intro w hSw; (try dsimp only at hSw); go_simp <;> (try with_reducible rfl))
        (try simp only [Act.put, List.setIfInBounds_toArray, List.set_cons_zero, List.set_cons_succ])
        refine takeWK (i := 18) (v := ?_) rfl rfl (by kernel_rfl) (by kernel_rfl) (by kernel_rfl) (by kernel_rfl) (by rfl) (by rfl) (by kernel_rfl) (fun _ _ _ h => h) (by rfl) ?_ hHeld ?_
        rotate_left 1
        · (intro w hSw; (try dsimp only at hSw); go_simp <;> (try with_reducible rfl))
        (try simp only [Act.put, List.setIfInBounds_toArray, List.set_cons_zero, List.set_cons_succ])
        refine takeWK (i := 19) (v := ?_) rfl rfl (by kernel_rfl) (by kernel_rfl) (by kernel_rfl) (by kernel_rfl) (by rfl) (by rfl) (by kernel_rfl) (fun _ _ _ h => h) (by rfl) ?_ hHeld ?_
        rotate_left 1
        · (intro w hSw; (try dsimp only at hSw); go_simp <;> (try with_reducible rfl))
        (try simp only [Act.put, List.setIfInBounds_toArray, List.set_cons_zero, List.set_cons_succ])
        refine takeWK (i := 20) (v := ?_) rfl rfl (by kernel_rfl) (by kernel_rfl) (by kernel_rfl) (by kernel_rfl) (by rfl) (by rfl) (by kernel_rfl) (fun _ _ _ h => h) (by rfl) ?_ hHeld ?_
        rotate_left 1
        · (intro w hSw; (try dsimp only at hSw); go_simp <;> (try with_reducible rfl))
        (try simp only [Act.put, List.setIfInBounds_toArray, List.set_cons_zero, List.set_cons_succ])
        refine takeWK (i := 21) (v := ?_) rfl rfl (by kernel_rfl) (by kernel_rfl) (by kernel_rfl) (by kernel_rfl) (by rfl) (by rfl) (by kernel_rfl) (fun _ _ _ h => h) (by rfl) ?_ hHeld ?_
        rotate_left 1
        · (intro w hSw; (try dsimp only at hSw); go_simp <;> (try with_reducible rfl))
        (try simp only [Act.put, List.setIfInBounds_toArray, List.set_cons_zero, List.set_cons_succ])
        refine takeWK (i := 22) (v := ?_) rfl rfl (by kernel_rfl) (by kernel_rfl) (by kernel_rfl) (by kernel_rfl) (by rfl) (by rfl) (by kernel_rfl) (fun _ _ _ h => h) (by rfl) ?_ hHeld ?_
        rotate_left 1
        · (intro w hSw; (try dsimp only at hSw); go_simp <;> (try with_reducible rfl))
        (try simp only [Act.put, List.setIfInBounds_toArray, List.set_cons_zero, List.set_cons_succ])
        refine readyK (rs := [23]) (by kernel_rfl) (by simp) (AllK.cons (i := 23) rfl (by rfl) (fun K hK => ?_) AllK.nil)
        clear hHeld
        (refine wp_of_list (ops := #[]) (by rfl) ?_; (with_reducible refine gate_dst (N := 7) rfl ?_); refine box_event ?hg (N := 7) ?hd (cs := #[.int .i64 0, .int .i64 0, .slice none 0 0, .slice none 0 0]) (t := 44) ?hr ?_; (case hd => rfl); (case hg => rfl); (case hr => first | (go_simp; done) | (go_simp; rfl)); intro gl hgb_ wb22 hbox_ hb5_; have h_new := Has.ownNew Hb21.out hgb_ hb5_ hbox_; clear hgb_ hb5_ hbox_; have Hb22 := Aside0.mk h_new; clear h_new Hb21; clear c_cf_0 c_cf_1 c_cf_2 c_cf_3 c_cf_4 y0 y1 y2 y3; have c_cf_0 : wb22.cell? ⟨g2, 0, none⟩ = some (.int .i64 c) := (blk_cell (Hb22.out.up2).blk 0).trans rfl; have c_cf_1 : wb22.cell? ⟨g2, 1, none⟩ = some (.int .i64 r) := (blk_cell (Hb22.out.up2).blk 1).trans rfl; have c_cf_2 : wb22.cell? ⟨g2, 2, none⟩ = some (.int .i64 p) := (blk_cell (Hb22.out.up2).blk 2).trans rfl; have c_cf_3 : wb22.cell? ⟨g2, 3, none⟩ = some (.int .i64 wi) := (blk_cell (Hb22.out.up2).blk 3).trans rfl; have c_cf_4 : wb22.cell? ⟨g2, 4, none⟩ = some (.int .u64 s) := (blk_cell (Hb22.out.up2).blk 4).trans rfl; have y0 : wb22.cell? (ad.add (i * 4)) = some (.int .i64 x.f0) := pw_cell_below (Hb22.out.below.mono hb0) Y0.out; have y1 : wb22.cell? ⟨(ad.add (i * 4)).block, (ad.add (i * 4)).off + 1, none⟩ = some (.int .i64 x.f1) := pw_cell_below (Hb22.out.below.mono hb0) Y1.out; have y2 : wb22.cell? ⟨(ad.add (i * 4)).block, (ad.add (i * 4)).off + 2, none⟩ = some (.slice A2 x.f2.length c2) := pw_cell_below (Hb22.out.below.mono hb0) Y2.out; have y3 : wb22.cell? ⟨(ad.add (i * 4)).block, (ad.add (i * 4)).off + 3, none⟩ = some (.slice A3 x.f3.length c3) := pw_cell_below (Hb22.out.below.mono hb0) Y3.out; change K _ _)
        refine hK.out _ _ ?_ (fun hHeld => ?_)
        · exact fun _ => ⟨c_cf_0, c_cf_1, c_cf_2, c_cf_3, c_cf_4, y0, y1, y2, y3⟩
        replace hHeld := hHeld (by rfl)
        clear hK K
        (try simp only [Act.put, List.setIfInBounds_toArray, List.set_cons_zero, List.set_cons_succ])
        refine readyK (rs := [24]) (by kernel_rfl) (by simp) (AllK.cons (i := 24) rfl (by rfl) (fun K hK => ?_) AllK.nil)
        clear hHeld
        (refine wp_of_list (ops := #[]) (by rfl) ?_; (with_reducible refine gate_store (t := 44) (p := 7) rfl ?_); refine wp_storeB rfl rfl 44 _ _ rfl (g := gl) (j := 0) (u := (.agg #[.int .i64 rg, .int .i64 bs, .slice none 0 0, .slice none 0 0])) (cs2 := #[.int .i64 rg, .int .i64 bs, .slice none 0 0, .slice none 0 0]) [.int .i64 rg, .int .i64 bs, .slice none 0 0, .slice none 0 0] rfl rfl rfl ?sI (by simp [Value.oneCell']) rfl (Hb22.out) (by simp) ?_; (case sI => first | rfl | kernel_rfl); intro wb23 h_new; have Hb23 := Aside0.mk h_new; clear h_new Hb22; clear c_cf_0 c_cf_1 c_cf_2 c_cf_3 c_cf_4 y0 y1 y2 y3; have c_cf_0 : wb23.cell? ⟨g2, 0, none⟩ = some (.int .i64 c) := (blk_cell (Hb23.out.up2).blk 0).trans rfl; have c_cf_1 : wb23.cell? ⟨g2, 1, none⟩ = some (.int .i64 r) := (blk_cell (Hb23.out.up2).blk 1).trans rfl; have c_cf_2 : wb23.cell? ⟨g2, 2, none⟩ = some (.int .i64 p) := (blk_cell (Hb23.out.up2).blk 2).trans rfl; have c_cf_3 : wb23.cell? ⟨g2, 3, none⟩ = some (.int .i64 wi) := (blk_cell (Hb23.out.up2).blk 3).trans rfl; have c_cf_4 : wb23.cell? ⟨g2, 4, none⟩ = some (.int .u64 s) := (blk_cell (Hb23.out.up2).blk 4).trans rfl; have y0 : wb23.cell? (ad.add (i * 4)) = some (.int .i64 x.f0) := pw_cell_below (Hb23.out.below.mono hb0) Y0.out; have y1 : wb23.cell? ⟨(ad.add (i * 4)).block, (ad.add (i * 4)).off + 1, none⟩ = some (.int .i64 x.f1) := pw_cell_below (Hb23.out.below.mono hb0) Y1.out; have y2 : wb23.cell? ⟨(ad.add (i * 4)).block, (ad.add (i * 4)).off + 2, none⟩ = some (.slice A2 x.f2.length c2) := pw_cell_below (Hb23.out.below.mono hb0) Y2.out; have y3 : wb23.cell? ⟨(ad.add (i * 4)).block, (ad.add (i * 4)).off + 3, none⟩ = some (.slice A3 x.f3.length c3) := pw_cell_below (Hb23.out.below.mono hb0) Y3.out; change K _ _)
        refine hK.out _ _ ?_ (fun hHeld => ?_)
        · exact fun h => absurd (show (true = false) from h) (by decide)
        clear hHeld
        clear hK K
        (try simp only [Act.put, List.setIfInBounds_toArray, List.set_cons_zero, List.set_cons_succ])
        refine doneK (by kernel_rfl) ?_ _
        clear c_cf_0 c_cf_1 c_cf_2 c_cf_3 c_cf_4 y0 y1 y2 y3
        have c_cf_0 : wb23.cell? ⟨g2, 0, none⟩ = some (.int .i64 c) := (blk_cell (Hb23.out.up2).blk 0).trans rfl
        have c_cf_1 : wb23.cell? ⟨g2, 1, none⟩ = some (.int .i64 r) := (blk_cell (Hb23.out.up2).blk 1).trans rfl
        have c_cf_2 : wb23.cell? ⟨g2, 2, none⟩ = some (.int .i64 p) := (blk_cell (Hb23.out.up2).blk 2).trans rfl
        have c_cf_3 : wb23.cell? ⟨g2, 3, none⟩ = some (.int .i64 wi) := (blk_cell (Hb23.out.up2).blk 3).trans rfl
        have c_cf_4 : wb23.cell? ⟨g2, 4, none⟩ = some (.int .u64 s) := (blk_cell (Hb23.out.up2).blk 4).trans rfl
        have c_ln_0 : wb23.cell? ⟨gl, 0, none⟩ = some (.int .i64 rg) := (blk_cell (Hb23.out).blk 0).trans rfl
        have c_ln_1 : wb23.cell? ⟨gl, 1, none⟩ = some (.int .i64 bs) := (blk_cell (Hb23.out).blk 1).trans rfl
        have c_ln_2 : wb23.cell? ⟨gl, 2, none⟩ = some (.slice none 0 0) := (blk_cell (Hb23.out).blk 2).trans rfl
        have c_ln_3 : wb23.cell? ⟨gl, 3, none⟩ = some (.slice none 0 0) := (blk_cell (Hb23.out).blk 3).trans rfl
        have y0 : wb23.cell? (ad.add (i * 4)) = some (.int .i64 x.f0) := pw_cell_below (Hb23.out.below.mono hb0) Y0.out
        have y1 : wb23.cell? ⟨(ad.add (i * 4)).block, (ad.add (i * 4)).off + 1, none⟩ = some (.int .i64 x.f1) := pw_cell_below (Hb23.out.below.mono hb0) Y1.out
        have y2 : wb23.cell? ⟨(ad.add (i * 4)).block, (ad.add (i * 4)).off + 2, none⟩ = some (.slice A2 x.f2.length c2) := pw_cell_below (Hb23.out.below.mono hb0) Y2.out
        have y3 : wb23.cell? ⟨(ad.add (i * 4)).block, (ad.add (i * 4)).off + 3, none⟩ = some (.slice A3 x.f3.length c3) := pw_cell_below (Hb23.out.below.mono hb0) Y3.out
        go_wp2_with (first | ((go_at_call 15); (with_reducible refine (joustref03_Near.calls 100 c r p wi s (rg : Int) nl wb23 HNL.out).mono ?_); rintro e_ wb34 ⟨v_, rfl, hR_, hb_⟩; have h_new := Has.newRow Hb23.out hb_ hR_; clear hb_ hR_; obtain ⟨A_ne, c_ne, ev_⟩ := h_new.rowIs; rw [show (nl).length = nn from by exact HNN.out] at ev_; subst ev_; have hc_ne := h_new.rowN.2.1; have Hb34 := Aside0.mk h_new; clear h_new Hb23; clear c_cf_0 c_cf_1 c_cf_2 c_cf_3 c_cf_4 c_ln_0 c_ln_1 c_ln_2 c_ln_3 y0 y1 y2 y3; have c_cf_0 : wb34.cell? ⟨g2, 0, none⟩ = some (.int .i64 c) := (blk_cell (Hb34.out.up3).blk 0).trans rfl; have c_cf_1 : wb34.cell? ⟨g2, 1, none⟩ = some (.int .i64 r) := (blk_cell (Hb34.out.up3).blk 1).trans rfl; have c_cf_2 : wb34.cell? ⟨g2, 2, none⟩ = some (.int .i64 p) := (blk_cell (Hb34.out.up3).blk 2).trans rfl; have c_cf_3 : wb34.cell? ⟨g2, 3, none⟩ = some (.int .i64 wi) := (blk_cell (Hb34.out.up3).blk 3).trans rfl; have c_cf_4 : wb34.cell? ⟨g2, 4, none⟩ = some (.int .u64 s) := (blk_cell (Hb34.out.up3).blk 4).trans rfl; have c_ln_0 : wb34.cell? ⟨gl, 0, none⟩ = some (.int .i64 rg) := (blk_cell (Hb34.out.sw).blk 0).trans rfl; have c_ln_1 : wb34.cell? ⟨gl, 1, none⟩ = some (.int .i64 bs) := (blk_cell (Hb34.out.sw).blk 1).trans rfl; have c_ln_2 : wb34.cell? ⟨gl, 2, none⟩ = some (.slice none 0 0) := (blk_cell (Hb34.out.sw).blk 2).trans rfl; have c_ln_3 : wb34.cell? ⟨gl, 3, none⟩ = some (.slice none 0 0) := (blk_cell (Hb34.out.sw).blk 3).trans rfl; have y0 : wb34.cell? (ad.add (i * 4)) = some (.int .i64 x.f0) := pw_cell_below (Hb34.out.below.mono hb0) Y0.out; have y1 : wb34.cell? ⟨(ad.add (i * 4)).block, (ad.add (i * 4)).off + 1, none⟩ = some (.int .i64 x.f1) := pw_cell_below (Hb34.out.below.mono hb0) Y1.out; have y2 : wb34.cell? ⟨(ad.add (i * 4)).block, (ad.add (i * 4)).off + 2, none⟩ = some (.slice A2 x.f2.length c2) := pw_cell_below (Hb34.out.below.mono hb0) Y2.out; have y3 : wb34.cell? ⟨(ad.add (i * 4)).block, (ad.add (i * 4)).off + 3, none⟩ = some (.slice A3 x.f3.length c3) := pw_cell_below (Hb34.out.below.mono hb0) Y3.out))
        have HX := Aside0.mk (((Hb34.out.drop.up2.up2.up2).rowNil (kcells 1) 41).rowNil Kd.bool 4)
        clear Hb34
        go_loopg [10] (n + 1) (fun kq v10 w' => ∃ (k : Nat) (B2 B3 : Option Addr) (d2 d3 : Nat) (vs : List Value), v10 = .int .i64 (k : Int) ∧ Aside0 (k + kq = n + 1) ∧ Aside0 (k ≤ n) ∧ Aside0 (vs.length = k) ∧ Aside0 (Has w0 base w' (row Kd.bool 4 (.slice B2 (k) d2) (x.f2.take (k)) :: row (kcells 1) 41 (.slice B3 (k) d3) (raw1 vs) :: blk gl (.cells #[.int .i64 (rg : Int), .int .i64 (bs : Int), .slice B2 (k) d2, .slice B3 (k) d3] 44 (0, 0)) :: row (kcells 4) 44 (.slice A i cA) (rawLs xs ((fitL c r p wi s l).take i)) :: blk g2 (.cells #[.int .i64 c, .int .i64 r, .int .i64 p, .int .i64 wi, .int .u64 s] 24 (0, 0)) :: (rowsB vs ((List.range k).map (fitRow nn x.f3)) ++ (linesA xs ((fitL c r p wi s l).take i) ++ F)))))
        case atStart => exact ⟨0, none, none, 0, 0, [], rfl, ⟨by omega⟩, ⟨by omega⟩, ⟨rfl⟩, HX⟩
        case round =>
          clear HX
          obtain ⟨k, B2, B3, d2, d3, vs, rfl, HK2, HI2, HVS, HV⟩ := hrel
          have hkk := HI2.out
          by_cases hkn : k < n
          · have f1 : decide ((k : Int) < (n : Int)) = true := decide_eq_true (by omega)
            have f1b : decide (k < n) = true := decide_eq_true hkn
            have f2 : (0 : Int) ≤ (k : Int) := by omega
            have f3 : (k : Int) < (x.f2.length : Int) := by omega
            have hk2 : k < x.f2.length := by omega
            obtain ⟨ad2, eb, z2⟩ := rdBool G2.out k hk2
            subst eb
            obtain ⟨bt, hbt⟩ : ∃ bt, x.f2[k] = bt := ⟨_, rfl⟩
            rw [hbt] at z2
            have Z2 := Aside0.mk z2
            have HTK : Aside0 (x.f2.take k ++ [bt] = x.f2.take (k + 1)) := ⟨by rw [List.take_succ_eq_append_getElem hk2, hbt]⟩
            have HTL : Aside0 ((x.f2.take k).length = k) := ⟨by rw [List.length_take]; omega⟩
            have HRL : Aside0 ((raw1 vs).length = k) := ⟨by unfold raw1; rw [List.length_map]; exact HVS.out⟩
            clear z2 hbt
            cases gk with
            | zero => exact absurd HK2.out (by omega)
            | succ k2 =>
              have c_ln_0 : wr.cell? ⟨gl, 0, none⟩ = some (.int .i64 (rg : Int)) := (blk_cell (HV.out.up2).blk 0).trans rfl
              have c_ln_1 : wr.cell? ⟨gl, 1, none⟩ = some (.int .i64 (bs : Int)) := (blk_cell (HV.out.up2).blk 1).trans rfl
              have c_ln_2 : wr.cell? ⟨gl, 2, none⟩ = some (.slice B2 k d2) := (blk_cell (HV.out.up2).blk 2).trans rfl
              have c_ln_3 : wr.cell? ⟨gl, 3, none⟩ = some (.slice B3 k d3) := (blk_cell (HV.out.up2).blk 3).trans rfl
              have y2 : wr.cell? ⟨(ad.add (i * 4)).block, (ad.add (i * 4)).off + 2, none⟩ = some (.slice (some ad2) x.f2.length c2) := pw_cell_below (HV.out.below.mono hb0) Y2.out
              have z2 : wr.cell? (ad2.add k) = some (.bool bt) := pw_cell_below (HV.out.below.mono hb0) Z2.out
              go_wp2
              have Hd25 := Aside0.mk HV.out.drew
              clear c_ln_0 c_ln_1 c_ln_2 c_ln_3 y2 z2
              have c_ln_0 : (wr).drew.cell? ⟨gl, 0, none⟩ = some (.int .i64 (rg : Int)) := (blk_cell (Hd25.out.up2).blk 0).trans rfl
              have c_ln_1 : (wr).drew.cell? ⟨gl, 1, none⟩ = some (.int .i64 (bs : Int)) := (blk_cell (Hd25.out.up2).blk 1).trans rfl
              have c_ln_2 : (wr).drew.cell? ⟨gl, 2, none⟩ = some (.slice B2 k d2) := (blk_cell (Hd25.out.up2).blk 2).trans rfl
              have c_ln_3 : (wr).drew.cell? ⟨gl, 3, none⟩ = some (.slice B3 k d3) := (blk_cell (Hd25.out.up2).blk 3).trans rfl
              have y2 : (wr).drew.cell? ⟨(ad.add (i * 4)).block, (ad.add (i * 4)).off + 2, none⟩ = some (.slice (some ad2) x.f2.length c2) := pw_cell_below (Hd25.out.below.mono hb0) Y2.out
              have z2 : (wr).drew.cell? (ad2.add k) = some (.bool bt) := pw_cell_below (Hd25.out.below.mono hb0) Z2.out
              refine wp_regionK (T := (fun w' => w'.cell? ⟨gl, 0, none⟩ = some (.int .i64 (rg : Int)) ∧ w'.cell? ⟨gl, 1, none⟩ = some (.int .i64 (bs : Int)) ∧ w'.cell? ⟨gl, 2, none⟩ = some (.slice B2 k d2) ∧ w'.cell? ⟨gl, 3, none⟩ = some (.slice B3 k d3) ∧ w'.cell? ⟨(ad.add (i * 4)).block, (ad.add (i * 4)).off + 2, none⟩ = some (.slice (some ad2) x.f2.length c2) ∧ w'.cell? (ad2.add k) = some (.bool bt))) 13 (by kernel_rfl) ?_ (fun hHeld => ?_)
              · exact ⟨c_ln_0, c_ln_1, c_ln_2, c_ln_3, y2, z2⟩
              refine takeWK (i := 0) (v := ?_) rfl rfl (by kernel_rfl) (by kernel_rfl) (by kernel_rfl) (by kernel_rfl) (by rfl) (by rfl) (by kernel_rfl) (fun _ _ _ h => h) (by rfl) ?_ hHeld ?_
              rotate_left 1
              · (intro w hSw; (try dsimp only at hSw); go_simp <;> (try with_reducible rfl))
              (try simp only [Act.put, List.setIfInBounds_toArray, List.set_cons_zero, List.set_cons_succ])
              refine takeWK (i := 1) (v := ?_) rfl rfl (by kernel_rfl) (by kernel_rfl) (by kernel_rfl) (by kernel_rfl) (by rfl) (by rfl) (by kernel_rfl) (fun _ _ _ h => h) (by rfl) ?_ hHeld ?_
              rotate_left 1
              · (intro w hSw; (try dsimp only at hSw); go_simp <;> (try with_reducible rfl))
              (try simp only [Act.put, List.setIfInBounds_toArray, List.set_cons_zero, List.set_cons_succ])
              refine takeWK (i := 2) (v := ?_) rfl rfl (by kernel_rfl) (by kernel_rfl) (by kernel_rfl) (by kernel_rfl) (by rfl) (by rfl) (by kernel_rfl) (fun _ _ _ h => h) (by rfl) ?_ hHeld ?_
              rotate_left 1
              · (intro w hSw; (try dsimp only at hSw); go_simp <;> (try with_reducible rfl))
              (try simp only [Act.put, List.setIfInBounds_toArray, List.set_cons_zero, List.set_cons_succ])
              refine takeWK (i := 3) (v := ?_) rfl rfl (by kernel_rfl) (by kernel_rfl) (by kernel_rfl) (by kernel_rfl) (by rfl) (by rfl) (by kernel_rfl) (fun _ _ _ h => h) (by rfl) ?_ hHeld ?_
              rotate_left 1
              · (intro w hSw; (try dsimp only at hSw); go_simp <;> (try with_reducible rfl))
              (try simp only [Act.put, List.setIfInBounds_toArray, List.set_cons_zero, List.set_cons_succ])
              refine takeWK (i := 4) (v := ?_) rfl rfl (by kernel_rfl) (by kernel_rfl) (by kernel_rfl) (by kernel_rfl) (by rfl) (by rfl) (by kernel_rfl) (fun _ _ _ h => h) (by rfl) ?_ hHeld ?_
              rotate_left 1
              · (intro w hSw; (try dsimp only at hSw); go_simp <;> (try with_reducible rfl))
              (try simp only [Act.put, List.setIfInBounds_toArray, List.set_cons_zero, List.set_cons_succ])
              refine takeWK (i := 5) (v := ?_) rfl rfl (by kernel_rfl) (by kernel_rfl) (by kernel_rfl) (by kernel_rfl) (by rfl) (by rfl) (by kernel_rfl) (fun _ _ _ h => h) (by rfl) ?_ hHeld ?_
              rotate_left 1
              · (intro w hSw; (try dsimp only at hSw); go_simp <;> (try with_reducible rfl))
              (try simp only [Act.put, List.setIfInBounds_toArray, List.set_cons_zero, List.set_cons_succ])
              refine takeWK (i := 6) (v := ?_) rfl rfl (by kernel_rfl) (by kernel_rfl) (by kernel_rfl) (by kernel_rfl) (by rfl) (by rfl) (by kernel_rfl) (fun _ _ _ h => h) (by rfl) ?_ hHeld ?_
              rotate_left 1
              · (intro w hSw; (try dsimp only at hSw); go_simp <;> (try with_reducible rfl))
              (try simp only [Act.put, List.setIfInBounds_toArray, List.set_cons_zero, List.set_cons_succ])
              refine takeWK (i := 7) (v := ?_) rfl rfl (by kernel_rfl) (by kernel_rfl) (by kernel_rfl) (by kernel_rfl) (by rfl) (by rfl) (by kernel_rfl) (fun _ _ _ h => h) (by rfl) ?_ hHeld ?_
              rotate_left 1
              · (intro w hSw; (try dsimp only at hSw); go_simp <;> (try with_reducible rfl))
              (try simp only [Act.put, List.setIfInBounds_toArray, List.set_cons_zero, List.set_cons_succ])
              refine takeWK (i := 8) (v := ?_) rfl rfl (by kernel_rfl) (by kernel_rfl) (by kernel_rfl) (by kernel_rfl) (by rfl) (by rfl) (by kernel_rfl) (fun _ _ _ h => h) (by rfl) ?_ hHeld ?_
              rotate_left 1
              · (intro w hSw; (try dsimp only at hSw); go_simp <;> (try with_reducible rfl))
              (try simp only [Act.put, List.setIfInBounds_toArray, List.set_cons_zero, List.set_cons_succ])
              refine takeWK (i := 9) (v := ?_) rfl rfl (by kernel_rfl) (by kernel_rfl) (by kernel_rfl) (by kernel_rfl) (by rfl) (by rfl) (by kernel_rfl) (fun _ _ _ h => h) (by rfl) ?_ hHeld ?_
              rotate_left 1
              · (intro w hSw; (try dsimp only at hSw); go_simp <;> (try with_reducible rfl))
              (try simp only [Act.put, List.setIfInBounds_toArray, List.set_cons_zero, List.set_cons_succ])
              refine readyK (rs := [10]) (by kernel_rfl) (by simp) (AllK.cons (i := 10) rfl (by rfl) (fun K hK => ?_) AllK.nil)
              clear hHeld
              (refine wp_of_list (ops := #[]) (by rfl) ?_; (with_reducible refine gate_dst (N := 69) rfl ?_); refine wp_litF Kd.bool 4 rfl (N := 69) rfl (xs := [bt]) (inner := [.bool bt]) (n := 1) ?lR ?lP rfl (by decide) (Hd25.out) ?_; (case lR => first | (go_simp; done) | (go_simp; rfl)); (case lP => exact reps_one rfl rfl); intro gl1 c_l1 wd26 h_new hc_l1; have Hd26 := Aside0.mk h_new; clear h_new Hd25; clear c_ln_0 c_ln_1 c_ln_2 c_ln_3 y2 z2; have c_ln_0 : wd26.cell? ⟨gl, 0, none⟩ = some (.int .i64 (rg : Int)) := (blk_cell (Hd26.out.up3).blk 0).trans rfl; have c_ln_1 : wd26.cell? ⟨gl, 1, none⟩ = some (.int .i64 (bs : Int)) := (blk_cell (Hd26.out.up3).blk 1).trans rfl; have c_ln_2 : wd26.cell? ⟨gl, 2, none⟩ = some (.slice B2 k d2) := (blk_cell (Hd26.out.up3).blk 2).trans rfl; have c_ln_3 : wd26.cell? ⟨gl, 3, none⟩ = some (.slice B3 k d3) := (blk_cell (Hd26.out.up3).blk 3).trans rfl; have y2 : wd26.cell? ⟨(ad.add (i * 4)).block, (ad.add (i * 4)).off + 2, none⟩ = some (.slice (some ad2) x.f2.length c2) := pw_cell_below (Hd26.out.below.mono hb0) Y2.out; have z2 : wd26.cell? (ad2.add k) = some (.bool bt) := pw_cell_below (Hd26.out.below.mono hb0) Z2.out; change K _ _)
              refine hK.out _ _ ?_ (fun hHeld => ?_)
              · exact fun _ => ⟨c_ln_0, c_ln_1, c_ln_2, c_ln_3, y2, z2⟩
              replace hHeld := hHeld (by rfl)
              clear hK K
              (try simp only [Act.put, List.setIfInBounds_toArray, List.set_cons_zero, List.set_cons_succ])
              refine readyK (rs := [11]) (by kernel_rfl) (by simp) (AllK.cons (i := 11) rfl (by rfl) (fun K hK => ?_) AllK.nil)
              clear hHeld
              (refine wp_of_list (ops := #[]) (by rfl) ?_; (with_reducible refine gate_dst (N := 70) rfl ?_); at_builtin; refine wp_appR Kd.bool rfl (.tmp 60) (.tmp 69) 41 4 (.bool false) 1 rfl Try.underlying41 infoB rfl (by decide) (by decide) (n := k) (m := 1) ((x.f2.take k)) ([bt]) rfl rfl (Hd26.out.sw) (HTL.out) ?aL ?_; (case aL => rw [HTL.out]; omega); intro A_s2 c_s2 wd27 h_new hc_s2; rw [show ((x.f2.take k)) ++ ([bt]) = (x.f2.take (k + 1)) from HTK.out] at h_new; have Hd27 := Aside0.mk h_new; clear h_new Hd26; clear c_ln_0 c_ln_1 c_ln_2 c_ln_3 y2 z2; have c_ln_0 : wd27.cell? ⟨gl, 0, none⟩ = some (.int .i64 (rg : Int)) := (blk_cell (Hd27.out.up2).blk 0).trans rfl; have c_ln_1 : wd27.cell? ⟨gl, 1, none⟩ = some (.int .i64 (bs : Int)) := (blk_cell (Hd27.out.up2).blk 1).trans rfl; have c_ln_2 : wd27.cell? ⟨gl, 2, none⟩ = some (.slice B2 k d2) := (blk_cell (Hd27.out.up2).blk 2).trans rfl; have c_ln_3 : wd27.cell? ⟨gl, 3, none⟩ = some (.slice B3 k d3) := (blk_cell (Hd27.out.up2).blk 3).trans rfl; have y2 : wd27.cell? ⟨(ad.add (i * 4)).block, (ad.add (i * 4)).off + 2, none⟩ = some (.slice (some ad2) x.f2.length c2) := pw_cell_below (Hd27.out.below.mono hb0) Y2.out; have z2 : wd27.cell? (ad2.add k) = some (.bool bt) := pw_cell_below (Hd27.out.below.mono hb0) Z2.out; change K _ _)
              refine hK.out _ _ ?_ (fun hHeld => ?_)
              · exact fun _ => ⟨c_ln_0, c_ln_1, c_ln_2, c_ln_3, y2, z2⟩
              replace hHeld := hHeld (by rfl)
              clear hK K
              (try simp only [Act.put, List.setIfInBounds_toArray, List.set_cons_zero, List.set_cons_succ])
              refine takeWK (i := 12) (v := ?_) rfl rfl (by kernel_rfl) (by kernel_rfl) (by kernel_rfl) (by kernel_rfl) (by rfl) (by rfl) (by kernel_rfl) (fun _ _ _ h => h) (by rfl) ?_ hHeld ?_
              rotate_left 1
              · (intro w hSw; (try dsimp only at hSw); go_simp <;> (try with_reducible rfl))
              (try simp only [Act.put, List.setIfInBounds_toArray, List.set_cons_zero, List.set_cons_succ])
              refine readyK (rs := [13]) (by kernel_rfl) (by simp) (AllK.cons (i := 13) rfl (by rfl) (fun K hK => ?_) AllK.nil)
              clear hHeld
              (refine wp_of_list (ops := #[]) (by rfl) ?_; (with_reducible refine gate_store (t := 41) (p := 71) rfl ?_); refine wp_storeB rfl rfl 41 _ _ rfl (g := gl) (j := 2) (u := (.slice A_s2 (k + 1) c_s2)) (cs2 := #[.int .i64 (rg : Int), .int .i64 (bs : Int), .slice A_s2 (k + 1) c_s2, .slice B3 k d3]) [.slice A_s2 (k + 1) c_s2] rfl rfl rfl ?sI (by simp [Value.oneCell']) rfl (Hd27.out.up2) (by simp) ?_; (case sI => first | rfl | kernel_rfl); intro wd28 h_new; have Hd28 := Aside0.mk h_new; clear h_new Hd27; clear c_ln_0 c_ln_1 c_ln_2 c_ln_3 y2 z2; have c_ln_0 : wd28.cell? ⟨gl, 0, none⟩ = some (.int .i64 (rg : Int)) := (blk_cell (Hd28.out).blk 0).trans rfl; have c_ln_1 : wd28.cell? ⟨gl, 1, none⟩ = some (.int .i64 (bs : Int)) := (blk_cell (Hd28.out).blk 1).trans rfl; have c_ln_2 : wd28.cell? ⟨gl, 2, none⟩ = some (.slice A_s2 (k + 1) c_s2) := (blk_cell (Hd28.out).blk 2).trans rfl; have c_ln_3 : wd28.cell? ⟨gl, 3, none⟩ = some (.slice B3 k d3) := (blk_cell (Hd28.out).blk 3).trans rfl; have y2 : wd28.cell? ⟨(ad.add (i * 4)).block, (ad.add (i * 4)).off + 2, none⟩ = some (.slice (some ad2) x.f2.length c2) := pw_cell_below (Hd28.out.below.mono hb0) Y2.out; have z2 : wd28.cell? (ad2.add k) = some (.bool bt) := pw_cell_below (Hd28.out.below.mono hb0) Z2.out; change K _ _)
              refine hK.out _ _ ?_ (fun hHeld => ?_)
              · exact fun h => absurd (show (true = false) from h) (by decide)
              clear hHeld
              clear hK K
              (try simp only [Act.put, List.setIfInBounds_toArray, List.set_cons_zero, List.set_cons_succ])
              refine doneK (by kernel_rfl) ?_ _
              go_wp2_with (first | ((with_reducible refine gate_dst (N := 73) rfl ?_); refine wp_make Kd.bool 4 rfl (N := 73) rfl 41 _ _ rfl ((nn : Int)) (nn) ?mX ?mY (rfl) Try.underlying41 (.bool false) 1 infoB rfl (by decide) (by decide) (false) ?mZ (by omega) (Hd28.out) ?_; (case mX => first | rfl | (go_simp; done)); (case mY => first | rfl | (go_simp; done)); (case mZ => exact rfl); intro grw c_rw wd39 h_new hc_rw; have Hd39 := Aside0.mk h_new; clear h_new Hd28; clear c_ln_0 c_ln_1 c_ln_2 c_ln_3 y2 z2; have c_ln_0 : wd39.cell? ⟨gl, 0, none⟩ = some (.int .i64 (rg : Int)) := (blk_cell (Hd39.out.sw).blk 0).trans rfl; have c_ln_1 : wd39.cell? ⟨gl, 1, none⟩ = some (.int .i64 (bs : Int)) := (blk_cell (Hd39.out.sw).blk 1).trans rfl; have c_ln_2 : wd39.cell? ⟨gl, 2, none⟩ = some (.slice A_s2 (k + 1) c_s2) := (blk_cell (Hd39.out.sw).blk 2).trans rfl; have c_ln_3 : wd39.cell? ⟨gl, 3, none⟩ = some (.slice B3 k d3) := (blk_cell (Hd39.out.sw).blk 3).trans rfl; have y2 : wd39.cell? ⟨(ad.add (i * 4)).block, (ad.add (i * 4)).off + 2, none⟩ = some (.slice (some ad2) x.f2.length c2) := pw_cell_below (Hd39.out.below.mono hb0) Y2.out; have z2 : wd39.cell? (ad2.add k) = some (.bool bt) := pw_cell_below (Hd39.out.below.mono hb0) Z2.out))
              have HX := Aside0.mk (Hd39.out.up5.up5.up3.up5.up5.up5)
              rw [← rowM_0 nn x.f3 k] at HX
              clear Hd39
              go_loopg [12] (nn + 1) (fun kq v12 w' => ∃ q : Nat, v12 = .int .i64 (q : Int) ∧ Aside0 (q + kq = nn + 1) ∧ Aside0 (q ≤ nn) ∧ Aside0 (Has w0 base w' (row Kd.bool 4 (.slice (some ⟨grw, 0, none⟩) nn c_rw) (rowM nn x.f3 k q) :: row Kd.bool 4 (.slice A_s2 (k + 1) c_s2) (x.f2.take (k + 1)) :: row (kcells 1) 41 (.slice B3 (k) d3) (raw1 vs) :: blk gl (.cells #[.int .i64 (rg : Int), .int .i64 (bs : Int), .slice A_s2 (k + 1) c_s2, .slice B3 (k) d3] 44 (0, 0)) :: row (kcells 4) 44 (.slice A i cA) (rawLs xs ((fitL c r p wi s l).take i)) :: blk g2 (.cells #[.int .i64 c, .int .i64 r, .int .i64 p, .int .i64 wi, .int .u64 s] 24 (0, 0)) :: (rowsB vs ((List.range k).map (fitRow nn x.f3)) ++ (linesA xs ((fitL c r p wi s l).take i) ++ F)))))
              case atStart => exact ⟨0, rfl, ⟨by omega⟩, ⟨by omega⟩, HX⟩
              case round =>
                clear HX
                obtain ⟨q, rfl, HK3, HI3, HW3⟩ := hrel
                have hqq := HI3.out
                by_cases hq : q < nn
                · have i1 : decide ((q : Int) < (nn : Int)) = true := decide_eq_true (by omega)
                  have i1b : decide (q < nn) = true := decide_eq_true hq
                  have i0 : (0 : Int) ≤ (q : Int) := by omega
                  have i0b : (q : Int) < (nn : Int) := by omega
                  by_cases hk3 : k < x.f3.length
                  · have j1 : decide ((k : Int) < (x.f3.length : Int)) = true := decide_eq_true (by omega)
                    have j1b : decide (k < x.f3.length) = true := decide_eq_true hk3
                    have j2 : (k : Int) < (x.f3.length : Int) := by omega
                    obtain ⟨ad3, A4, c4, ed, z3, lz, g4⟩ := rdRow G3.out k hk3
                    subst ed
                    obtain ⟨kr, hkr⟩ : ∃ kr, x.f3[k] = kr := ⟨_, rfl⟩
                    rw [hkr] at z3 lz g4
                    have hgd : x.f3.getD k [] = kr := by rw [List.getD_eq_getElem?_getD, List.getElem?_eq_getElem hk3, hkr]; rfl
                    have HGD := Aside0.mk hgd
                    have Z3 := Aside0.mk z3
                    have G4 := Aside0.mk g4
                    clear hkr hgd z3 g4 lz
                    by_cases hq3 : q < kr.length
                    · have p1 : decide ((q : Int) < (kr.length : Int)) = true := decide_eq_true (by omega)
                      have p1b : decide (q < kr.length) = true := decide_eq_true hq3
                      have p2 : (q : Int) < (kr.length : Int) := by omega
                      obtain ⟨ad4, ee, z4⟩ := rdBool G4.out q hq3
                      subst ee
                      obtain ⟨bb, hbb⟩ : ∃ bb, kr[q] = bb := ⟨_, rfl⟩
                      rw [hbb] at z4
                      have HBT : Aside0 (bit x.f3 k q = bb) := ⟨by unfold bit; rw [HGD.out, List.getD_eq_getElem?_getD, List.getElem?_eq_getElem hq3, hbb]; rfl⟩
                      have Z4 := Aside0.mk z4
                      have HRW : Aside0 (q < (rowM nn x.f3 k q).length) := ⟨by rw [rowM_len]; exact hq⟩
                      clear z4 hbb
                      cases gk with
                      | zero => exact absurd HK3.out (by omega)
                      | succ k3 =>
                        have y3 : wr.cell? ⟨(ad.add (i * 4)).block, (ad.add (i * 4)).off + 3, none⟩ = some (.slice (some ad3) x.f3.length c3) := pw_cell_below (HW3.out.below.mono hb0) Y3.out
                        have z3 : wr.cell? (ad3.add k) = some (.slice (some ad4) kr.length c4) := pw_cell_below (HW3.out.below.mono hb0) Z3.out
                        have z4 : wr.cell? (ad4.add q) = some (.bool bb) := pw_cell_below (HW3.out.below.mono hb0) Z4.out
                        go_wp2_with (first | ((with_reducible refine gate_store (t := 4) (p := 115) rfl ?_); refine wp_storeR rfl rfl 4 _ _ rfl (g := grw) (j := q) (bb) ?sA rfl rfl ?sI (HW3.out) (hq) ?_; (case sI => first | rfl | kernel_rfl); (case sA => first | rfl | exact congrArg (fun x => Value.pointer (some x)) (add0 _ _) | (go_simp; done) | (go_simp; rfl) | (go_simp; exact add0 _ _)); intro we10 h_new; have He10 := Aside0.mk h_new; clear h_new HW3; clear y3 z3 z4; have y3 : we10.cell? ⟨(ad.add (i * 4)).block, (ad.add (i * 4)).off + 3, none⟩ = some (.slice (some ad3) x.f3.length c3) := pw_cell_below (He10.out.below.mono hb0) Y3.out; have z3 : we10.cell? (ad3.add k) = some (.slice (some ad4) kr.length c4) := pw_cell_below (He10.out.below.mono hb0) Z3.out; have z4 : we10.cell? (ad4.add q) = some (.bool bb) := pw_cell_below (He10.out.below.mono hb0) Z4.out))
                        go_roundg k3
                        case measure => have := HK3.out; omega
                        case rel =>
                          have h9 := He10.out
                          rw [← HBT.out, rowM_set hq] at h9
                          exact ⟨q + 1, rfl, ⟨by have := HK3.out; omega⟩, ⟨by omega⟩, ⟨h9⟩⟩
                    · have p1 : decide ((q : Int) < (kr.length : Int)) = false := decide_eq_false (by omega)
                      have p1b : decide (q < kr.length) = false := decide_eq_false hq3
                      have HE : Aside0 (rowM nn x.f3 k q = fitRow nn x.f3 k) := ⟨rowM_end (.inr (.inr (by rw [HGD.out]; omega)))⟩
                      have c_ln_0 : wr.cell? ⟨gl, 0, none⟩ = some (.int .i64 (rg : Int)) := (blk_cell (HW3.out.up3).blk 0).trans rfl
                      have c_ln_1 : wr.cell? ⟨gl, 1, none⟩ = some (.int .i64 (bs : Int)) := (blk_cell (HW3.out.up3).blk 1).trans rfl
                      have c_ln_2 : wr.cell? ⟨gl, 2, none⟩ = some (.slice A_s2 (k + 1) c_s2) := (blk_cell (HW3.out.up3).blk 2).trans rfl
                      have c_ln_3 : wr.cell? ⟨gl, 3, none⟩ = some (.slice B3 k d3) := (blk_cell (HW3.out.up3).blk 3).trans rfl
                      have y3 : wr.cell? ⟨(ad.add (i * 4)).block, (ad.add (i * 4)).off + 3, none⟩ = some (.slice (some ad3) x.f3.length c3) := pw_cell_below (HW3.out.below.mono hb0) Y3.out
                      have z3 : wr.cell? (ad3.add k) = some (.slice A4 kr.length c4) := pw_cell_below (HW3.out.below.mono hb0) Z3.out
                      go_wp2_with (first | ((with_reducible refine gate_dst (N := 119) rfl ?_); refine wp_litF (kcells 1) 41 rfl (N := 119) rfl (xs := [[.slice (some ⟨grw, 0, none⟩) nn c_rw]]) (inner := [.slice (some ⟨grw, 0, none⟩) nn c_rw]) (n := 1) ?lR ?lP rfl (by decide) (HW3.out) ?_; (case lR => first | (go_simp; done) | (go_simp; rfl)); (case lP => exact reps_one (cells_ok rfl (by simp [Value.oneCell'])) rfl); intro gl2 c_l2 we110 h_new hc_l2; have He110 := Aside0.mk h_new; clear h_new HW3; clear c_ln_0 c_ln_1 c_ln_2 c_ln_3 y3 z3; have c_ln_0 : we110.cell? ⟨gl, 0, none⟩ = some (.int .i64 (rg : Int)) := (blk_cell (He110.out.up4).blk 0).trans rfl; have c_ln_1 : we110.cell? ⟨gl, 1, none⟩ = some (.int .i64 (bs : Int)) := (blk_cell (He110.out.up4).blk 1).trans rfl; have c_ln_2 : we110.cell? ⟨gl, 2, none⟩ = some (.slice A_s2 (k + 1) c_s2) := (blk_cell (He110.out.up4).blk 2).trans rfl; have c_ln_3 : we110.cell? ⟨gl, 3, none⟩ = some (.slice B3 k d3) := (blk_cell (He110.out.up4).blk 3).trans rfl; have y3 : we110.cell? ⟨(ad.add (i * 4)).block, (ad.add (i * 4)).off + 3, none⟩ = some (.slice (some ad3) x.f3.length c3) := pw_cell_below (He110.out.below.mono hb0) Y3.out; have z3 : we110.cell? (ad3.add k) = some (.slice A4 kr.length c4) := pw_cell_below (He110.out.below.mono hb0) Z3.out) | ((with_reducible refine gate_dst (N := 120) rfl ?_); at_builtin; refine wp_appR (kcells 1) rfl (.tmp 117) (.tmp 119) 42 41 (.slice none 0 0) 24 rfl Try.underlying42 infoR rfl (by decide) (by decide) (n := k) (m := 1) ((raw1 vs)) ([[.slice (some ⟨grw, 0, none⟩) nn c_rw]]) rfl rfl (He110.out.up3) (HRL.out) ?aL ?_; (case aL => rw [HRL.out]; omega); intro A_s3 c_s3 we111 h_new hc_s3; rw [show ((raw1 vs)) ++ ([[.slice (some ⟨grw, 0, none⟩) nn c_rw]]) = (raw1 (vs ++ [.slice (some ⟨grw, 0, none⟩) nn c_rw])) from raw1_snoc _ _] at h_new; have He111 := Aside0.mk h_new; clear h_new He110; clear c_ln_0 c_ln_1 c_ln_2 c_ln_3 y3 z3; have c_ln_0 : we111.cell? ⟨gl, 0, none⟩ = some (.int .i64 (rg : Int)) := (blk_cell (He111.out.up3).blk 0).trans rfl; have c_ln_1 : we111.cell? ⟨gl, 1, none⟩ = some (.int .i64 (bs : Int)) := (blk_cell (He111.out.up3).blk 1).trans rfl; have c_ln_2 : we111.cell? ⟨gl, 2, none⟩ = some (.slice A_s2 (k + 1) c_s2) := (blk_cell (He111.out.up3).blk 2).trans rfl; have c_ln_3 : we111.cell? ⟨gl, 3, none⟩ = some (.slice B3 k d3) := (blk_cell (He111.out.up3).blk 3).trans rfl; have y3 : we111.cell? ⟨(ad.add (i * 4)).block, (ad.add (i * 4)).off + 3, none⟩ = some (.slice (some ad3) x.f3.length c3) := pw_cell_below (He111.out.below.mono hb0) Y3.out; have z3 : we111.cell? (ad3.add k) = some (.slice A4 kr.length c4) := pw_cell_below (He111.out.below.mono hb0) Z3.out) | ((with_reducible refine gate_store (t := 42) (p := 121) rfl ?_); refine wp_storeB rfl rfl 42 _ _ rfl (g := gl) (j := 3) (u := (.slice A_s3 (k + 1) c_s3)) (cs2 := #[.int .i64 (rg : Int), .int .i64 (bs : Int), .slice A_s2 (k + 1) c_s2, .slice A_s3 (k + 1) c_s3]) [.slice A_s3 (k + 1) c_s3] rfl rfl rfl ?sI (by simp [Value.oneCell']) rfl (He111.out.up3) (by simp) ?_; (case sI => first | rfl | kernel_rfl); intro we112 h_new; have He112 := Aside0.mk h_new; clear h_new He111; clear c_ln_0 c_ln_1 c_ln_2 c_ln_3 y3 z3; have c_ln_0 : we112.cell? ⟨gl, 0, none⟩ = some (.int .i64 (rg : Int)) := (blk_cell (He112.out).blk 0).trans rfl; have c_ln_1 : we112.cell? ⟨gl, 1, none⟩ = some (.int .i64 (bs : Int)) := (blk_cell (He112.out).blk 1).trans rfl; have c_ln_2 : we112.cell? ⟨gl, 2, none⟩ = some (.slice A_s2 (k + 1) c_s2) := (blk_cell (He112.out).blk 2).trans rfl; have c_ln_3 : we112.cell? ⟨gl, 3, none⟩ = some (.slice A_s3 (k + 1) c_s3) := (blk_cell (He112.out).blk 3).trans rfl; have y3 : we112.cell? ⟨(ad.add (i * 4)).block, (ad.add (i * 4)).off + 3, none⟩ = some (.slice (some ad3) x.f3.length c3) := pw_cell_below (He112.out.below.mono hb0) Y3.out; have z3 : we112.cell? (ad3.add k) = some (.slice A4 kr.length c4) := pw_cell_below (He112.out.below.mono hb0) Z3.out))
                      go_roundg k2
                      case measure => have := HK2.out; omega
                      case rel =>
                        have h9 := (He112.out.up5.up5.up2.up3.up5.up5)
                        rw [HE.out] at h9
                        have h10 := h9.perm (perm_in _ _ _ _ _ _ _ _)
                        rw [← rowsB_snoc _ _ _ _ (by rw [HVS.out, List.length_map, List.length_range]), ← fit_step] at h10
                        refine ⟨k + 1, A_s2, A_s3, c_s2, c_s3, vs ++ [.slice (some ⟨grw, 0, none⟩) nn c_rw], rfl, ⟨by have := HK2.out; omega⟩, ⟨by omega⟩, ⟨by rw [List.length_append, HVS.out]; rfl⟩, ⟨h10⟩⟩
                  · have j1 : decide ((k : Int) < (x.f3.length : Int)) = false := decide_eq_false (by omega)
                    have j1b : decide (k < x.f3.length) = false := decide_eq_false hk3
                    have HE : Aside0 (rowM nn x.f3 k q = fitRow nn x.f3 k) := ⟨rowM_end (.inr (.inl (by omega)))⟩
                    have c_ln_0 : wr.cell? ⟨gl, 0, none⟩ = some (.int .i64 (rg : Int)) := (blk_cell (HW3.out.up3).blk 0).trans rfl
                    have c_ln_1 : wr.cell? ⟨gl, 1, none⟩ = some (.int .i64 (bs : Int)) := (blk_cell (HW3.out.up3).blk 1).trans rfl
                    have c_ln_2 : wr.cell? ⟨gl, 2, none⟩ = some (.slice A_s2 (k + 1) c_s2) := (blk_cell (HW3.out.up3).blk 2).trans rfl
                    have c_ln_3 : wr.cell? ⟨gl, 3, none⟩ = some (.slice B3 k d3) := (blk_cell (HW3.out.up3).blk 3).trans rfl
                    have y3 : wr.cell? ⟨(ad.add (i * 4)).block, (ad.add (i * 4)).off + 3, none⟩ = some (.slice A3 x.f3.length c3) := pw_cell_below (HW3.out.below.mono hb0) Y3.out
                    go_wp2_with (first | ((with_reducible refine gate_dst (N := 119) rfl ?_); refine wp_litF (kcells 1) 41 rfl (N := 119) rfl (xs := [[.slice (some ⟨grw, 0, none⟩) nn c_rw]]) (inner := [.slice (some ⟨grw, 0, none⟩) nn c_rw]) (n := 1) ?lR ?lP rfl (by decide) (HW3.out) ?_; (case lR => first | (go_simp; done) | (go_simp; rfl)); (case lP => exact reps_one (cells_ok rfl (by simp [Value.oneCell'])) rfl); intro gl2 c_l2 we210 h_new hc_l2; have He210 := Aside0.mk h_new; clear h_new HW3; clear c_ln_0 c_ln_1 c_ln_2 c_ln_3 y3; have c_ln_0 : we210.cell? ⟨gl, 0, none⟩ = some (.int .i64 (rg : Int)) := (blk_cell (He210.out.up4).blk 0).trans rfl; have c_ln_1 : we210.cell? ⟨gl, 1, none⟩ = some (.int .i64 (bs : Int)) := (blk_cell (He210.out.up4).blk 1).trans rfl; have c_ln_2 : we210.cell? ⟨gl, 2, none⟩ = some (.slice A_s2 (k + 1) c_s2) := (blk_cell (He210.out.up4).blk 2).trans rfl; have c_ln_3 : we210.cell? ⟨gl, 3, none⟩ = some (.slice B3 k d3) := (blk_cell (He210.out.up4).blk 3).trans rfl; have y3 : we210.cell? ⟨(ad.add (i * 4)).block, (ad.add (i * 4)).off + 3, none⟩ = some (.slice A3 x.f3.length c3) := pw_cell_below (He210.out.below.mono hb0) Y3.out) | ((with_reducible refine gate_dst (N := 120) rfl ?_); at_builtin; refine wp_appR (kcells 1) rfl (.tmp 117) (.tmp 119) 42 41 (.slice none 0 0) 24 rfl Try.underlying42 infoR rfl (by decide) (by decide) (n := k) (m := 1) ((raw1 vs)) ([[.slice (some ⟨grw, 0, none⟩) nn c_rw]]) rfl rfl (He210.out.up3) (HRL.out) ?aL ?_; (case aL => rw [HRL.out]; omega); intro A_s3 c_s3 we211 h_new hc_s3; rw [show ((raw1 vs)) ++ ([[.slice (some ⟨grw, 0, none⟩) nn c_rw]]) = (raw1 (vs ++ [.slice (some ⟨grw, 0, none⟩) nn c_rw])) from raw1_snoc _ _] at h_new; have He211 := Aside0.mk h_new; clear h_new He210; clear c_ln_0 c_ln_1 c_ln_2 c_ln_3 y3; have c_ln_0 : we211.cell? ⟨gl, 0, none⟩ = some (.int .i64 (rg : Int)) := (blk_cell (He211.out.up3).blk 0).trans rfl; have c_ln_1 : we211.cell? ⟨gl, 1, none⟩ = some (.int .i64 (bs : Int)) := (blk_cell (He211.out.up3).blk 1).trans rfl; have c_ln_2 : we211.cell? ⟨gl, 2, none⟩ = some (.slice A_s2 (k + 1) c_s2) := (blk_cell (He211.out.up3).blk 2).trans rfl; have c_ln_3 : we211.cell? ⟨gl, 3, none⟩ = some (.slice B3 k d3) := (blk_cell (He211.out.up3).blk 3).trans rfl; have y3 : we211.cell? ⟨(ad.add (i * 4)).block, (ad.add (i * 4)).off + 3, none⟩ = some (.slice A3 x.f3.length c3) := pw_cell_below (He211.out.below.mono hb0) Y3.out) | ((with_reducible refine gate_store (t := 42) (p := 121) rfl ?_); refine wp_storeB rfl rfl 42 _ _ rfl (g := gl) (j := 3) (u := (.slice A_s3 (k + 1) c_s3)) (cs2 := #[.int .i64 (rg : Int), .int .i64 (bs : Int), .slice A_s2 (k + 1) c_s2, .slice A_s3 (k + 1) c_s3]) [.slice A_s3 (k + 1) c_s3] rfl rfl rfl ?sI (by simp [Value.oneCell']) rfl (He211.out.up3) (by simp) ?_; (case sI => first | rfl | kernel_rfl); intro we212 h_new; have He212 := Aside0.mk h_new; clear h_new He211; clear c_ln_0 c_ln_1 c_ln_2 c_ln_3 y3; have c_ln_0 : we212.cell? ⟨gl, 0, none⟩ = some (.int .i64 (rg : Int)) := (blk_cell (He212.out).blk 0).trans rfl; have c_ln_1 : we212.cell? ⟨gl, 1, none⟩ = some (.int .i64 (bs : Int)) := (blk_cell (He212.out).blk 1).trans rfl; have c_ln_2 : we212.cell? ⟨gl, 2, none⟩ = some (.slice A_s2 (k + 1) c_s2) := (blk_cell (He212.out).blk 2).trans rfl; have c_ln_3 : we212.cell? ⟨gl, 3, none⟩ = some (.slice A_s3 (k + 1) c_s3) := (blk_cell (He212.out).blk 3).trans rfl; have y3 : we212.cell? ⟨(ad.add (i * 4)).block, (ad.add (i * 4)).off + 3, none⟩ = some (.slice A3 x.f3.length c3) := pw_cell_below (He212.out.below.mono hb0) Y3.out))
                    go_roundg k2
                    case measure => have := HK2.out; omega
                    case rel =>
                      have h9 := (He212.out.up5.up5.up2.up3.up5.up5)
                      rw [HE.out] at h9
                      have h10 := h9.perm (perm_in _ _ _ _ _ _ _ _)
                      rw [← rowsB_snoc _ _ _ _ (by rw [HVS.out, List.length_map, List.length_range]), ← fit_step] at h10
                      refine ⟨k + 1, A_s2, A_s3, c_s2, c_s3, vs ++ [.slice (some ⟨grw, 0, none⟩) nn c_rw], rfl, ⟨by have := HK2.out; omega⟩, ⟨by omega⟩, ⟨by rw [List.length_append, HVS.out]; rfl⟩, ⟨h10⟩⟩
                · have i1 : decide ((q : Int) < (nn : Int)) = false := decide_eq_false (by omega)
                  have i1b : decide (q < nn) = false := decide_eq_false hq
                  have HE : Aside0 (rowM nn x.f3 k q = fitRow nn x.f3 k) := ⟨rowM_end (.inl (by omega))⟩
                  have c_ln_0 : wr.cell? ⟨gl, 0, none⟩ = some (.int .i64 (rg : Int)) := (blk_cell (HW3.out.up3).blk 0).trans rfl
                  have c_ln_1 : wr.cell? ⟨gl, 1, none⟩ = some (.int .i64 (bs : Int)) := (blk_cell (HW3.out.up3).blk 1).trans rfl
                  have c_ln_2 : wr.cell? ⟨gl, 2, none⟩ = some (.slice A_s2 (k + 1) c_s2) := (blk_cell (HW3.out.up3).blk 2).trans rfl
                  have c_ln_3 : wr.cell? ⟨gl, 3, none⟩ = some (.slice B3 k d3) := (blk_cell (HW3.out.up3).blk 3).trans rfl
                  go_wp2_with (first | ((with_reducible refine gate_dst (N := 119) rfl ?_); refine wp_litF (kcells 1) 41 rfl (N := 119) rfl (xs := [[.slice (some ⟨grw, 0, none⟩) nn c_rw]]) (inner := [.slice (some ⟨grw, 0, none⟩) nn c_rw]) (n := 1) ?lR ?lP rfl (by decide) (HW3.out) ?_; (case lR => first | (go_simp; done) | (go_simp; rfl)); (case lP => exact reps_one (cells_ok rfl (by simp [Value.oneCell'])) rfl); intro gl2 c_l2 we310 h_new hc_l2; have He310 := Aside0.mk h_new; clear h_new HW3; clear c_ln_0 c_ln_1 c_ln_2 c_ln_3; have c_ln_0 : we310.cell? ⟨gl, 0, none⟩ = some (.int .i64 (rg : Int)) := (blk_cell (He310.out.up4).blk 0).trans rfl; have c_ln_1 : we310.cell? ⟨gl, 1, none⟩ = some (.int .i64 (bs : Int)) := (blk_cell (He310.out.up4).blk 1).trans rfl; have c_ln_2 : we310.cell? ⟨gl, 2, none⟩ = some (.slice A_s2 (k + 1) c_s2) := (blk_cell (He310.out.up4).blk 2).trans rfl; have c_ln_3 : we310.cell? ⟨gl, 3, none⟩ = some (.slice B3 k d3) := (blk_cell (He310.out.up4).blk 3).trans rfl) | ((with_reducible refine gate_dst (N := 120) rfl ?_); at_builtin; refine wp_appR (kcells 1) rfl (.tmp 117) (.tmp 119) 42 41 (.slice none 0 0) 24 rfl Try.underlying42 infoR rfl (by decide) (by decide) (n := k) (m := 1) ((raw1 vs)) ([[.slice (some ⟨grw, 0, none⟩) nn c_rw]]) rfl rfl (He310.out.up3) (HRL.out) ?aL ?_; (case aL => rw [HRL.out]; omega); intro A_s3 c_s3 we311 h_new hc_s3; rw [show ((raw1 vs)) ++ ([[.slice (some ⟨grw, 0, none⟩) nn c_rw]]) = (raw1 (vs ++ [.slice (some ⟨grw, 0, none⟩) nn c_rw])) from raw1_snoc _ _] at h_new; have He311 := Aside0.mk h_new; clear h_new He310; clear c_ln_0 c_ln_1 c_ln_2 c_ln_3; have c_ln_0 : we311.cell? ⟨gl, 0, none⟩ = some (.int .i64 (rg : Int)) := (blk_cell (He311.out.up3).blk 0).trans rfl; have c_ln_1 : we311.cell? ⟨gl, 1, none⟩ = some (.int .i64 (bs : Int)) := (blk_cell (He311.out.up3).blk 1).trans rfl; have c_ln_2 : we311.cell? ⟨gl, 2, none⟩ = some (.slice A_s2 (k + 1) c_s2) := (blk_cell (He311.out.up3).blk 2).trans rfl; have c_ln_3 : we311.cell? ⟨gl, 3, none⟩ = some (.slice B3 k d3) := (blk_cell (He311.out.up3).blk 3).trans rfl) | ((with_reducible refine gate_store (t := 42) (p := 121) rfl ?_); refine wp_storeB rfl rfl 42 _ _ rfl (g := gl) (j := 3) (u := (.slice A_s3 (k + 1) c_s3)) (cs2 := #[.int .i64 (rg : Int), .int .i64 (bs : Int), .slice A_s2 (k + 1) c_s2, .slice A_s3 (k + 1) c_s3]) [.slice A_s3 (k + 1) c_s3] rfl rfl rfl ?sI (by simp [Value.oneCell']) rfl (He311.out.up3) (by simp) ?_; (case sI => first | rfl | kernel_rfl); intro we312 h_new; have He312 := Aside0.mk h_new; clear h_new He311; clear c_ln_0 c_ln_1 c_ln_2 c_ln_3; have c_ln_0 : we312.cell? ⟨gl, 0, none⟩ = some (.int .i64 (rg : Int)) := (blk_cell (He312.out).blk 0).trans rfl; have c_ln_1 : we312.cell? ⟨gl, 1, none⟩ = some (.int .i64 (bs : Int)) := (blk_cell (He312.out).blk 1).trans rfl; have c_ln_2 : we312.cell? ⟨gl, 2, none⟩ = some (.slice A_s2 (k + 1) c_s2) := (blk_cell (He312.out).blk 2).trans rfl; have c_ln_3 : we312.cell? ⟨gl, 3, none⟩ = some (.slice A_s3 (k + 1) c_s3) := (blk_cell (He312.out).blk 3).trans rfl))
                  go_roundg k2
                  case measure => have := HK2.out; omega
                  case rel =>
                    have h9 := (He312.out.up5.up5.up2.up3.up5.up5)
                    rw [HE.out] at h9
                    have h10 := h9.perm (perm_in _ _ _ _ _ _ _ _)
                    rw [← rowsB_snoc _ _ _ _ (by rw [HVS.out, List.length_map, List.length_range]), ← fit_step] at h10
                    refine ⟨k + 1, A_s2, A_s3, c_s2, c_s3, vs ++ [.slice (some ⟨grw, 0, none⟩) nn c_rw], rfl, ⟨by have := HK2.out; omega⟩, ⟨by omega⟩, ⟨by rw [List.length_append, HVS.out]; rfl⟩, ⟨h10⟩⟩
          · have f1 : decide ((k : Int) < (n : Int)) = false := decide_eq_false (by omega)
            have f1b : decide (k < n) = false := decide_eq_false hkn
            obtain rfl : k = n := by omega
            have HLR : Aside0 ((rawLs xs ((fitL c r p wi s l).take i)).length = i) := ⟨by rw [rawLs_len _ _ (by rw [HXS.out, List.length_take]; simp [fitL]; omega), List.length_take]; simp [fitL]; omega⟩
            have HTK : Aside0 ((fitL c r p wi s l).take i ++ [⟨(rg : Int), (bs : Int), x.f2.take k, ((List.range k).map (fitRow nn x.f3))⟩] = (fitL c r p wi s l).take (i + 1)) := ⟨by
              have hi9 : i < (fitL c r p wi s l).length := by simp [fitL]; omega
              rw [List.take_succ_eq_append_getElem hi9, ← HONE.out]
              simp only [fitL, List.getElem_map]
              rw [HXL.out]⟩
            have HLX : Aside0 (xs.length = ((fitL c r p wi s l).take i).length) := ⟨by rw [HXS.out, List.length_take]; simp [fitL]; omega⟩
            have HSN : Aside0 (rawLs xs ((fitL c r p wi s l).take i) ++ [[.int .i64 (rg : Int), .int .i64 (bs : Int), .slice B2 k d2, .slice B3 k d3]] = rawLs (xs ++ [(.slice B2 k d2, .slice B3 k d3)]) ((fitL c r p wi s l).take (i + 1))) := ⟨by rw [← HTK.out, rawLs_snoc _ _ _ _ HLX.out]; rfl⟩
            have c_ln_0 : wr.cell? ⟨gl, 0, none⟩ = some (.int .i64 (rg : Int)) := (blk_cell (HV.out.up2).blk 0).trans rfl
            have c_ln_1 : wr.cell? ⟨gl, 1, none⟩ = some (.int .i64 (bs : Int)) := (blk_cell (HV.out.up2).blk 1).trans rfl
            have c_ln_2 : wr.cell? ⟨gl, 2, none⟩ = some (.slice B2 k d2) := (blk_cell (HV.out.up2).blk 2).trans rfl
            have c_ln_3 : wr.cell? ⟨gl, 3, none⟩ = some (.slice B3 k d3) := (blk_cell (HV.out.up2).blk 3).trans rfl
            go_wp2_with (first | ((with_reducible refine gate_dst (N := 124) rfl ?_); refine wp_litF (kcells 4) 44 rfl (N := 124) rfl (xs := [[.int .i64 (rg : Int), .int .i64 (bs : Int), .slice B2 k d2, .slice B3 k d3]]) (inner := [.int .i64 (rg : Int), .int .i64 (bs : Int), .slice B2 k d2, .slice B3 k d3]) (n := 1) ?lR ?lP rfl (by decide) (HV.out) ?_; (case lR => first | (go_simp; done) | (go_simp; rfl)); (case lP => exact reps_one (cells_ok rfl (by simp [Value.oneCell'])) rfl); intro gl3 c_l3 wg5 h_new hc_l3; have Hg5 := Aside0.mk h_new; clear h_new HV; clear c_ln_0 c_ln_1 c_ln_2 c_ln_3; have c_ln_0 : wg5.cell? ⟨gl, 0, none⟩ = some (.int .i64 (rg : Int)) := (blk_cell (Hg5.out.up3).blk 0).trans rfl; have c_ln_1 : wg5.cell? ⟨gl, 1, none⟩ = some (.int .i64 (bs : Int)) := (blk_cell (Hg5.out.up3).blk 1).trans rfl; have c_ln_2 : wg5.cell? ⟨gl, 2, none⟩ = some (.slice B2 k d2) := (blk_cell (Hg5.out.up3).blk 2).trans rfl; have c_ln_3 : wg5.cell? ⟨gl, 3, none⟩ = some (.slice B3 k d3) := (blk_cell (Hg5.out.up3).blk 3).trans rfl) | ((with_reducible refine gate_dst (N := 125) rfl ?_); at_builtin; refine wp_appR (kcells 4) rfl (.tmp 122) (.tmp 124) 25 44 (.agg #[.int .i64 0, .int .i64 0, .slice none 0 0, .slice none 0 0]) 64 rfl Try.underlying25 infoL rfl (by decide) (by decide) (n := i) (m := 1) ((rawLs xs ((fitL c r p wi s l).take i))) ([[.int .i64 (rg : Int), .int .i64 (bs : Int), .slice B2 k d2, .slice B3 k d3]]) rfl rfl (Hg5.out.up4) (HLR.out) ?aL ?_; (case aL => rw [HLR.out]; omega); intro A_ro c_ro wg6 h_new hc_ro; rw [show ((rawLs xs ((fitL c r p wi s l).take i))) ++ ([[.int .i64 (rg : Int), .int .i64 (bs : Int), .slice B2 k d2, .slice B3 k d3]]) = (rawLs (xs ++ [(.slice B2 k d2, .slice B3 k d3)]) ((fitL c r p wi s l).take (i + 1))) from HSN.out] at h_new; have Hg6 := Aside0.mk h_new; clear h_new Hg5; clear c_ln_0 c_ln_1 c_ln_2 c_ln_3; have c_ln_0 : wg6.cell? ⟨gl, 0, none⟩ = some (.int .i64 (rg : Int)) := (blk_cell (Hg6.out.up3).blk 0).trans rfl; have c_ln_1 : wg6.cell? ⟨gl, 1, none⟩ = some (.int .i64 (bs : Int)) := (blk_cell (Hg6.out.up3).blk 1).trans rfl; have c_ln_2 : wg6.cell? ⟨gl, 2, none⟩ = some (.slice B2 k d2) := (blk_cell (Hg6.out.up3).blk 2).trans rfl; have c_ln_3 : wg6.cell? ⟨gl, 3, none⟩ = some (.slice B3 k d3) := (blk_cell (Hg6.out.up3).blk 3).trans rfl))
            go_roundg k1
            case measure => have := HK.out; omega
            case rel =>
              have h9 := (Hg6.out.up4.sw.up2.up3.up4)
              have h10 := h9.drop.perm (perm_out _ _ _ _ _ _)
              have h11 := sepLine_shut (x := (.slice B2 k d2, .slice B3 k d3)) (y := ⟨(rg : Int), (bs : Int), x.f2.take k, ((List.range k).map (fitRow nn x.f3))⟩) (sepRows_shut (by rw [HVS.out, List.length_map, List.length_range]) h10).sw
              have h12 := h11.perm (perm_in2 _ _ _ _ _)
              rw [← linesA_snoc _ _ _ _ HLX.out, HTK.out] at h12
              exact ⟨i + 1, A_ro, c_ro, xs ++ [(.slice B2 k d2, .slice B3 k d3)], rfl, rfl, ⟨by have := HK.out; omega⟩, ⟨by omega⟩, ⟨by rw [List.length_append, HXS.out]; rfl⟩, ⟨h12⟩⟩
    · have e1 : decide ((i : Int) < (l.length : Int)) = false := decide_eq_false (by omega)
      have e1b : decide (i < l.length) = false := decide_eq_false hil
      obtain rfl : i = l.length := by omega
      go_wp2
      go_ret
      have hfl : (fitL c r p wi s l).length = l.length := by simp [fitL]
      have h9 := HW.out.drop2
      rw [List.take_of_length_le (by omega)] at h9
      exact ⟨A, cA, xs, rfl, HXS.out, h9⟩
end Go.Proofs.Ytmgdpkmmcmglfaa.PMarkOrder
