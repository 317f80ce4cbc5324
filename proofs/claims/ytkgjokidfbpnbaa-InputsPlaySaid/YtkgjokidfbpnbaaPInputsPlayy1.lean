/- What the law InputsPlay comes to: true of all inputs. Condition: each number within int, rows no longer than 140737488351232. -/
import Derived.Test.YtkgjokidfbpnbaaPInputsPlayz0
import Derived.Test.YtkgjokidfbpnbaaMe
namespace Go.Proofs.Ytkgjokidfbpnbaa.PInputsPlay
open Go Go.RowKit Go.Proofs.YtkgjokidfbpnbaaW.PrintWords Go.Proofs.YtkgjokidfbpnbaaW.PrintLast Go.Proofs.YtkgjokidfbpnbaaW.PrintMore Go.Proofs.Ytkgjokidfbpnbaa.InW Go.Proofs.Ytkgjokidfbpnbaa.Sep
attribute [local go_sem] max2_int min2_int max_two min_two max_three min_three max_four min_four   -- for this text's walks alone
set_option linter.unusedVariables false
set_option linter.unusedSimpArgs false
abbrev Opx := Int × Int × Int × List In
def kop : Kd Opx := Kd.pair (Kd.int .i64) (Kd.pair (Kd.int .i64) (Kd.pair (Kd.int .i64) (Kd.slice 24 kin)))
theorem at_op {w : World} {A : Option Addr} {n : Nat} {l : List Opx} (h : Kd.C kop w A n l) (j : Nat) (hj : j < l.length) : ∃ ad A3 c3, A = some ad ∧ w.cell? (ad.add (j * 4)) = some (.int .i64 l[j].1) ∧ w.cell? ⟨(ad.add (j * 4)).block, (ad.add (j * 4)).off + 1, none⟩ = some (.int .i64 l[j].2.1) ∧ w.cell? ⟨(ad.add (j * 4)).block, (ad.add (j * 4)).off + 2, none⟩ = some (.int .i64 l[j].2.2.1) ∧ w.cell? ⟨(ad.add (j * 4)).block, (ad.add (j * 4)).off + 3, none⟩ = some (.slice A3 l[j].2.2.2.length c3) ∧ l[j].2.2.2.length ≤ c3 ∧ Kd.C kin w A3 l[j].2.2.2.length l[j].2.2.2 := by
  obtain ⟨hl, _, hn⟩ := h
  obtain ⟨ad, rfl, hc⟩ := hn (by omega)
  obtain ⟨cs, hcs, hK, hcc⟩ := hc j l[j] (List.getElem?_eq_getElem hj)
  obtain ⟨_, _, rfl, rfl, ⟨_, _, rfl, rfl, ⟨_, _, rfl, rfl, ⟨A3, c3, rfl, l3, g3⟩⟩⟩⟩ := hK
  have hc1 : ∀ j' u, ([Value.int .i64 l[j].1, .int .i64 l[j].2.1, .int .i64 l[j].2.2.1, .slice A3 l[j].2.2.2.length c3] : List Value)[j']? = some u → w.cell? (ad.add (j * 4 + j')) = some u := hcc
  exact ⟨ad, A3, c3, rfl, hc1 0 _ rfl, by rw [← add_field _ _ 1 (by omega)]; exact hc1 1 _ rfl, by rw [← add_field _ _ 2 (by omega)]; exact hc1 2 _ rfl, by rw [← add_field _ _ 3 (by omega)]; exact hc1 3 _ rfl, l3, g3⟩
theorem streamS {w0 w : World} {base g : Nat} {cs : List Col} {F : List Asr} (h : Has w0 base w (tab g cs :: F)) (ok : okT cs) (p fr mo : Int) (hp : I64 p) (hfr : I64 fr) (hmo : I64 mo) {S : List In} (he : stream_ cs p fr mo = S) :
    Calls Try.prog 18 #[.pointer (some ⟨g, 0, none⟩), .int .i64 p, .int .i64 fr, .int .i64 mo] w fun e w' => ∃ A c, e = .returned (.slice A S.length c) ∧ S.length ≤ c ∧ Has w0 base w' (row kin 24 (.slice A S.length c) S :: tab g cs :: F) := by
  have := stream.H h ok.wf p fr mo hp hfr hmo
  rw [he] at this
  exact this
theorem rstreamS {w0 w : World} {base g : Nat} {cs : List Col} {F : List Asr} (h : Has w0 base w (refT g (cs.map rc) :: F)) (ok : okT cs) (p fr mo : Int) (hp : I64 p) (hfr : I64 fr) (hmo : I64 mo) {S : List In} (he : stream_ cs p fr mo = S) :
    Calls Try.prog 28 #[.pointer (some ⟨g, 0, none⟩), .int .i64 p, .int .i64 fr, .int .i64 mo] w fun e w' => ∃ A c, e = .returned (.slice A S.length c) ∧ S.length ≤ c ∧ Has w0 base w' (row kin 24 (.slice A S.length c) S :: refT g (cs.map rc) :: F) := by
  have := rstream.H h ok.rn (fun c hc => by have := (ok.rl c hc).1; omega) p fr mo hp hfr hmo
  rw [rstream_eq, he] at this
  exact this
theorem add2_one {w0 w : World} {base g g' : Nat} {cs cs' : List Col} {F : List Asr} (h : Has w0 base w (tabs2 g g' cs cs' :: F)) (hw : wfT cs) (p fr : Int) (hp : I64 p) (hfr : I64 fr) (A : Option Addr) (cx : Nat) (x : In) (hxs : ∀ (W : World), Has w0 base W (tab g' cs' :: F) → Kd.C kin W A 1 [x]) :
    Calls Try.prog 12 #[.pointer (some ⟨g, 0, none⟩), .int .i64 p, .int .i64 fr, .slice A 1 cx] w fun e w' => e = .returned (.int .i64 (add_ cs p fr [x]).1) ∧ Has w0 base w' (tab g' cs' :: F) :=
  add2.H h hw p fr hp hfr A cx [x] (by simp) hxs
set_option maxHeartbeats 8000000 in
set_option maxRecDepth 100000 in
theorem law.calls (a0 : Int) (A1 : Option Addr) (c1 : Nat) (l1 : List Opx) (a2 a3 a4 : Int) (w : World) (hr1 : Kd.C kop w A1 l1.length l1) (hc1 : l1.length ≤ c1) (h0 : I64 a0) (h2 : I64 a2) (h3 : I64 a3) (h4 : I64 a4) (hll : l1.length ≤ 140737488351232) (hl : ∀ x ∈ l1, I64 x.1 ∧ I64 x.2.1 ∧ I64 x.2.2.1 ∧ x.2.2.2.length ≤ 140737488351232) :
    Calls Try.prog 7 #[.int .i64 a0, .slice A1 l1.length c1, .int .i64 a2, .int .i64 a3, .int .i64 a4] w fun e w' => e = .returned (.bool true) ∧ Below w.heap.size w w' := by
  have hu24 := Try.underlying24
  have hu47 := Try.underlying47
  have HR1 := Aside0.mk hr1
  have HLL := Aside0.mk hl
  clear hr1 hl
  have H0 := Aside0.mk (Has.nil (w := w) (base := w.heap.size) (Nat.le_refl _))
  have HB0 : w.heap.size ≤ w.heap.size := Nat.le_refl _
  go_enter Try.func7, Try.ntmps7
  go_wp2_with (first | ((go_at_call 9); (with_reducible refine (new.H a0 h0 H0.out).mono ?_); rintro e_ w1 ⟨g0, rfl, h_new⟩; have H1 := Aside0.mk h_new; clear h_new H0) | ((go_at_call 19); (with_reducible refine (rnew.H a0 h0 H1.out).mono ?_); rintro e_ w2 ⟨r, rfl, h_new⟩; rw [new_map] at h_new; have H2 := Aside0.mk h_new.sw; clear h_new H1) | ((go_at_call 10); (with_reducible refine (awake.H H2.out).mono ?_); rintro e_ w3 ⟨rfl, h_new⟩; have H3 := Aside0.mk h_new; clear h_new H2))
  have OK0 := Aside0.mk (okT.new a0)
  go_loopg [11, 13] (l1.length + 1) (fun kq v11 v13 w' => ∃ (i g : Nat) (cs : List Col), v11 = .pointer (some ⟨g, 0, none⟩) ∧ v13 = .int .i64 (i : Int) ∧ Aside0 (i + kq = l1.length + 1) ∧ Aside0 (i ≤ l1.length) ∧ Aside0 (okT cs) ∧ Aside0 (Has w w.heap.size w' [tab g cs, refT r (cs.map rc)]))
  case atStart => exact ⟨0, g0, _, rfl, rfl, ⟨by omega⟩, ⟨by omega⟩, OK0, H3⟩
  case round =>
    clear H3 OK0
    obtain ⟨i, g, cs, rfl, rfl, HK, HI, OK, HW⟩ := hrel
    have hii := HI.out
    by_cases hil : i < l1.length ∧ i < 60
    · obtain ⟨hi1, hi2⟩ := hil
      have e1 : decide ((i : Int) < (l1.length : Int)) = true := decide_eq_true (by omega)
      have e1b : decide (i < l1.length) = true := decide_eq_true hi1
      have e2 : decide ((i : Int) < 60) = true := decide_eq_true (by omega)
      have e3 : (i : Int) < (l1.length : Int) := by omega
      have e4 : (0 : Int) ≤ (i : Int) := by omega
      obtain ⟨ad, A3, c3, ea, x0, x1, x2, x3, l3, g3⟩ := at_op (HW.out.came (Nat.le_refl _) HR1.out) i hi1
      obtain ⟨ad9, A9, c9, ea9, -, -, -, z3, -, g9⟩ := at_op HR1.out i hi1
      have hsame : A9 = A3 ∧ c9 = c3 := by
        rw [ea] at ea9
        obtain rfl := Option.some.inj ea9
        have := (pw_cell_below HW.out.below z3).symm.trans x3
        injection this with this
        injection this with q1 q2 q3
        exact ⟨q1, q3⟩
      obtain ⟨rfl, rfl⟩ := hsame
      clear ea9 z3 g3
      subst ea
      have hm := HLL.out _ (List.getElem_mem hi1)
      have HG9 := Aside0.mk g9
      clear g9
      generalize l1[i] = xx at *
      obtain ⟨o1, o2, o3, L⟩ := xx
      obtain ⟨hm1, hm2, hm3, hm4⟩ := hm
      simp only at x0 x1 x2 x3 l3 hm1 hm2 hm3 hm4
      have HG : Aside0 (Kd.C kin w A9 L.length L) := ⟨HG9.out⟩
      clear HG9 ad9
      cases gk with
      | zero => exact absurd HK.out (by omega)
      | succ k1 =>
        by_cases hL : L.length ≤ 40
        · have e5 : decide ((40 : Int) < (L.length : Int)) = false := decide_eq_false (by omega)
          have e5b : decide (40 < L.length) = false := decide_eq_false (by omega)
          by_cases k1_ : o1 = 1
          · subst k1_
            obtain ⟨b, cs', he⟩ : ∃ b cs', end_ cs o2 o3 = (b, cs') := ⟨_, _, rfl⟩
            have HE := Aside0.mk he
            have OK' := Aside0.mk (show okT cs' from by have := OK.out.end_ o2 o3 hm3; rw [he] at this; exact this)
            have hbb : (b != b) = false := by simp
            clear he
            go_wp2_with (first | ((with_reducible refine gate_dst (N := 14) rfl ?_); refine box_event ?hg (N := 14) ?hd (cs := #[.int .i64 0, .int .i64 0, .int .i64 0, .slice none 0 0]) (t := 47) ?hr ?_; (case hd => rfl); (case hg => rfl); (case hr => first | (go_simp; done) | (go_simp; rfl)); intro go_ hgb_ wb1 hbox_ hb5_; have h_new := Has.ownNew HW.out hgb_ hb5_ hbox_; clear hgb_ hb5_ hbox_; have Hb1 := Aside0.mk h_new; clear h_new HW) | ((with_reducible refine gate_store (t := 47) (p := 14) rfl ?_); refine wp_storeB rfl rfl 47 _ _ rfl (g := go_) (j := 0) (u := (.agg #[.int .i64 1, .int .i64 o2, .int .i64 o3, .slice A9 L.length c9])) (cs2 := #[.int .i64 1, .int .i64 o2, .int .i64 o3, .slice A9 L.length c9]) [.int .i64 1, .int .i64 o2, .int .i64 o3, .slice A9 L.length c9] rfl rfl rfl ?sI (by simp [Value.oneCell']) rfl (Hb1.out) (by simp) ?_; (case sI => first | rfl | kernel_rfl); intro wb2 h_new; have Hb2 := Aside0.mk h_new; clear h_new Hb1; have c_op_0 : wb2.cell? ⟨go_, 0, none⟩ = some (.int .i64 1) := (blk_cell (Hb2.out).blk 0).trans rfl; have f_op_0 := blk_frozen (Hb2.out).blk 0; have c_op_1 : wb2.cell? ⟨go_, 1, none⟩ = some (.int .i64 o2) := (blk_cell (Hb2.out).blk 1).trans rfl; have f_op_1 := blk_frozen (Hb2.out).blk 1; have c_op_2 : wb2.cell? ⟨go_, 2, none⟩ = some (.int .i64 o3) := (blk_cell (Hb2.out).blk 2).trans rfl; have f_op_2 := blk_frozen (Hb2.out).blk 2; have c_op_3 : wb2.cell? ⟨go_, 3, none⟩ = some (.slice A9 L.length c9) := (blk_cell (Hb2.out).blk 3).trans rfl; have f_op_3 := blk_frozen (Hb2.out).blk 3))
            go_wp2
            have Hb23 := Aside0.mk Hb2.out.drew
            clear c_op_0 f_op_0 c_op_1 f_op_1 c_op_2 f_op_2 c_op_3 f_op_3
            have c_op_0 : (wb2).drew.cell? ⟨go_, 0, none⟩ = some (.int .i64 1) := (blk_cell (Hb23.out).blk 0).trans rfl
            have f_op_0 := blk_frozen (Hb23.out).blk 0
            have c_op_1 : (wb2).drew.cell? ⟨go_, 1, none⟩ = some (.int .i64 o2) := (blk_cell (Hb23.out).blk 1).trans rfl
            have f_op_1 := blk_frozen (Hb23.out).blk 1
            have c_op_2 : (wb2).drew.cell? ⟨go_, 2, none⟩ = some (.int .i64 o3) := (blk_cell (Hb23.out).blk 2).trans rfl
            have f_op_2 := blk_frozen (Hb23.out).blk 2
            have c_op_3 : (wb2).drew.cell? ⟨go_, 3, none⟩ = some (.slice A9 L.length c9) := (blk_cell (Hb23.out).blk 3).trans rfl
            have f_op_3 := blk_frozen (Hb23.out).blk 3
            refine wp_regionK (T := (fun w' => w'.cell? ⟨go_, 0, none⟩ = some (.int .i64 1) ∧ w'.cell? ⟨go_, 1, none⟩ = some (.int .i64 o2) ∧ w'.cell? ⟨go_, 2, none⟩ = some (.int .i64 o3) ∧ w'.cell? ⟨go_, 3, none⟩ = some (.slice A9 L.length c9))) 13 (by kernel_rfl) ?_ (fun hHeld => ?_)
            · exact ⟨c_op_0, c_op_1, c_op_2, c_op_3⟩
            refine takeWK (i := 0) (v := ?_) rfl rfl (by kernel_rfl) (by kernel_rfl) (by kernel_rfl) (by kernel_rfl) (by rfl) (by rfl) (by kernel_rfl) (fun _ _ _ h => h) (by rfl) ?_ hHeld ?_
            rotate_left 1
            · (intro w hSw; (try dsimp only at hSw); go_simp <;> (try with_reducible rfl))
            (try simp only [Act.put, List.setIfInBounds_toArray, List.set_cons_zero, List.set_cons_succ])
            refine takeWK (i := 1) (v := ?_) rfl rfl (by kernel_rfl) (by kernel_rfl) (by kernel_rfl) (by kernel_rfl) (by rfl) (by rfl) (by kernel_rfl) (fun _ _ _ h => h) (by rfl) ?_ hHeld ?_
            rotate_left 1
            · (intro w hSw; (try dsimp only at hSw); go_simp <;> (try with_reducible rfl))
            (try simp only [Act.put, List.setIfInBounds_toArray, List.set_cons_zero, List.set_cons_succ])
            refine takeWK (i := 2) (v := ?_) rfl rfl (by kernel_rfl) (by kernel_rfl) (by kernel_rfl) (by kernel_rfl) (by rfl) (by rfl) (by kernel_rfl) (fun _ _ _ h => h) (by rfl) ?_ hHeld ?_
            rotate_left 1
            · (intro w hSw; (try dsimp only at hSw); go_simp <;> (try with_reducible rfl))
            (try simp only [Act.put, List.setIfInBounds_toArray, List.set_cons_zero, List.set_cons_succ])
            refine takeWK (i := 3) (v := ?_) rfl rfl (by kernel_rfl) (by kernel_rfl) (by kernel_rfl) (by kernel_rfl) (by rfl) (by rfl) (by kernel_rfl) (fun _ _ _ h => h) (by rfl) ?_ hHeld ?_
            rotate_left 1
            · (intro w hSw; (try dsimp only at hSw); go_simp <;> (try with_reducible rfl))
            (try simp only [Act.put, List.setIfInBounds_toArray, List.set_cons_zero, List.set_cons_succ])
            refine takeWK (i := 4) (v := ?_) rfl rfl (by kernel_rfl) (by kernel_rfl) (by kernel_rfl) (by kernel_rfl) (by rfl) (by rfl) (by kernel_rfl) (fun _ _ _ h => h) (by rfl) ?_ hHeld ?_
            rotate_left 1
            · (intro w hSw; (try dsimp only at hSw); go_simp <;> (try with_reducible rfl))
            (try simp only [Act.put, List.setIfInBounds_toArray, List.set_cons_zero, List.set_cons_succ])
            refine takeWK (i := 6) (v := ?_) rfl rfl (by kernel_rfl) (by kernel_rfl) (by kernel_rfl) (by kernel_rfl) (by rfl) (by rfl) (by kernel_rfl) (fun _ _ _ h => h) (by rfl) ?_ hHeld ?_
            rotate_left 1
            · (intro w hSw; (try dsimp only at hSw); go_simp <;> (try with_reducible rfl))
            (try simp only [Act.put, List.setIfInBounds_toArray, List.set_cons_zero, List.set_cons_succ])
            refine takeWK (i := 7) (v := ?_) rfl rfl (by kernel_rfl) (by kernel_rfl) (by kernel_rfl) (by kernel_rfl) (by rfl) (by rfl) (by kernel_rfl) (fun _ _ _ h => h) (by rfl) ?_ hHeld ?_
            rotate_left 1
            · (intro w hSw; (try dsimp only at hSw); go_simp <;> (try with_reducible rfl))
            (try simp only [Act.put, List.setIfInBounds_toArray, List.set_cons_zero, List.set_cons_succ])
            refine takeWK (i := 8) (v := ?_) rfl rfl (by kernel_rfl) (by kernel_rfl) (by kernel_rfl) (by kernel_rfl) (by rfl) (by rfl) (by kernel_rfl) (fun _ _ _ h => h) (by rfl) ?_ hHeld ?_
            rotate_left 1
            · (intro w hSw; (try dsimp only at hSw); go_simp <;> (try with_reducible rfl))
            (try simp only [Act.put, List.setIfInBounds_toArray, List.set_cons_zero, List.set_cons_succ])
            refine takeWK (i := 9) (v := ?_) rfl rfl (by kernel_rfl) (by kernel_rfl) (by kernel_rfl) (by kernel_rfl) (by rfl) (by rfl) (by kernel_rfl) (fun _ _ _ h => h) (by rfl) ?_ hHeld ?_
            rotate_left 1
            · (intro w hSw; (try dsimp only at hSw); go_simp <;> (try with_reducible rfl))
            (try simp only [Act.put, List.setIfInBounds_toArray, List.set_cons_zero, List.set_cons_succ])
            refine takeWK (i := 10) (v := ?_) rfl rfl (by kernel_rfl) (by kernel_rfl) (by kernel_rfl) (by kernel_rfl) (by rfl) (by rfl) (by kernel_rfl) (fun _ _ _ h => h) (by rfl) ?_ hHeld ?_
            rotate_left 1
            · (intro w hSw; (try dsimp only at hSw); go_simp <;> (try with_reducible rfl))
            (try simp only [Act.put, List.setIfInBounds_toArray, List.set_cons_zero, List.set_cons_succ])
            refine readyK (rs := [5]) (by kernel_rfl) (by simp) (AllK.cons (i := 5) rfl (by rfl) (fun K hK => ?_) AllK.nil)
            clear hHeld
            (refine wp_of_list (ops := #[]) (by rfl) ?_; go_wp2_with (first | ((go_at_call 15); (with_reducible refine (endS (Hb23.out.sw) OK.out o2 o3 hm2 hm3 HE.out).mono ?_); rintro e_ wb24 ⟨rfl, h_new⟩; have Hb24 := Aside0.mk h_new; clear h_new Hb23; clear c_op_0 f_op_0 c_op_1 f_op_1 c_op_2 f_op_2 c_op_3 f_op_3; have c_op_0 : wb24.cell? ⟨go_, 0, none⟩ = some (.int .i64 1) := (blk_cell (Hb24.out.sw).blk 0).trans rfl; have f_op_0 := blk_frozen (Hb24.out.sw).blk 0; have c_op_1 : wb24.cell? ⟨go_, 1, none⟩ = some (.int .i64 o2) := (blk_cell (Hb24.out.sw).blk 1).trans rfl; have f_op_1 := blk_frozen (Hb24.out.sw).blk 1; have c_op_2 : wb24.cell? ⟨go_, 2, none⟩ = some (.int .i64 o3) := (blk_cell (Hb24.out.sw).blk 2).trans rfl; have f_op_2 := blk_frozen (Hb24.out.sw).blk 2; have c_op_3 : wb24.cell? ⟨go_, 3, none⟩ = some (.slice A9 L.length c9) := (blk_cell (Hb24.out.sw).blk 3).trans rfl; have f_op_3 := blk_frozen (Hb24.out.sw).blk 3)); change K _ _)
            refine hK.out _ _ ?_ (fun hHeld => ?_)
            · exact fun _ => ⟨c_op_0, c_op_1, c_op_2, c_op_3⟩
            replace hHeld := hHeld (by rfl)
            clear hK K
            (try simp only [Act.put, List.setIfInBounds_toArray, List.set_cons_zero, List.set_cons_succ])
            refine readyK (rs := [11]) (by kernel_rfl) (by simp) (AllK.cons (i := 11) rfl (by rfl) (fun K hK => ?_) AllK.nil)
            clear hHeld
            (refine wp_of_list (ops := #[]) (by rfl) ?_; go_wp2_with (first | ((go_at_call 20); (with_reducible refine (rendS (Hb24.out.up2) OK.out o2 o3 hm2 hm3 HE.out).mono ?_); rintro e_ wb25 ⟨rfl, h_new⟩; have Hb25 := Aside0.mk h_new; clear h_new Hb24; clear c_op_0 f_op_0 c_op_1 f_op_1 c_op_2 f_op_2 c_op_3 f_op_3; have c_op_0 : wb25.cell? ⟨go_, 0, none⟩ = some (.int .i64 1) := (blk_cell (Hb25.out.up2).blk 0).trans rfl; have f_op_0 := blk_frozen (Hb25.out.up2).blk 0; have c_op_1 : wb25.cell? ⟨go_, 1, none⟩ = some (.int .i64 o2) := (blk_cell (Hb25.out.up2).blk 1).trans rfl; have f_op_1 := blk_frozen (Hb25.out.up2).blk 1; have c_op_2 : wb25.cell? ⟨go_, 2, none⟩ = some (.int .i64 o3) := (blk_cell (Hb25.out.up2).blk 2).trans rfl; have f_op_2 := blk_frozen (Hb25.out.up2).blk 2; have c_op_3 : wb25.cell? ⟨go_, 3, none⟩ = some (.slice A9 L.length c9) := (blk_cell (Hb25.out.up2).blk 3).trans rfl; have f_op_3 := blk_frozen (Hb25.out.up2).blk 3)); change K _ _)
            refine hK.out _ _ ?_ (fun hHeld => ?_)
            · exact fun _ => ⟨c_op_0, c_op_1, c_op_2, c_op_3⟩
            replace hHeld := hHeld (by rfl)
            clear hK K
            (try simp only [Act.put, List.setIfInBounds_toArray, List.set_cons_zero, List.set_cons_succ])
            refine takeWK (i := 12) (v := ?_) rfl rfl (by kernel_rfl) (by kernel_rfl) (by kernel_rfl) (by kernel_rfl) (by rfl) (by rfl) (by kernel_rfl) (fun _ _ _ h => h) (by rfl) ?_ hHeld ?_
            rotate_left 1
            · (intro w hSw; (try dsimp only at hSw); go_simp <;> (try with_reducible rfl))
            (try simp only [Act.put, List.setIfInBounds_toArray, List.set_cons_zero, List.set_cons_succ])
            refine doneK (by kernel_rfl) ?_ _
            go_wp2
            obtain ⟨hv, hhv⟩ : ∃ hv, have_ cs' o2 = hv := ⟨_, rfl⟩
            have HHV := Aside0.mk hhv
            have hvv : (hv != hv) = false := by simp
            clear hhv
            have Hh16 := Aside0.mk Hb25.out.drew
            clear c_op_0 f_op_0 c_op_1 f_op_1 c_op_2 f_op_2 c_op_3 f_op_3
            have c_op_0 : (wb25).drew.cell? ⟨go_, 0, none⟩ = some (.int .i64 1) := (blk_cell (Hh16.out.up2).blk 0).trans rfl
            have f_op_0 := blk_frozen (Hh16.out.up2).blk 0
            have c_op_1 : (wb25).drew.cell? ⟨go_, 1, none⟩ = some (.int .i64 o2) := (blk_cell (Hh16.out.up2).blk 1).trans rfl
            have f_op_1 := blk_frozen (Hh16.out.up2).blk 1
            have c_op_2 : (wb25).drew.cell? ⟨go_, 2, none⟩ = some (.int .i64 o3) := (blk_cell (Hh16.out.up2).blk 2).trans rfl
            have f_op_2 := blk_frozen (Hh16.out.up2).blk 2
            have c_op_3 : (wb25).drew.cell? ⟨go_, 3, none⟩ = some (.slice A9 L.length c9) := (blk_cell (Hh16.out.up2).blk 3).trans rfl
            have f_op_3 := blk_frozen (Hh16.out.up2).blk 3
            refine wp_regionK (T := (fun w' => w'.cell? ⟨go_, 0, none⟩ = some (.int .i64 1) ∧ w'.cell? ⟨go_, 1, none⟩ = some (.int .i64 o2) ∧ w'.cell? ⟨go_, 2, none⟩ = some (.int .i64 o3) ∧ w'.cell? ⟨go_, 3, none⟩ = some (.slice A9 L.length c9))) 9 (by kernel_rfl) ?_ (fun hHeld => ?_)
            · exact ⟨c_op_0, c_op_1, c_op_2, c_op_3⟩
            refine takeWK (i := 0) (v := ?_) rfl rfl (by kernel_rfl) (by kernel_rfl) (by kernel_rfl) (by kernel_rfl) (by rfl) (by rfl) (by kernel_rfl) (fun _ _ _ h => h) (by rfl) ?_ hHeld ?_
            rotate_left 1
            · (intro w hSw; (try dsimp only at hSw); go_simp <;> (try with_reducible rfl))
            (try simp only [Act.put, List.setIfInBounds_toArray, List.set_cons_zero, List.set_cons_succ])
            refine takeWK (i := 1) (v := ?_) rfl rfl (by kernel_rfl) (by kernel_rfl) (by kernel_rfl) (by kernel_rfl) (by rfl) (by rfl) (by kernel_rfl) (fun _ _ _ h => h) (by rfl) ?_ hHeld ?_
            rotate_left 1
            · (intro w hSw; (try dsimp only at hSw); go_simp <;> (try with_reducible rfl))
            (try simp only [Act.put, List.setIfInBounds_toArray, List.set_cons_zero, List.set_cons_succ])
            refine takeWK (i := 2) (v := ?_) rfl rfl (by kernel_rfl) (by kernel_rfl) (by kernel_rfl) (by kernel_rfl) (by rfl) (by rfl) (by kernel_rfl) (fun _ _ _ h => h) (by rfl) ?_ hHeld ?_
            rotate_left 1
            · (intro w hSw; (try dsimp only at hSw); go_simp <;> (try with_reducible rfl))
            (try simp only [Act.put, List.setIfInBounds_toArray, List.set_cons_zero, List.set_cons_succ])
            refine takeWK (i := 4) (v := ?_) rfl rfl (by kernel_rfl) (by kernel_rfl) (by kernel_rfl) (by kernel_rfl) (by rfl) (by rfl) (by kernel_rfl) (fun _ _ _ h => h) (by rfl) ?_ hHeld ?_
            rotate_left 1
            · (intro w hSw; (try dsimp only at hSw); go_simp <;> (try with_reducible rfl))
            (try simp only [Act.put, List.setIfInBounds_toArray, List.set_cons_zero, List.set_cons_succ])
            refine takeWK (i := 5) (v := ?_) rfl rfl (by kernel_rfl) (by kernel_rfl) (by kernel_rfl) (by kernel_rfl) (by rfl) (by rfl) (by kernel_rfl) (fun _ _ _ h => h) (by rfl) ?_ hHeld ?_
            rotate_left 1
            · (intro w hSw; (try dsimp only at hSw); go_simp <;> (try with_reducible rfl))
            (try simp only [Act.put, List.setIfInBounds_toArray, List.set_cons_zero, List.set_cons_succ])
            refine takeWK (i := 6) (v := ?_) rfl rfl (by kernel_rfl) (by kernel_rfl) (by kernel_rfl) (by kernel_rfl) (by rfl) (by rfl) (by kernel_rfl) (fun _ _ _ h => h) (by rfl) ?_ hHeld ?_
            rotate_left 1
            · (intro w hSw; (try dsimp only at hSw); go_simp <;> (try with_reducible rfl))
            (try simp only [Act.put, List.setIfInBounds_toArray, List.set_cons_zero, List.set_cons_succ])
            refine readyK (rs := [3]) (by kernel_rfl) (by simp) (AllK.cons (i := 3) rfl (by rfl) (fun K hK => ?_) AllK.nil)
            clear hHeld
            (refine wp_of_list (ops := #[]) (by rfl) ?_; go_wp2_with (first | ((go_at_call 14); (with_reducible refine (haveS (Hh16.out.sw) OK'.out o2 hm2 HHV.out).mono ?_); rintro e_ wh17 ⟨rfl, h_new⟩; have Hh17 := Aside0.mk h_new; clear h_new Hh16; clear c_op_0 f_op_0 c_op_1 f_op_1 c_op_2 f_op_2 c_op_3 f_op_3; have c_op_0 : wh17.cell? ⟨go_, 0, none⟩ = some (.int .i64 1) := (blk_cell (Hh17.out.up2).blk 0).trans rfl; have f_op_0 := blk_frozen (Hh17.out.up2).blk 0; have c_op_1 : wh17.cell? ⟨go_, 1, none⟩ = some (.int .i64 o2) := (blk_cell (Hh17.out.up2).blk 1).trans rfl; have f_op_1 := blk_frozen (Hh17.out.up2).blk 1; have c_op_2 : wh17.cell? ⟨go_, 2, none⟩ = some (.int .i64 o3) := (blk_cell (Hh17.out.up2).blk 2).trans rfl; have f_op_2 := blk_frozen (Hh17.out.up2).blk 2; have c_op_3 : wh17.cell? ⟨go_, 3, none⟩ = some (.slice A9 L.length c9) := (blk_cell (Hh17.out.up2).blk 3).trans rfl; have f_op_3 := blk_frozen (Hh17.out.up2).blk 3)); change K _ _)
            refine hK.out _ _ ?_ (fun hHeld => ?_)
            · exact fun _ => ⟨c_op_0, c_op_1, c_op_2, c_op_3⟩
            replace hHeld := hHeld (by rfl)
            clear hK K
            (try simp only [Act.put, List.setIfInBounds_toArray, List.set_cons_zero, List.set_cons_succ])
            refine readyK (rs := [7]) (by kernel_rfl) (by simp) (AllK.cons (i := 7) rfl (by rfl) (fun K hK => ?_) AllK.nil)
            clear hHeld
            (refine wp_of_list (ops := #[]) (by rfl) ?_; go_wp2_with (first | ((go_at_call 25); (with_reducible refine (rhaveS (Hh17.out.sw) OK'.out o2 hm2 HHV.out).mono ?_); rintro e_ wh18 ⟨rfl, h_new⟩; have Hh18 := Aside0.mk h_new; clear h_new Hh17; clear c_op_0 f_op_0 c_op_1 f_op_1 c_op_2 f_op_2 c_op_3 f_op_3; have c_op_0 : wh18.cell? ⟨go_, 0, none⟩ = some (.int .i64 1) := (blk_cell (Hh18.out.up2).blk 0).trans rfl; have f_op_0 := blk_frozen (Hh18.out.up2).blk 0; have c_op_1 : wh18.cell? ⟨go_, 1, none⟩ = some (.int .i64 o2) := (blk_cell (Hh18.out.up2).blk 1).trans rfl; have f_op_1 := blk_frozen (Hh18.out.up2).blk 1; have c_op_2 : wh18.cell? ⟨go_, 2, none⟩ = some (.int .i64 o3) := (blk_cell (Hh18.out.up2).blk 2).trans rfl; have f_op_2 := blk_frozen (Hh18.out.up2).blk 2; have c_op_3 : wh18.cell? ⟨go_, 3, none⟩ = some (.slice A9 L.length c9) := (blk_cell (Hh18.out.up2).blk 3).trans rfl; have f_op_3 := blk_frozen (Hh18.out.up2).blk 3)); change K _ _)
            refine hK.out _ _ ?_ (fun hHeld => ?_)
            · exact fun _ => ⟨c_op_0, c_op_1, c_op_2, c_op_3⟩
            replace hHeld := hHeld (by rfl)
            clear hK K
            (try simp only [Act.put, List.setIfInBounds_toArray, List.set_cons_zero, List.set_cons_succ])
            refine takeWK (i := 8) (v := ?_) rfl rfl (by kernel_rfl) (by kernel_rfl) (by kernel_rfl) (by kernel_rfl) (by rfl) (by rfl) (by kernel_rfl) (fun _ _ _ h => h) (by rfl) ?_ hHeld ?_
            rotate_left 1
            · (intro w hSw; (try dsimp only at hSw); go_simp <;> (try with_reducible rfl))
            (try simp only [Act.put, List.setIfInBounds_toArray, List.set_cons_zero, List.set_cons_succ])
            refine doneK (by kernel_rfl) ?_ _
            go_wp2
            go_roundg k1
            case measure => have := HK.out; omega
            case rel => exact ⟨i + 1, g, cs', rfl, rfl, ⟨by have := HK.out; omega⟩, ⟨by omega⟩, OK', ⟨Has.dropAt 2 (Hh18.out.sw)⟩⟩
          · have q1 : decide (o1 = 1) = false := decide_eq_false k1_
            have q2 : (o1 == 1) = false := by simpa using k1_
            by_cases k2_ : o1 = 2
            · subst k2_
              go_wp2_with (first | ((with_reducible refine gate_dst (N := 14) rfl ?_); refine box_event ?hg (N := 14) ?hd (cs := #[.int .i64 0, .int .i64 0, .int .i64 0, .slice none 0 0]) (t := 47) ?hr ?_; (case hd => rfl); (case hg => rfl); (case hr => first | (go_simp; done) | (go_simp; rfl)); intro go_ hgb_ wc1 hbox_ hb5_; have h_new := Has.ownNew HW.out hgb_ hb5_ hbox_; clear hgb_ hb5_ hbox_; have Hc1 := Aside0.mk h_new; clear h_new HW) | ((with_reducible refine gate_store (t := 47) (p := 14) rfl ?_); refine wp_storeB rfl rfl 47 _ _ rfl (g := go_) (j := 0) (u := (.agg #[.int .i64 2, .int .i64 o2, .int .i64 o3, .slice A9 L.length c9])) (cs2 := #[.int .i64 2, .int .i64 o2, .int .i64 o3, .slice A9 L.length c9]) [.int .i64 2, .int .i64 o2, .int .i64 o3, .slice A9 L.length c9] rfl rfl rfl ?sI (by simp [Value.oneCell']) rfl (Hc1.out) (by simp) ?_; (case sI => first | rfl | kernel_rfl); intro wc2 h_new; have Hc2 := Aside0.mk h_new; clear h_new Hc1; have c_op_0 : wc2.cell? ⟨go_, 0, none⟩ = some (.int .i64 2) := (blk_cell (Hc2.out).blk 0).trans rfl; have f_op_0 := blk_frozen (Hc2.out).blk 0; have c_op_1 : wc2.cell? ⟨go_, 1, none⟩ = some (.int .i64 o2) := (blk_cell (Hc2.out).blk 1).trans rfl; have f_op_1 := blk_frozen (Hc2.out).blk 1; have c_op_2 : wc2.cell? ⟨go_, 2, none⟩ = some (.int .i64 o3) := (blk_cell (Hc2.out).blk 2).trans rfl; have f_op_2 := blk_frozen (Hc2.out).blk 2; have c_op_3 : wc2.cell? ⟨go_, 3, none⟩ = some (.slice A9 L.length c9) := (blk_cell (Hc2.out).blk 3).trans rfl; have f_op_3 := blk_frozen (Hc2.out).blk 3))
              obtain ⟨hv1, hh1⟩ : ∃ hv1, have_ cs 1 = hv1 := ⟨_, rfl⟩
              have HH1 := Aside0.mk hh1
              have hI1 : I64 hv1 := by
                have h9 := (OK.out.wf.at 1).1
                rw [← hh1]
                unfold have_
                split <;> omega
              clear hh1
              go_wp2_with (first | ((go_at_call 21); (with_reducible refine (fork.H (Hc2.out.sw) OK.out.wf OK.out.pos OK.out.len).mono ?_); rintro e_ wc23 ⟨g2, rfl, h_new⟩; have Hc23 := Aside0.mk h_new; clear h_new Hc2; clear c_op_0 f_op_0 c_op_1 f_op_1 c_op_2 f_op_2 c_op_3 f_op_3; have c_op_0 : wc23.cell? ⟨go_, 0, none⟩ = some (.int .i64 2) := (blk_cell (Hc23.out.sw).blk 0).trans rfl; have f_op_0 := blk_frozen (Hc23.out.sw).blk 0; have c_op_1 : wc23.cell? ⟨go_, 1, none⟩ = some (.int .i64 o2) := (blk_cell (Hc23.out.sw).blk 1).trans rfl; have f_op_1 := blk_frozen (Hc23.out.sw).blk 1; have c_op_2 : wc23.cell? ⟨go_, 2, none⟩ = some (.int .i64 o3) := (blk_cell (Hc23.out.sw).blk 2).trans rfl; have f_op_2 := blk_frozen (Hc23.out.sw).blk 2; have c_op_3 : wc23.cell? ⟨go_, 3, none⟩ = some (.slice A9 L.length c9) := (blk_cell (Hc23.out.sw).blk 3).trans rfl; have f_op_3 := blk_frozen (Hc23.out.sw).blk 3) | ((go_at_call 14); (with_reducible refine (have2.H (Hc23.out) OK.out.wf 1 (by omega)).mono ?_); rintro e_ wc24 ⟨rfl, h_new⟩; have Hc24 := Aside0.mk h_new; clear h_new Hc23; clear c_op_0 f_op_0 c_op_1 f_op_1 c_op_2 f_op_2 c_op_3 f_op_3; have c_op_0 : wc24.cell? ⟨go_, 0, none⟩ = some (.int .i64 2) := (blk_cell (Hc24.out.sw).blk 0).trans rfl; have f_op_0 := blk_frozen (Hc24.out.sw).blk 0; have c_op_1 : wc24.cell? ⟨go_, 1, none⟩ = some (.int .i64 o2) := (blk_cell (Hc24.out.sw).blk 1).trans rfl; have f_op_1 := blk_frozen (Hc24.out.sw).blk 1; have c_op_2 : wc24.cell? ⟨go_, 2, none⟩ = some (.int .i64 o3) := (blk_cell (Hc24.out.sw).blk 2).trans rfl; have f_op_2 := blk_frozen (Hc24.out.sw).blk 2; have c_op_3 : wc24.cell? ⟨go_, 3, none⟩ = some (.slice A9 L.length c9) := (blk_cell (Hc24.out.sw).blk 3).trans rfl; have f_op_3 := blk_frozen (Hc24.out.sw).blk 3; rw [HH1.out]) | ((with_reducible refine gate_dst (N := 112) rfl ?_); refine wp_litB rfl (N := 112) rfl (cs := #[.int .i64 0, .int .i64 0, .bool false]) (e := 24) (n := 1) ?lR (Hc24.out) ?_; (case lR => first | (go_simp; done) | (go_simp; rfl)); intro glt wc25 h_new; have Hc25 := Aside0.mk h_new; clear h_new Hc24; clear c_op_0 f_op_0 c_op_1 f_op_1 c_op_2 f_op_2 c_op_3 f_op_3; have c_op_0 : wc25.cell? ⟨go_, 0, none⟩ = some (.int .i64 2) := (blk_cell (Hc25.out.up2).blk 0).trans rfl; have f_op_0 := blk_frozen (Hc25.out.up2).blk 0; have c_op_1 : wc25.cell? ⟨go_, 1, none⟩ = some (.int .i64 o2) := (blk_cell (Hc25.out.up2).blk 1).trans rfl; have f_op_1 := blk_frozen (Hc25.out.up2).blk 1; have c_op_2 : wc25.cell? ⟨go_, 2, none⟩ = some (.int .i64 o3) := (blk_cell (Hc25.out.up2).blk 2).trans rfl; have f_op_2 := blk_frozen (Hc25.out.up2).blk 2; have c_op_3 : wc25.cell? ⟨go_, 3, none⟩ = some (.slice A9 L.length c9) := (blk_cell (Hc25.out.up2).blk 3).trans rfl; have f_op_3 := blk_frozen (Hc25.out.up2).blk 3) | ((go_at_call 12); (with_reducible refine (add2_one (Hc25.out.sw) OK.out.wf 1 hv1 (by omega) hI1 (some ⟨glt, 0, none⟩) 1 (0, 0, false) (fun W hW => C_one (x := (0, 0, false)) hW.sw.blk)).mono ?_); rintro e_ wc26 ⟨rfl, h_new⟩; have Hc26 := Aside0.mk h_new; clear h_new Hc25; clear c_op_0 f_op_0 c_op_1 f_op_1 c_op_2 f_op_2 c_op_3 f_op_3; have c_op_0 : wc26.cell? ⟨go_, 0, none⟩ = some (.int .i64 2) := (blk_cell (Hc26.out.up2).blk 0).trans rfl; have f_op_0 := blk_frozen (Hc26.out.up2).blk 0; have c_op_1 : wc26.cell? ⟨go_, 1, none⟩ = some (.int .i64 o2) := (blk_cell (Hc26.out.up2).blk 1).trans rfl; have f_op_1 := blk_frozen (Hc26.out.up2).blk 1; have c_op_2 : wc26.cell? ⟨go_, 2, none⟩ = some (.int .i64 o3) := (blk_cell (Hc26.out.up2).blk 2).trans rfl; have f_op_2 := blk_frozen (Hc26.out.up2).blk 2; have c_op_3 : wc26.cell? ⟨go_, 3, none⟩ = some (.slice A9 L.length c9) := (blk_cell (Hc26.out.up2).blk 3).trans rfl; have f_op_3 := blk_frozen (Hc26.out.up2).blk 3))
              obtain ⟨hv, hhv⟩ : ∃ hv, have_ cs o2 = hv := ⟨_, rfl⟩
              have HHV := Aside0.mk hhv
              have hvv : (hv != hv) = false := by simp
              clear hhv
              have Hh27 := Aside0.mk Hc26.out.drew
              clear c_op_0 f_op_0 c_op_1 f_op_1 c_op_2 f_op_2 c_op_3 f_op_3
              have c_op_0 : (wc26).drew.cell? ⟨go_, 0, none⟩ = some (.int .i64 2) := (blk_cell (Hh27.out.up2).blk 0).trans rfl
              have f_op_0 := blk_frozen (Hh27.out.up2).blk 0
              have c_op_1 : (wc26).drew.cell? ⟨go_, 1, none⟩ = some (.int .i64 o2) := (blk_cell (Hh27.out.up2).blk 1).trans rfl
              have f_op_1 := blk_frozen (Hh27.out.up2).blk 1
              have c_op_2 : (wc26).drew.cell? ⟨go_, 2, none⟩ = some (.int .i64 o3) := (blk_cell (Hh27.out.up2).blk 2).trans rfl
              have f_op_2 := blk_frozen (Hh27.out.up2).blk 2
              have c_op_3 : (wc26).drew.cell? ⟨go_, 3, none⟩ = some (.slice A9 L.length c9) := (blk_cell (Hh27.out.up2).blk 3).trans rfl
              have f_op_3 := blk_frozen (Hh27.out.up2).blk 3
              refine wp_regionK (T := (fun w' => w'.cell? ⟨go_, 0, none⟩ = some (.int .i64 2) ∧ w'.cell? ⟨go_, 1, none⟩ = some (.int .i64 o2) ∧ w'.cell? ⟨go_, 2, none⟩ = some (.int .i64 o3) ∧ w'.cell? ⟨go_, 3, none⟩ = some (.slice A9 L.length c9))) 9 (by kernel_rfl) ?_ (fun hHeld => ?_)
              · exact ⟨c_op_0, c_op_1, c_op_2, c_op_3⟩
              refine takeWK (i := 0) (v := ?_) rfl rfl (by kernel_rfl) (by kernel_rfl) (by kernel_rfl) (by kernel_rfl) (by rfl) (by rfl) (by kernel_rfl) (fun _ _ _ h => h) (by rfl) ?_ hHeld ?_
              rotate_left 1
              · (intro w hSw; (try dsimp only at hSw); go_simp <;> (try with_reducible rfl))
              (try simp only [Act.put, List.setIfInBounds_toArray, List.set_cons_zero, List.set_cons_succ])
              refine takeWK (i := 1) (v := ?_) rfl rfl (by kernel_rfl) (by kernel_rfl) (by kernel_rfl) (by kernel_rfl) (by rfl) (by rfl) (by kernel_rfl) (fun _ _ _ h => h) (by rfl) ?_ hHeld ?_
              rotate_left 1
              · (intro w hSw; (try dsimp only at hSw); go_simp <;> (try with_reducible rfl))
              (try simp only [Act.put, List.setIfInBounds_toArray, List.set_cons_zero, List.set_cons_succ])
              refine takeWK (i := 2) (v := ?_) rfl rfl (by kernel_rfl) (by kernel_rfl) (by kernel_rfl) (by kernel_rfl) (by rfl) (by rfl) (by kernel_rfl) (fun _ _ _ h => h) (by rfl) ?_ hHeld ?_
              rotate_left 1
              · (intro w hSw; (try dsimp only at hSw); go_simp <;> (try with_reducible rfl))
              (try simp only [Act.put, List.setIfInBounds_toArray, List.set_cons_zero, List.set_cons_succ])
              refine takeWK (i := 4) (v := ?_) rfl rfl (by kernel_rfl) (by kernel_rfl) (by kernel_rfl) (by kernel_rfl) (by rfl) (by rfl) (by kernel_rfl) (fun _ _ _ h => h) (by rfl) ?_ hHeld ?_
              rotate_left 1
              · (intro w hSw; (try dsimp only at hSw); go_simp <;> (try with_reducible rfl))
              (try simp only [Act.put, List.setIfInBounds_toArray, List.set_cons_zero, List.set_cons_succ])
              refine takeWK (i := 5) (v := ?_) rfl rfl (by kernel_rfl) (by kernel_rfl) (by kernel_rfl) (by kernel_rfl) (by rfl) (by rfl) (by kernel_rfl) (fun _ _ _ h => h) (by rfl) ?_ hHeld ?_
              rotate_left 1
              · (intro w hSw; (try dsimp only at hSw); go_simp <;> (try with_reducible rfl))
              (try simp only [Act.put, List.setIfInBounds_toArray, List.set_cons_zero, List.set_cons_succ])
              refine takeWK (i := 6) (v := ?_) rfl rfl (by kernel_rfl) (by kernel_rfl) (by kernel_rfl) (by kernel_rfl) (by rfl) (by rfl) (by kernel_rfl) (fun _ _ _ h => h) (by rfl) ?_ hHeld ?_
              rotate_left 1
              · (intro w hSw; (try dsimp only at hSw); go_simp <;> (try with_reducible rfl))
              (try simp only [Act.put, List.setIfInBounds_toArray, List.set_cons_zero, List.set_cons_succ])
              refine readyK (rs := [3]) (by kernel_rfl) (by simp) (AllK.cons (i := 3) rfl (by rfl) (fun K hK => ?_) AllK.nil)
              clear hHeld
              (refine wp_of_list (ops := #[]) (by rfl) ?_; go_wp2_with (first | ((go_at_call 14); (with_reducible refine (haveS (Hh27.out) OK.out o2 hm2 HHV.out).mono ?_); rintro e_ wh28 ⟨rfl, h_new⟩; have Hh28 := Aside0.mk h_new; clear h_new Hh27; clear c_op_0 f_op_0 c_op_1 f_op_1 c_op_2 f_op_2 c_op_3 f_op_3; have c_op_0 : wh28.cell? ⟨go_, 0, none⟩ = some (.int .i64 2) := (blk_cell (Hh28.out.up2).blk 0).trans rfl; have f_op_0 := blk_frozen (Hh28.out.up2).blk 0; have c_op_1 : wh28.cell? ⟨go_, 1, none⟩ = some (.int .i64 o2) := (blk_cell (Hh28.out.up2).blk 1).trans rfl; have f_op_1 := blk_frozen (Hh28.out.up2).blk 1; have c_op_2 : wh28.cell? ⟨go_, 2, none⟩ = some (.int .i64 o3) := (blk_cell (Hh28.out.up2).blk 2).trans rfl; have f_op_2 := blk_frozen (Hh28.out.up2).blk 2; have c_op_3 : wh28.cell? ⟨go_, 3, none⟩ = some (.slice A9 L.length c9) := (blk_cell (Hh28.out.up2).blk 3).trans rfl; have f_op_3 := blk_frozen (Hh28.out.up2).blk 3)); change K _ _)
              refine hK.out _ _ ?_ (fun hHeld => ?_)
              · exact fun _ => ⟨c_op_0, c_op_1, c_op_2, c_op_3⟩
              replace hHeld := hHeld (by rfl)
              clear hK K
              (try simp only [Act.put, List.setIfInBounds_toArray, List.set_cons_zero, List.set_cons_succ])
              refine readyK (rs := [7]) (by kernel_rfl) (by simp) (AllK.cons (i := 7) rfl (by rfl) (fun K hK => ?_) AllK.nil)
              clear hHeld
              (refine wp_of_list (ops := #[]) (by rfl) ?_; go_wp2_with (first | ((go_at_call 25); (with_reducible refine (rhaveS (Hh28.out.up3) OK.out o2 hm2 HHV.out).mono ?_); rintro e_ wh29 ⟨rfl, h_new⟩; have Hh29 := Aside0.mk h_new; clear h_new Hh28; clear c_op_0 f_op_0 c_op_1 f_op_1 c_op_2 f_op_2 c_op_3 f_op_3; have c_op_0 : wh29.cell? ⟨go_, 0, none⟩ = some (.int .i64 2) := (blk_cell (Hh29.out.up3).blk 0).trans rfl; have f_op_0 := blk_frozen (Hh29.out.up3).blk 0; have c_op_1 : wh29.cell? ⟨go_, 1, none⟩ = some (.int .i64 o2) := (blk_cell (Hh29.out.up3).blk 1).trans rfl; have f_op_1 := blk_frozen (Hh29.out.up3).blk 1; have c_op_2 : wh29.cell? ⟨go_, 2, none⟩ = some (.int .i64 o3) := (blk_cell (Hh29.out.up3).blk 2).trans rfl; have f_op_2 := blk_frozen (Hh29.out.up3).blk 2; have c_op_3 : wh29.cell? ⟨go_, 3, none⟩ = some (.slice A9 L.length c9) := (blk_cell (Hh29.out.up3).blk 3).trans rfl; have f_op_3 := blk_frozen (Hh29.out.up3).blk 3)); change K _ _)
              refine hK.out _ _ ?_ (fun hHeld => ?_)
              · exact fun _ => ⟨c_op_0, c_op_1, c_op_2, c_op_3⟩
              replace hHeld := hHeld (by rfl)
              clear hK K
              (try simp only [Act.put, List.setIfInBounds_toArray, List.set_cons_zero, List.set_cons_succ])
              refine takeWK (i := 8) (v := ?_) rfl rfl (by kernel_rfl) (by kernel_rfl) (by kernel_rfl) (by kernel_rfl) (by rfl) (by rfl) (by kernel_rfl) (fun _ _ _ h => h) (by rfl) ?_ hHeld ?_
              rotate_left 1
              · (intro w hSw; (try dsimp only at hSw); go_simp <;> (try with_reducible rfl))
              (try simp only [Act.put, List.setIfInBounds_toArray, List.set_cons_zero, List.set_cons_succ])
              refine doneK (by kernel_rfl) ?_ _
              go_wp2
              go_roundg k1
              case measure => have := HK.out; omega
              case rel => exact ⟨i + 1, g2, cs, rfl, rfl, ⟨by have := HK.out; omega⟩, ⟨by omega⟩, OK, ⟨Has.dropAt 2 (Hh29.out.sw)⟩⟩
            · have q3 : decide (o1 = 2) = false := decide_eq_false k2_
              have q4 : (o1 == 2) = false := by simpa using k2_
              obtain ⟨m, cs', he⟩ : ∃ m cs', add_ cs o2 o3 L = (m, cs') := ⟨_, _, rfl⟩
              have HE := Aside0.mk he
              have OK' := Aside0.mk (show okT cs' from by have := OK.out.add_ o2 o3 L; rw [he] at this; exact this)
              have hmm : (m != m) = false := by simp
              clear he
              go_wp2_with (first | ((with_reducible refine gate_dst (N := 14) rfl ?_); refine box_event ?hg (N := 14) ?hd (cs := #[.int .i64 0, .int .i64 0, .int .i64 0, .slice none 0 0]) (t := 47) ?hr ?_; (case hd => rfl); (case hg => rfl); (case hr => first | (go_simp; done) | (go_simp; rfl)); intro go_ hgb_ wd1 hbox_ hb5_; have h_new := Has.ownNew HW.out hgb_ hb5_ hbox_; clear hgb_ hb5_ hbox_; have Hd1 := Aside0.mk h_new; clear h_new HW) | ((with_reducible refine gate_store (t := 47) (p := 14) rfl ?_); refine wp_storeB rfl rfl 47 _ _ rfl (g := go_) (j := 0) (u := (.agg #[.int .i64 o1, .int .i64 o2, .int .i64 o3, .slice A9 L.length c9])) (cs2 := #[.int .i64 o1, .int .i64 o2, .int .i64 o3, .slice A9 L.length c9]) [.int .i64 o1, .int .i64 o2, .int .i64 o3, .slice A9 L.length c9] rfl rfl rfl ?sI (by simp [Value.oneCell']) rfl (Hd1.out) (by simp) ?_; (case sI => first | rfl | kernel_rfl); intro wd2 h_new; have Hd2 := Aside0.mk h_new; clear h_new Hd1; have c_op_0 : wd2.cell? ⟨go_, 0, none⟩ = some (.int .i64 o1) := (blk_cell (Hd2.out).blk 0).trans rfl; have f_op_0 := blk_frozen (Hd2.out).blk 0; have c_op_1 : wd2.cell? ⟨go_, 1, none⟩ = some (.int .i64 o2) := (blk_cell (Hd2.out).blk 1).trans rfl; have f_op_1 := blk_frozen (Hd2.out).blk 1; have c_op_2 : wd2.cell? ⟨go_, 2, none⟩ = some (.int .i64 o3) := (blk_cell (Hd2.out).blk 2).trans rfl; have f_op_2 := blk_frozen (Hd2.out).blk 2; have c_op_3 : wd2.cell? ⟨go_, 3, none⟩ = some (.slice A9 L.length c9) := (blk_cell (Hd2.out).blk 3).trans rfl; have f_op_3 := blk_frozen (Hd2.out).blk 3))
              go_wp2_with (first | ((go_at_call 22); (with_reducible refine (own.H (Hd2.out) A9 c9 L (71, 0, false) (by omega) (fun W hW => hW.came (Nat.le_refl _) HG.out)).mono ?_); rintro e_ wd23 ⟨g4, rfl, h_new⟩; have Hd23 := Aside0.mk h_new; clear h_new Hd2; clear c_op_0 f_op_0 c_op_1 f_op_1 c_op_2 f_op_2 c_op_3 f_op_3; have c_op_0 : wd23.cell? ⟨go_, 0, none⟩ = some (.int .i64 o1) := (blk_cell (Hd23.out.sw).blk 0).trans rfl; have f_op_0 := blk_frozen (Hd23.out.sw).blk 0; have c_op_1 : wd23.cell? ⟨go_, 1, none⟩ = some (.int .i64 o2) := (blk_cell (Hd23.out.sw).blk 1).trans rfl; have f_op_1 := blk_frozen (Hd23.out.sw).blk 1; have c_op_2 : wd23.cell? ⟨go_, 2, none⟩ = some (.int .i64 o3) := (blk_cell (Hd23.out.sw).blk 2).trans rfl; have f_op_2 := blk_frozen (Hd23.out.sw).blk 2; have c_op_3 : wd23.cell? ⟨go_, 3, none⟩ = some (.slice A9 L.length c9) := (blk_cell (Hd23.out.sw).blk 3).trans rfl; have f_op_3 := blk_frozen (Hd23.out.sw).blk 3))
              go_wp2
              have Hd34 := Aside0.mk Hd23.out.drew
              clear c_op_0 f_op_0 c_op_1 f_op_1 c_op_2 f_op_2 c_op_3 f_op_3
              have c_op_0 : (wd23).drew.cell? ⟨go_, 0, none⟩ = some (.int .i64 o1) := (blk_cell (Hd34.out.sw).blk 0).trans rfl
              have f_op_0 := blk_frozen (Hd34.out.sw).blk 0
              have c_op_1 : (wd23).drew.cell? ⟨go_, 1, none⟩ = some (.int .i64 o2) := (blk_cell (Hd34.out.sw).blk 1).trans rfl
              have f_op_1 := blk_frozen (Hd34.out.sw).blk 1
              have c_op_2 : (wd23).drew.cell? ⟨go_, 2, none⟩ = some (.int .i64 o3) := (blk_cell (Hd34.out.sw).blk 2).trans rfl
              have f_op_2 := blk_frozen (Hd34.out.sw).blk 2
              have c_op_3 : (wd23).drew.cell? ⟨go_, 3, none⟩ = some (.slice A9 L.length c9) := (blk_cell (Hd34.out.sw).blk 3).trans rfl
              have f_op_3 := blk_frozen (Hd34.out.sw).blk 3
              refine wp_regionK (T := (fun w' => w'.cell? ⟨go_, 0, none⟩ = some (.int .i64 o1) ∧ w'.cell? ⟨go_, 1, none⟩ = some (.int .i64 o2) ∧ w'.cell? ⟨go_, 2, none⟩ = some (.int .i64 o3) ∧ w'.cell? ⟨go_, 3, none⟩ = some (.slice A9 L.length c9))) 24 (by kernel_rfl) ?_ (fun hHeld => ?_)
              · exact ⟨c_op_0, c_op_1, c_op_2, c_op_3⟩
              refine takeWK (i := 0) (v := ?_) rfl rfl (by kernel_rfl) (by kernel_rfl) (by kernel_rfl) (by kernel_rfl) (by rfl) (by rfl) (by kernel_rfl) (fun _ _ _ h => h) (by rfl) ?_ hHeld ?_
              rotate_left 1
              · (intro w hSw; (try dsimp only at hSw); go_simp <;> (try with_reducible rfl))
              (try simp only [Act.put, List.setIfInBounds_toArray, List.set_cons_zero, List.set_cons_succ]) <;> (try simp only [hmm])
              refine takeWK (i := 1) (v := ?_) rfl rfl (by kernel_rfl) (by kernel_rfl) (by kernel_rfl) (by kernel_rfl) (by rfl) (by rfl) (by kernel_rfl) (fun _ _ _ h => h) (by rfl) ?_ hHeld ?_
              rotate_left 1
              · (intro w hSw; (try dsimp only at hSw); go_simp <;> (try with_reducible rfl))
              (try simp only [Act.put, List.setIfInBounds_toArray, List.set_cons_zero, List.set_cons_succ]) <;> (try simp only [hmm])
              refine takeWK (i := 2) (v := ?_) rfl rfl (by kernel_rfl) (by kernel_rfl) (by kernel_rfl) (by kernel_rfl) (by rfl) (by rfl) (by kernel_rfl) (fun _ _ _ h => h) (by rfl) ?_ hHeld ?_
              rotate_left 1
              · (intro w hSw; (try dsimp only at hSw); go_simp <;> (try with_reducible rfl))
              (try simp only [Act.put, List.setIfInBounds_toArray, List.set_cons_zero, List.set_cons_succ]) <;> (try simp only [hmm])
              refine takeWK (i := 3) (v := ?_) rfl rfl (by kernel_rfl) (by kernel_rfl) (by kernel_rfl) (by kernel_rfl) (by rfl) (by rfl) (by kernel_rfl) (fun _ _ _ h => h) (by rfl) ?_ hHeld ?_
              rotate_left 1
              · (intro w hSw; (try dsimp only at hSw); go_simp <;> (try with_reducible rfl))
              (try simp only [Act.put, List.setIfInBounds_toArray, List.set_cons_zero, List.set_cons_succ]) <;> (try simp only [hmm])
              refine takeWK (i := 4) (v := ?_) rfl rfl (by kernel_rfl) (by kernel_rfl) (by kernel_rfl) (by kernel_rfl) (by rfl) (by rfl) (by kernel_rfl) (fun _ _ _ h => h) (by rfl) ?_ hHeld ?_
              rotate_left 1
              · (intro w hSw; (try dsimp only at hSw); go_simp <;> (try with_reducible rfl))
              (try simp only [Act.put, List.setIfInBounds_toArray, List.set_cons_zero, List.set_cons_succ]) <;> (try simp only [hmm])
              refine takeWK (i := 5) (v := ?_) rfl rfl (by kernel_rfl) (by kernel_rfl) (by kernel_rfl) (by kernel_rfl) (by rfl) (by rfl) (by kernel_rfl) (fun _ _ _ h => h) (by rfl) ?_ hHeld ?_
              rotate_left 1
              · (intro w hSw; (try dsimp only at hSw); go_simp <;> (try with_reducible rfl))
              (try simp only [Act.put, List.setIfInBounds_toArray, List.set_cons_zero, List.set_cons_succ]) <;> (try simp only [hmm])
              refine takeWK (i := 7) (v := ?_) rfl rfl (by kernel_rfl) (by kernel_rfl) (by kernel_rfl) (by kernel_rfl) (by rfl) (by rfl) (by kernel_rfl) (fun _ _ _ h => h) (by rfl) ?_ hHeld ?_
              rotate_left 1
              · (intro w hSw; (try dsimp only at hSw); go_simp <;> (try with_reducible rfl))
              (try simp only [Act.put, List.setIfInBounds_toArray, List.set_cons_zero, List.set_cons_succ]) <;> (try simp only [hmm])
              refine takeWK (i := 8) (v := ?_) rfl rfl (by kernel_rfl) (by kernel_rfl) (by kernel_rfl) (by kernel_rfl) (by rfl) (by rfl) (by kernel_rfl) (fun _ _ _ h => h) (by rfl) ?_ hHeld ?_
              rotate_left 1
              · (intro w hSw; (try dsimp only at hSw); go_simp <;> (try with_reducible rfl))
              (try simp only [Act.put, List.setIfInBounds_toArray, List.set_cons_zero, List.set_cons_succ]) <;> (try simp only [hmm])
              refine takeWK (i := 9) (v := ?_) rfl rfl (by kernel_rfl) (by kernel_rfl) (by kernel_rfl) (by kernel_rfl) (by rfl) (by rfl) (by kernel_rfl) (fun _ _ _ h => h) (by rfl) ?_ hHeld ?_
              rotate_left 1
              · (intro w hSw; (try dsimp only at hSw); go_simp <;> (try with_reducible rfl))
              (try simp only [Act.put, List.setIfInBounds_toArray, List.set_cons_zero, List.set_cons_succ]) <;> (try simp only [hmm])
              refine takeWK (i := 10) (v := ?_) rfl rfl (by kernel_rfl) (by kernel_rfl) (by kernel_rfl) (by kernel_rfl) (by rfl) (by rfl) (by kernel_rfl) (fun _ _ _ h => h) (by rfl) ?_ hHeld ?_
              rotate_left 1
              · (intro w hSw; (try dsimp only at hSw); go_simp <;> (try with_reducible rfl))
              (try simp only [Act.put, List.setIfInBounds_toArray, List.set_cons_zero, List.set_cons_succ]) <;> (try simp only [hmm])
              refine takeWK (i := 11) (v := ?_) rfl rfl (by kernel_rfl) (by kernel_rfl) (by kernel_rfl) (by kernel_rfl) (by rfl) (by rfl) (by kernel_rfl) (fun _ _ _ h => h) (by rfl) ?_ hHeld ?_
              rotate_left 1
              · (intro w hSw; (try dsimp only at hSw); go_simp <;> (try with_reducible rfl))
              (try simp only [Act.put, List.setIfInBounds_toArray, List.set_cons_zero, List.set_cons_succ]) <;> (try simp only [hmm])
              refine takeWK (i := 12) (v := ?_) rfl rfl (by kernel_rfl) (by kernel_rfl) (by kernel_rfl) (by kernel_rfl) (by rfl) (by rfl) (by kernel_rfl) (fun _ _ _ h => h) (by rfl) ?_ hHeld ?_
              rotate_left 1
              · (intro w hSw; (try dsimp only at hSw); go_simp <;> (try with_reducible rfl))
              (try simp only [Act.put, List.setIfInBounds_toArray, List.set_cons_zero, List.set_cons_succ]) <;> (try simp only [hmm])
              refine takeWK (i := 13) (v := ?_) rfl rfl (by kernel_rfl) (by kernel_rfl) (by kernel_rfl) (by kernel_rfl) (by rfl) (by rfl) (by kernel_rfl) (fun _ _ _ h => h) (by rfl) ?_ hHeld ?_
              rotate_left 1
              · (intro w hSw; (try dsimp only at hSw); go_simp <;> (try with_reducible rfl))
              (try simp only [Act.put, List.setIfInBounds_toArray, List.set_cons_zero, List.set_cons_succ]) <;> (try simp only [hmm])
              refine readyK (rs := [6]) (by kernel_rfl) (by simp) (AllK.cons (i := 6) rfl (by rfl) (fun K hK => ?_) AllK.nil)
              clear hHeld
              (refine wp_of_list (ops := #[]) (by rfl) ?_; go_wp2_with (first | ((go_at_call 12); (with_reducible refine (addS (Hd34.out.up2) OK.out o2 o3 hm2 hm3 (some ⟨g4, 0, none⟩) (L.length + 3) L (by omega) (fun W hW => row_pre hW rfl) HE.out).mono ?_); rintro e_ wd35 ⟨rfl, h_new⟩; have Hd35 := Aside0.mk h_new; clear h_new Hd34; clear c_op_0 f_op_0 c_op_1 f_op_1 c_op_2 f_op_2 c_op_3 f_op_3; have c_op_0 : wd35.cell? ⟨go_, 0, none⟩ = some (.int .i64 o1) := (blk_cell (Hd35.out.up2).blk 0).trans rfl; have f_op_0 := blk_frozen (Hd35.out.up2).blk 0; have c_op_1 : wd35.cell? ⟨go_, 1, none⟩ = some (.int .i64 o2) := (blk_cell (Hd35.out.up2).blk 1).trans rfl; have f_op_1 := blk_frozen (Hd35.out.up2).blk 1; have c_op_2 : wd35.cell? ⟨go_, 2, none⟩ = some (.int .i64 o3) := (blk_cell (Hd35.out.up2).blk 2).trans rfl; have f_op_2 := blk_frozen (Hd35.out.up2).blk 2; have c_op_3 : wd35.cell? ⟨go_, 3, none⟩ = some (.slice A9 L.length c9) := (blk_cell (Hd35.out.up2).blk 3).trans rfl; have f_op_3 := blk_frozen (Hd35.out.up2).blk 3)); change K _ _)
              refine hK.out _ _ ?_ (fun hHeld => ?_)
              · exact fun _ => ⟨c_op_0, c_op_1, c_op_2, c_op_3⟩
              replace hHeld := hHeld (by rfl)
              clear hK K
              (try simp only [Act.put, List.setIfInBounds_toArray, List.set_cons_zero, List.set_cons_succ]) <;> (try simp only [hmm])
              refine readyK (rs := [14]) (by kernel_rfl) (by simp) (AllK.cons (i := 14) rfl (by rfl) (fun K hK => ?_) AllK.nil)
              clear hHeld
              (refine wp_of_list (ops := #[]) (by rfl) ?_; go_wp2_with (first | ((go_at_call 23); (with_reducible refine (raddS (Hd35.out.up3) (Nat.le_refl _) OK.out o2 o3 hm2 hm3 A9 c9 L (by omega) HG.out HE.out).mono ?_); rintro e_ wd36 ⟨rfl, h_new⟩; have Hd36 := Aside0.mk h_new; clear h_new Hd35; clear c_op_0 f_op_0 c_op_1 f_op_1 c_op_2 f_op_2 c_op_3 f_op_3; have c_op_0 : wd36.cell? ⟨go_, 0, none⟩ = some (.int .i64 o1) := (blk_cell (Hd36.out.up3).blk 0).trans rfl; have f_op_0 := blk_frozen (Hd36.out.up3).blk 0; have c_op_1 : wd36.cell? ⟨go_, 1, none⟩ = some (.int .i64 o2) := (blk_cell (Hd36.out.up3).blk 1).trans rfl; have f_op_1 := blk_frozen (Hd36.out.up3).blk 1; have c_op_2 : wd36.cell? ⟨go_, 2, none⟩ = some (.int .i64 o3) := (blk_cell (Hd36.out.up3).blk 2).trans rfl; have f_op_2 := blk_frozen (Hd36.out.up3).blk 2; have c_op_3 : wd36.cell? ⟨go_, 3, none⟩ = some (.slice A9 L.length c9) := (blk_cell (Hd36.out.up3).blk 3).trans rfl; have f_op_3 := blk_frozen (Hd36.out.up3).blk 3)); change K _ _)
              refine hK.out _ _ ?_ (fun hHeld => ?_)
              · exact fun _ => ⟨c_op_0, c_op_1, c_op_2, c_op_3⟩
              replace hHeld := hHeld (by rfl)
              clear hK K
              (try simp only [Act.put, List.setIfInBounds_toArray, List.set_cons_zero, List.set_cons_succ]) <;> (try simp only [hmm])
              refine takeWK (i := 15) (v := ?_) rfl rfl (by kernel_rfl) (by kernel_rfl) (by kernel_rfl) (by kernel_rfl) (by rfl) (by rfl) (by kernel_rfl) (fun _ _ _ h => h) (by rfl) ?_ hHeld ?_
              rotate_left 1
              · (intro w hSw; (try dsimp only at hSw); go_simp <;> (try with_reducible rfl))
              (try simp only [Act.put, List.setIfInBounds_toArray, List.set_cons_zero, List.set_cons_succ]) <;> (try simp only [hmm])
              refine takeWK (i := 16) (v := ?_) rfl rfl (by kernel_rfl) (by kernel_rfl) (by kernel_rfl) (by kernel_rfl) (by rfl) (by rfl) (by kernel_rfl) (fun _ _ _ h => h) (by rfl) ?_ hHeld ?_
              rotate_left 1
              · (intro w hSw; (try dsimp only at hSw); go_simp <;> (try with_reducible rfl))
              (try simp only [Act.put, List.setIfInBounds_toArray, List.set_cons_zero, List.set_cons_succ]) <;> (try simp only [hmm])
              refine takeWK (i := 17) (v := ?_) rfl rfl (by kernel_rfl) (by kernel_rfl) (by kernel_rfl) (by kernel_rfl) (by rfl) (by rfl) (by kernel_rfl) (fun _ _ _ h => h) (by rfl) ?_ hHeld ?_
              rotate_left 1
              · (intro w hSw; (try dsimp only at hSw); go_simp <;> (try with_reducible rfl))
              (try simp only [Act.put, List.setIfInBounds_toArray, List.set_cons_zero, List.set_cons_succ]) <;> (try simp only [hmm])
              refine takeWK (i := 18) (v := ?_) rfl rfl (by kernel_rfl) (by kernel_rfl) (by kernel_rfl) (by kernel_rfl) (by rfl) (by rfl) (by kernel_rfl) (fun _ _ _ h => h) (by rfl) ?_ hHeld ?_
              rotate_left 1
              · (intro w hSw; (try dsimp only at hSw); go_simp <;> (try with_reducible rfl))
              (try simp only [Act.put, List.setIfInBounds_toArray, List.set_cons_zero, List.set_cons_succ]) <;> (try simp only [hmm])
              refine takeWK (i := 19) (v := ?_) rfl rfl (by kernel_rfl) (by kernel_rfl) (by kernel_rfl) (by kernel_rfl) (by rfl) (by rfl) (by kernel_rfl) (fun _ _ _ h => h) (by rfl) ?_ hHeld ?_
              rotate_left 1
              · (intro w hSw; (try dsimp only at hSw); go_simp <;> (try with_reducible rfl))
              (try simp only [Act.put, List.setIfInBounds_toArray, List.set_cons_zero, List.set_cons_succ]) <;> (try simp only [hmm])
              refine takeWK (i := 20) (v := ?_) rfl rfl (by kernel_rfl) (by kernel_rfl) (by kernel_rfl) (by kernel_rfl) (by rfl) (by rfl) (by kernel_rfl) (fun _ _ _ h => h) (by rfl) ?_ hHeld ?_
              rotate_left 1
              · (intro w hSw; (try dsimp only at hSw); go_simp <;> (try with_reducible rfl))
              (try simp only [Act.put, List.setIfInBounds_toArray, List.set_cons_zero, List.set_cons_succ]) <;> (try simp only [hmm])
              refine readyK (rs := [21]) (by kernel_rfl) (by simp) (AllK.cons (i := 21) rfl (by rfl) (fun K hK => ?_) AllK.nil)
              clear hHeld
              (refine wp_of_listG (ops := #[]) ?_; go_wp2_with (first | ((go_at_call 24); (with_reducible refine (kept.H L (71, 0, false) (Hd36.out.up2) A9 c9 l3 (by omega) (fun W hW => hW.came (Nat.le_refl _) HG.out)).mono ?_); rintro e_ wd37 ⟨rfl, h_new⟩; have Hd37 := Aside0.mk h_new; clear h_new Hd36; clear c_op_0 f_op_0 c_op_1 f_op_1 c_op_2 f_op_2 c_op_3 f_op_3; have c_op_0 : wd37.cell? ⟨go_, 0, none⟩ = some (.int .i64 o1) := (blk_cell (Hd37.out.up3).blk 0).trans rfl; have f_op_0 := blk_frozen (Hd37.out.up3).blk 0; have c_op_1 : wd37.cell? ⟨go_, 1, none⟩ = some (.int .i64 o2) := (blk_cell (Hd37.out.up3).blk 1).trans rfl; have f_op_1 := blk_frozen (Hd37.out.up3).blk 1; have c_op_2 : wd37.cell? ⟨go_, 2, none⟩ = some (.int .i64 o3) := (blk_cell (Hd37.out.up3).blk 2).trans rfl; have f_op_2 := blk_frozen (Hd37.out.up3).blk 2; have c_op_3 : wd37.cell? ⟨go_, 3, none⟩ = some (.slice A9 L.length c9) := (blk_cell (Hd37.out.up3).blk 3).trans rfl; have f_op_3 := blk_frozen (Hd37.out.up3).blk 3)); change K _ _)
              refine hK.out _ _ ?_ (fun hHeld => ?_)
              · exact fun _ => ⟨c_op_0, c_op_1, c_op_2, c_op_3⟩
              replace hHeld := hHeld (by rfl)
              clear hK K
              (try simp only [Act.put, List.setIfInBounds_toArray, List.set_cons_zero, List.set_cons_succ]) <;> (try simp only [hmm])
              refine takeWK (i := 22) (v := ?_) rfl rfl (by kernel_rfl) (by kernel_rfl) (by kernel_rfl) (by kernel_rfl) (by rfl) (by rfl) (by kernel_rfl) (fun _ _ _ h => h) (by rfl) ?_ hHeld ?_
              rotate_left 1
              · (intro w hSw; (try dsimp only at hSw); go_simp <;> (try with_reducible rfl))
              (try simp only [Act.put, List.setIfInBounds_toArray, List.set_cons_zero, List.set_cons_succ]) <;> (try simp only [hmm])
              refine takeWK (i := 23) (v := ?_) rfl rfl (by kernel_rfl) (by kernel_rfl) (by kernel_rfl) (by kernel_rfl) (by rfl) (by rfl) (by kernel_rfl) (fun _ _ _ h => h) (by rfl) ?_ hHeld ?_
              rotate_left 1
              · (intro w hSw; (try dsimp only at hSw); go_simp <;> (try with_reducible rfl))
              (try simp only [Act.put, List.setIfInBounds_toArray, List.set_cons_zero, List.set_cons_succ]) <;> (try simp only [hmm])
              refine doneK (by kernel_rfl) ?_ _
              go_wp2
              obtain ⟨hv, hhv⟩ : ∃ hv, have_ cs' o2 = hv := ⟨_, rfl⟩
              have HHV := Aside0.mk hhv
              have hvv : (hv != hv) = false := by simp
              clear hhv
              have Hh38 := Aside0.mk Hd37.out.drew
              clear c_op_0 f_op_0 c_op_1 f_op_1 c_op_2 f_op_2 c_op_3 f_op_3
              have c_op_0 : (wd37).drew.cell? ⟨go_, 0, none⟩ = some (.int .i64 o1) := (blk_cell (Hh38.out.up3).blk 0).trans rfl
              have f_op_0 := blk_frozen (Hh38.out.up3).blk 0
              have c_op_1 : (wd37).drew.cell? ⟨go_, 1, none⟩ = some (.int .i64 o2) := (blk_cell (Hh38.out.up3).blk 1).trans rfl
              have f_op_1 := blk_frozen (Hh38.out.up3).blk 1
              have c_op_2 : (wd37).drew.cell? ⟨go_, 2, none⟩ = some (.int .i64 o3) := (blk_cell (Hh38.out.up3).blk 2).trans rfl
              have f_op_2 := blk_frozen (Hh38.out.up3).blk 2
              have c_op_3 : (wd37).drew.cell? ⟨go_, 3, none⟩ = some (.slice A9 L.length c9) := (blk_cell (Hh38.out.up3).blk 3).trans rfl
              have f_op_3 := blk_frozen (Hh38.out.up3).blk 3
              refine wp_regionK (T := (fun w' => w'.cell? ⟨go_, 0, none⟩ = some (.int .i64 o1) ∧ w'.cell? ⟨go_, 1, none⟩ = some (.int .i64 o2) ∧ w'.cell? ⟨go_, 2, none⟩ = some (.int .i64 o3) ∧ w'.cell? ⟨go_, 3, none⟩ = some (.slice A9 L.length c9))) 9 (by kernel_rfl) ?_ (fun hHeld => ?_)
              · exact ⟨c_op_0, c_op_1, c_op_2, c_op_3⟩
              refine takeWK (i := 0) (v := ?_) rfl rfl (by kernel_rfl) (by kernel_rfl) (by kernel_rfl) (by kernel_rfl) (by rfl) (by rfl) (by kernel_rfl) (fun _ _ _ h => h) (by rfl) ?_ hHeld ?_
              rotate_left 1
              · (intro w hSw; (try dsimp only at hSw); go_simp <;> (try with_reducible rfl))
              (try simp only [Act.put, List.setIfInBounds_toArray, List.set_cons_zero, List.set_cons_succ])
              refine takeWK (i := 1) (v := ?_) rfl rfl (by kernel_rfl) (by kernel_rfl) (by kernel_rfl) (by kernel_rfl) (by rfl) (by rfl) (by kernel_rfl) (fun _ _ _ h => h) (by rfl) ?_ hHeld ?_
              rotate_left 1
              · (intro w hSw; (try dsimp only at hSw); go_simp <;> (try with_reducible rfl))
              (try simp only [Act.put, List.setIfInBounds_toArray, List.set_cons_zero, List.set_cons_succ])
              refine takeWK (i := 2) (v := ?_) rfl rfl (by kernel_rfl) (by kernel_rfl) (by kernel_rfl) (by kernel_rfl) (by rfl) (by rfl) (by kernel_rfl) (fun _ _ _ h => h) (by rfl) ?_ hHeld ?_
              rotate_left 1
              · (intro w hSw; (try dsimp only at hSw); go_simp <;> (try with_reducible rfl))
              (try simp only [Act.put, List.setIfInBounds_toArray, List.set_cons_zero, List.set_cons_succ])
              refine takeWK (i := 4) (v := ?_) rfl rfl (by kernel_rfl) (by kernel_rfl) (by kernel_rfl) (by kernel_rfl) (by rfl) (by rfl) (by kernel_rfl) (fun _ _ _ h => h) (by rfl) ?_ hHeld ?_
              rotate_left 1
              · (intro w hSw; (try dsimp only at hSw); go_simp <;> (try with_reducible rfl))
              (try simp only [Act.put, List.setIfInBounds_toArray, List.set_cons_zero, List.set_cons_succ])
              refine takeWK (i := 5) (v := ?_) rfl rfl (by kernel_rfl) (by kernel_rfl) (by kernel_rfl) (by kernel_rfl) (by rfl) (by rfl) (by kernel_rfl) (fun _ _ _ h => h) (by rfl) ?_ hHeld ?_
              rotate_left 1
              · (intro w hSw; (try dsimp only at hSw); go_simp <;> (try with_reducible rfl))
              (try simp only [Act.put, List.setIfInBounds_toArray, List.set_cons_zero, List.set_cons_succ])
              refine takeWK (i := 6) (v := ?_) rfl rfl (by kernel_rfl) (by kernel_rfl) (by kernel_rfl) (by kernel_rfl) (by rfl) (by rfl) (by kernel_rfl) (fun _ _ _ h => h) (by rfl) ?_ hHeld ?_
              rotate_left 1
              · (intro w hSw; (try dsimp only at hSw); go_simp <;> (try with_reducible rfl))
              (try simp only [Act.put, List.setIfInBounds_toArray, List.set_cons_zero, List.set_cons_succ])
              refine readyK (rs := [3]) (by kernel_rfl) (by simp) (AllK.cons (i := 3) rfl (by rfl) (fun K hK => ?_) AllK.nil)
              clear hHeld
              (refine wp_of_list (ops := #[]) (by rfl) ?_; go_wp2_with (first | ((go_at_call 14); (with_reducible refine (haveS (Hh38.out.up2) OK'.out o2 hm2 HHV.out).mono ?_); rintro e_ wh39 ⟨rfl, h_new⟩; have Hh39 := Aside0.mk h_new; clear h_new Hh38; clear c_op_0 f_op_0 c_op_1 f_op_1 c_op_2 f_op_2 c_op_3 f_op_3; have c_op_0 : wh39.cell? ⟨go_, 0, none⟩ = some (.int .i64 o1) := (blk_cell (Hh39.out.up3).blk 0).trans rfl; have f_op_0 := blk_frozen (Hh39.out.up3).blk 0; have c_op_1 : wh39.cell? ⟨go_, 1, none⟩ = some (.int .i64 o2) := (blk_cell (Hh39.out.up3).blk 1).trans rfl; have f_op_1 := blk_frozen (Hh39.out.up3).blk 1; have c_op_2 : wh39.cell? ⟨go_, 2, none⟩ = some (.int .i64 o3) := (blk_cell (Hh39.out.up3).blk 2).trans rfl; have f_op_2 := blk_frozen (Hh39.out.up3).blk 2; have c_op_3 : wh39.cell? ⟨go_, 3, none⟩ = some (.slice A9 L.length c9) := (blk_cell (Hh39.out.up3).blk 3).trans rfl; have f_op_3 := blk_frozen (Hh39.out.up3).blk 3)); change K _ _)
              refine hK.out _ _ ?_ (fun hHeld => ?_)
              · exact fun _ => ⟨c_op_0, c_op_1, c_op_2, c_op_3⟩
              replace hHeld := hHeld (by rfl)
              clear hK K
              (try simp only [Act.put, List.setIfInBounds_toArray, List.set_cons_zero, List.set_cons_succ])
              refine readyK (rs := [7]) (by kernel_rfl) (by simp) (AllK.cons (i := 7) rfl (by rfl) (fun K hK => ?_) AllK.nil)
              clear hHeld
              (refine wp_of_list (ops := #[]) (by rfl) ?_; go_wp2_with (first | ((go_at_call 25); (with_reducible refine (rhaveS (Hh39.out.up2) OK'.out o2 hm2 HHV.out).mono ?_); rintro e_ wh310 ⟨rfl, h_new⟩; have Hh310 := Aside0.mk h_new; clear h_new Hh39; clear c_op_0 f_op_0 c_op_1 f_op_1 c_op_2 f_op_2 c_op_3 f_op_3; have c_op_0 : wh310.cell? ⟨go_, 0, none⟩ = some (.int .i64 o1) := (blk_cell (Hh310.out.up3).blk 0).trans rfl; have f_op_0 := blk_frozen (Hh310.out.up3).blk 0; have c_op_1 : wh310.cell? ⟨go_, 1, none⟩ = some (.int .i64 o2) := (blk_cell (Hh310.out.up3).blk 1).trans rfl; have f_op_1 := blk_frozen (Hh310.out.up3).blk 1; have c_op_2 : wh310.cell? ⟨go_, 2, none⟩ = some (.int .i64 o3) := (blk_cell (Hh310.out.up3).blk 2).trans rfl; have f_op_2 := blk_frozen (Hh310.out.up3).blk 2; have c_op_3 : wh310.cell? ⟨go_, 3, none⟩ = some (.slice A9 L.length c9) := (blk_cell (Hh310.out.up3).blk 3).trans rfl; have f_op_3 := blk_frozen (Hh310.out.up3).blk 3)); change K _ _)
              refine hK.out _ _ ?_ (fun hHeld => ?_)
              · exact fun _ => ⟨c_op_0, c_op_1, c_op_2, c_op_3⟩
              replace hHeld := hHeld (by rfl)
              clear hK K
              (try simp only [Act.put, List.setIfInBounds_toArray, List.set_cons_zero, List.set_cons_succ])
              refine takeWK (i := 8) (v := ?_) rfl rfl (by kernel_rfl) (by kernel_rfl) (by kernel_rfl) (by kernel_rfl) (by rfl) (by rfl) (by kernel_rfl) (fun _ _ _ h => h) (by rfl) ?_ hHeld ?_
              rotate_left 1
              · (intro w hSw; (try dsimp only at hSw); go_simp <;> (try with_reducible rfl))
              (try simp only [Act.put, List.setIfInBounds_toArray, List.set_cons_zero, List.set_cons_succ])
              refine doneK (by kernel_rfl) ?_ _
              go_wp2
              go_roundg k1
              case measure => have := HK.out; omega
              case rel => exact ⟨i + 1, g, cs', rfl, rfl, ⟨by have := HK.out; omega⟩, ⟨by omega⟩, OK', ⟨Has.dropAt 2 (Hh310.out.sw)⟩⟩
        · have e5 : decide ((40 : Int) < (L.length : Int)) = true := decide_eq_true (by omega)
          have e5b : decide (40 < L.length) = true := decide_eq_true (by omega)
          go_wp2_with (first | ((with_reducible refine gate_dst (N := 14) rfl ?_); refine box_event ?hg (N := 14) ?hd (cs := #[.int .i64 0, .int .i64 0, .int .i64 0, .slice none 0 0]) (t := 47) ?hr ?_; (case hd => rfl); (case hg => rfl); (case hr => first | (go_simp; done) | (go_simp; rfl)); intro go_ hgb_ we1 hbox_ hb5_; have h_new := Has.ownNew HW.out hgb_ hb5_ hbox_; clear hgb_ hb5_ hbox_; have He1 := Aside0.mk h_new; clear h_new HW) | ((with_reducible refine gate_store (t := 47) (p := 14) rfl ?_); refine wp_storeB rfl rfl 47 _ _ rfl (g := go_) (j := 0) (u := (.agg #[.int .i64 o1, .int .i64 o2, .int .i64 o3, .slice A9 L.length c9])) (cs2 := #[.int .i64 o1, .int .i64 o2, .int .i64 o3, .slice A9 L.length c9]) [.int .i64 o1, .int .i64 o2, .int .i64 o3, .slice A9 L.length c9] rfl rfl rfl ?sI (by simp [Value.oneCell']) rfl (He1.out) (by simp) ?_; (case sI => first | rfl | kernel_rfl); intro we2 h_new; have He2 := Aside0.mk h_new; clear h_new He1; have c_op_0 : we2.cell? ⟨go_, 0, none⟩ = some (.int .i64 o1) := (blk_cell (He2.out).blk 0).trans rfl; have f_op_0 := blk_frozen (He2.out).blk 0; have c_op_1 : we2.cell? ⟨go_, 1, none⟩ = some (.int .i64 o2) := (blk_cell (He2.out).blk 1).trans rfl; have f_op_1 := blk_frozen (He2.out).blk 1; have c_op_2 : we2.cell? ⟨go_, 2, none⟩ = some (.int .i64 o3) := (blk_cell (He2.out).blk 2).trans rfl; have f_op_2 := blk_frozen (He2.out).blk 2; have c_op_3 : we2.cell? ⟨go_, 3, none⟩ = some (.slice A9 L.length c9) := (blk_cell (He2.out).blk 3).trans rfl; have f_op_3 := blk_frozen (He2.out).blk 3))
          go_ret
          exact ⟨rfl, He2.out.below⟩
    · have e9 : decide (i < l1.length) = false ∧ decide ((i : Int) < (l1.length : Int)) = false ∨ (decide (i < l1.length) = true ∧ decide ((i : Int) < (l1.length : Int)) = true ∧ decide ((i : Int) < 60) = false) := by
        by_cases h1 : i < l1.length
        · exact .inr ⟨decide_eq_true h1, decide_eq_true (by omega), decide_eq_false (by omega)⟩
        · exact .inl ⟨decide_eq_false h1, decide_eq_false (by omega)⟩
      clear HK HI hii hil
      obtain ⟨S, hS⟩ : ∃ S, stream_ cs a2 a3 a4 = S := ⟨_, rfl⟩
      have hSl : S.length ≤ 10000 := by
        have h9 := (OK.out.wf.at a2).1
        rw [← hS]
        unfold stream_
        split
        · rw [List.length_take, List.length_drop]; omega
        · simp
      obtain ⟨xf, bf, hef⟩ : ∃ x b, at_ cs a2 a3 = (x, b) := ⟨_, _, rfl⟩
      have HS := Aside0.mk hS
      have HEF := Aside0.mk hef
      clear hS hef
      rcases e9 with ⟨e1, e2⟩ | ⟨e1, e2, e3⟩
      all_goals
        go_wp2
        go_loopg [17] 9 (fun kq v17 w' => ∃ (p : Nat), v17 = .int .i64 (p : Int) ∧ Aside0 (p + kq = 9) ∧ Aside0 (p ≤ 8) ∧ Aside0 (Has w w.heap.size w' [tab g cs, refT r (cs.map rc)]))
        case atStart => exact ⟨0, rfl, ⟨by omega⟩, ⟨by omega⟩, HW⟩
        case round =>
          clear HW
          obtain ⟨p, rfl, HK2, HI2, HW⟩ := hrel
          have hpp := HI2.out
          by_cases hp7 : p ≤ 7
          · have f1 : decide ((p : Int) ≤ 7) = true := decide_eq_true (by omega)
            have f2 : decide (p ≤ 7) = true := decide_eq_true hp7
            obtain ⟨me, be, hee⟩ : ∃ m b, ended_ cs (p : Int) = (m, b) := ⟨_, _, rfl⟩
            have HEE := Aside0.mk hee
            clear hee
            have hmm : (me != me) = false := by simp
            have hbb : (be != be) = false := by simp
            cases gk with
            | zero => exact absurd HK2.out (by omega)
            | succ k1 =>
              go_wp2
              go_loopg [18] 32 (fun kq v18 w' => ∃ (f : Int), v18 = .int .i64 f ∧ Aside0 (f + kq = 31) ∧ Aside0 (-1 ≤ f ∧ f ≤ 30) ∧ Aside0 (Has w w.heap.size w' [tab g cs, refT r (cs.map rc)]))
              case atStart => exact ⟨-1, rfl, ⟨by omega⟩, ⟨by omega⟩, HW⟩
              case round =>
                clear HW
                obtain ⟨f, rfl, HK3, HI3, HW⟩ := hrel
                have hff := HI3.out
                by_cases hf30 : f < 30
                · have g1 : decide (f < 30) = true := decide_eq_true hf30
                  obtain ⟨x, b, he⟩ : ∃ x b, at_ cs (p : Int) f = (x, b) := ⟨_, _, rfl⟩
                  have HE := Aside0.mk he
                  clear he
                  have hb3 : (b != b) = false := by simp
                  cases gk with
                  | zero => exact absurd HK3.out (by omega)
                  | succ k2 =>
                    go_wp2_with (first | ((go_at_call 13); (with_reducible refine (atS (HW.out) OK.out (p : Int) f (by omega) (by omega) HE.out).mono ?_); rintro e_ ws1 ⟨rfl, h_new⟩; have Hs1 := Aside0.mk h_new; clear h_new HW) | ((with_reducible refine gate_dst (N := 19) rfl ?_); refine box_event ?hg (N := 19) ?hd (cs := #[.int .i64 0, .int .i64 0, .bool false]) (t := 24) ?hr ?_; (case hd => rfl); (case hg => rfl); (case hr => first | (go_simp; done) | (go_simp; rfl)); intro ga hgb_ ws2 hbox_ hb5_; have h_new := Has.ownNew Hs1.out hgb_ hb5_ hbox_; clear hgb_ hb5_ hbox_; have Hs2 := Aside0.mk h_new; clear h_new Hs1) | ((with_reducible refine gate_store (t := 24) (p := 19) rfl ?_); refine wp_storeB rfl rfl 24 _ _ rfl (g := ga) (j := 0) (u := (.agg #[.int .i64 x.1, .int .i64 x.2.1, .bool x.2.2])) (cs2 := #[.int .i64 x.1, .int .i64 x.2.1, .bool x.2.2]) [.int .i64 x.1, .int .i64 x.2.1, .bool x.2.2] rfl rfl rfl ?sI (by simp [Value.oneCell']) rfl (Hs2.out) (by simp) ?_; (case sI => first | rfl | kernel_rfl); intro ws3 h_new; have Hs3 := Aside0.mk h_new; clear h_new Hs2; have c_xa_0 : ws3.cell? ⟨ga, 0, none⟩ = some (.int .i64 x.1) := (blk_cell (Hs3.out).blk 0).trans rfl; have f_xa_0 := blk_frozen (Hs3.out).blk 0; have c_xa_1 : ws3.cell? ⟨ga, 1, none⟩ = some (.int .i64 x.2.1) := (blk_cell (Hs3.out).blk 1).trans rfl; have f_xa_1 := blk_frozen (Hs3.out).blk 1; have c_xa_2 : ws3.cell? ⟨ga, 2, none⟩ = some (.bool x.2.2) := (blk_cell (Hs3.out).blk 2).trans rfl; have f_xa_2 := blk_frozen (Hs3.out).blk 2) | ((go_at_call 26); (with_reducible refine (ratS (Hs3.out.up2) OK.out (p : Int) f (by omega) (by omega) HE.out).mono ?_); rintro e_ ws4 ⟨rfl, h_new⟩; have Hs4 := Aside0.mk h_new; clear h_new Hs3; clear c_xa_0 f_xa_0 c_xa_1 f_xa_1 c_xa_2 f_xa_2; have c_xa_0 : ws4.cell? ⟨ga, 0, none⟩ = some (.int .i64 x.1) := (blk_cell (Hs4.out.sw).blk 0).trans rfl; have f_xa_0 := blk_frozen (Hs4.out.sw).blk 0; have c_xa_1 : ws4.cell? ⟨ga, 1, none⟩ = some (.int .i64 x.2.1) := (blk_cell (Hs4.out.sw).blk 1).trans rfl; have f_xa_1 := blk_frozen (Hs4.out.sw).blk 1; have c_xa_2 : ws4.cell? ⟨ga, 2, none⟩ = some (.bool x.2.2) := (blk_cell (Hs4.out.sw).blk 2).trans rfl; have f_xa_2 := blk_frozen (Hs4.out.sw).blk 2) | ((with_reducible refine gate_dst (N := 21) rfl ?_); refine box_event ?hg (N := 21) ?hd (cs := #[.int .i64 0, .int .i64 0, .bool false]) (t := 24) ?hr ?_; (case hd => rfl); (case hg => rfl); (case hr => first | (go_simp; done) | (go_simp; rfl)); intro gb hgb_ ws5 hbox_ hb5_; have h_new := Has.ownNew Hs4.out hgb_ hb5_ hbox_; clear hgb_ hb5_ hbox_; have Hs5 := Aside0.mk h_new; clear h_new Hs4; clear c_xa_0 f_xa_0 c_xa_1 f_xa_1 c_xa_2 f_xa_2; have c_xa_0 : ws5.cell? ⟨ga, 0, none⟩ = some (.int .i64 x.1) := (blk_cell (Hs5.out.up2).blk 0).trans rfl; have f_xa_0 := blk_frozen (Hs5.out.up2).blk 0; have c_xa_1 : ws5.cell? ⟨ga, 1, none⟩ = some (.int .i64 x.2.1) := (blk_cell (Hs5.out.up2).blk 1).trans rfl; have f_xa_1 := blk_frozen (Hs5.out.up2).blk 1; have c_xa_2 : ws5.cell? ⟨ga, 2, none⟩ = some (.bool x.2.2) := (blk_cell (Hs5.out.up2).blk 2).trans rfl; have f_xa_2 := blk_frozen (Hs5.out.up2).blk 2) | ((with_reducible refine gate_store (t := 24) (p := 21) rfl ?_); refine wp_storeB rfl rfl 24 _ _ rfl (g := gb) (j := 0) (u := (.agg #[.int .i64 x.1, .int .i64 x.2.1, .bool x.2.2])) (cs2 := #[.int .i64 x.1, .int .i64 x.2.1, .bool x.2.2]) [.int .i64 x.1, .int .i64 x.2.1, .bool x.2.2] rfl rfl rfl ?sI (by simp [Value.oneCell']) rfl (Hs5.out) (by simp) ?_; (case sI => first | rfl | kernel_rfl); intro ws6 h_new; have Hs6 := Aside0.mk h_new; clear h_new Hs5; clear c_xa_0 f_xa_0 c_xa_1 f_xa_1 c_xa_2 f_xa_2; have c_xa_0 : ws6.cell? ⟨ga, 0, none⟩ = some (.int .i64 x.1) := (blk_cell (Hs6.out.up2).blk 0).trans rfl; have f_xa_0 := blk_frozen (Hs6.out.up2).blk 0; have c_xa_1 : ws6.cell? ⟨ga, 1, none⟩ = some (.int .i64 x.2.1) := (blk_cell (Hs6.out.up2).blk 1).trans rfl; have f_xa_1 := blk_frozen (Hs6.out.up2).blk 1; have c_xa_2 : ws6.cell? ⟨ga, 2, none⟩ = some (.bool x.2.2) := (blk_cell (Hs6.out.up2).blk 2).trans rfl; have f_xa_2 := blk_frozen (Hs6.out.up2).blk 2; have c_xb_0 : ws6.cell? ⟨gb, 0, none⟩ = some (.int .i64 x.1) := (blk_cell (Hs6.out).blk 0).trans rfl; have f_xb_0 := blk_frozen (Hs6.out).blk 0; have c_xb_1 : ws6.cell? ⟨gb, 1, none⟩ = some (.int .i64 x.2.1) := (blk_cell (Hs6.out).blk 1).trans rfl; have f_xb_1 := blk_frozen (Hs6.out).blk 1; have c_xb_2 : ws6.cell? ⟨gb, 2, none⟩ = some (.bool x.2.2) := (blk_cell (Hs6.out).blk 2).trans rfl; have f_xb_2 := blk_frozen (Hs6.out).blk 2))
                    go_roundg k2
                    case measure => have := HK3.out; omega
                    case rel => exact ⟨f + 1, rfl, ⟨by have := HK3.out; omega⟩, ⟨by omega⟩, ⟨Has.dropAt 2 (Hs6.out.drop.sw.drop.sw)⟩⟩
                · have g1 : decide (f < 30) = false := decide_eq_false hf30
                  go_wp2_with (first | ((go_at_call 16); (with_reducible refine (endedS (HW.out) OK.out (p : Int) (by omega) HEE.out).mono ?_); rintro e_ wq1 ⟨rfl, h_new⟩; have Hq1 := Aside0.mk h_new; clear h_new HW) | ((go_at_call 27); (with_reducible refine (rendedS (Hq1.out.sw) OK.out (p : Int) (by omega) HEE.out).mono ?_); rintro e_ wq2 ⟨rfl, h_new⟩; have Hq2 := Aside0.mk h_new; clear h_new Hq1))
                  go_roundg k1
                  case measure => have := HK2.out; omega
                  case rel => exact ⟨p + 1, rfl, ⟨by have := HK2.out; omega⟩, ⟨by omega⟩, ⟨(Hq2.out.sw)⟩⟩
          · have f1 : decide ((p : Int) ≤ 7) = false := decide_eq_false (by omega)
            have f2 : decide (p ≤ 7) = false := decide_eq_false hp7
            go_wp2_with (first | ((go_at_call 13); (with_reducible refine (atS (HW.out) OK.out a2 a3 h2 h3 HEF.out).mono ?_); rintro e_ wz1 ⟨rfl, h_new⟩; have Hz1 := Aside0.mk h_new; clear h_new HW) | ((with_reducible refine gate_dst (N := 27) rfl ?_); refine box_event ?hg (N := 27) ?hd (cs := #[.int .i64 0, .int .i64 0, .bool false]) (t := 24) ?hr ?_; (case hd => rfl); (case hg => rfl); (case hr => first | (go_simp; done) | (go_simp; rfl)); intro ga hgb_ wz2 hbox_ hb5_; have h_new := Has.ownNew Hz1.out hgb_ hb5_ hbox_; clear hgb_ hb5_ hbox_; have Hz2 := Aside0.mk h_new; clear h_new Hz1) | ((with_reducible refine gate_store (t := 24) (p := 27) rfl ?_); refine wp_storeB rfl rfl 24 _ _ rfl (g := ga) (j := 0) (u := (.agg #[.int .i64 xf.1, .int .i64 xf.2.1, .bool xf.2.2])) (cs2 := #[.int .i64 xf.1, .int .i64 xf.2.1, .bool xf.2.2]) [.int .i64 xf.1, .int .i64 xf.2.1, .bool xf.2.2] rfl rfl rfl ?sI (by simp [Value.oneCell']) rfl (Hz2.out) (by simp) ?_; (case sI => first | rfl | kernel_rfl); intro wz3 h_new; have Hz3 := Aside0.mk h_new; clear h_new Hz2; have c_xa_0 : wz3.cell? ⟨ga, 0, none⟩ = some (.int .i64 xf.1) := (blk_cell (Hz3.out).blk 0).trans rfl; have f_xa_0 := blk_frozen (Hz3.out).blk 0; have c_xa_1 : wz3.cell? ⟨ga, 1, none⟩ = some (.int .i64 xf.2.1) := (blk_cell (Hz3.out).blk 1).trans rfl; have f_xa_1 := blk_frozen (Hz3.out).blk 1; have c_xa_2 : wz3.cell? ⟨ga, 2, none⟩ = some (.bool xf.2.2) := (blk_cell (Hz3.out).blk 2).trans rfl; have f_xa_2 := blk_frozen (Hz3.out).blk 2) | ((go_at_call 26); (with_reducible refine (ratS (Hz3.out.up2) OK.out a2 a3 h2 h3 HEF.out).mono ?_); rintro e_ wz4 ⟨rfl, h_new⟩; have Hz4 := Aside0.mk h_new; clear h_new Hz3; clear c_xa_0 f_xa_0 c_xa_1 f_xa_1 c_xa_2 f_xa_2; have c_xa_0 : wz4.cell? ⟨ga, 0, none⟩ = some (.int .i64 xf.1) := (blk_cell (Hz4.out.sw).blk 0).trans rfl; have f_xa_0 := blk_frozen (Hz4.out.sw).blk 0; have c_xa_1 : wz4.cell? ⟨ga, 1, none⟩ = some (.int .i64 xf.2.1) := (blk_cell (Hz4.out.sw).blk 1).trans rfl; have f_xa_1 := blk_frozen (Hz4.out.sw).blk 1; have c_xa_2 : wz4.cell? ⟨ga, 2, none⟩ = some (.bool xf.2.2) := (blk_cell (Hz4.out.sw).blk 2).trans rfl; have f_xa_2 := blk_frozen (Hz4.out.sw).blk 2) | ((with_reducible refine gate_dst (N := 29) rfl ?_); refine box_event ?hg (N := 29) ?hd (cs := #[.int .i64 0, .int .i64 0, .bool false]) (t := 24) ?hr ?_; (case hd => rfl); (case hg => rfl); (case hr => first | (go_simp; done) | (go_simp; rfl)); intro gb hgb_ wz5 hbox_ hb5_; have h_new := Has.ownNew Hz4.out hgb_ hb5_ hbox_; clear hgb_ hb5_ hbox_; have Hz5 := Aside0.mk h_new; clear h_new Hz4; clear c_xa_0 f_xa_0 c_xa_1 f_xa_1 c_xa_2 f_xa_2; have c_xa_0 : wz5.cell? ⟨ga, 0, none⟩ = some (.int .i64 xf.1) := (blk_cell (Hz5.out.up2).blk 0).trans rfl; have f_xa_0 := blk_frozen (Hz5.out.up2).blk 0; have c_xa_1 : wz5.cell? ⟨ga, 1, none⟩ = some (.int .i64 xf.2.1) := (blk_cell (Hz5.out.up2).blk 1).trans rfl; have f_xa_1 := blk_frozen (Hz5.out.up2).blk 1; have c_xa_2 : wz5.cell? ⟨ga, 2, none⟩ = some (.bool xf.2.2) := (blk_cell (Hz5.out.up2).blk 2).trans rfl; have f_xa_2 := blk_frozen (Hz5.out.up2).blk 2) | ((with_reducible refine gate_store (t := 24) (p := 29) rfl ?_); refine wp_storeB rfl rfl 24 _ _ rfl (g := gb) (j := 0) (u := (.agg #[.int .i64 xf.1, .int .i64 xf.2.1, .bool xf.2.2])) (cs2 := #[.int .i64 xf.1, .int .i64 xf.2.1, .bool xf.2.2]) [.int .i64 xf.1, .int .i64 xf.2.1, .bool xf.2.2] rfl rfl rfl ?sI (by simp [Value.oneCell']) rfl (Hz5.out) (by simp) ?_; (case sI => first | rfl | kernel_rfl); intro wz6 h_new; have Hz6 := Aside0.mk h_new; clear h_new Hz5; clear c_xa_0 f_xa_0 c_xa_1 f_xa_1 c_xa_2 f_xa_2; have c_xa_0 : wz6.cell? ⟨ga, 0, none⟩ = some (.int .i64 xf.1) := (blk_cell (Hz6.out.up2).blk 0).trans rfl; have f_xa_0 := blk_frozen (Hz6.out.up2).blk 0; have c_xa_1 : wz6.cell? ⟨ga, 1, none⟩ = some (.int .i64 xf.2.1) := (blk_cell (Hz6.out.up2).blk 1).trans rfl; have f_xa_1 := blk_frozen (Hz6.out.up2).blk 1; have c_xa_2 : wz6.cell? ⟨ga, 2, none⟩ = some (.bool xf.2.2) := (blk_cell (Hz6.out.up2).blk 2).trans rfl; have f_xa_2 := blk_frozen (Hz6.out.up2).blk 2; have c_xb_0 : wz6.cell? ⟨gb, 0, none⟩ = some (.int .i64 xf.1) := (blk_cell (Hz6.out).blk 0).trans rfl; have f_xb_0 := blk_frozen (Hz6.out).blk 0; have c_xb_1 : wz6.cell? ⟨gb, 1, none⟩ = some (.int .i64 xf.2.1) := (blk_cell (Hz6.out).blk 1).trans rfl; have f_xb_1 := blk_frozen (Hz6.out).blk 1; have c_xb_2 : wz6.cell? ⟨gb, 2, none⟩ = some (.bool xf.2.2) := (blk_cell (Hz6.out).blk 2).trans rfl; have f_xb_2 := blk_frozen (Hz6.out).blk 2) | ((go_at_call 18); (with_reducible refine (streamS (Hz6.out.up3) OK.out a2 a3 a4 h2 h3 h4 HS.out).mono ?_); rintro e_ wz7 ⟨As, ms, rfl, hs_, h_new⟩; have Hz7 := Aside0.mk h_new; clear h_new Hz6; clear c_xa_0 f_xa_0 c_xa_1 f_xa_1 c_xa_2 f_xa_2 c_xb_0 f_xb_0 c_xb_1 f_xb_1 c_xb_2 f_xb_2; have c_xa_0 : wz7.cell? ⟨ga, 0, none⟩ = some (.int .i64 xf.1) := (blk_cell (Hz7.out.up4).blk 0).trans rfl; have f_xa_0 := blk_frozen (Hz7.out.up4).blk 0; have c_xa_1 : wz7.cell? ⟨ga, 1, none⟩ = some (.int .i64 xf.2.1) := (blk_cell (Hz7.out.up4).blk 1).trans rfl; have f_xa_1 := blk_frozen (Hz7.out.up4).blk 1; have c_xa_2 : wz7.cell? ⟨ga, 2, none⟩ = some (.bool xf.2.2) := (blk_cell (Hz7.out.up4).blk 2).trans rfl; have f_xa_2 := blk_frozen (Hz7.out.up4).blk 2; have c_xb_0 : wz7.cell? ⟨gb, 0, none⟩ = some (.int .i64 xf.1) := (blk_cell (Hz7.out.up2).blk 0).trans rfl; have f_xb_0 := blk_frozen (Hz7.out.up2).blk 0; have c_xb_1 : wz7.cell? ⟨gb, 1, none⟩ = some (.int .i64 xf.2.1) := (blk_cell (Hz7.out.up2).blk 1).trans rfl; have f_xb_1 := blk_frozen (Hz7.out.up2).blk 1; have c_xb_2 : wz7.cell? ⟨gb, 2, none⟩ = some (.bool xf.2.2) := (blk_cell (Hz7.out.up2).blk 2).trans rfl; have f_xb_2 := blk_frozen (Hz7.out.up2).blk 2) | ((go_at_call 28); (with_reducible refine (rstreamS (Hz7.out.up3) OK.out a2 a3 a4 h2 h3 h4 HS.out).mono ?_); rintro e_ wz8 ⟨Ar, mr, rfl, hr_, h_new⟩; have Hz8 := Aside0.mk h_new; clear h_new Hz7; clear c_xa_0 f_xa_0 c_xa_1 f_xa_1 c_xa_2 f_xa_2 c_xb_0 f_xb_0 c_xb_1 f_xb_1 c_xb_2 f_xb_2; have c_xa_0 : wz8.cell? ⟨ga, 0, none⟩ = some (.int .i64 xf.1) := (blk_cell (Hz8.out.up5).blk 0).trans rfl; have f_xa_0 := blk_frozen (Hz8.out.up5).blk 0; have c_xa_1 : wz8.cell? ⟨ga, 1, none⟩ = some (.int .i64 xf.2.1) := (blk_cell (Hz8.out.up5).blk 1).trans rfl; have f_xa_1 := blk_frozen (Hz8.out.up5).blk 1; have c_xa_2 : wz8.cell? ⟨ga, 2, none⟩ = some (.bool xf.2.2) := (blk_cell (Hz8.out.up5).blk 2).trans rfl; have f_xa_2 := blk_frozen (Hz8.out.up5).blk 2; have c_xb_0 : wz8.cell? ⟨gb, 0, none⟩ = some (.int .i64 xf.1) := (blk_cell (Hz8.out.up4).blk 0).trans rfl; have f_xb_0 := blk_frozen (Hz8.out.up4).blk 0; have c_xb_1 : wz8.cell? ⟨gb, 1, none⟩ = some (.int .i64 xf.2.1) := (blk_cell (Hz8.out.up4).blk 1).trans rfl; have f_xb_1 := blk_frozen (Hz8.out.up4).blk 1; have c_xb_2 : wz8.cell? ⟨gb, 2, none⟩ = some (.bool xf.2.2) := (blk_cell (Hz8.out.up4).blk 2).trans rfl; have f_xb_2 := blk_frozen (Hz8.out.up4).blk 2) | ((go_at_call 17); (with_reducible refine (plain.calls As Ar S.length ms S.length mr S S _ (Hz8.out.up2).rowN.2.2 hs_ (Hz8.out).rowN.2.2 hr_ hSl).mono ?_); rintro e_ wz9 ⟨rfl, hb_⟩; have h_new := Hz8.out.step hb_; clear hb_; have Hz9 := Aside0.mk h_new; clear h_new Hz8; clear c_xa_0 f_xa_0 c_xa_1 f_xa_1 c_xa_2 f_xa_2 c_xb_0 f_xb_0 c_xb_1 f_xb_1 c_xb_2 f_xb_2; have c_xa_0 : wz9.cell? ⟨ga, 0, none⟩ = some (.int .i64 xf.1) := (blk_cell (Hz9.out.up5).blk 0).trans rfl; have f_xa_0 := blk_frozen (Hz9.out.up5).blk 0; have c_xa_1 : wz9.cell? ⟨ga, 1, none⟩ = some (.int .i64 xf.2.1) := (blk_cell (Hz9.out.up5).blk 1).trans rfl; have f_xa_1 := blk_frozen (Hz9.out.up5).blk 1; have c_xa_2 : wz9.cell? ⟨ga, 2, none⟩ = some (.bool xf.2.2) := (blk_cell (Hz9.out.up5).blk 2).trans rfl; have f_xa_2 := blk_frozen (Hz9.out.up5).blk 2; have c_xb_0 : wz9.cell? ⟨gb, 0, none⟩ = some (.int .i64 xf.1) := (blk_cell (Hz9.out.up4).blk 0).trans rfl; have f_xb_0 := blk_frozen (Hz9.out.up4).blk 0; have c_xb_1 : wz9.cell? ⟨gb, 1, none⟩ = some (.int .i64 xf.2.1) := (blk_cell (Hz9.out.up4).blk 1).trans rfl; have f_xb_1 := blk_frozen (Hz9.out.up4).blk 1; have c_xb_2 : wz9.cell? ⟨gb, 2, none⟩ = some (.bool xf.2.2) := (blk_cell (Hz9.out.up4).blk 2).trans rfl; have f_xb_2 := blk_frozen (Hz9.out.up4).blk 2; rw [decide_eq_true (rfl : S = S)]))
            go_ret
            exact ⟨rfl, Hz9.out.below⟩
def joustlaw15_InputsPlay.f (a0 : Int) (l1 : List Opx) (a2 : Int) (a3 : Int) (a4 : Int) : Option Bool := if I64 a0 ∧ I64 a2 ∧ I64 a3 ∧ I64 a4 ∧ l1.length ≤ 140737488351232 ∧ (∀ x ∈ l1, I64 x.1 ∧ I64 x.2.1 ∧ I64 x.2.2.1 ∧ x.2.2.2.length ≤ 140737488351232) then some true else none
theorem joustlaw15_InputsPlay.calls (a0 : Int) (A1 : Option Addr) (c1 : Nat) (l1 : List Opx) (a2 : Int) (a3 : Int) (a4 : Int) (r : Bool) (w : World) (hr_ : Aside0 (r = true)) (hr1 : Kd.C kop w A1 l1.length l1) (hc1 : l1.length ≤ c1) (h : joustlaw15_InputsPlay.f a0 l1 a2 a3 a4 = some r) :
    Calls Try.prog 7 #[.int .i64 a0, .slice A1 l1.length c1, .int .i64 a2, .int .i64 a3, .int .i64 a4] w fun e w' => e = .returned (.bool r) ∧ Below w.heap.size w w' := by
  obtain rfl := hr_.out
  unfold joustlaw15_InputsPlay.f at h
  by_cases hc : I64 a0 ∧ I64 a2 ∧ I64 a3 ∧ I64 a4 ∧ l1.length ≤ 140737488351232 ∧ (∀ x ∈ l1, I64 x.1 ∧ I64 x.2.1 ∧ I64 x.2.2.1 ∧ x.2.2.2.length ≤ 140737488351232)
  · exact law.calls a0 A1 c1 l1 a2 a3 a4 w hr1 hc1 hc.1 hc.2.1 hc.2.2.1 hc.2.2.2.1 hc.2.2.2.2.1 hc.2.2.2.2.2
  · rw [if_neg hc] at h
    cases h
end Go.Proofs.Ytkgjokidfbpnbaa.PInputsPlay
