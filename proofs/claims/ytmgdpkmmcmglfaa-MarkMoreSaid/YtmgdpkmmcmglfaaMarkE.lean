/- mark.Of: how far lines are sure: nothing goes on where it ends, and all was reached. Conditions: as few says. -/
import Derived.Test.YtmgdpkmmcmglfaaMarkD
namespace Go.Proofs.Ytmgdpkmmcmglfaa.MarkW
open Go Go.RowKit Go.Proofs.YtmgdpkmmcmglfaaW.PrintWords Go.Proofs.YtmgdpkmmcmglfaaW.PrintLast Go.Proofs.YtmgdpkmmcmglfaaW.PrintMore Go.Proofs.Ytmgdpkmmcmglfaa.Sep
attribute [local go_sem] max2_int min2_int max_two min_two max_three min_three max_four min_four   -- for this text's walks alone
set_option linter.unusedVariables false
set_option linter.unusedSimpArgs false
def kptr : Kd (Option Nat) := Kd.scalar ptrV (fun _ => rfl)
theorem info60_ : (Try.prog.info? 60).map (fun i => (i.zero, i.size, i.bytes)) = some (some (.pointer none), 1, 8) := by kernel_rfl
def ptrs (ms : List (Option LineS)) : List (Option Nat) := ms.map (Option.map (·.g))
theorem ptrs_len (ms : List (Option LineS)) : (ptrs ms).length = ms.length := by simp [ptrs]
theorem rdP {w : World} {A : Option Addr} {n : Nat} {ms : List (Option LineS)} (h : Kd.C kptr w A n (ptrs ms)) (j : Nat) {o : Option LineS} (hj : ms[j]? = some o) : ∃ ad, A = some ad ∧ w.cell? (ad.add j) = some (ptrV (o.map (·.g))) := by
  obtain ⟨hl, _, hn⟩ := h
  have hjl := (List.getElem?_eq_some_iff.1 hj).1
  have hj2 : (ptrs ms)[j]? = some (o.map (·.g)) := by simp [ptrs, hj]
  obtain ⟨ad, rfl, hc⟩ := hn (by rw [← hl, ptrs_len]; omega)
  obtain ⟨cs, hcs, hK, hcc⟩ := hc j _ hj2
  have e : cs = [ptrV (o.map (·.g))] := hK
  subst e
  have := hcc 0 _ rfl
  exact ⟨ad, rfl, by simpa [kptr, Kd.scalar] using this⟩
theorem lines_snoc {w0 w : World} {base : Nat} {ms : List (Option LineS)} {s : LineS} (F : List Asr) (h : Has w0 base w (lineA w0 s :: (F ++ lns w0 ms))) : Has w0 base w (F ++ lns w0 (ms ++ [some s])) := by
  have e : lns w0 (ms ++ [some s]) = lns w0 ms ++ [lineA w0 s] := by simp [lns, List.filterMap_append]
  rw [e, ← List.append_assoc]
  refine h.perm ?_
  exact (List.perm_append_singleton _ _).symm
theorem lines_none {w0 : World} {ms : List (Option LineS)} : lns w0 (ms ++ [none]) = lns w0 ms := by simp [lns, List.filterMap_append]
/-- what is so of the lines that are asked for -/
structure Fit (k0 : Nat) (c r p wi sd : Int) (nearF : Int → List Int) (l : List Line) : Prop where
  len : l.length ≤ 100
  near : ∀ x ∈ l, GridW.grid_Grid_Near.f k0 c r p wi sd x.1 = some (nearF x.1) ∧ (nearF x.1).length ≤ 100 ∧ ∀ q ∈ nearF x.1, I64 q
  few : ∀ x ∈ l, x.2.2.1.length ≤ 100 ∧ x.2.2.2.length ≤ 100
  int : ∀ x ∈ l, I64 x.1
theorem initM_take {nearF : Int → List Int} {l : List Line} {j : Nat} (hj : j < l.length) : (initM nearF l).take (j + 1) = (initM nearF l).take j ++ [if madeP (nearF l[j].1) l[j] = true then some ⟨0, l[j], nearF l[j].1, l[j].2.1⟩ else none] := by
  unfold initM
  rw [List.take_succ_eq_append_getElem (by simpa using hj), List.getElem_map]
abbrev g27 (c r p wi sd : Int) : Obj := .cells #[.int .i64 c, .int .i64 r, .int .i64 p, .int .i64 wi, .int .u64 sd] 27 (0, 0)
/-- all that Of has in memory -/
abbrev OfH (w w' : World) (gx b n : Nat) (va : Value) (c r p wi sd : Int) (ms : List (Option LineS)) : Prop := Has w w.heap.size w' (blk gx (Obj59 va b) :: mapA b n (mapOf ms) :: ([blk w.heap.size (g27 c r p wi sd), row kptr 60 va (ptrs ms)] ++ lns w ms))
theorem ptrs_next {ms : List (Option LineS)} {j : Nat} {s : LineS} (hj : ms[j]? = some (some s)) : ptrs (ms.set j (some (nextL s))) = ptrs ms := by
  unfold ptrs
  rw [List.map_set]
  refine List.ext_getElem? (fun i => ?_)
  rw [List.getElem?_set]
  split
  · rename_i e
    subst e
    rw [List.length_map, if_pos (List.getElem?_eq_some_iff.1 hj).1, List.getElem?_map, hj]
    rfl
  · rfl
theorem OfH.next {w w' : World} {gx b n j : Nat} {va : Value} {c r p wi sd : Int} {ms : List (Option LineS)} {s : LineS} (h : OfH w w' gx b n va c r p wi sd ms) (hj : ms[j]? = some (some s)) : OfH w (w'.setCell ⟨s.g, 6, none⟩ (.int .i64 (s.sure + 1))) gx b n va c r p wi sd (ms.set j (some (nextL s))) := by
  have hl := (List.getElem?_eq_some_iff.1 hj).1
  have h1 := lines_out [blk gx (Obj59 va b), mapA b n (mapOf ms), blk w.heap.size (g27 c r p wi sd), row kptr 60 va (ptrs ms)] hj h
  have h2 := lines_in (s := nextL s) _ hl (line_set h1 (s.sure + 1))
  unfold OfH
  rw [mapOf_next hj, ptrs_next hj]
  exact h2
theorem Has.ne {w0 w : World} {base a b : Nat} {o o2 : Obj} {F : List Asr} (h : Has w0 base w (blk a o :: blk b o2 :: F)) : a ≠ b := by
  obtain ⟨S1, S2, h1, h2, _, hd, _⟩ := h.out2
  intro e
  subst e
  exact hd _ h1.2.1 h2.2.1
set_option maxHeartbeats 4000000 in
set_option maxRecDepth 100000 in
theorem of.calls (k0 : Nat) (c r p wi sd : Int) (A1 : Option Addr) (c1 : Nat) (l : List Line) (nearF : Int → List Int) (w : World) (hr1 : Kd.C kline w A1 l.length l) (hc1 : l.length ≤ c1) (hf : Fit k0 c r p wi sd nearF l) :
    Calls Try.prog 11 #[gridV c r p wi sd, .slice A1 l.length c1] w fun e w' => ∃ v0_ ms, e = .returned v0_ ∧ Kd.R (Kd.int .i64) 3 w' w.heap.size (fun _ => True) v0_ (resF ms) ∧ Below w.heap.size w w' ∧ Reach (initM nearF l) ms ∧ Stuck ms := by
  have HR1 := Aside0.mk hr1
  have HF := Aside0.mk hf
  clear hr1 hf
  have hu27 := Try.underlying27
  have hu44 := Try.underlying44
  have hu59 := Try.underlying59
  have hu63 := Try.underlying63
  have hmm := @run_makeMap Try.prog
  go_enter Try.func11, Try.ntmps11
  go_wp2
  have H0 : OfH w (((w.alloc (Obj.cells #[Value.int IntKind.i64 c, Value.int IntKind.i64 r, Value.int IntKind.i64 p, Value.int IntKind.i64 wi, Value.int IntKind.u64 sd] 27)).alloc (Obj.map #[] 0)).alloc (Obj.cells #[Value.slice none 0 0, Value.map (some (w.heap.size + 1))] 59)) (w.heap.size + 1 + 1) (w.heap.size + 1) 0 (.slice none 0 0) c r p wi sd [] := by
    have h1 := (((Has.nil (w := w) (base := w.heap.size) (Nat.le_refl _)).rowNil kptr 60).own #[Value.int IntKind.i64 c, Value.int IntKind.i64 r, Value.int IntKind.i64 p, Value.int IntKind.i64 wi, Value.int IntKind.u64 sd] 27)
    have h2 := map_new h1
    have e1 : ∀ o, (w.alloc o).heap.size = w.heap.size + 1 := fun o => by simp
    rw [e1] at h2
    have h3 := h2.own #[Value.slice none 0 0, Value.map (some (w.heap.size + 1))] 59
    have e2 : ∀ o o', ((w.alloc o).alloc o').heap.size = w.heap.size + 1 + 1 := fun o o' => by simp
    rw [e2] at h3
    exact h3
  have HH0 := Aside0.mk H0
  clear H0
  generalize hgx : w.heap.size + 1 + 1 = gx at *
  generalize hbb : w.heap.size + 1 = b at *
  clear hgx hbb
  have HLL := Aside0.mk HF.out.len
  go_loopg [20] (l.length + 1) (fun kq v20 w' => ∃ (j n : Nat) (A : Option Addr) (cp : Nat) (ms : List (Option LineS)), v20 = .int .i64 (j : Int) ∧ Aside0 (j + kq = l.length + 1) ∧ Aside0 (j ≤ l.length) ∧ Aside0 (n ≤ j) ∧ Aside0 (erase ms = (initM nearF l).take j) ∧ Aside0 (OfH w w' gx b n (.slice A j cp) c r p wi sd ms))
  case atStart => exact ⟨0, 0, none, 0, [], rfl, ⟨by omega⟩, ⟨by omega⟩, ⟨Nat.le_refl _⟩, ⟨rfl⟩, HH0⟩
  case round =>
    obtain ⟨j, n, A, cp, ms, rfl, HK, HJ, HNJ, HE, HW⟩ := hrel
    have hjj := HJ.out
    have hl100 := HLL.out
    by_cases hjl : j < l.length
    · have e1 : decide ((j : Int) < (l.length : Int)) = true := decide_eq_true (by omega)
      have hj9 : (j : Int) < (l.length : Int) := by omega
      have hml : ms.length = j := by have := congrArg List.length HE.out; rw [erase_len, List.length_take] at this; simp [initM] at this; omega
      have HML := Aside0.mk hml
      clear hml
      obtain ⟨ad, A2, c2, A3, c3, e9, x0', x1', x2', x3', l2, g2', l3, g3'⟩ := at_line HR1.out j hjl
      subst e9
      obtain ⟨x, hx⟩ : ∃ x, l[j] = x := ⟨_, rfl⟩
      rw [hx] at x0' x1' x2' x3' l2 g2' l3 g3'
      have hmem : x ∈ l := by rw [← hx]; exact List.getElem_mem hjl
      have x0 := pw_cell_below HW.out.below x0'
      have x1 := pw_cell_below HW.out.below x1'
      have x2 := pw_cell_below HW.out.below x2'
      have x3 := pw_cell_below HW.out.below x3'
      have HG2 := Aside0.mk g2'
      have HG3 := Aside0.mk g3'
      have HNE := Aside0.mk (HF.out.near x hmem).1
      have HNL := Aside0.mk (HF.out.near x hmem).2.1
      have HFW := Aside0.mk (HF.out.few x hmem)
      have HXI := Aside0.mk (HF.out.int x hmem)
      have HTK := Aside0.mk (initM_take (nearF := nearF) hjl)
      rw [hx] at HTK
      clear x0' x1' x2' x3' g2' g3' hmem hx
      have HO7 := Aside0.mk (HW.out.own #[.int .i64 x.1, .int .i64 x.2.1, .slice A2 x.2.2.1.length c2, .slice A3 x.2.2.2.length c3] 44)
      have bk27 := HO7.out.up3.blk
      have z0 : (wr.alloc (.cells #[.int .i64 x.1, .int .i64 x.2.1, .slice A2 x.2.2.1.length c2, .slice A3 x.2.2.2.length c3] 44)).cell? ⟨w.heap.size, 0, none⟩ = some (.int .i64 c) := (blk_cell bk27 0).trans rfl
      have z1 : (wr.alloc (.cells #[.int .i64 x.1, .int .i64 x.2.1, .slice A2 x.2.2.1.length c2, .slice A3 x.2.2.2.length c3] 44)).cell? ⟨w.heap.size, 1, none⟩ = some (.int .i64 r) := (blk_cell bk27 1).trans rfl
      have z2 : (wr.alloc (.cells #[.int .i64 x.1, .int .i64 x.2.1, .slice A2 x.2.2.1.length c2, .slice A3 x.2.2.2.length c3] 44)).cell? ⟨w.heap.size, 2, none⟩ = some (.int .i64 p) := (blk_cell bk27 2).trans rfl
      have z3 : (wr.alloc (.cells #[.int .i64 x.1, .int .i64 x.2.1, .slice A2 x.2.2.1.length c2, .slice A3 x.2.2.2.length c3] 44)).cell? ⟨w.heap.size, 3, none⟩ = some (.int .i64 wi) := (blk_cell bk27 3).trans rfl
      have z4 : (wr.alloc (.cells #[.int .i64 x.1, .int .i64 x.2.1, .slice A2 x.2.2.1.length c2, .slice A3 x.2.2.2.length c3] 44)).cell? ⟨w.heap.size, 4, none⟩ = some (.int .u64 sd) := (blk_cell bk27 4).trans rfl
      clear bk27
      have hpl : (ptrs ms).length ≤ 100 := by rw [ptrs_len, HML.out]; omega
      cases gk with
      | zero => exact absurd HK.out (by omega)
      | succ k1 =>
        cases hmd : madeP (nearF x.1) x with
        | false =>
          have ANS := Aside0.mk (show ∀ g, ptrV (ansP (nearF x.1) x g) = .pointer none from fun g => by unfold ansP; rw [hmd]; rfl)
          have LNO := Aside0.mk (show ∀ g, lineO w (nearF x.1) x g = [] from fun g => by unfold lineO; rw [hmd]; rfl)
          have HTE := Aside0.mk (show erase (ms ++ [none]) = (initM nearF l).take (j + 1) from by rw [HTK.out, hmd, ← HE.out]; simp [erase])
          clear hmd
          go_wp2_with (first | (fail) | (go_at_call 21; (refine (made.calls HO7.out (Nat.le_refl _) k0 c r p wi sd x A2 A3 c2 c3 (nearF x.1) HNE.out l2 HG2.out l3 HG3.out HNL.out HFW.out).mono ?_); rintro e_ w8 ⟨g, rfl, h8⟩; rw [ANS.out g]; rw [LNO.out g] at h8; have H8 := Aside0.mk ((show Has w w.heap.size w8 _ from h8).drop); clear h8; clear z0 z1 z2 z3 z4; have bkx := H8.out.blk; have cx0 : w8.cell? ⟨gx, 0, none⟩ = some (.slice A j cp) := (blk_cell bkx 0).trans rfl; have cf0 := blk_frozen bkx 0; have cx1 : w8.cell? ⟨gx, 1, none⟩ = some (.map (some b)) := (blk_cell bkx 1).trans rfl; clear bkx) | ((with_reducible refine gate_builtin (b := .append) (xs := #[.tmp 31, .tmp 33]) rfl ?_); at_builtin; refine wp_append1 kptr (n := j) rfl (.tmp 31) (.tmp 33) 57 60 (.pointer none) 8 rfl Try.underlying57 info60_ rfl (by decide) (by decide) (.slice A j cp) (ptrs ms) (none : Option Nat) [ptrV ((none : Option Nat))] rfl rfl ?aM H8.out.up3 ?aN ?aL ?_; (case aM => exact rfl); (case aN => rw [ptrs_len]; exact HML.out); (case aL => omega); intro A_w9 c_w9 w9 h_new hc_w9; have H9 := Aside0.mk h_new; clear h_new; clear cx0 cf0 cx1; have bkx := H9.out.sw.blk; have cx0 : w9.cell? ⟨gx, 0, none⟩ = some (.slice A j cp) := (blk_cell bkx 0).trans rfl; have cf0 := blk_frozen bkx 0; clear bkx))
          refine wp_region_held_drew (S := (fun w' => True)) (by kernel_rfl) ?_ (fun hHeld => ?_)
          · (trivial)
          refine Go.Proofs.Ytmgdpkmmcmglfaa.Sep.takeW (i := 0) (v := ?_) rfl rfl (by kernel_rfl) (by kernel_rfl) (by kernel_rfl) (fun _ _ _ h => h) (by rfl) ?_ hHeld ?_
          rotate_left 1
          · (intro w hSw; (try dsimp only at hSw); go_simp <;> (try with_reducible rfl))
          (try simp only [Act.put, List.setIfInBounds_toArray, List.set_cons_zero, List.set_cons_succ])
          refine Go.Proofs.Ytmgdpkmmcmglfaa.Sep.takeW (i := 1) (v := ?_) rfl rfl (by kernel_rfl) (by kernel_rfl) (by kernel_rfl) (fun _ _ _ h => h) (by rfl) ?_ hHeld ?_
          rotate_left 1
          · (intro w hSw; (try dsimp only at hSw); go_simp <;> (try with_reducible rfl))
          (try simp only [Act.put, List.setIfInBounds_toArray, List.set_cons_zero, List.set_cons_succ])
          refine Go.Proofs.Ytmgdpkmmcmglfaa.Sep.takeW (i := 2) (v := ?_) rfl rfl (by kernel_rfl) (by kernel_rfl) (by kernel_rfl) (fun _ _ _ h => h) (by rfl) ?_ hHeld ?_
          rotate_left 1
          · (intro w hSw; (try dsimp only at hSw); go_simp <;> (try with_reducible rfl))
          (try simp only [Act.put, List.setIfInBounds_toArray, List.set_cons_zero, List.set_cons_succ])
          refine Go.Proofs.Ytmgdpkmmcmglfaa.Sep.takeU (i := 3) rfl rfl (by kernel_rfl) (by kernel_rfl) (by kernel_rfl) (fun _ _ _ h => h) (by rfl) hHeld ?_
          (try simp only [Act.put, List.setIfInBounds_toArray, List.set_cons_zero, List.set_cons_succ])
          refine Go.Proofs.Ytmgdpkmmcmglfaa.Sep.takeU (i := 4) rfl rfl (by kernel_rfl) (by kernel_rfl) (by kernel_rfl) (fun _ _ _ h => h) (by rfl) hHeld ?_
          (try simp only [Act.put, List.setIfInBounds_toArray, List.set_cons_zero, List.set_cons_succ])
          refine Go.Proofs.Ytmgdpkmmcmglfaa.Sep.takeU (i := 5) rfl rfl (by kernel_rfl) (by kernel_rfl) (by kernel_rfl) (fun _ _ _ h => h) (by rfl) hHeld ?_
          (try simp only [Act.put, List.setIfInBounds_toArray, List.set_cons_zero, List.set_cons_succ])
          refine Go.Proofs.Ytmgdpkmmcmglfaa.Sep.takeU (i := 6) rfl rfl (by kernel_rfl) (by kernel_rfl) (by kernel_rfl) (fun _ _ _ h => h) (by rfl) hHeld ?_
          (try simp only [Act.put, List.setIfInBounds_toArray, List.set_cons_zero, List.set_cons_succ])
          refine Go.Proofs.Ytmgdpkmmcmglfaa.Sep.takeU (i := 7) rfl rfl (by kernel_rfl) (by kernel_rfl) (by kernel_rfl) (fun _ _ _ h => h) (by rfl) hHeld ?_
          (try simp only [Act.put, List.setIfInBounds_toArray, List.set_cons_zero, List.set_cons_succ])
          refine Go.Proofs.Ytmgdpkmmcmglfaa.Sep.takeU (i := 8) rfl rfl (by kernel_rfl) (by kernel_rfl) (by kernel_rfl) (fun _ _ _ h => h) (by rfl) hHeld ?_
          (try simp only [Act.put, List.setIfInBounds_toArray, List.set_cons_zero, List.set_cons_succ])
          refine Go.Proofs.Ytmgdpkmmcmglfaa.Sep.takeU (i := 9) rfl rfl (by kernel_rfl) (by kernel_rfl) (by kernel_rfl) (fun _ _ _ h => h) (by rfl) hHeld ?_
          (try simp only [Act.put, List.setIfInBounds_toArray, List.set_cons_zero, List.set_cons_succ])
          refine Go.Proofs.Ytmgdpkmmcmglfaa.Sep.takeU (i := 10) rfl rfl (by kernel_rfl) (by kernel_rfl) (by kernel_rfl) (fun _ _ _ h => h) (by rfl) hHeld ?_
          (try simp only [Act.put, List.setIfInBounds_toArray, List.set_cons_zero, List.set_cons_succ])
          refine Go.Proofs.Ytmgdpkmmcmglfaa.Sep.takeU (i := 11) rfl rfl (by kernel_rfl) (by kernel_rfl) (by kernel_rfl) (fun _ _ _ h => h) (by rfl) hHeld ?_
          (try simp only [Act.put, List.setIfInBounds_toArray, List.set_cons_zero, List.set_cons_succ])
          refine Go.Proofs.Ytmgdpkmmcmglfaa.Sep.takeU (i := 12) rfl rfl (by kernel_rfl) (by kernel_rfl) (by kernel_rfl) (fun _ _ _ h => h) (by rfl) hHeld ?_
          (try simp only [Act.put, List.setIfInBounds_toArray, List.set_cons_zero, List.set_cons_succ])
          refine Go.Proofs.Ytmgdpkmmcmglfaa.Sep.takeU (i := 13) rfl rfl (by kernel_rfl) (by kernel_rfl) (by kernel_rfl) (fun _ _ _ h => h) (by rfl) hHeld ?_
          (try simp only [Act.put, List.setIfInBounds_toArray, List.set_cons_zero, List.set_cons_succ])
          refine Go.Proofs.Ytmgdpkmmcmglfaa.Sep.takeW (i := 14) (v := ?_) rfl rfl (by kernel_rfl) (by kernel_rfl) (by kernel_rfl) (fun _ _ _ h => h) (by rfl) ?_ hHeld ?_
          rotate_left 1
          · (intro w hSw; (try dsimp only at hSw); go_simp <;> (try with_reducible rfl))
          (try simp only [Act.put, List.setIfInBounds_toArray, List.set_cons_zero, List.set_cons_succ])
          refine wpAnyH_done (by kernel_rfl) ?_ _
          go_wp2
          go_roundg k1
          case measure => have := HK.out; omega
          case rel =>
            refine ⟨j + 1, n, A_w9, c_w9, ms ++ [none], rfl, ⟨by have := HK.out; omega⟩, ⟨by omega⟩, ⟨by have := HNJ.out; omega⟩, HTE, ⟨?_⟩⟩
            have h1 := (Has.set H9.out.sw 0 (.slice A_w9 (j + 1) c_w9) (cs2 := #[.slice A_w9 (j + 1) c_w9, .map (some b)]) rfl).sw.dn3.drew
            show Has w w.heap.size _ (blk gx (Obj59 (.slice A_w9 (j + 1) c_w9) b) :: mapA b n (mapOf (ms ++ [none])) :: ([blk w.heap.size (g27 c r p wi sd), row kptr 60 (.slice A_w9 (j + 1) c_w9) (ptrs (ms ++ [none]))] ++ lns w (ms ++ [none])))
            rw [mapOf_snoc_none, lines_none, show ptrs (ms ++ [none]) = ptrs ms ++ [none] from by simp [ptrs]]
            exact h1
        | true =>
          have ANS := Aside0.mk (show ∀ g, ptrV (ansP (nearF x.1) x g) = .pointer (some ⟨g, 0, none⟩) from fun g => by unfold ansP; rw [hmd]; rfl)
          have LNO := Aside0.mk (show ∀ g, lineO w (nearF x.1) x g = [lineA w ⟨g, x, nearF x.1, x.2.1⟩] from fun g => by unfold lineO; rw [hmd]; rfl)
          have HTE := Aside0.mk (show ∀ g, erase (ms ++ [some ⟨g, x, nearF x.1, x.2.1⟩]) = (initM nearF l).take (j + 1) from fun g => by rw [HTK.out, hmd, ← HE.out]; simp [erase, er])
          clear hmd
          cases hmo : mapOf ms x.1 with
          | some g0 =>
            have HMO := Aside0.mk hmo
            have HMN := Aside0.mk (show ∀ g, mapOf (ms ++ [some ⟨g, x, nearF x.1, x.2.1⟩]) = mapOf ms from fun g => mapOf_snoc_old (s := ⟨g, x, nearF x.1, x.2.1⟩) hmo)
            clear hmo
            go_wp2_with (first | (go_at_call 21; (refine (made.calls HO7.out (Nat.le_refl _) k0 c r p wi sd x A2 A3 c2 c3 (nearF x.1) HNE.out l2 HG2.out l3 HG3.out HNL.out HFW.out).mono ?_); rintro e_ w8 ⟨g, rfl, h8⟩; rw [ANS.out g]; rw [LNO.out g] at h8; have H8 := Aside0.mk ((show Has w w.heap.size w8 (lineA w ⟨g, x, nearF x.1, x.2.1⟩ :: _) from h8).drop2.sw); clear h8; clear z0 z1 z2 z3 z4; have bkx := H8.out.blk; have cx0 : w8.cell? ⟨gx, 0, none⟩ = some (.slice A j cp) := (blk_cell bkx 0).trans rfl; have cf0 := blk_frozen bkx 0; have cx1 : w8.cell? ⟨gx, 1, none⟩ = some (.map (some b)) := (blk_cell bkx 1).trans rfl; clear bkx) | ((with_reducible refine gate_builtin (b := .append) (xs := #[.tmp 31, .tmp 33]) rfl ?_); at_builtin; refine wp_append1 kptr (n := j) rfl (.tmp 31) (.tmp 33) 57 60 (.pointer none) 8 rfl Try.underlying57 info60_ rfl (by decide) (by decide) (.slice A j cp) (ptrs ms) (some g) [ptrV ((some g))] rfl rfl ?aM H8.out.up4 ?aN ?aL ?_; (case aM => exact rfl); (case aN => rw [ptrs_len]; exact HML.out); (case aL => omega); intro A_w9 c_w9 w9 h_new hc_w9; have H9 := Aside0.mk h_new; clear h_new; clear cx0 cf0 cx1; have bkx := H9.out.sw.blk; have cx0 : w9.cell? ⟨gx, 0, none⟩ = some (.slice A j cp) := (blk_cell bkx 0).trans rfl; have cf0 := blk_frozen bkx 0; clear bkx))
            have HS := Aside0.mk (Has.set H9.out.sw 0 (.slice A_w9 (j + 1) c_w9) (cs2 := #[.slice A_w9 (j + 1) c_w9, .map (some b)]) rfl)
            have hlo := line_open HS.out.up2 (Nat.le_refl _)
            obtain ⟨_, _, _, _, _, _, hbk, _⟩ := hlo
            have y0 : ((w9.setCell ⟨gx, 0, none⟩ (.slice A_w9 (j + 1) c_w9))).cell? ⟨g, 0, none⟩ = some (.int .i64 x.1) := (blk_cell hbk 0).trans rfl
            have y1 : ((w9.setCell ⟨gx, 0, none⟩ (.slice A_w9 (j + 1) c_w9))).cell? ⟨gx, 1, none⟩ = some (.map (some b)) := (blk_cell HS.out.blk 1).trans rfl
            have y2 := map_look HS.out.drew.up3 HXI.out
            rw [HMO.out] at y2
            clear hbk
            refine wp_region_held_drew (S := (fun w' => w'.cell? ⟨g, 0, none⟩ = some (.int .i64 x.1) ∧ w'.cell? ⟨gx, 1, none⟩ = some (.map (some b)) ∧ (Instr.lookup 56 (.map (some b)) (.int .i64 x.1) false).run Try.prog w' = .ok (.pointer (some ⟨g0, 0, none⟩)) w')) (by kernel_rfl) ?_ (fun hHeld => ?_)
            · (exact ⟨y0, y1, y2⟩)
            refine Go.Proofs.Ytmgdpkmmcmglfaa.Sep.takeW (i := 0) (v := ?_) rfl rfl (by kernel_rfl) (by kernel_rfl) (by kernel_rfl) (fun _ _ _ h => h) (by rfl) ?_ hHeld ?_
            rotate_left 1
            · (intro w hSw; (try dsimp only at hSw); go_simp <;> (try with_reducible rfl))
            (try simp only [Act.put, List.setIfInBounds_toArray, List.set_cons_zero, List.set_cons_succ])
            refine Go.Proofs.Ytmgdpkmmcmglfaa.Sep.takeW (i := 1) (v := ?_) rfl rfl (by kernel_rfl) (by kernel_rfl) (by kernel_rfl) (fun _ _ _ h => h) (by rfl) ?_ hHeld ?_
            rotate_left 1
            · (intro w hSw; (try dsimp only at hSw); go_simp <;> (try with_reducible rfl))
            (try simp only [Act.put, List.setIfInBounds_toArray, List.set_cons_zero, List.set_cons_succ])
            refine Go.Proofs.Ytmgdpkmmcmglfaa.Sep.takeW (i := 2) (v := ?_) rfl rfl (by kernel_rfl) (by kernel_rfl) (by kernel_rfl) (fun _ _ _ h => h) (by rfl) ?_ hHeld ?_
            rotate_left 1
            · (intro w hSw; (try dsimp only at hSw); go_simp <;> (try with_reducible rfl))
            (try simp only [Act.put, List.setIfInBounds_toArray, List.set_cons_zero, List.set_cons_succ])
            refine Go.Proofs.Ytmgdpkmmcmglfaa.Sep.takeW (i := 3) (v := ?_) rfl rfl (by kernel_rfl) (by kernel_rfl) (by kernel_rfl) (fun _ _ _ h => h) (by rfl) ?_ hHeld ?_
            rotate_left 1
            · (intro w hSw; (try dsimp only at hSw); go_simp <;> (try with_reducible rfl))
            (try simp only [Act.put, List.setIfInBounds_toArray, List.set_cons_zero, List.set_cons_succ])
            refine Go.Proofs.Ytmgdpkmmcmglfaa.Sep.takeW (i := 4) (v := ?_) rfl rfl (by kernel_rfl) (by kernel_rfl) (by kernel_rfl) (fun _ _ _ h => h) (by rfl) ?_ hHeld ?_
            rotate_left 1
            · (intro w hSw; (try dsimp only at hSw); go_simp <;> (try with_reducible rfl))
            (try simp only [Act.put, List.setIfInBounds_toArray, List.set_cons_zero, List.set_cons_succ])
            refine Go.Proofs.Ytmgdpkmmcmglfaa.Sep.takeW (i := 5) (v := ?_) rfl rfl (by kernel_rfl) (by kernel_rfl) (by kernel_rfl) (fun _ _ _ h => h) (by rfl) ?_ hHeld ?_
            rotate_left 1
            · (intro w hSw; (try dsimp only at hSw); go_simp <;> (try with_reducible rfl))
            (try simp only [Act.put, List.setIfInBounds_toArray, List.set_cons_zero, List.set_cons_succ])
            refine Go.Proofs.Ytmgdpkmmcmglfaa.Sep.takeW (i := 6) (v := ?_) rfl rfl (by kernel_rfl) (by kernel_rfl) (by kernel_rfl) (fun _ _ _ h => h) (by rfl) ?_ hHeld ?_
            rotate_left 1
            · (intro w hSw; (try dsimp only at hSw); go_simp <;> (try with_reducible rfl))
            (try simp only [Act.put, List.setIfInBounds_toArray, List.set_cons_zero, List.set_cons_succ])
            refine Go.Proofs.Ytmgdpkmmcmglfaa.Sep.takeW (i := 7) (v := ?_) rfl rfl (by kernel_rfl) (by kernel_rfl) (by kernel_rfl) (fun _ _ _ h => h) (by rfl) ?_ hHeld ?_
            rotate_left 1
            · (intro w hSw; (try dsimp only at hSw); go_simp <;> (try with_reducible rfl))
            (try simp only [Act.put, List.setIfInBounds_toArray, List.set_cons_zero, List.set_cons_succ])
            refine Go.Proofs.Ytmgdpkmmcmglfaa.Sep.takeW (i := 8) (v := ?_) rfl rfl (by kernel_rfl) (by kernel_rfl) (by kernel_rfl) (fun _ _ _ h => h) (by rfl) ?_ hHeld ?_
            rotate_left 1
            · (intro w hSw; (try dsimp only at hSw); go_simp <;> (try with_reducible rfl))
            (try simp only [Act.put, List.setIfInBounds_toArray, List.set_cons_zero, List.set_cons_succ])
            refine Go.Proofs.Ytmgdpkmmcmglfaa.Sep.takeW (i := 9) (v := ?_) rfl rfl (by kernel_rfl) (by kernel_rfl) (by kernel_rfl) (fun _ _ _ h => h) (by rfl) ?_ hHeld ?_
            rotate_left 1
            · (intro w hSw; (try dsimp only at hSw); go_simp <;> (try with_reducible rfl))
            (try simp only [Act.put, List.setIfInBounds_toArray, List.set_cons_zero, List.set_cons_succ])
            refine Go.Proofs.Ytmgdpkmmcmglfaa.Sep.takeW (i := 10) (v := ?_) rfl rfl (by kernel_rfl) (by kernel_rfl) (by kernel_rfl) (fun _ _ _ h => h) (by rfl) ?_ hHeld ?_
            rotate_left 1
            · (intro w hSw; (try dsimp only at hSw); go_simp <;> (try with_reducible rfl))
            (try simp only [Act.put, List.setIfInBounds_toArray, List.set_cons_zero, List.set_cons_succ])
            refine Go.Proofs.Ytmgdpkmmcmglfaa.Sep.takeW (i := 11) (v := ?_) rfl rfl (by kernel_rfl) (by kernel_rfl) (by kernel_rfl) (fun _ _ _ h => h) (by rfl) ?_ hHeld ?_
            rotate_left 1
            · (intro w hSw; (try dsimp only at hSw); go_simp <;> (try with_reducible rfl))
            (try simp only [Act.put, List.setIfInBounds_toArray, List.set_cons_zero, List.set_cons_succ])
            refine Go.Proofs.Ytmgdpkmmcmglfaa.Sep.takeW (i := 12) (v := ?_) rfl rfl (by kernel_rfl) (by kernel_rfl) (by kernel_rfl) (fun _ _ _ h => h) (by rfl) ?_ hHeld ?_
            rotate_left 1
            · (intro w hSw; (try dsimp only at hSw); go_simp <;> (try with_reducible rfl))
            (try simp only [Act.put, List.setIfInBounds_toArray, List.set_cons_zero, List.set_cons_succ])
            refine Go.Proofs.Ytmgdpkmmcmglfaa.Sep.takeW (i := 13) (v := ?_) rfl rfl (by kernel_rfl) (by kernel_rfl) (by kernel_rfl) (fun _ _ _ h => h) (by rfl) ?_ hHeld ?_
            rotate_left 1
            · (intro w hSw; (try dsimp only at hSw); go_simp <;> (try with_reducible rfl))
            (try simp only [Act.put, List.setIfInBounds_toArray, List.set_cons_zero, List.set_cons_succ])
            refine Go.Proofs.Ytmgdpkmmcmglfaa.Sep.takeW (i := 14) (v := ?_) rfl rfl (by kernel_rfl) (by kernel_rfl) (by kernel_rfl) (fun _ _ _ h => h) (by rfl) ?_ hHeld ?_
            rotate_left 1
            · (intro w hSw; (try dsimp only at hSw); go_simp <;> (try with_reducible rfl))
            (try simp only [Act.put, List.setIfInBounds_toArray, List.set_cons_zero, List.set_cons_succ])
            refine wpAnyH_done (by kernel_rfl) ?_ _
            go_wp2
            go_roundg k1
            case measure => have := HK.out; omega
            case rel =>
              refine ⟨j + 1, n, A_w9, c_w9, ms ++ [some ⟨g, x, nearF x.1, x.2.1⟩], rfl, ⟨by have := HK.out; omega⟩, ⟨by omega⟩, ⟨by have := HNJ.out; omega⟩, ⟨HTE.out g⟩, ⟨?_⟩⟩
              have h1 := (lines_snoc (F := [blk gx (Obj59 (.slice A_w9 (j + 1) c_w9) b), row kptr 60 (.slice A_w9 (j + 1) c_w9) (ptrs ms ++ [some g]), mapA b n (mapOf ms), blk w.heap.size (g27 c r p wi sd)]) HS.out.up2).sw.dn3.drew
              show Has w w.heap.size _ (blk gx (Obj59 (.slice A_w9 (j + 1) c_w9) b) :: mapA b n (mapOf (ms ++ [some ⟨g, x, nearF x.1, x.2.1⟩])) :: ([blk w.heap.size (g27 c r p wi sd), row kptr 60 (.slice A_w9 (j + 1) c_w9) (ptrs (ms ++ [some ⟨g, x, nearF x.1, x.2.1⟩]))] ++ lns w (ms ++ [some ⟨g, x, nearF x.1, x.2.1⟩])))
              rw [HMN.out g, show ptrs (ms ++ [some ⟨g, x, nearF x.1, x.2.1⟩]) = ptrs ms ++ [some g] from by simp [ptrs]]
              exact h1
          | none =>
            have HMO := Aside0.mk hmo
            have HMN := Aside0.mk (show ∀ g, mapOf (ms ++ [some ⟨g, x, nearF x.1, x.2.1⟩]) = fun y => if y = x.1 then some g else mapOf ms y from fun g => mapOf_snoc_new (s := ⟨g, x, nearF x.1, x.2.1⟩) hmo)
            clear hmo
            go_wp2_with (first | (go_at_call 21; (refine (made.calls HO7.out (Nat.le_refl _) k0 c r p wi sd x A2 A3 c2 c3 (nearF x.1) HNE.out l2 HG2.out l3 HG3.out HNL.out HFW.out).mono ?_); rintro e_ w8 ⟨g, rfl, h8⟩; rw [ANS.out g]; rw [LNO.out g] at h8; have H8 := Aside0.mk ((show Has w w.heap.size w8 (lineA w ⟨g, x, nearF x.1, x.2.1⟩ :: _) from h8).drop2.sw); clear h8; clear z0 z1 z2 z3 z4; have bkx := H8.out.blk; have cx0 : w8.cell? ⟨gx, 0, none⟩ = some (.slice A j cp) := (blk_cell bkx 0).trans rfl; have cf0 := blk_frozen bkx 0; have cx1 : w8.cell? ⟨gx, 1, none⟩ = some (.map (some b)) := (blk_cell bkx 1).trans rfl; clear bkx) | ((with_reducible refine gate_builtin (b := .append) (xs := #[.tmp 31, .tmp 33]) rfl ?_); at_builtin; refine wp_append1 kptr (n := j) rfl (.tmp 31) (.tmp 33) 57 60 (.pointer none) 8 rfl Try.underlying57 info60_ rfl (by decide) (by decide) (.slice A j cp) (ptrs ms) (some g) [ptrV ((some g))] rfl rfl ?aM H8.out.up4 ?aN ?aL ?_; (case aM => exact rfl); (case aN => rw [ptrs_len]; exact HML.out); (case aL => omega); intro A_w9 c_w9 w9 h_new hc_w9; have H9 := Aside0.mk h_new; clear h_new; clear cx0 cf0 cx1; have bkx := H9.out.sw.blk; have cx0 : w9.cell? ⟨gx, 0, none⟩ = some (.slice A j cp) := (blk_cell bkx 0).trans rfl; have cf0 := blk_frozen bkx 0; clear bkx))
            have HS := Aside0.mk (Has.set H9.out.sw 0 (.slice A_w9 (j + 1) c_w9) (cs2 := #[.slice A_w9 (j + 1) c_w9, .map (some b)]) rfl)
            have hlo := line_open HS.out.up2 (Nat.le_refl _)
            obtain ⟨_, _, _, _, _, _, hbk, _⟩ := hlo
            have y0 : ((w9.setCell ⟨gx, 0, none⟩ (.slice A_w9 (j + 1) c_w9))).cell? ⟨g, 0, none⟩ = some (.int .i64 x.1) := (blk_cell hbk 0).trans rfl
            have y1 : ((w9.setCell ⟨gx, 0, none⟩ (.slice A_w9 (j + 1) c_w9))).cell? ⟨gx, 1, none⟩ = some (.map (some b)) := (blk_cell HS.out.blk 1).trans rfl
            have y2 := map_look HS.out.drew.up3 HXI.out
            rw [HMO.out] at y2
            clear hbk
            refine wp_region_held_drew (S := (fun w' => w'.cell? ⟨g, 0, none⟩ = some (.int .i64 x.1) ∧ w'.cell? ⟨gx, 1, none⟩ = some (.map (some b)) ∧ (Instr.lookup 56 (.map (some b)) (.int .i64 x.1) false).run Try.prog w' = .ok (.pointer none) w')) (by kernel_rfl) ?_ (fun hHeld => ?_)
            · (exact ⟨y0, y1, y2⟩)
            refine Go.Proofs.Ytmgdpkmmcmglfaa.Sep.takeW (i := 0) (v := ?_) rfl rfl (by kernel_rfl) (by kernel_rfl) (by kernel_rfl) (fun _ _ _ h => h) (by rfl) ?_ hHeld ?_
            rotate_left 1
            · (intro w hSw; (try dsimp only at hSw); go_simp <;> (try with_reducible rfl))
            (try simp only [Act.put, List.setIfInBounds_toArray, List.set_cons_zero, List.set_cons_succ])
            refine Go.Proofs.Ytmgdpkmmcmglfaa.Sep.takeW (i := 1) (v := ?_) rfl rfl (by kernel_rfl) (by kernel_rfl) (by kernel_rfl) (fun _ _ _ h => h) (by rfl) ?_ hHeld ?_
            rotate_left 1
            · (intro w hSw; (try dsimp only at hSw); go_simp <;> (try with_reducible rfl))
            (try simp only [Act.put, List.setIfInBounds_toArray, List.set_cons_zero, List.set_cons_succ])
            refine Go.Proofs.Ytmgdpkmmcmglfaa.Sep.takeW (i := 2) (v := ?_) rfl rfl (by kernel_rfl) (by kernel_rfl) (by kernel_rfl) (fun _ _ _ h => h) (by rfl) ?_ hHeld ?_
            rotate_left 1
            · (intro w hSw; (try dsimp only at hSw); go_simp <;> (try with_reducible rfl))
            (try simp only [Act.put, List.setIfInBounds_toArray, List.set_cons_zero, List.set_cons_succ])
            refine Go.Proofs.Ytmgdpkmmcmglfaa.Sep.takeW (i := 3) (v := ?_) rfl rfl (by kernel_rfl) (by kernel_rfl) (by kernel_rfl) (fun _ _ _ h => h) (by rfl) ?_ hHeld ?_
            rotate_left 1
            · (intro w hSw; (try dsimp only at hSw); go_simp <;> (try with_reducible rfl))
            (try simp only [Act.put, List.setIfInBounds_toArray, List.set_cons_zero, List.set_cons_succ])
            refine Go.Proofs.Ytmgdpkmmcmglfaa.Sep.takeW (i := 4) (v := ?_) rfl rfl (by kernel_rfl) (by kernel_rfl) (by kernel_rfl) (fun _ _ _ h => h) (by rfl) ?_ hHeld ?_
            rotate_left 1
            · (intro w hSw; (try dsimp only at hSw); go_simp <;> (try with_reducible rfl))
            (try simp only [Act.put, List.setIfInBounds_toArray, List.set_cons_zero, List.set_cons_succ])
            refine Go.Proofs.Ytmgdpkmmcmglfaa.Sep.takeW (i := 5) (v := ?_) rfl rfl (by kernel_rfl) (by kernel_rfl) (by kernel_rfl) (fun _ _ _ h => h) (by rfl) ?_ hHeld ?_
            rotate_left 1
            · (intro w hSw; (try dsimp only at hSw); go_simp <;> (try with_reducible rfl))
            (try simp only [Act.put, List.setIfInBounds_toArray, List.set_cons_zero, List.set_cons_succ])
            refine Go.Proofs.Ytmgdpkmmcmglfaa.Sep.takeW (i := 6) (v := ?_) rfl rfl (by kernel_rfl) (by kernel_rfl) (by kernel_rfl) (fun _ _ _ h => h) (by rfl) ?_ hHeld ?_
            rotate_left 1
            · (intro w hSw; (try dsimp only at hSw); go_simp <;> (try with_reducible rfl))
            (try simp only [Act.put, List.setIfInBounds_toArray, List.set_cons_zero, List.set_cons_succ])
            refine Go.Proofs.Ytmgdpkmmcmglfaa.Sep.takeW (i := 7) (v := ?_) rfl rfl (by kernel_rfl) (by kernel_rfl) (by kernel_rfl) (fun _ _ _ h => h) (by rfl) ?_ hHeld ?_
            rotate_left 1
            · (intro w hSw; (try dsimp only at hSw); go_simp <;> (try with_reducible rfl))
            (try simp only [Act.put, List.setIfInBounds_toArray, List.set_cons_zero, List.set_cons_succ])
            refine Go.Proofs.Ytmgdpkmmcmglfaa.Sep.takeW (i := 8) (v := ?_) rfl rfl (by kernel_rfl) (by kernel_rfl) (by kernel_rfl) (fun _ _ _ h => h) (by rfl) ?_ hHeld ?_
            rotate_left 1
            · (intro w hSw; (try dsimp only at hSw); go_simp <;> (try with_reducible rfl))
            (try simp only [Act.put, List.setIfInBounds_toArray, List.set_cons_zero, List.set_cons_succ])
            refine Go.Proofs.Ytmgdpkmmcmglfaa.Sep.takeW (i := 9) (v := ?_) rfl rfl (by kernel_rfl) (by kernel_rfl) (by kernel_rfl) (fun _ _ _ h => h) (by rfl) ?_ hHeld ?_
            rotate_left 1
            · (intro w hSw; (try dsimp only at hSw); go_simp <;> (try with_reducible rfl))
            (try simp only [Act.put, List.setIfInBounds_toArray, List.set_cons_zero, List.set_cons_succ])
            refine Go.Proofs.Ytmgdpkmmcmglfaa.Sep.takeW (i := 10) (v := ?_) rfl rfl (by kernel_rfl) (by kernel_rfl) (by kernel_rfl) (fun _ _ _ h => h) (by rfl) ?_ hHeld ?_
            rotate_left 1
            · (intro w hSw; (try dsimp only at hSw); go_simp <;> (try with_reducible rfl))
            (try simp only [Act.put, List.setIfInBounds_toArray, List.set_cons_zero, List.set_cons_succ])
            refine Go.Proofs.Ytmgdpkmmcmglfaa.Sep.takeW (i := 11) (v := ?_) rfl rfl (by kernel_rfl) (by kernel_rfl) (by kernel_rfl) (fun _ _ _ h => h) (by rfl) ?_ hHeld ?_
            rotate_left 1
            · (intro w hSw; (try dsimp only at hSw); go_simp <;> (try with_reducible rfl))
            (try simp only [Act.put, List.setIfInBounds_toArray, List.set_cons_zero, List.set_cons_succ])
            refine Go.Proofs.Ytmgdpkmmcmglfaa.Sep.takeW (i := 12) (v := ?_) rfl rfl (by kernel_rfl) (by kernel_rfl) (by kernel_rfl) (fun _ _ _ h => h) (by rfl) ?_ hHeld ?_
            rotate_left 1
            · (intro w hSw; (try dsimp only at hSw); go_simp <;> (try with_reducible rfl))
            (try simp only [Act.put, List.setIfInBounds_toArray, List.set_cons_zero, List.set_cons_succ])
            refine Go.Proofs.Ytmgdpkmmcmglfaa.Sep.takeW (i := 13) (v := ?_) rfl rfl (by kernel_rfl) (by kernel_rfl) (by kernel_rfl) (fun _ _ _ h => h) (by rfl) ?_ hHeld ?_
            rotate_left 1
            · (intro w hSw; (try dsimp only at hSw); go_simp <;> (try with_reducible rfl))
            (try simp only [Act.put, List.setIfInBounds_toArray, List.set_cons_zero, List.set_cons_succ])
            refine Go.Proofs.Ytmgdpkmmcmglfaa.Sep.takeW (i := 14) (v := ?_) rfl rfl (by kernel_rfl) (by kernel_rfl) (by kernel_rfl) (fun _ _ _ h => h) (by rfl) ?_ hHeld ?_
            rotate_left 1
            · (intro w hSw; (try dsimp only at hSw); go_simp <;> (try with_reducible rfl))
            (try simp only [Act.put, List.setIfInBounds_toArray, List.set_cons_zero, List.set_cons_succ])
            refine wpAnyH_done (by kernel_rfl) ?_ _
            go_wp2
            have HSd := Aside0.mk HS.out.drew.drew
            refine wp_region_held_drew (S := (fun w' => w'.cell? ⟨g, 0, none⟩ = some (.int .i64 x.1) ∧ w'.cell? ⟨gx, 1, none⟩ = some (.map (some b)))) (by kernel_rfl) ?_ (fun hHeld => ?_)
            · (exact ⟨y0, y1⟩)
            refine Go.Proofs.Ytmgdpkmmcmglfaa.Sep.takeW (i := 0) (v := ?_) rfl rfl (by kernel_rfl) (by kernel_rfl) (by kernel_rfl) (fun _ _ _ h => h) (by rfl) ?_ hHeld ?_
            rotate_left 1
            · (intro w hSw; (try dsimp only at hSw); go_simp <;> (try with_reducible rfl))
            (try simp only [Act.put, List.setIfInBounds_toArray, List.set_cons_zero, List.set_cons_succ])
            refine Go.Proofs.Ytmgdpkmmcmglfaa.Sep.takeW (i := 1) (v := ?_) rfl rfl (by kernel_rfl) (by kernel_rfl) (by kernel_rfl) (fun _ _ _ h => h) (by rfl) ?_ hHeld ?_
            rotate_left 1
            · (intro w hSw; (try dsimp only at hSw); go_simp <;> (try with_reducible rfl))
            (try simp only [Act.put, List.setIfInBounds_toArray, List.set_cons_zero, List.set_cons_succ])
            refine Go.Proofs.Ytmgdpkmmcmglfaa.Sep.takeW (i := 2) (v := ?_) rfl rfl (by kernel_rfl) (by kernel_rfl) (by kernel_rfl) (fun _ _ _ h => h) (by rfl) ?_ hHeld ?_
            rotate_left 1
            · (intro w hSw; (try dsimp only at hSw); go_simp <;> (try with_reducible rfl))
            (try simp only [Act.put, List.setIfInBounds_toArray, List.set_cons_zero, List.set_cons_succ])
            refine Go.Proofs.Ytmgdpkmmcmglfaa.Sep.takeW (i := 3) (v := ?_) rfl rfl (by kernel_rfl) (by kernel_rfl) (by kernel_rfl) (fun _ _ _ h => h) (by rfl) ?_ hHeld ?_
            rotate_left 1
            · (intro w hSw; (try dsimp only at hSw); go_simp <;> (try with_reducible rfl))
            (try simp only [Act.put, List.setIfInBounds_toArray, List.set_cons_zero, List.set_cons_succ])
            refine Go.Proofs.Ytmgdpkmmcmglfaa.Sep.takeW (i := 4) (v := ?_) rfl rfl (by kernel_rfl) (by kernel_rfl) (by kernel_rfl) (fun _ _ _ h => h) (by rfl) ?_ hHeld ?_
            rotate_left 1
            · (intro w hSw; (try dsimp only at hSw); go_simp <;> (try with_reducible rfl))
            (try simp only [Act.put, List.setIfInBounds_toArray, List.set_cons_zero, List.set_cons_succ])
            refine Go.Proofs.Ytmgdpkmmcmglfaa.Sep.takeW (i := 5) (v := ?_) rfl rfl (by kernel_rfl) (by kernel_rfl) (by kernel_rfl) (fun _ _ _ h => h) (by rfl) ?_ hHeld ?_
            rotate_left 1
            · (intro w hSw; (try dsimp only at hSw); go_simp <;> (try with_reducible rfl))
            (try simp only [Act.put, List.setIfInBounds_toArray, List.set_cons_zero, List.set_cons_succ])
            refine Go.Proofs.Ytmgdpkmmcmglfaa.Sep.takeW (i := 6) (v := ?_) rfl rfl (by kernel_rfl) (by kernel_rfl) (by kernel_rfl) (fun _ _ _ h => h) (by rfl) ?_ hHeld ?_
            rotate_left 1
            · (intro w hSw; (try dsimp only at hSw); go_simp <;> (try with_reducible rfl))
            (try simp only [Act.put, List.setIfInBounds_toArray, List.set_cons_zero, List.set_cons_succ])
            refine Go.Proofs.Ytmgdpkmmcmglfaa.Sep.takeW (i := 7) (v := ?_) rfl rfl (by kernel_rfl) (by kernel_rfl) (by kernel_rfl) (fun _ _ _ h => h) (by rfl) ?_ hHeld ?_
            rotate_left 1
            · (intro w hSw; (try dsimp only at hSw); go_simp <;> (try with_reducible rfl))
            (try simp only [Act.put, List.setIfInBounds_toArray, List.set_cons_zero, List.set_cons_succ])
            refine Go.Proofs.Ytmgdpkmmcmglfaa.Sep.takeW (i := 8) (v := ?_) rfl rfl (by kernel_rfl) (by kernel_rfl) (by kernel_rfl) (fun _ _ _ h => h) (by rfl) ?_ hHeld ?_
            rotate_left 1
            · (intro w hSw; (try dsimp only at hSw); go_simp <;> (try with_reducible rfl))
            (try simp only [Act.put, List.setIfInBounds_toArray, List.set_cons_zero, List.set_cons_succ])
            refine Go.Proofs.Ytmgdpkmmcmglfaa.Sep.takeW (i := 9) (v := ?_) rfl rfl (by kernel_rfl) (by kernel_rfl) (by kernel_rfl) (fun _ _ _ h => h) (by rfl) ?_ hHeld ?_
            rotate_left 1
            · (intro w hSw; (try dsimp only at hSw); go_simp <;> (try with_reducible rfl))
            (try simp only [Act.put, List.setIfInBounds_toArray, List.set_cons_zero, List.set_cons_succ])
            refine Go.Proofs.Ytmgdpkmmcmglfaa.Sep.callC (i := 10) rfl (by kernel_rfl) (by rfl) (fun K hK => ?_)
            clear hHeld
            (refine Go.Proofs.Ytmgdpkmmcmglfaa.Sep.wp_of_list (ops := #[]) (by rfl) ?_; refine wp_mapPut rfl (.tmp 55) (.tmp 60) (.tmp 61) rfl g x.1 rfl rfl rfl HSd.out.up3 (by have := HNJ.out; omega) HXI.out ?_; intro w12 h12; have H12 := Aside0.mk h12; clear h12; change K _ _)
            refine hK.out _ _ ?_ (fun hHeld => ?_)
            · (obtain ⟨_, _, _, _, _, _, hbk, _⟩ := line_open H12.out.up3 (Nat.le_refl _); exact ⟨(blk_cell hbk 0).trans rfl, (blk_cell H12.out.sw.blk 1).trans rfl⟩)
            clear hK K
            (try simp only [Act.put, List.setIfInBounds_toArray, List.set_cons_zero, List.set_cons_succ])
            refine wpAnyH_done (by kernel_rfl) ?_ _
            go_wp2
            go_roundg k1
            case measure => have := HK.out; omega
            case rel =>
              refine ⟨j + 1, n + 1, A_w9, c_w9, ms ++ [some ⟨g, x, nearF x.1, x.2.1⟩], rfl, ⟨by have := HK.out; omega⟩, ⟨by omega⟩, ⟨by have := HNJ.out; omega⟩, ⟨HTE.out g⟩, ⟨?_⟩⟩
              have h1 := (lines_snoc (F := [mapA b (n + 1) (fun y => if y = x.1 then some g else mapOf ms y), blk gx (Obj59 (.slice A_w9 (j + 1) c_w9) b), row kptr 60 (.slice A_w9 (j + 1) c_w9) (ptrs ms ++ [some g]), blk w.heap.size (g27 c r p wi sd)]) H12.out.up3)
              show Has w w.heap.size _ (blk gx (Obj59 (.slice A_w9 (j + 1) c_w9) b) :: mapA b (n + 1) (mapOf (ms ++ [some ⟨g, x, nearF x.1, x.2.1⟩])) :: ([blk w.heap.size (g27 c r p wi sd), row kptr 60 (.slice A_w9 (j + 1) c_w9) (ptrs (ms ++ [some ⟨g, x, nearF x.1, x.2.1⟩]))] ++ lns w (ms ++ [some ⟨g, x, nearF x.1, x.2.1⟩])))
              rw [HMN.out g, show ptrs (ms ++ [some ⟨g, x, nearF x.1, x.2.1⟩]) = ptrs ms ++ [some g] from by simp [ptrs]]
              exact h1.sw.up3.dn2
    · have e1 : decide ((j : Int) < (l.length : Int)) = false := decide_eq_false (by omega)
      obtain rfl : j = l.length := by omega
      have hE : erase ms = initM nearF l := by rw [HE.out, List.take_of_length_le (by simp [initM])]
      have hml : ms.length = l.length := by rw [← erase_len, hE]; simp [initM]
      have hW0 : WfM ms := wf_of_erase (by rw [hE]; exact init_wf (fun x hx => (HF.out.near x hx).2) HF.out.few)
      have HE2 := Aside0.mk (show Reach (initM nearF l) (erase ms) from by rw [hE]; exact .refl)
      have HML := Aside0.mk hml
      have HW0 := Aside0.mk hW0
      have HPH := Aside0.mk (phi_le hW0)
      clear hE hml hW0 HE
      go_wp2
      go_loopg [9] (100 * l.length + 3) (fun kq v9 w' => ∃ (ms' : List (Option LineS)) (ag : Bool), v9 = .bool ag ∧ Aside0 (ms'.length = l.length) ∧ Aside0 (Reach (initM nearF l) (erase ms')) ∧ Aside0 (WfM ms') ∧ Aside0 (ag = true → phi ms' + 2 ≤ kq) ∧ Aside0 (ag = false → Stuck ms' ∧ 1 ≤ kq) ∧ Aside0 (OfH w w' gx b n (.slice A l.length cp) c r p wi sd ms'))
      case atStart => exact ⟨ms, true, rfl, HML, HE2, HW0, ⟨fun _ => by have h1 := HPH.out; rw [HML.out] at h1; omega⟩, ⟨fun h => by cases h⟩, HW⟩
      case round =>
        clear HW HPH HW0 HE2 HML
        obtain ⟨ms', ag, rfl, HL, HR, HWF, HT, HFa, HO⟩ := hrel
        have bkx := HO.out.blk
        have cx0 : wr.cell? ⟨gx, 0, none⟩ = some (.slice A l.length cp) := (blk_cell bkx 0).trans rfl
        clear bkx
        cases ag with
        | false =>
          go_wp2
          go_loopg [12, 93] (l.length + 1) (fun kq v12 v93 w' => ∃ (i : Nat) (A5 : Option Addr) (c5 : Nat), v12 = .slice A5 i c5 ∧ v93 = .int .i64 (i : Int) ∧ Aside0 (i + kq = l.length + 1) ∧ Aside0 (i ≤ l.length) ∧ Aside0 (Has w w.heap.size w' (row (Kd.int .i64) 3 (.slice A5 i c5) ((resF ms').take i) :: blk gx (Obj59 (.slice A l.length cp) b) :: mapA b n (mapOf ms') :: ([blk w.heap.size (g27 c r p wi sd), row kptr 60 (.slice A l.length cp) (ptrs ms')] ++ lns w ms'))))
          case atStart => exact ⟨0, none, 0, rfl, rfl, ⟨by omega⟩, ⟨by omega⟩, ⟨HO.out.rowNil (Kd.int .i64) 3⟩⟩
          case round =>
            clear cx0
            obtain ⟨i, A5, c5, rfl, rfl, HK5, HI5, HX5⟩ := hrel
            have hii := HI5.out
            have hrl : (resF ms').length = l.length := by unfold resF; rw [List.length_map, HL.out]
            have HRL := Aside0.mk hrl
            clear hrl
            by_cases hil : i < l.length
            · have e5 : decide ((i : Int) < (l.length : Int)) = true := decide_eq_true (by omega)
              have hi9 : (i : Int) < (l.length : Int) := by omega
              obtain ⟨o, ho⟩ : ∃ o, ms'[i]? = some o := ⟨_, List.getElem?_eq_getElem (by rw [HL.out]; exact hil)⟩
              obtain ⟨ad5, e6, y5⟩ := rdP (HX5.out.up4.rowN.2.2) i ho
              subst e6
              have HTK5 := Aside0.mk (show (resF ms').take (i + 1) = (resF ms').take i ++ [ansO o] from by
                rw [List.take_succ_eq_append_getElem (by rw [HRL.out]; exact hil)]
                have e7 : (resF ms')[i]? = some (ansO o) := by unfold resF; rw [List.getElem?_map, ho]; rfl
                rw [(List.getElem?_eq_some_iff.1 e7).2])
              have hTl : ((resF ms').take i).length = i := by rw [List.length_take, HRL.out]; omega
              have HTL := Aside0.mk hTl
              obtain ⟨T5, hT5⟩ : ∃ T5, (resF ms').take i = T5 := ⟨_, rfl⟩
              rw [hT5] at HX5 HTK5 HTL
              have hT5l : T5.length = i := HTL.out
              clear hT5 hTl
              cases gk with
              | zero => exact absurd HK5.out (by omega)
              | succ k5 =>
                cases o with
                | none =>
                  have y6 : wr.cell? (ad5.add i) = some (.pointer none) := y5
                  clear y5
                  go_wp2_with (first | ((with_reducible refine gate_builtin (b := .append) (xs := #[.tmp 99, .tmp 100]) rfl ?_); at_builtin; refine wp_append1 (Kd.int .i64) (n := i) rfl (.tmp 99) (.tmp 100) 34 3 (.int .i64 0) 8 rfl Try.underlying34 GridW.info3 rfl (by decide) (by decide) (.slice A5 i c5) T5 (-1) [.int .i64 ((-1))] rfl rfl ?aM HX5.out ?aN ?aL ?_; (case aM => exact rfl); (case aN => exact hT5l); (case aL => omega); intro A_w9 c_w9 w9 h_new hc_w9; have H9 := Aside0.mk h_new; clear h_new))
                  go_roundg k5
                  case measure => have := HK5.out; omega
                  case rel =>
                    refine ⟨i + 1, A_w9, c_w9, rfl, rfl, ⟨by have := HK5.out; omega⟩, ⟨by omega⟩, ⟨?_⟩⟩
                    rw [HTK5.out]
                    exact H9.out
                | some s =>
                  have y6 : wr.cell? (ad5.add i) = some (.pointer (some ⟨s.g, 0, none⟩)) := y5
                  obtain ⟨_, _, _, _, _, _, hbk, _⟩ := line_open (lines_out [row (Kd.int .i64) 3 (.slice A5 i c5) T5, blk gx (Obj59 (.slice (some ad5) l.length cp) b), mapA b n (mapOf ms'), blk w.heap.size (g27 c r p wi sd), row kptr 60 (.slice (some ad5) l.length cp) (ptrs ms')] ho HX5.out) (Nat.le_refl _)
                  have y7 : wr.cell? ⟨s.g, 6, none⟩ = some (.int .i64 s.sure) := (blk_cell hbk 6).trans rfl
                  clear y5 hbk
                  go_wp2_with (first | ((with_reducible refine gate_builtin (b := .append) (xs := #[.tmp 102, .tmp 107]) rfl ?_); at_builtin; refine wp_append1 (Kd.int .i64) (n := i) rfl (.tmp 102) (.tmp 107) 34 3 (.int .i64 0) 8 rfl Try.underlying34 GridW.info3 rfl (by decide) (by decide) (.slice A5 i c5) T5 s.sure [.int .i64 (s.sure)] rfl rfl ?aM HX5.out ?aN ?aL ?_; (case aM => exact rfl); (case aN => exact hT5l); (case aL => omega); intro A_w9 c_w9 w9 h_new hc_w9; have H9 := Aside0.mk h_new; clear h_new))
                  go_roundg k5
                  case measure => have := HK5.out; omega
                  case rel =>
                    refine ⟨i + 1, A_w9, c_w9, rfl, rfl, ⟨by have := HK5.out; omega⟩, ⟨by omega⟩, ⟨?_⟩⟩
                    rw [HTK5.out]
                    exact H9.out
            · have e5 : decide ((i : Int) < (l.length : Int)) = false := decide_eq_false (by omega)
              go_wp2
              go_ret
              obtain ⟨S5, ⟨hS5, _⟩, hb5⟩ := HX5.out.first
              have hR5 := Kd.R_raise (b := 0) (b' := w.heap.size) (fun _ _ _ _ h => h) hS5 (fun k hk => hb5 k (hS5.1 k hk))
              rw [List.take_of_length_le (by rw [HRL.out]; omega)] at hR5
              exact ⟨_, erase ms', rfl, by rw [resF_erase]; exact Kd.R_mono hR5 (fun _ _ => trivial), HX5.out.below, HR.out, (HFa.out (by first | exact rfl | trivial)).1.erase⟩
        | true =>
          cases gk with
          | zero => exact absurd (HT.out (by first | exact rfl | trivial)) (by omega)
          | succ k1 =>
            go_wp2
            clear cx0
            go_loopg [9, 69] (l.length + 1) (fun kq v9 v69 w' => ∃ (i : Nat) (ms2 : List (Option LineS)) (ag : Bool), v9 = .bool ag ∧ v69 = .int .i64 (i : Int) ∧ Aside0 (i + kq = l.length + 1) ∧ Aside0 (i ≤ l.length) ∧ Aside0 (ms2.length = l.length) ∧ Aside0 (Reach (initM nearF l) (erase ms2)) ∧ Aside0 (WfM ms2) ∧ Aside0 (ag = true → phi ms2 + 1 ≤ phi ms') ∧ Aside0 (ag = false → phi ms2 = phi ms' ∧ ∀ i' < i, ∀ s, ms2[i']? = some (some s) → goesP ms2 s = false) ∧ Aside0 (OfH w w' gx b n (.slice A l.length cp) c r p wi sd ms2))
            case atStart => exact ⟨0, ms', false, rfl, rfl, ⟨by omega⟩, ⟨by omega⟩, HL, HR, HWF, ⟨fun h => by cases h⟩, ⟨fun _ => ⟨rfl, fun _ h => absurd h (by omega)⟩⟩, HO⟩
            case round =>
              obtain ⟨i, ms2, ag, rfl, rfl, HK2, HI2, HL2, HR2, HWF2, HT2, HF2, HO2⟩ := hrel
              have hii := HI2.out
              by_cases hil : i < l.length
              · have e5 : decide ((i : Int) < (l.length : Int)) = true := decide_eq_true (by omega)
                have hi9 : (i : Int) < (l.length : Int) := by omega
                obtain ⟨o, ho⟩ : ∃ o, ms2[i]? = some o := ⟨_, List.getElem?_eq_getElem (by rw [HL2.out]; exact hil)⟩
                obtain ⟨ad5, e6, y5⟩ := rdP (HO2.out.up3.rowN.2.2) i ho
                subst e6
                cases gk with
                | zero => exact absurd HK2.out (by omega)
                | succ k2 =>
                  cases o with
                  | none =>
                    have y6 : wr.cell? (ad5.add i) = some (.pointer none) := y5
                    clear y5
                    go_wp2
                    refine wp_loop_rounds 1 ?_
                    rw [rounds_succ]
                    go_wp2
                    go_roundg k2
                    case measure => have := HK2.out; omega
                    case rel =>
                      refine ⟨i + 1, ms2, ag, rfl, rfl, ⟨by have := HK2.out; omega⟩, ⟨by omega⟩, HL2, HR2, HWF2, HT2, ⟨fun h => ⟨(HF2.out h).1, fun i' hi' s hs => ?_⟩⟩, HO2⟩
                      rcases Nat.lt_succ_iff_lt_or_eq.1 hi' with h1 | h1
                      · exact (HF2.out h).2 i' h1 s hs
                      · subst h1; rw [ho] at hs; cases hs
                  | some s0 =>
                    have y6 : wr.cell? (ad5.add i) = some (.pointer (some ⟨s0.g, 0, none⟩)) := y5
                    clear y5
                    go_wp2
                    clear y6
                    go_loopg [9] (phi ms2 + 1) (fun kq v9 w' => ∃ (ms3 : List (Option LineS)) (ag3 : Bool) (s3 : LineS), v9 = .bool ag3 ∧ ms3[i]? = some (some s3) ∧ s3.g = s0.g ∧ Aside0 (ms3.length = l.length) ∧ Aside0 (Reach (initM nearF l) (erase ms3)) ∧ Aside0 (WfM ms3) ∧ Aside0 (phi ms3 + 1 ≤ kq) ∧ Aside0 (ag3 = true → phi ms3 + 1 ≤ phi ms') ∧ Aside0 (ag3 = false → phi ms3 = phi ms' ∧ ∀ i' < i, ∀ s, ms3[i']? = some (some s) → goesP ms3 s = false) ∧ Aside0 (OfH w w' gx b n (.slice (some ad5) l.length cp) c r p wi sd ms3))
                    case atStart => exact ⟨ms2, ag, s0, rfl, ho, rfl, HL2, HR2, HWF2, ⟨Nat.le_refl _⟩, HT2, HF2, HO2⟩
                    case round =>
                      clear HO2 HF2 HT2 HWF2 HR2 HL2 ho
                      obtain ⟨ms3, ag3, s3, rfl, hs3, hg3, HL3, HR3, HWF3, HP3, HT3, HF3, HO3⟩ := hrel
                      rw [← hg3]
                      have HGG := Aside0.mk hg3
                      clear hg3
                      have hw3 := HWF3.out i s3 hs3
                      have HW3 := Aside0.mk hw3
                      have hbs := hw3.sure
                      have hbb := hw3.base
                      have hbl := hw3.len
                      have hbst : s3.steps ≤ s3.x.2.2.1.length := by unfold LineS.steps; split <;> omega
                      have hsu : -1000 ≤ s3.sure ∧ s3.sure ≤ 100000 := by omega
                      have HS3 := Aside0.mk hs3
                      clear hw3 hbs hbb hbl hbst hs3
                      cases hgo : goesP ms3 s3 with
                      | true =>
                        have HGO := Aside0.mk hgo
                        clear hgo
                        cases gk with
                        | zero => exact absurd HP3.out (by omega)
                        | succ k3 =>
                          go_wp2_with (first | (go_at_call 22; (with_reducible refine (goes.calls (F := [blk w.heap.size (g27 c r p wi sd), row kptr 60 (.slice (some ad5) l.length cp) (ptrs ms3)]) HO3.out (Nat.le_refl _) HS3.out HW3.out).mono ?_); rintro e_ w5 ⟨rfl, hb5⟩; rw [HGO.out]; have HO5 := Aside0.mk (show OfH w w5 gx b n _ c r p wi sd ms3 from Has.step HO3.out hb5); clear hb5; obtain ⟨_, _, _, _, _, _, hbk, _⟩ := line_open (lines_out [blk gx (Obj59 (.slice (some ad5) l.length cp) b), mapA b n (mapOf ms3), blk w.heap.size (g27 c r p wi sd), row kptr 60 (.slice (some ad5) l.length cp) (ptrs ms3)] HS3.out HO5.out) (Nat.le_refl _); have y7 : w5.cell? ⟨s3.g, 6, none⟩ = some (.int .i64 s3.sure) := (blk_cell hbk 6).trans rfl; have yf := blk_frozen hbk 6; clear hbk))
                          rw [HGG.out]
                          go_roundg k3
                          case measure => have := HP3.out; have := phi_next HS3.out HW3.out HGO.out; omega
                          case rel =>
                            have hph := phi_next HS3.out HW3.out HGO.out
                            refine ⟨ms3.set i (some (nextL s3)), true, nextL s3, rfl, by simp [HL3.out, hil], HGG.out, ⟨by rw [List.length_set]; exact HL3.out⟩, ⟨HR3.out.next HS3.out HGO.out⟩, ⟨HWF3.out.next HS3.out HGO.out⟩, ⟨by have := HP3.out; omega⟩, ⟨fun _ => ?_⟩, ⟨fun h => by cases h⟩, ⟨by have h9 := HO5.out.next HS3.out; rw [HGG.out] at h9; exact h9⟩⟩
                            cases ag3 with
                            | true => have := HT3.out (by first | exact rfl | trivial); omega
                            | false => have := (HF3.out (by first | exact rfl | trivial)).1; omega
                      | false =>
                        have HGO := Aside0.mk hgo
                        clear hgo
                        go_wp2_with (first | (go_at_call 22; (with_reducible refine (goes.calls (F := [blk w.heap.size (g27 c r p wi sd), row kptr 60 (.slice (some ad5) l.length cp) (ptrs ms3)]) HO3.out (Nat.le_refl _) HS3.out HW3.out).mono ?_); rintro e_ w5 ⟨rfl, hb5⟩; rw [HGO.out]; have HO5 := Aside0.mk (show OfH w w5 gx b n _ c r p wi sd ms3 from Has.step HO3.out hb5); clear hb5))
                        go_roundg k2
                        case measure => have := HK2.out; omega
                        case rel =>
                          refine ⟨i + 1, ms3, ag3, rfl, rfl, ⟨by have := HK2.out; omega⟩, ⟨by omega⟩, HL3, HR3, HWF3, HT3, ⟨fun h => ⟨(HF3.out h).1, fun i' hi' s hs => ?_⟩⟩, HO5⟩
                          rcases Nat.lt_succ_iff_lt_or_eq.1 hi' with h1 | h1
                          · exact (HF3.out h).2 i' h1 s hs
                          · subst h1
                            rw [HS3.out] at hs
                            have e8 : s3 = s := by simpa using hs
                            rw [← e8]
                            exact HGO.out
              · have e5 : decide ((i : Int) < (l.length : Int)) = false := decide_eq_false (by omega)
                go_wp2
                go_roundg k1
                case measure => have := HT.out (by first | exact rfl | trivial); omega
                case rel =>
                  have hT0 := HT.out (by first | exact rfl | trivial)
                  refine ⟨ms2, ag, rfl, HL2, HR2, HWF2, ⟨fun h => ?_⟩, ⟨fun h => ⟨fun j s hj => ?_, by omega⟩⟩, HO2⟩
                  · have := HT2.out h; omega
                  · exact (HF2.out h).2 j (by have := (List.getElem?_eq_some_iff.1 hj).1; rw [HL2.out] at this; omega) s hj
end Go.Proofs.Ytmgdpkmmcmglfaa.MarkW
