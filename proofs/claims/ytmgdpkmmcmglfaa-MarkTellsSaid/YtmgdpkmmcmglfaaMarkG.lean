/- The document's Mark, walked: it ends where nothing goes on, and all was reached. Condition: a config that is right, lines as few says. -/
import Derived.Test.YtmgdpkmmcmglfaaMarkP
import Derived.Test.YtmgdpkmmcmglfaaReg
namespace Go.Proofs.Ytmgdpkmmcmglfaa.RMark
open Go Go.RowKit Go.Proofs.YtmgdpkmmcmglfaaW.PrintWords Go.Proofs.YtmgdpkmmcmglfaaW.PrintLast Go.Proofs.YtmgdpkmmcmglfaaW.PrintMore Go.Proofs.Ytmgdpkmmcmglfaa.Sep Go.Proofs.Ytmgdpkmmcmglfaa.PMarkTells
open Go.Proofs.Ytmgdpkmmcmglfaa.PureM (R tol fewP rright At known_eq goes_eq allFrom)
open Go.Proofs.Ytmgdpkmmcmglfaa.MarkW (Line LineS nearG ofG fitG initM madeP Stuck WfM WfL goesP resF phi nextL kline at_line)
attribute [local go_sem] max2_int min2_int max_two min_two max_three min_three max_four min_four   -- for this text's walks alone
set_option linter.unusedVariables false
set_option linter.unusedSimpArgs false
theorem C_tol {w : World} {A : Option Addr} {n : Nat} {l : List S44} (h : Kd.C k44 w A n l) : Kd.C kline w A n (l.map tol) := by
  obtain ⟨h1, h2, h3⟩ := h
  refine ⟨by rw [List.length_map]; exact h1, h2, fun hn => ?_⟩
  obtain ⟨ad, e, hr⟩ := h3 hn
  refine ⟨ad, e, fun j p hj => ?_⟩
  rw [List.getElem?_map] at hj
  cases hx : l[j]? with
  | none => rw [hx] at hj; cases hj
  | some x =>
    rw [hx] at hj
    obtain rfl := Option.some.inj hj
    exact hr j x hx
/-- an element of a row of whole numbers is written -/
theorem Has.put {w0 w : World} {base g n cp e i : Nat} {xs : List Int} {F : List Asr} (h : Has w0 base w (row (Kd.int .i64) e (.slice (some ⟨g, 0, none⟩) n cp) xs :: F)) (v : Int) : Has w0 base (w.setCell ⟨g, i, none⟩ (.int .i64 v)) (row (Kd.int .i64) e (.slice (some ⟨g, 0, none⟩) n cp) (xs.set i v) :: F) := by
  have hn := h.rowN.1
  subst hn
  obtain ⟨S, ⟨h1, h2⟩, hS, hout⟩ := h.out
  have hSg : S g := h1.1 g rfl
  have hsz : (w.setCell ⟨g, i, none⟩ (.int .i64 v)).heap.size = w.heap.size := by simp [World.setCell]
  obtain ⟨hR, hg⟩ := Kd.R_put (h1 := fun _ => rfl) h1 (i : Int) v
  rw [Int.toNat_natCast] at hR hg
  refine hout _ _ S (Below.grown h.below hg h.le (fun k hk => by obtain rfl := Option.some.inj hk; exact hS _ hSg)) (by rw [hsz]; exact Nat.le_refl _) ⟨?_, fun k hk => by rw [hsz]; exact h2 k hk⟩ (fun k hk => .inl hk) (fun k hk hn => Below.heap_setCell w ⟨g, i, none⟩ _ k (fun e => hn (by rw [e]; exact hSg)))
  exact hR
abbrev cfgV (c r p w s : Int) : Value := .agg #[.int .i64 c, .int .i64 r, .int .i64 p, .int .i64 w, .int .u64 s]
abbrev cfgO (c r p w s : Int) : Obj := .cells #[.int .i64 c, .int .i64 r, .int .i64 p, .int .i64 w, .int .u64 s] 24 (0, 0)
set_option maxHeartbeats 4000000 in
set_option maxRecDepth 100000 in
theorem mark.calls (c r p wi sd : Int) (A1 : Option Addr) (c1 : Nat) (l : List S44) (w : World) (hr1 : Kd.C k44 w A1 l.length l) (hc1 : l.length ≤ c1) (hR : R c r p wi) (hf : fewP l) (hfit : fitG c r p wi sd (l.map tol)) :
    Calls Try.prog 12 #[cfgV c r p wi sd, .slice A1 l.length c1] w fun e w' => ∃ v0_ b, e = .returned v0_ ∧ Kd.R (Kd.int .i64) 3 w' w.heap.size (fun _ => True) v0_ (resF b) ∧ Below w.heap.size w w' ∧ MarkW.Reach (initM (nearG c r p wi sd) (l.map tol)) b ∧ Stuck b := by
  have HR1 := Aside0.mk hr1
  have HT1 := Aside0.mk (C_tol hr1)
  have HRR := Aside0.mk hR
  have HFW := Aside0.mk hf
  have HFI := Aside0.mk hfit
  have hl20 := hf.1
  clear hr1 hR hf hfit
  obtain ⟨INI, hINI⟩ : ∃ INI, resF (initM (nearG c r p wi sd) (l.map tol)) = INI := ⟨_, rfl⟩
  have HINI := Aside0.mk hINI
  have hIl : INI.length = l.length := by rw [← hINI]; simp [resF, initM]
  have HIL := Aside0.mk hIl
  clear hINI hIl
  have hu24 := Try.underlying24
  have hu44 := Try.underlying44
  go_enter Try.func12, Try.ntmps12
  go_wp2
  have H0 := Aside0.mk (((Has.nil (w := w) (base := w.heap.size) (Nat.le_refl _)).own #[.int .i64 c, .int .i64 r, .int .i64 p, .int .i64 wi, .int .u64 sd] 24).rowNil (Kd.int .i64) 3)
  go_loopg [5, 6] (l.length + 1) (fun kq v5 v6 w' => ∃ (i : Nat) (A : Option Addr) (cp : Nat), v5 = .slice A i cp ∧ v6 = .int .i64 (i : Int) ∧ Aside0 (i + kq = l.length + 1) ∧ Aside0 (i ≤ l.length) ∧ Aside0 (Has w w.heap.size w' [row (Kd.int .i64) 3 (.slice A i cp) (INI.take i), blk w.heap.size (cfgO c r p wi sd)]))
  case atStart => exact ⟨0, none, 0, rfl, rfl, ⟨by omega⟩, ⟨by omega⟩, H0⟩
  case round =>
    clear H0
    obtain ⟨i, A, cp, rfl, rfl, HK, HI, HW⟩ := hrel
    have hii := HI.out
    by_cases hil : i < l.length
    · have e1 : decide ((i : Int) < (l.length : Int)) = true := decide_eq_true (by omega)
      have hi9 : (i : Int) < (l.length : Int) := by omega
      obtain ⟨x, hx⟩ : ∃ x, l[i] = x := ⟨_, rfl⟩
      obtain ⟨ad, A2, c2, A3, c3, e9, x0, x1, x2, x3, l2, g2, l3, g3⟩ := at_line HT1.out i (by rw [List.length_map]; exact hil)
      subst e9
      rw [List.getElem_map, hx] at x0 x1 x2 x3 l2 g2 l3 g3
      have x0 : _ = some (Value.int .i64 x.f0) := pw_cell_below HW.out.below x0
      have x1 : _ = some (Value.int .i64 x.f1) := pw_cell_below HW.out.below x1
      have x2 : _ = some (Value.slice A2 x.f2.length c2) := pw_cell_below HW.out.below x2
      have x3 : _ = some (Value.slice A3 x.f3.length c3) := pw_cell_below HW.out.below x3
      have l2 : x.f2.length ≤ c2 := l2
      have l3 : x.f3.length ≤ c3 := l3
      have hmem : x ∈ l := by rw [← hx]; exact List.getElem_mem hil
      have HG2 : Aside0 (Kd.C Kd.bool w A2 x.f2.length x.f2) := Aside0.mk g2
      have HG3 : Aside0 (Kd.C (Kd.slice 4 Kd.bool) w A3 x.f3.length x.f3) := Aside0.mk g3
      have HRI := Aside0.mk (rright sd HRR.out x (HFW.out.2 x hmem).2 (k := 100) (by omega))
      have bk := HW.out.sw.blk
      have z0 : wr.cell? ⟨w.heap.size, 0, none⟩ = some (.int .i64 c) := (blk_cell bk 0).trans rfl
      have z1 : wr.cell? ⟨w.heap.size, 1, none⟩ = some (.int .i64 r) := (blk_cell bk 1).trans rfl
      have z2 : wr.cell? ⟨w.heap.size, 2, none⟩ = some (.int .i64 p) := (blk_cell bk 2).trans rfl
      have z3 : wr.cell? ⟨w.heap.size, 3, none⟩ = some (.int .i64 wi) := (blk_cell bk 3).trans rfl
      have z4 : wr.cell? ⟨w.heap.size, 4, none⟩ = some (.int .u64 sd) := (blk_cell bk 4).trans rfl
      have HTK := Aside0.mk (show INI.take (i + 1) = INI.take i ++ [if madeP (nearG c r p wi sd x.f0) (tol x) = true then x.f1 else -1] from by
        rw [List.take_succ_eq_append_getElem (by rw [HIL.out]; exact hil)]
        congr 2
        have h9 : INI[i]? = some (if madeP (nearG c r p wi sd x.f0) (tol x) = true then x.f1 else -1) := by
          rw [← HINI.out]
          unfold resF initM
          rw [List.getElem?_map, List.getElem?_map, List.getElem?_map, List.getElem?_eq_getElem hil, hx]
          show some (MarkW.ansO (if madeP (nearG c r p wi sd x.f0) (tol x) = true then some ⟨0, tol x, nearG c r p wi sd x.f0, x.f1⟩ else none)) = _
          congr 1
          split <;> rfl
        exact (List.getElem?_eq_some_iff.1 h9).2)
      have hTl : (INI.take i).length = i := by rw [List.length_take, HIL.out]; omega
      obtain ⟨T5, hT5⟩ : ∃ T5, INI.take i = T5 := ⟨_, rfl⟩
      rw [hT5] at HW HTK hTl
      clear hT5 bk g2 g3 hmem
      have HTL := Aside0.mk hTl
      cases gk with
      | zero => exact absurd HK.out (by omega)
      | succ k1 =>
        go_wp2
        cases hmd : madeP (nearG c r p wi sd x.f0) (tol x)
        · rw [hmd] at HRI HTK
          clear hmd
          refine wp_region_held_drew (S := (fun w' => w'.cell? ⟨w.heap.size, 0, none⟩ = some (.int .i64 c) ∧ w'.cell? ⟨w.heap.size, 1, none⟩ = some (.int .i64 r) ∧ w'.cell? ⟨w.heap.size, 2, none⟩ = some (.int .i64 p) ∧ w'.cell? ⟨w.heap.size, 3, none⟩ = some (.int .i64 wi) ∧ w'.cell? ⟨w.heap.size, 4, none⟩ = some (.int .u64 sd) ∧ w'.cell? (ad.add (i * 4)) = some (.int .i64 x.f0) ∧ w'.cell? ⟨(ad.add (i * 4)).block, (ad.add (i * 4)).off + 1, none⟩ = some (.int .i64 x.f1) ∧ w'.cell? ⟨(ad.add (i * 4)).block, (ad.add (i * 4)).off + 2, none⟩ = some (.slice A2 x.f2.length c2) ∧ w'.cell? ⟨(ad.add (i * 4)).block, (ad.add (i * 4)).off + 3, none⟩ = some (.slice A3 x.f3.length c3))) (by kernel_rfl) ?_ (fun hHeld => ?_)
          · (exact ⟨z0, z1, z2, z3, z4, x0, x1, x2, x3⟩)
          refine Go.Proofs.Ytmgdpkmmcmglfaa.Sep.takeW (i := 0) (v := ?_) rfl rfl (by kernel_rfl) (by kernel_rfl) (by kernel_rfl) (fun _ _ _ h => h) (by rfl) ?_ hHeld ?_
          rotate_left 1
          · (intro w hSw; (try dsimp only at hSw); go_simp <;> (try with_reducible rfl))
          (try simp only [Act.put, List.setIfInBounds_toArray, List.set_cons_zero, List.set_cons_succ])
          refine Go.Proofs.Ytmgdpkmmcmglfaa.Sep.takeW (i := 1) (v := ?_) rfl rfl (by kernel_rfl) (by kernel_rfl) (by kernel_rfl) (fun _ _ _ h => h) (by rfl) ?_ hHeld ?_
          rotate_left 1
          · (intro w hSw; (try dsimp only at hSw); go_simp <;> (try with_reducible rfl))
          (try simp only [Act.put, List.setIfInBounds_toArray, List.set_cons_zero, List.set_cons_succ])
          refine Go.Proofs.Ytmgdpkmmcmglfaa.Sep.takeW (i := 2) (v := ?_) rfl rfl (by kernel_rfl) (by kernel_rfl) (by kernel_rfl) (fun _ _ _ h => h) (by rfl) ?_ hHeld ?_
          rotate_left 1
          · (intro w hSw; (try dsimp only at hSw); go_simp <;> (try with_reducible rfl))
          (try simp only [Act.put, List.setIfInBounds_toArray, List.set_cons_zero, List.set_cons_succ])
          refine Go.Proofs.Ytmgdpkmmcmglfaa.Sep.takeW (i := 3) (v := ?_) rfl rfl (by kernel_rfl) (by kernel_rfl) (by kernel_rfl) (fun _ _ _ h => h) (by rfl) ?_ hHeld ?_
          rotate_left 1
          · (intro w hSw; (try dsimp only at hSw); go_simp <;> (try with_reducible rfl))
          (try simp only [Act.put, List.setIfInBounds_toArray, List.set_cons_zero, List.set_cons_succ])
          refine Go.Proofs.Ytmgdpkmmcmglfaa.Sep.takeW (i := 4) (v := ?_) rfl rfl (by kernel_rfl) (by kernel_rfl) (by kernel_rfl) (fun _ _ _ h => h) (by rfl) ?_ hHeld ?_
          rotate_left 1
          · (intro w hSw; (try dsimp only at hSw); go_simp <;> (try with_reducible rfl))
          (try simp only [Act.put, List.setIfInBounds_toArray, List.set_cons_zero, List.set_cons_succ])
          refine Go.Proofs.Ytmgdpkmmcmglfaa.Sep.callC (i := 5) rfl (by kernel_rfl) (by rfl) (fun K hK => ?_)
          clear hHeld
          (go_wp2_with ((go_at_call 23; (with_reducible refine (joustref15_right.calls 100 c r p wi sd x.f0 x.f1 A2 c2 x.f2 A3 c3 x.f3 false _ (HW.out.drew.came (Nat.le_refl _) HG2.out) l2 (HW.out.drew.came (Nat.le_refl _) HG3.out) l3 HRI.out).mono ?_); rintro e_ w5 ⟨rfl, hb5⟩; have HB5 := Aside0.mk hb5; clear hb5)))
          refine hK.out _ _ ?_ (fun hHeld => ?_)
          · (exact ⟨pw_cell_below (w := wr.drew) HB5.out z0, pw_cell_below (w := wr.drew) HB5.out z1, pw_cell_below (w := wr.drew) HB5.out z2, pw_cell_below (w := wr.drew) HB5.out z3, pw_cell_below (w := wr.drew) HB5.out z4, pw_cell_below (w := wr.drew) HB5.out x0, pw_cell_below (w := wr.drew) HB5.out x1, pw_cell_below (w := wr.drew) HB5.out x2, pw_cell_below (w := wr.drew) HB5.out x3⟩)
          clear hK K
          (try simp only [Act.put, List.setIfInBounds_toArray, List.set_cons_zero, List.set_cons_succ])
          refine wpAnyH_done (by kernel_rfl) ?_ _
          have HW5 := Aside0.mk (HW.out.drew.step HB5.out)
          skip
          go_wp2_with (first | ((with_reducible refine gate_builtin (b := .append) (xs := #[.tmp 28, .tmp 30]) rfl ?_); at_builtin; refine wp_append1 (Kd.int .i64) (n := i) rfl (.tmp 28) (.tmp 30) 34 3 (.int .i64 0) 8 rfl Try.underlying34 info3 rfl (by decide) (by decide) (.slice A i cp) T5 (-1) [.int .i64 ((-1))] rfl rfl ?aM HW5.out ?aN ?aL ?_; (case aM => exact rfl); (case aN => exact HTL.out); (case aL => omega); intro A_w9 c_w9 w9 h_new hc_w9; have H9 := Aside0.mk h_new; clear h_new))
          go_roundg k1
          case measure => have := HK.out; omega
          case rel =>
            refine ⟨i + 1, A_w9, c_w9, rfl, rfl, ⟨by have := HK.out; omega⟩, ⟨by omega⟩, ⟨?_⟩⟩
            rw [HTK.out]
            exact H9.out
        · rw [hmd] at HRI HTK
          clear hmd
          refine wp_region_held_drew (S := (fun w' => w'.cell? ⟨w.heap.size, 0, none⟩ = some (.int .i64 c) ∧ w'.cell? ⟨w.heap.size, 1, none⟩ = some (.int .i64 r) ∧ w'.cell? ⟨w.heap.size, 2, none⟩ = some (.int .i64 p) ∧ w'.cell? ⟨w.heap.size, 3, none⟩ = some (.int .i64 wi) ∧ w'.cell? ⟨w.heap.size, 4, none⟩ = some (.int .u64 sd) ∧ w'.cell? (ad.add (i * 4)) = some (.int .i64 x.f0) ∧ w'.cell? ⟨(ad.add (i * 4)).block, (ad.add (i * 4)).off + 1, none⟩ = some (.int .i64 x.f1) ∧ w'.cell? ⟨(ad.add (i * 4)).block, (ad.add (i * 4)).off + 2, none⟩ = some (.slice A2 x.f2.length c2) ∧ w'.cell? ⟨(ad.add (i * 4)).block, (ad.add (i * 4)).off + 3, none⟩ = some (.slice A3 x.f3.length c3))) (by kernel_rfl) ?_ (fun hHeld => ?_)
          · (exact ⟨z0, z1, z2, z3, z4, x0, x1, x2, x3⟩)
          refine Go.Proofs.Ytmgdpkmmcmglfaa.Sep.takeW (i := 0) (v := ?_) rfl rfl (by kernel_rfl) (by kernel_rfl) (by kernel_rfl) (fun _ _ _ h => h) (by rfl) ?_ hHeld ?_
          rotate_left 1
          · (intro w hSw; (try dsimp only at hSw); go_simp <;> (try with_reducible rfl))
          (try simp only [Act.put, List.setIfInBounds_toArray, List.set_cons_zero, List.set_cons_succ])
          refine Go.Proofs.Ytmgdpkmmcmglfaa.Sep.takeW (i := 1) (v := ?_) rfl rfl (by kernel_rfl) (by kernel_rfl) (by kernel_rfl) (fun _ _ _ h => h) (by rfl) ?_ hHeld ?_
          rotate_left 1
          · (intro w hSw; (try dsimp only at hSw); go_simp <;> (try with_reducible rfl))
          (try simp only [Act.put, List.setIfInBounds_toArray, List.set_cons_zero, List.set_cons_succ])
          refine Go.Proofs.Ytmgdpkmmcmglfaa.Sep.takeW (i := 2) (v := ?_) rfl rfl (by kernel_rfl) (by kernel_rfl) (by kernel_rfl) (fun _ _ _ h => h) (by rfl) ?_ hHeld ?_
          rotate_left 1
          · (intro w hSw; (try dsimp only at hSw); go_simp <;> (try with_reducible rfl))
          (try simp only [Act.put, List.setIfInBounds_toArray, List.set_cons_zero, List.set_cons_succ])
          refine Go.Proofs.Ytmgdpkmmcmglfaa.Sep.takeW (i := 3) (v := ?_) rfl rfl (by kernel_rfl) (by kernel_rfl) (by kernel_rfl) (fun _ _ _ h => h) (by rfl) ?_ hHeld ?_
          rotate_left 1
          · (intro w hSw; (try dsimp only at hSw); go_simp <;> (try with_reducible rfl))
          (try simp only [Act.put, List.setIfInBounds_toArray, List.set_cons_zero, List.set_cons_succ])
          refine Go.Proofs.Ytmgdpkmmcmglfaa.Sep.takeW (i := 4) (v := ?_) rfl rfl (by kernel_rfl) (by kernel_rfl) (by kernel_rfl) (fun _ _ _ h => h) (by rfl) ?_ hHeld ?_
          rotate_left 1
          · (intro w hSw; (try dsimp only at hSw); go_simp <;> (try with_reducible rfl))
          (try simp only [Act.put, List.setIfInBounds_toArray, List.set_cons_zero, List.set_cons_succ])
          refine Go.Proofs.Ytmgdpkmmcmglfaa.Sep.callC (i := 5) rfl (by kernel_rfl) (by rfl) (fun K hK => ?_)
          clear hHeld
          (go_wp2_with ((go_at_call 23; (with_reducible refine (joustref15_right.calls 100 c r p wi sd x.f0 x.f1 A2 c2 x.f2 A3 c3 x.f3 true _ (HW.out.drew.came (Nat.le_refl _) HG2.out) l2 (HW.out.drew.came (Nat.le_refl _) HG3.out) l3 HRI.out).mono ?_); rintro e_ w5 ⟨rfl, hb5⟩; have HB5 := Aside0.mk hb5; clear hb5)))
          refine hK.out _ _ ?_ (fun hHeld => ?_)
          · (exact ⟨pw_cell_below (w := wr.drew) HB5.out z0, pw_cell_below (w := wr.drew) HB5.out z1, pw_cell_below (w := wr.drew) HB5.out z2, pw_cell_below (w := wr.drew) HB5.out z3, pw_cell_below (w := wr.drew) HB5.out z4, pw_cell_below (w := wr.drew) HB5.out x0, pw_cell_below (w := wr.drew) HB5.out x1, pw_cell_below (w := wr.drew) HB5.out x2, pw_cell_below (w := wr.drew) HB5.out x3⟩)
          clear hK K
          (try simp only [Act.put, List.setIfInBounds_toArray, List.set_cons_zero, List.set_cons_succ])
          refine wpAnyH_done (by kernel_rfl) ?_ _
          have HW5 := Aside0.mk (HW.out.drew.step HB5.out)
          have y1 := pw_cell_below (w := wr.drew) HB5.out x1
          go_wp2_with (first | ((with_reducible refine gate_builtin (b := .append) (xs := #[.tmp 28, .tmp 30]) rfl ?_); at_builtin; refine wp_append1 (Kd.int .i64) (n := i) rfl (.tmp 28) (.tmp 30) 34 3 (.int .i64 0) 8 rfl Try.underlying34 info3 rfl (by decide) (by decide) (.slice A i cp) T5 x.f1 [.int .i64 (x.f1)] rfl rfl ?aM HW5.out ?aN ?aL ?_; (case aM => exact rfl); (case aN => exact HTL.out); (case aL => omega); intro A_w9 c_w9 w9 h_new hc_w9; have H9 := Aside0.mk h_new; clear h_new))
          go_roundg k1
          case measure => have := HK.out; omega
          case rel =>
            refine ⟨i + 1, A_w9, c_w9, rfl, rfl, ⟨by have := HK.out; omega⟩, ⟨by omega⟩, ⟨?_⟩⟩
            rw [HTK.out]
            exact H9.out
    · have e1 : decide ((i : Int) < (l.length : Int)) = false := decide_eq_false (by omega)
      obtain rfl : i = l.length := by omega
      rw [List.take_of_length_le (by rw [HIL.out]; exact Nat.le_refl _)] at HW
      have HAT := Aside0.mk (show At c r p wi sd l INI (initM (nearG c r p wi sd) (l.map tol)) from ⟨HINI.out.symm, .refl, MarkW.wf_init HFI.out⟩)
      have HPH := Aside0.mk (MarkW.phi_le (MarkW.wf_init HFI.out))
      go_wp2
      go_loopg [8] (100 * l.length + 3) (fun kq v8 w' => ∃ (x5 : List Int) (ms : List (Option LineS)) (ag : Bool), v8 = .bool ag ∧ Aside0 (At c r p wi sd l x5 ms) ∧ Aside0 (ag = true → phi ms + 2 ≤ kq) ∧ Aside0 (ag = false → Stuck ms ∧ 1 ≤ kq) ∧ Aside0 (Has w w.heap.size w' [row (Kd.int .i64) 3 (.slice A l.length cp) x5, blk w.heap.size (cfgO c r p wi sd)]))
      case atStart => exact ⟨INI, _, true, rfl, HAT, ⟨fun _ => by have h1 := HPH.out; simp [initM] at h1 ⊢; omega⟩, ⟨fun h => by cases h⟩, HW⟩
      case round =>
        clear HAT HPH HW
        obtain ⟨x5, ms, ag, rfl, HA, HT, HF, HW⟩ := hrel
        cases ag with
        | false =>
          go_wp2
          go_ret
          obtain ⟨S5, ⟨hS5, _⟩, hb5⟩ := HW.out.first
          have hR5 := Kd.R_raise (b := 0) (b' := w.heap.size) (fun _ _ _ _ h => h) hS5 (fun k hk => hb5 k (hS5.1 k hk))
          have hlast := And.intro (show Kd.R (Kd.int .i64) 3 wr w.heap.size (fun _ => True) _ (resF ms) from by rw [← HA.out.res]; exact Kd.R_mono hR5 (fun _ _ => trivial)) (And.intro HW.out.below (And.intro HA.out.reach (HF.out (by first | exact rfl | trivial)).1))
          exact ⟨_, rfl, ms, hlast⟩
        | true =>
          cases gk with
          | zero => exact absurd (HT.out (by first | exact rfl | trivial)) (by omega)
          | succ k1 =>
            go_wp2
            go_loopg [8, 9] (l.length + 1) (fun kq v8 v9 w' => ∃ (i : Nat) (y5 : List Int) (ms2 : List (Option LineS)) (ag : Bool), v8 = .bool ag ∧ v9 = .int .i64 (i : Int) ∧ Aside0 (i + kq = l.length + 1) ∧ Aside0 (i ≤ l.length) ∧ Aside0 (At c r p wi sd l y5 ms2) ∧ Aside0 (ag = true → phi ms2 + 1 ≤ phi ms) ∧ Aside0 (ag = false → phi ms2 = phi ms ∧ ∀ i' < i, ∀ s, ms2[i']? = some (some s) → goesP ms2 s = false) ∧ Aside0 (Has w w.heap.size w' [row (Kd.int .i64) 3 (.slice A l.length cp) y5, blk w.heap.size (cfgO c r p wi sd)]))
            case atStart => exact ⟨0, x5, ms, false, rfl, rfl, ⟨by omega⟩, ⟨by omega⟩, HA, ⟨fun h => by cases h⟩, ⟨fun _ => ⟨rfl, fun _ h => absurd h (by omega)⟩⟩, HW⟩
            case round =>
              obtain ⟨i, y5, ms2, ag, rfl, rfl, HK2, HI2, HA2, HT2, HF2, HW2⟩ := hrel
              have hii := HI2.out
              by_cases hil : i < l.length
              · have e5 : decide ((i : Int) < (l.length : Int)) = true := decide_eq_true (by omega)
                have hi9 : (i : Int) < (l.length : Int) := by omega
                obtain ⟨S5, ⟨hS5, _⟩, _⟩ := HW2.out.first
                have hyl : y5.length = l.length := HA2.out.len.2
                obtain ⟨gq, capq, eq1, _, _, cellsq, hbq⟩ := Kd.R_form hS5 (by omega)
                obtain rfl := (Value.slice.inj eq1).1
                have yf := blk_frozen hbq i
                clear eq1 hS5 hbq
                have HYL := Aside0.mk hyl
                obtain ⟨yv, hyv⟩ : ∃ yv, y5[i]? = some yv := ⟨_, List.getElem?_eq_getElem (by omega)⟩
                obtain ⟨adq, eq2, yo⟩ := rdInt (HW2.out.rowN.2.2) i (List.getElem?_eq_some_iff.1 hyv).1
                obtain rfl := Option.some.inj eq2
                rw [(List.getElem?_eq_some_iff.1 hyv).2] at yo
                have hadd : (⟨gq, 0, none⟩ : Addr).add i = ⟨gq, i, none⟩ := by
                  unfold Addr.add
                  by_cases h0 : i = 0
                  · rw [if_pos h0, h0]
                  · rw [if_neg h0, Nat.zero_add]
                rw [hadd] at yo
                clear hadd
                have HYV := Aside0.mk hyv
                clear eq2 hyl hyv
                obtain ⟨o, ho⟩ : ∃ o, ms2[i]? = some o := ⟨_, List.getElem?_eq_getElem (by rw [HA2.out.len.1]; exact hil)⟩
                have skip : (∀ t, o = some t → goesP ms2 t = false) → (ag = false → phi ms2 = phi ms ∧ ∀ i' < i + 1, ∀ s, ms2[i']? = some (some s) → goesP ms2 s = false) := fun hno h => ⟨(HF2.out h).1, fun i' hi' s hs => by
                  rcases Nat.lt_succ_iff_lt_or_eq.1 hi' with h1 | h1
                  · exact (HF2.out h).2 i' h1 s hs
                  · subst h1
                    rw [ho] at hs
                    exact hno s (Option.some.inj hs)⟩
                have SKIP := Aside0.mk skip
                have HO := Aside0.mk ho
                clear skip ho
                cases gk with
                | zero => exact absurd HK2.out (by omega)
                | succ k2 =>
                  cases o with
                  | none =>
                    have e := HA2.out.none HO.out
                    rw [HYV.out] at e
                    rw [Option.some.inj e] at yo
                    go_wp2
                    go_roundg k2
                    case measure => have := HK2.out; omega
                    case rel => exact ⟨i + 1, y5, ms2, ag, rfl, rfl, ⟨by have := HK2.out; omega⟩, ⟨by omega⟩, HA2, HT2, ⟨SKIP.out (fun t e => by cases e)⟩, HW2⟩
                  | some t =>
                    obtain ⟨x, hx⟩ : ∃ x, l[i] = x := ⟨_, rfl⟩
                    obtain ⟨t1, t2, t3⟩ := HA2.out.line hil HO.out
                    have tp := HA2.out.pos HO.out
                    have twf := HA2.out.wf i t HO.out
                    have tb := twf.base
                    have ts := twf.sure
                    have tl := twf.len
                    rw [hx] at t1
                    rw [HYV.out] at t3
                    rw [Option.some.inj t3] at yo
                    have t4 : t.x.2.1 = x.f1 := by rw [t1]; rfl
                    have t5 : t.x.2.2.1 = x.f2 := by rw [t1]; rfl
                    have t6 : t.x.2.2.2 = x.f3 := by rw [t1]; rfl
                    rw [t4] at tb ts
                    rw [t5, t6] at tl
                    obtain ⟨st, hst⟩ : ∃ st : Int, (if x.f3.length < x.f2.length then (x.f3.length : Int) else (x.f2.length : Int)) = st := ⟨_, rfl⟩
                    have t7 : t.steps = st := by rw [← hst]; unfold LineS.steps; rw [t5, t6]; split <;> split <;> first | rfl | omega
                    rw [t7] at ts
                    have hstI : (if (x.f3.length : Int) < (x.f2.length : Int) then (x.f3.length : Int) else (x.f2.length : Int)) = st := by rw [← hst]; split <;> split <;> first | rfl | omega
                    have hst2 : st ≤ x.f2.length ∧ st ≤ x.f3.length := by split at hst <;> omega
                    obtain ⟨q, hq⟩ : ∃ q : Nat, (q : Int) = t.sure - t.x.2.1 := ⟨(t.sure - t.x.2.1).toNat, by rw [t4]; omega⟩
                    have e9 : IntKind.i64.wrap (t.sure - x.f1) = (q : Int) := by rw [IntKind.wrap_i64, hq, t4]; omega
                    have e10 : decide (t.sure < 0) = false := decide_eq_false (by omega)
                    have hgo := goes_eq (ms := ms2) hq
                    rw [t7, t5] at hgo
                    have hsu : 0 ≤ t.sure ∧ t.sure ≤ 100000 := by omega
                    obtain ⟨ad, A2, c2, A3, c3, e8, x0, x1, x2, x3, l2, g2, l3, g3⟩ := at_line HT1.out i (by rw [List.length_map]; exact hil)
                    subst e8
                    rw [List.getElem_map, hx] at x0 x1 x2 x3 l2 g2 l3 g3
                    have x1 : _ = some (Value.int .i64 x.f1) := pw_cell_below HW2.out.below x1
                    have x2 : _ = some (Value.slice A2 x.f2.length c2) := pw_cell_below HW2.out.below x2
                    have x3 : _ = some (Value.slice A3 x.f3.length c3) := pw_cell_below HW2.out.below x3
                    have HG2 : Aside0 (Kd.C Kd.bool w A2 x.f2.length x.f2) := Aside0.mk g2
                    have bk := HW2.out.sw.blk
                    have z0 : wr.cell? ⟨w.heap.size, 0, none⟩ = some (.int .i64 c) := (blk_cell bk 0).trans rfl
                    have z1 : wr.cell? ⟨w.heap.size, 1, none⟩ = some (.int .i64 r) := (blk_cell bk 1).trans rfl
                    have z2 : wr.cell? ⟨w.heap.size, 2, none⟩ = some (.int .i64 p) := (blk_cell bk 2).trans rfl
                    have z3 : wr.cell? ⟨w.heap.size, 3, none⟩ = some (.int .i64 wi) := (blk_cell bk 3).trans rfl
                    have z4 : wr.cell? ⟨w.heap.size, 4, none⟩ = some (.int .u64 sd) := (blk_cell bk 4).trans rfl
                    have HQ := Aside0.mk hq
                    have HX := Aside0.mk hx
                    have HGO := Aside0.mk hgo
                    have HT3 := Aside0.mk t3
                    have HT6 := Aside0.mk t6
                    have HWF := Aside0.mk twf
                    clear x0 g2 g3 l2 l3 bk hq hx hgo t1 t2 t3 t4 t5 t6 t7 twf tb
                    go_wp2
                    refine wp_region_held_drew (S := (fun w' => w'.cell? ⟨gq, i, none⟩ = some (.int .i64 t.sure) ∧ w'.cell? ⟨(ad.add (i * 4)).block, (ad.add (i * 4)).off + 1, none⟩ = some (.int .i64 x.f1))) (by kernel_rfl) ?_ (fun hHeld => ?_)
                    · (exact ⟨yo, x1⟩)
                    refine Go.Proofs.Ytmgdpkmmcmglfaa.Sep.takeW (i := 0) (v := ?_) rfl rfl (by kernel_rfl) (by kernel_rfl) (by kernel_rfl) (fun _ _ _ h => h) (by rfl) ?_ hHeld ?_
                    rotate_left 1
                    · (intro w hSw; (try dsimp only at hSw); go_simp <;> (try with_reducible rfl))
                    (try simp only [Act.put, List.setIfInBounds_toArray, List.set_cons_zero, List.set_cons_succ])
                    refine Go.Proofs.Ytmgdpkmmcmglfaa.Sep.takeW (i := 1) (v := ?_) rfl rfl (by kernel_rfl) (by kernel_rfl) (by kernel_rfl) (fun _ _ _ h => h) (by rfl) ?_ hHeld ?_
                    rotate_left 1
                    · (intro w hSw; (try dsimp only at hSw); go_simp <;> (try with_reducible rfl))
                    (try simp only [Act.put, List.setIfInBounds_toArray, List.set_cons_zero, List.set_cons_succ])
                    refine Go.Proofs.Ytmgdpkmmcmglfaa.Sep.takeW (i := 2) (v := ?_) rfl rfl (by kernel_rfl) (by kernel_rfl) (by kernel_rfl) (fun _ _ _ h => h) (by rfl) ?_ hHeld ?_
                    rotate_left 1
                    · (intro w hSw; (try dsimp only at hSw); go_simp <;> (try with_reducible rfl))
                    (try simp only [Act.put, List.setIfInBounds_toArray, List.set_cons_zero, List.set_cons_succ])
                    refine Go.Proofs.Ytmgdpkmmcmglfaa.Sep.takeW (i := 3) (v := ?_) rfl rfl (by kernel_rfl) (by kernel_rfl) (by kernel_rfl) (fun _ _ _ h => h) (by rfl) ?_ hHeld ?_
                    rotate_left 1
                    · (intro w hSw; (try dsimp only at hSw); go_simp <;> (try with_reducible rfl))
                    (try simp only [Act.put, List.setIfInBounds_toArray, List.set_cons_zero, List.set_cons_succ])
                    refine Go.Proofs.Ytmgdpkmmcmglfaa.Sep.takeW (i := 4) (v := ?_) rfl rfl (by kernel_rfl) (by kernel_rfl) (by kernel_rfl) (fun _ _ _ h => h) (by rfl) ?_ hHeld ?_
                    rotate_left 1
                    · (intro w hSw; (try dsimp only at hSw); go_simp <;> (try with_reducible rfl))
                    (try simp only [Act.put, List.setIfInBounds_toArray, List.set_cons_zero, List.set_cons_succ])
                    refine Go.Proofs.Ytmgdpkmmcmglfaa.Sep.takeW (i := 5) (v := ?_) rfl rfl (by kernel_rfl) (by kernel_rfl) (by kernel_rfl) (fun _ _ _ h => h) (by rfl) ?_ hHeld ?_
                    rotate_left 1
                    · (intro w hSw; (try dsimp only at hSw); go_simp <;> (try with_reducible rfl))
                    (try simp only [Act.put, List.setIfInBounds_toArray, List.set_cons_zero, List.set_cons_succ])
                    refine Go.Proofs.Ytmgdpkmmcmglfaa.Sep.takeW (i := 6) (v := ?_) rfl rfl (by kernel_rfl) (by kernel_rfl) (by kernel_rfl) (fun _ _ _ h => h) (by rfl) ?_ hHeld ?_
                    rotate_left 1
                    · (intro w hSw; (try dsimp only at hSw); go_simp <;> (try with_reducible rfl))
                    (try simp only [Act.put, List.setIfInBounds_toArray, List.set_cons_zero, List.set_cons_succ])
                    refine Go.Proofs.Ytmgdpkmmcmglfaa.Sep.takeW (i := 7) (v := ?_) rfl rfl (by kernel_rfl) (by kernel_rfl) (by kernel_rfl) (fun _ _ _ h => h) (by rfl) ?_ hHeld ?_
                    rotate_left 1
                    · (intro w hSw; (try dsimp only at hSw); go_simp <;> (try with_reducible rfl))
                    (try simp only [Act.put, List.setIfInBounds_toArray, List.set_cons_zero, List.set_cons_succ])
                    refine Go.Proofs.Ytmgdpkmmcmglfaa.Sep.takeW (i := 8) (v := ?_) rfl rfl (by kernel_rfl) (by kernel_rfl) (by kernel_rfl) (fun _ _ _ h => h) (by rfl) ?_ hHeld ?_
                    rotate_left 1
                    · (intro w hSw; (try dsimp only at hSw); go_simp <;> (try with_reducible rfl))
                    (try simp only [Act.put, List.setIfInBounds_toArray, List.set_cons_zero, List.set_cons_succ])
                    refine Go.Proofs.Ytmgdpkmmcmglfaa.Sep.takeW (i := 9) (v := ?_) rfl rfl (by kernel_rfl) (by kernel_rfl) (by kernel_rfl) (fun _ _ _ h => h) (by rfl) ?_ hHeld ?_
                    rotate_left 1
                    · (intro w hSw; (try dsimp only at hSw); go_simp <;> (try with_reducible rfl))
                    (try simp only [Act.put, List.setIfInBounds_toArray, List.set_cons_zero, List.set_cons_succ])
                    refine Go.Proofs.Ytmgdpkmmcmglfaa.Sep.takeW (i := 10) (v := ?_) rfl rfl (by kernel_rfl) (by kernel_rfl) (by kernel_rfl) (fun _ _ _ h => h) (by rfl) ?_ hHeld ?_
                    rotate_left 1
                    · (intro w hSw; (try dsimp only at hSw); go_simp <;> (try with_reducible rfl))
                    (try simp only [Act.put, List.setIfInBounds_toArray, List.set_cons_zero, List.set_cons_succ])
                    refine wpAnyH_done (by kernel_rfl) ?_ _
                    go_wp2
                    by_cases c1_ : (q : Int) < st
                    · have d1 : decide ((q : Int) < st) = true := decide_eq_true c1_
                      have hq2 : q < x.f2.length := by omega
                      have hq9 : (q : Int) < (x.f2.length : Int) := by omega
                      obtain ⟨ad2, eq3, yb⟩ := rdBool (HW2.out.came (Nat.le_refl _) HG2.out) q hq2
                      subst eq3
                      obtain ⟨u, hu⟩ : ∃ u, x.f2[q] = u := ⟨_, rfl⟩
                      have hS : x.f2.getD q false = u := by rw [← hu]; simp [List.getD_eq_getElem?_getD, hq2]
                      rw [hu] at yb
                      rw [hS, decide_eq_true c1_, Bool.true_and] at HGO
                      clear hu hS
                      cases u with
                      | false =>
                        have HG := Aside0.mk (show goesP ms2 t = false from by rw [HGO.out, Bool.false_and])
                        refine wp_region_held_drew (S := (fun w' => w'.cell? ⟨w.heap.size, 0, none⟩ = some (.int .i64 c) ∧ w'.cell? ⟨w.heap.size, 1, none⟩ = some (.int .i64 r) ∧ w'.cell? ⟨w.heap.size, 2, none⟩ = some (.int .i64 p) ∧ w'.cell? ⟨w.heap.size, 3, none⟩ = some (.int .i64 wi) ∧ w'.cell? ⟨w.heap.size, 4, none⟩ = some (.int .u64 sd) ∧ w'.cell? ⟨(ad.add (i * 4)).block, (ad.add (i * 4)).off + 2, none⟩ = some (.slice (some ad2) x.f2.length c2) ∧ w'.cell? ⟨(ad.add (i * 4)).block, (ad.add (i * 4)).off + 3, none⟩ = some (.slice A3 x.f3.length c3) ∧ w'.cell? (ad2.add q) = some (.bool false))) (by kernel_rfl) ?_ (fun hHeld => ?_)
                        · (exact ⟨z0, z1, z2, z3, z4, x2, x3, yb⟩)
                        refine Go.Proofs.Ytmgdpkmmcmglfaa.Sep.takeW (i := 0) (v := ?_) rfl rfl (by kernel_rfl) (by kernel_rfl) (by kernel_rfl) (fun _ _ _ h => h) (by rfl) ?_ hHeld ?_
                        rotate_left 1
                        · (intro w hSw; (try dsimp only at hSw); go_simp <;> (try with_reducible rfl))
                        (try simp only [Act.put, List.setIfInBounds_toArray, List.set_cons_zero, List.set_cons_succ])
                        refine Go.Proofs.Ytmgdpkmmcmglfaa.Sep.takeW (i := 1) (v := ?_) rfl rfl (by kernel_rfl) (by kernel_rfl) (by kernel_rfl) (fun _ _ _ h => h) (by rfl) ?_ hHeld ?_
                        rotate_left 1
                        · (intro w hSw; (try dsimp only at hSw); go_simp <;> (try with_reducible rfl))
                        (try simp only [Act.put, List.setIfInBounds_toArray, List.set_cons_zero, List.set_cons_succ])
                        refine Go.Proofs.Ytmgdpkmmcmglfaa.Sep.takeW (i := 2) (v := ?_) rfl rfl (by kernel_rfl) (by kernel_rfl) (by kernel_rfl) (fun _ _ _ h => h) (by rfl) ?_ hHeld ?_
                        rotate_left 1
                        · (intro w hSw; (try dsimp only at hSw); go_simp <;> (try with_reducible rfl))
                        (try simp only [Act.put, List.setIfInBounds_toArray, List.set_cons_zero, List.set_cons_succ])
                        refine Go.Proofs.Ytmgdpkmmcmglfaa.Sep.takeW (i := 3) (v := ?_) rfl rfl (by kernel_rfl) (by kernel_rfl) (by kernel_rfl) (fun _ _ _ h => h) (by rfl) ?_ hHeld ?_
                        rotate_left 1
                        · (intro w hSw; (try dsimp only at hSw); go_simp <;> (try with_reducible rfl))
                        (try simp only [Act.put, List.setIfInBounds_toArray, List.set_cons_zero, List.set_cons_succ])
                        refine Go.Proofs.Ytmgdpkmmcmglfaa.Sep.takeW (i := 4) (v := ?_) rfl rfl (by kernel_rfl) (by kernel_rfl) (by kernel_rfl) (fun _ _ _ h => h) (by rfl) ?_ hHeld ?_
                        rotate_left 1
                        · (intro w hSw; (try dsimp only at hSw); go_simp <;> (try with_reducible rfl))
                        (try simp only [Act.put, List.setIfInBounds_toArray, List.set_cons_zero, List.set_cons_succ])
                        refine Go.Proofs.Ytmgdpkmmcmglfaa.Sep.takeW (i := 5) (v := ?_) rfl rfl (by kernel_rfl) (by kernel_rfl) (by kernel_rfl) (fun _ _ _ h => h) (by rfl) ?_ hHeld ?_
                        rotate_left 1
                        · (intro w hSw; (try dsimp only at hSw); go_simp <;> (try with_reducible rfl))
                        (try simp only [Act.put, List.setIfInBounds_toArray, List.set_cons_zero, List.set_cons_succ])
                        refine Go.Proofs.Ytmgdpkmmcmglfaa.Sep.takeW (i := 6) (v := ?_) rfl rfl (by kernel_rfl) (by kernel_rfl) (by kernel_rfl) (fun _ _ _ h => h) (by rfl) ?_ hHeld ?_
                        rotate_left 1
                        · (intro w hSw; (try dsimp only at hSw); go_simp <;> (try with_reducible rfl))
                        (try simp only [Act.put, List.setIfInBounds_toArray, List.set_cons_zero, List.set_cons_succ])
                        refine Go.Proofs.Ytmgdpkmmcmglfaa.Sep.takeW (i := 7) (v := ?_) rfl rfl (by kernel_rfl) (by kernel_rfl) (by kernel_rfl) (fun _ _ _ h => h) (by rfl) ?_ hHeld ?_
                        rotate_left 1
                        · (intro w hSw; (try dsimp only at hSw); go_simp <;> (try with_reducible rfl))
                        (try simp only [Act.put, List.setIfInBounds_toArray, List.set_cons_zero, List.set_cons_succ])
                        refine Go.Proofs.Ytmgdpkmmcmglfaa.Sep.takeW (i := 8) (v := ?_) rfl rfl (by kernel_rfl) (by kernel_rfl) (by kernel_rfl) (fun _ _ _ h => h) (by rfl) ?_ hHeld ?_
                        rotate_left 1
                        · (intro w hSw; (try dsimp only at hSw); go_simp <;> (try with_reducible rfl))
                        (try simp only [Act.put, List.setIfInBounds_toArray, List.set_cons_zero, List.set_cons_succ])
                        refine Go.Proofs.Ytmgdpkmmcmglfaa.Sep.takeW (i := 9) (v := ?_) rfl rfl (by kernel_rfl) (by kernel_rfl) (by kernel_rfl) (fun _ _ _ h => h) (by rfl) ?_ hHeld ?_
                        rotate_left 1
                        · (intro w hSw; (try dsimp only at hSw); go_simp <;> (try with_reducible rfl))
                        (try simp only [Act.put, List.setIfInBounds_toArray, List.set_cons_zero, List.set_cons_succ])
                        refine Go.Proofs.Ytmgdpkmmcmglfaa.Sep.takeW (i := 10) (v := ?_) rfl rfl (by kernel_rfl) (by kernel_rfl) (by kernel_rfl) (fun _ _ _ h => h) (by rfl) ?_ hHeld ?_
                        rotate_left 1
                        · (intro w hSw; (try dsimp only at hSw); go_simp <;> (try with_reducible rfl))
                        (try simp only [Act.put, List.setIfInBounds_toArray, List.set_cons_zero, List.set_cons_succ])
                        refine Go.Proofs.Ytmgdpkmmcmglfaa.Sep.takeW (i := 11) (v := ?_) rfl rfl (by kernel_rfl) (by kernel_rfl) (by kernel_rfl) (fun _ _ _ h => h) (by rfl) ?_ hHeld ?_
                        rotate_left 1
                        · (intro w hSw; (try dsimp only at hSw); go_simp <;> (try with_reducible rfl))
                        (try simp only [Act.put, List.setIfInBounds_toArray, List.set_cons_zero, List.set_cons_succ])
                        refine Go.Proofs.Ytmgdpkmmcmglfaa.Sep.takeW (i := 12) (v := ?_) rfl rfl (by kernel_rfl) (by kernel_rfl) (by kernel_rfl) (fun _ _ _ h => h) (by rfl) ?_ hHeld ?_
                        rotate_left 1
                        · (intro w hSw; (try dsimp only at hSw); go_simp <;> (try with_reducible rfl))
                        (try simp only [Act.put, List.setIfInBounds_toArray, List.set_cons_zero, List.set_cons_succ])
                        refine Go.Proofs.Ytmgdpkmmcmglfaa.Sep.takeW (i := 13) (v := ?_) rfl rfl (by kernel_rfl) (by kernel_rfl) (by kernel_rfl) (fun _ _ _ h => h) (by rfl) ?_ hHeld ?_
                        rotate_left 1
                        · (intro w hSw; (try dsimp only at hSw); go_simp <;> (try with_reducible rfl))
                        (try simp only [Act.put, List.setIfInBounds_toArray, List.set_cons_zero, List.set_cons_succ])
                        refine Go.Proofs.Ytmgdpkmmcmglfaa.Sep.takeW (i := 14) (v := ?_) rfl rfl (by kernel_rfl) (by kernel_rfl) (by kernel_rfl) (fun _ _ _ h => h) (by rfl) ?_ hHeld ?_
                        rotate_left 1
                        · (intro w hSw; (try dsimp only at hSw); go_simp <;> (try with_reducible rfl))
                        (try simp only [Act.put, List.setIfInBounds_toArray, List.set_cons_zero, List.set_cons_succ])
                        refine Go.Proofs.Ytmgdpkmmcmglfaa.Sep.takeW (i := 15) (v := ?_) rfl rfl (by kernel_rfl) (by kernel_rfl) (by kernel_rfl) (fun _ _ _ h => h) (by rfl) ?_ hHeld ?_
                        rotate_left 1
                        · (intro w hSw; (try dsimp only at hSw); go_simp <;> (try with_reducible rfl))
                        (try simp only [Act.put, List.setIfInBounds_toArray, List.set_cons_zero, List.set_cons_succ])
                        refine Go.Proofs.Ytmgdpkmmcmglfaa.Sep.takeW (i := 16) (v := ?_) rfl rfl (by kernel_rfl) (by kernel_rfl) (by kernel_rfl) (fun _ _ _ h => h) (by rfl) ?_ hHeld ?_
                        rotate_left 1
                        · (intro w hSw; (try dsimp only at hSw); go_simp <;> (try with_reducible rfl))
                        (try simp only [Act.put, List.setIfInBounds_toArray, List.set_cons_zero, List.set_cons_succ])
                        refine Go.Proofs.Ytmgdpkmmcmglfaa.Sep.takeW (i := 17) (v := ?_) rfl rfl (by kernel_rfl) (by kernel_rfl) (by kernel_rfl) (fun _ _ _ h => h) (by rfl) ?_ hHeld ?_
                        rotate_left 1
                        · (intro w hSw; (try dsimp only at hSw); go_simp <;> (try with_reducible rfl))
                        (try simp only [Act.put, List.setIfInBounds_toArray, List.set_cons_zero, List.set_cons_succ])
                        refine Go.Proofs.Ytmgdpkmmcmglfaa.Sep.takeW (i := 18) (v := ?_) rfl rfl (by kernel_rfl) (by kernel_rfl) (by kernel_rfl) (fun _ _ _ h => h) (by rfl) ?_ hHeld ?_
                        rotate_left 1
                        · (intro w hSw; (try dsimp only at hSw); go_simp <;> (try with_reducible rfl))
                        (try simp only [Act.put, List.setIfInBounds_toArray, List.set_cons_zero, List.set_cons_succ])
                        refine Go.Proofs.Ytmgdpkmmcmglfaa.Sep.takeW (i := 19) (v := ?_) rfl rfl (by kernel_rfl) (by kernel_rfl) (by kernel_rfl) (fun _ _ _ h => h) (by rfl) ?_ hHeld ?_
                        rotate_left 1
                        · (intro w hSw; (try dsimp only at hSw); go_simp <;> (try with_reducible rfl))
                        (try simp only [Act.put, List.setIfInBounds_toArray, List.set_cons_zero, List.set_cons_succ])
                        refine Go.Proofs.Ytmgdpkmmcmglfaa.Sep.takeW (i := 20) (v := ?_) rfl rfl (by kernel_rfl) (by kernel_rfl) (by kernel_rfl) (fun _ _ _ h => h) (by rfl) ?_ hHeld ?_
                        rotate_left 1
                        · (intro w hSw; (try dsimp only at hSw); go_simp <;> (try with_reducible rfl))
                        (try simp only [Act.put, List.setIfInBounds_toArray, List.set_cons_zero, List.set_cons_succ])
                        refine Go.Proofs.Ytmgdpkmmcmglfaa.Sep.takeW (i := 21) (v := ?_) rfl rfl (by kernel_rfl) (by kernel_rfl) (by kernel_rfl) (fun _ _ _ h => h) (by rfl) ?_ hHeld ?_
                        rotate_left 1
                        · (intro w hSw; (try dsimp only at hSw); go_simp <;> (try with_reducible rfl))
                        (try simp only [Act.put, List.setIfInBounds_toArray, List.set_cons_zero, List.set_cons_succ])
                        refine Go.Proofs.Ytmgdpkmmcmglfaa.Sep.takeW (i := 22) (v := ?_) rfl rfl (by kernel_rfl) (by kernel_rfl) (by kernel_rfl) (fun _ _ _ h => h) (by rfl) ?_ hHeld ?_
                        rotate_left 1
                        · (intro w hSw; (try dsimp only at hSw); go_simp <;> (try with_reducible rfl))
                        (try simp only [Act.put, List.setIfInBounds_toArray, List.set_cons_zero, List.set_cons_succ])
                        refine Go.Proofs.Ytmgdpkmmcmglfaa.Sep.takeW (i := 23) (v := ?_) rfl rfl (by kernel_rfl) (by kernel_rfl) (by kernel_rfl) (fun _ _ _ h => h) (by rfl) ?_ hHeld ?_
                        rotate_left 1
                        · (intro w hSw; (try dsimp only at hSw); go_simp <;> (try with_reducible rfl))
                        (try simp only [Act.put, List.setIfInBounds_toArray, List.set_cons_zero, List.set_cons_succ])
                        refine Go.Proofs.Ytmgdpkmmcmglfaa.Sep.takeW (i := 24) (v := ?_) rfl rfl (by kernel_rfl) (by kernel_rfl) (by kernel_rfl) (fun _ _ _ h => h) (by rfl) ?_ hHeld ?_
                        rotate_left 1
                        · (intro w hSw; (try dsimp only at hSw); go_simp <;> (try with_reducible rfl))
                        (try simp only [Act.put, List.setIfInBounds_toArray, List.set_cons_zero, List.set_cons_succ])
                        refine Go.Proofs.Ytmgdpkmmcmglfaa.Sep.takeW (i := 25) (v := ?_) rfl rfl (by kernel_rfl) (by kernel_rfl) (by kernel_rfl) (fun _ _ _ h => h) (by rfl) ?_ hHeld ?_
                        rotate_left 1
                        · (intro w hSw; (try dsimp only at hSw); go_simp <;> (try with_reducible rfl))
                        (try simp only [Act.put, List.setIfInBounds_toArray, List.set_cons_zero, List.set_cons_succ])
                        refine Go.Proofs.Ytmgdpkmmcmglfaa.Sep.takeU (i := 26) rfl rfl (by kernel_rfl) (by kernel_rfl) (by kernel_rfl) (fun _ _ _ h => h) (by rfl) hHeld ?_
                        (try simp only [Act.put, List.setIfInBounds_toArray, List.set_cons_zero, List.set_cons_succ])
                        refine Go.Proofs.Ytmgdpkmmcmglfaa.Sep.takeU (i := 27) rfl rfl (by kernel_rfl) (by kernel_rfl) (by kernel_rfl) (fun _ _ _ h => h) (by rfl) hHeld ?_
                        (try simp only [Act.put, List.setIfInBounds_toArray, List.set_cons_zero, List.set_cons_succ])
                        refine Go.Proofs.Ytmgdpkmmcmglfaa.Sep.takeU (i := 28) rfl rfl (by kernel_rfl) (by kernel_rfl) (by kernel_rfl) (fun _ _ _ h => h) (by rfl) hHeld ?_
                        (try simp only [Act.put, List.setIfInBounds_toArray, List.set_cons_zero, List.set_cons_succ])
                        refine Go.Proofs.Ytmgdpkmmcmglfaa.Sep.takeU (i := 29) rfl rfl (by kernel_rfl) (by kernel_rfl) (by kernel_rfl) (fun _ _ _ h => h) (by rfl) hHeld ?_
                        (try simp only [Act.put, List.setIfInBounds_toArray, List.set_cons_zero, List.set_cons_succ])
                        refine Go.Proofs.Ytmgdpkmmcmglfaa.Sep.takeU (i := 30) rfl rfl (by kernel_rfl) (by kernel_rfl) (by kernel_rfl) (fun _ _ _ h => h) (by rfl) hHeld ?_
                        (try simp only [Act.put, List.setIfInBounds_toArray, List.set_cons_zero, List.set_cons_succ])
                        refine Go.Proofs.Ytmgdpkmmcmglfaa.Sep.takeU (i := 31) rfl rfl (by kernel_rfl) (by kernel_rfl) (by kernel_rfl) (fun _ _ _ h => h) (by rfl) hHeld ?_
                        (try simp only [Act.put, List.setIfInBounds_toArray, List.set_cons_zero, List.set_cons_succ])
                        refine Go.Proofs.Ytmgdpkmmcmglfaa.Sep.takeU (i := 32) rfl rfl (by kernel_rfl) (by kernel_rfl) (by kernel_rfl) (fun _ _ _ h => h) (by rfl) hHeld ?_
                        (try simp only [Act.put, List.setIfInBounds_toArray, List.set_cons_zero, List.set_cons_succ])
                        refine Go.Proofs.Ytmgdpkmmcmglfaa.Sep.takeU (i := 33) rfl rfl (by kernel_rfl) (by kernel_rfl) (by kernel_rfl) (fun _ _ _ h => h) (by rfl) hHeld ?_
                        (try simp only [Act.put, List.setIfInBounds_toArray, List.set_cons_zero, List.set_cons_succ])
                        refine Go.Proofs.Ytmgdpkmmcmglfaa.Sep.takeU (i := 34) rfl rfl (by kernel_rfl) (by kernel_rfl) (by kernel_rfl) (fun _ _ _ h => h) (by rfl) hHeld ?_
                        (try simp only [Act.put, List.setIfInBounds_toArray, List.set_cons_zero, List.set_cons_succ])
                        refine Go.Proofs.Ytmgdpkmmcmglfaa.Sep.takeU (i := 35) rfl rfl (by kernel_rfl) (by kernel_rfl) (by kernel_rfl) (fun _ _ _ h => h) (by rfl) hHeld ?_
                        (try simp only [Act.put, List.setIfInBounds_toArray, List.set_cons_zero, List.set_cons_succ])
                        refine Go.Proofs.Ytmgdpkmmcmglfaa.Sep.takeW (i := 36) (v := ?_) rfl rfl (by kernel_rfl) (by kernel_rfl) (by kernel_rfl) (fun _ _ _ h => h) (by rfl) ?_ hHeld ?_
                        rotate_left 1
                        · (intro w hSw; (try dsimp only at hSw); go_simp <;> (try with_reducible rfl))
                        (try simp only [Act.put, List.setIfInBounds_toArray, List.set_cons_zero, List.set_cons_succ])
                        refine wpAnyH_done (by kernel_rfl) ?_ _
                        go_wp2
                        go_roundg k2
                        case measure => have := HK2.out; omega
                        case rel => exact ⟨i + 1, y5, ms2, ag, rfl, rfl, ⟨by have := HK2.out; omega⟩, ⟨by omega⟩, HA2, HT2, ⟨SKIP.out (fun t' e => by cases e; exact HG.out)⟩, ⟨HW2.out.drew.drew⟩⟩
                      | true =>
                        rw [Bool.true_and] at HGO
                        by_cases c3_ : q = 0
                        · have d3 : decide ((0 : Int) < st) = true := decide_eq_true (by omega)
                          have HG := Aside0.mk (show goesP ms2 t = true from by
                            rw [HGO.out]
                            unfold allFrom
                            exact decide_eq_true (fun n _ _ => by unfold MarkW.okK; rw [decide_eq_true c3_]; rfl))
                          clear d1 e9 HGO HQ c1_
                          subst c3_
                          have yb : wr.cell? ad2 = some (.bool true) := by simpa [Addr.add] using yb
                          have h0l : (0 : Int) < (x.f2.length : Int) := by omega
                          have h0n : 0 < x.f2.length := by omega
                          refine wp_region_held_drew (S := (fun w' => w'.cell? ⟨w.heap.size, 0, none⟩ = some (.int .i64 c) ∧ w'.cell? ⟨w.heap.size, 1, none⟩ = some (.int .i64 r) ∧ w'.cell? ⟨w.heap.size, 2, none⟩ = some (.int .i64 p) ∧ w'.cell? ⟨w.heap.size, 3, none⟩ = some (.int .i64 wi) ∧ w'.cell? ⟨w.heap.size, 4, none⟩ = some (.int .u64 sd) ∧ w'.cell? ⟨(ad.add (i * 4)).block, (ad.add (i * 4)).off + 2, none⟩ = some (.slice (some ad2) x.f2.length c2) ∧ w'.cell? ⟨(ad.add (i * 4)).block, (ad.add (i * 4)).off + 3, none⟩ = some (.slice A3 x.f3.length c3) ∧ w'.cell? ad2 = some (.bool true))) (by kernel_rfl) ?_ (fun hHeld => ?_)
                          · (exact ⟨z0, z1, z2, z3, z4, x2, x3, yb⟩)
                          refine Go.Proofs.Ytmgdpkmmcmglfaa.Sep.takeW (i := 0) (v := ?_) rfl rfl (by kernel_rfl) (by kernel_rfl) (by kernel_rfl) (fun _ _ _ h => h) (by rfl) ?_ hHeld ?_
                          rotate_left 1
                          · (intro w hSw; (try dsimp only at hSw); go_simp <;> (try with_reducible rfl))
                          (try simp only [Act.put, List.setIfInBounds_toArray, List.set_cons_zero, List.set_cons_succ])
                          refine Go.Proofs.Ytmgdpkmmcmglfaa.Sep.takeW (i := 1) (v := ?_) rfl rfl (by kernel_rfl) (by kernel_rfl) (by kernel_rfl) (fun _ _ _ h => h) (by rfl) ?_ hHeld ?_
                          rotate_left 1
                          · (intro w hSw; (try dsimp only at hSw); go_simp <;> (try with_reducible rfl))
                          (try simp only [Act.put, List.setIfInBounds_toArray, List.set_cons_zero, List.set_cons_succ])
                          refine Go.Proofs.Ytmgdpkmmcmglfaa.Sep.takeW (i := 2) (v := ?_) rfl rfl (by kernel_rfl) (by kernel_rfl) (by kernel_rfl) (fun _ _ _ h => h) (by rfl) ?_ hHeld ?_
                          rotate_left 1
                          · (intro w hSw; (try dsimp only at hSw); go_simp <;> (try with_reducible rfl))
                          (try simp only [Act.put, List.setIfInBounds_toArray, List.set_cons_zero, List.set_cons_succ])
                          refine Go.Proofs.Ytmgdpkmmcmglfaa.Sep.takeW (i := 3) (v := ?_) rfl rfl (by kernel_rfl) (by kernel_rfl) (by kernel_rfl) (fun _ _ _ h => h) (by rfl) ?_ hHeld ?_
                          rotate_left 1
                          · (intro w hSw; (try dsimp only at hSw); go_simp <;> (try with_reducible rfl))
                          (try simp only [Act.put, List.setIfInBounds_toArray, List.set_cons_zero, List.set_cons_succ])
                          refine Go.Proofs.Ytmgdpkmmcmglfaa.Sep.takeW (i := 4) (v := ?_) rfl rfl (by kernel_rfl) (by kernel_rfl) (by kernel_rfl) (fun _ _ _ h => h) (by rfl) ?_ hHeld ?_
                          rotate_left 1
                          · (intro w hSw; (try dsimp only at hSw); go_simp <;> (try with_reducible rfl))
                          (try simp only [Act.put, List.setIfInBounds_toArray, List.set_cons_zero, List.set_cons_succ])
                          refine Go.Proofs.Ytmgdpkmmcmglfaa.Sep.takeW (i := 5) (v := ?_) rfl rfl (by kernel_rfl) (by kernel_rfl) (by kernel_rfl) (fun _ _ _ h => h) (by rfl) ?_ hHeld ?_
                          rotate_left 1
                          · (intro w hSw; (try dsimp only at hSw); go_simp <;> (try with_reducible rfl))
                          (try simp only [Act.put, List.setIfInBounds_toArray, List.set_cons_zero, List.set_cons_succ])
                          refine Go.Proofs.Ytmgdpkmmcmglfaa.Sep.takeW (i := 6) (v := ?_) rfl rfl (by kernel_rfl) (by kernel_rfl) (by kernel_rfl) (fun _ _ _ h => h) (by rfl) ?_ hHeld ?_
                          rotate_left 1
                          · (intro w hSw; (try dsimp only at hSw); go_simp <;> (try with_reducible rfl))
                          (try simp only [Act.put, List.setIfInBounds_toArray, List.set_cons_zero, List.set_cons_succ])
                          refine Go.Proofs.Ytmgdpkmmcmglfaa.Sep.takeW (i := 7) (v := ?_) rfl rfl (by kernel_rfl) (by kernel_rfl) (by kernel_rfl) (fun _ _ _ h => h) (by rfl) ?_ hHeld ?_
                          rotate_left 1
                          · (intro w hSw; (try dsimp only at hSw); go_simp <;> (try with_reducible rfl))
                          (try simp only [Act.put, List.setIfInBounds_toArray, List.set_cons_zero, List.set_cons_succ])
                          refine Go.Proofs.Ytmgdpkmmcmglfaa.Sep.takeW (i := 8) (v := ?_) rfl rfl (by kernel_rfl) (by kernel_rfl) (by kernel_rfl) (fun _ _ _ h => h) (by rfl) ?_ hHeld ?_
                          rotate_left 1
                          · (intro w hSw; (try dsimp only at hSw); go_simp <;> (try with_reducible rfl))
                          (try simp only [Act.put, List.setIfInBounds_toArray, List.set_cons_zero, List.set_cons_succ])
                          refine Go.Proofs.Ytmgdpkmmcmglfaa.Sep.takeW (i := 9) (v := ?_) rfl rfl (by kernel_rfl) (by kernel_rfl) (by kernel_rfl) (fun _ _ _ h => h) (by rfl) ?_ hHeld ?_
                          rotate_left 1
                          · (intro w hSw; (try dsimp only at hSw); go_simp <;> (try with_reducible rfl))
                          (try simp only [Act.put, List.setIfInBounds_toArray, List.set_cons_zero, List.set_cons_succ])
                          refine Go.Proofs.Ytmgdpkmmcmglfaa.Sep.takeW (i := 10) (v := ?_) rfl rfl (by kernel_rfl) (by kernel_rfl) (by kernel_rfl) (fun _ _ _ h => h) (by rfl) ?_ hHeld ?_
                          rotate_left 1
                          · (intro w hSw; (try dsimp only at hSw); go_simp <;> (try with_reducible rfl))
                          (try simp only [Act.put, List.setIfInBounds_toArray, List.set_cons_zero, List.set_cons_succ])
                          refine Go.Proofs.Ytmgdpkmmcmglfaa.Sep.takeW (i := 11) (v := ?_) rfl rfl (by kernel_rfl) (by kernel_rfl) (by kernel_rfl) (fun _ _ _ h => h) (by rfl) ?_ hHeld ?_
                          rotate_left 1
                          · (intro w hSw; (try dsimp only at hSw); go_simp <;> (try with_reducible rfl))
                          (try simp only [Act.put, List.setIfInBounds_toArray, List.set_cons_zero, List.set_cons_succ])
                          refine Go.Proofs.Ytmgdpkmmcmglfaa.Sep.takeW (i := 12) (v := ?_) rfl rfl (by kernel_rfl) (by kernel_rfl) (by kernel_rfl) (fun _ _ _ h => h) (by rfl) ?_ hHeld ?_
                          rotate_left 1
                          · (intro w hSw; (try dsimp only at hSw); go_simp <;> (try with_reducible rfl))
                          (try simp only [Act.put, List.setIfInBounds_toArray, List.set_cons_zero, List.set_cons_succ])
                          refine Go.Proofs.Ytmgdpkmmcmglfaa.Sep.takeW (i := 13) (v := ?_) rfl rfl (by kernel_rfl) (by kernel_rfl) (by kernel_rfl) (fun _ _ _ h => h) (by rfl) ?_ hHeld ?_
                          rotate_left 1
                          · (intro w hSw; (try dsimp only at hSw); go_simp <;> (try with_reducible rfl))
                          (try simp only [Act.put, List.setIfInBounds_toArray, List.set_cons_zero, List.set_cons_succ])
                          refine Go.Proofs.Ytmgdpkmmcmglfaa.Sep.takeW (i := 14) (v := ?_) rfl rfl (by kernel_rfl) (by kernel_rfl) (by kernel_rfl) (fun _ _ _ h => h) (by rfl) ?_ hHeld ?_
                          rotate_left 1
                          · (intro w hSw; (try dsimp only at hSw); go_simp <;> (try with_reducible rfl))
                          (try simp only [Act.put, List.setIfInBounds_toArray, List.set_cons_zero, List.set_cons_succ])
                          refine Go.Proofs.Ytmgdpkmmcmglfaa.Sep.takeW (i := 15) (v := ?_) rfl rfl (by kernel_rfl) (by kernel_rfl) (by kernel_rfl) (fun _ _ _ h => h) (by rfl) ?_ hHeld ?_
                          rotate_left 1
                          · (intro w hSw; (try dsimp only at hSw); go_simp <;> (try with_reducible rfl))
                          (try simp only [Act.put, List.setIfInBounds_toArray, List.set_cons_zero, List.set_cons_succ])
                          refine Go.Proofs.Ytmgdpkmmcmglfaa.Sep.takeW (i := 16) (v := ?_) rfl rfl (by kernel_rfl) (by kernel_rfl) (by kernel_rfl) (fun _ _ _ h => h) (by rfl) ?_ hHeld ?_
                          rotate_left 1
                          · (intro w hSw; (try dsimp only at hSw); go_simp <;> (try with_reducible rfl))
                          (try simp only [Act.put, List.setIfInBounds_toArray, List.set_cons_zero, List.set_cons_succ])
                          refine Go.Proofs.Ytmgdpkmmcmglfaa.Sep.takeW (i := 17) (v := ?_) rfl rfl (by kernel_rfl) (by kernel_rfl) (by kernel_rfl) (fun _ _ _ h => h) (by rfl) ?_ hHeld ?_
                          rotate_left 1
                          · (intro w hSw; (try dsimp only at hSw); go_simp <;> (try with_reducible rfl))
                          (try simp only [Act.put, List.setIfInBounds_toArray, List.set_cons_zero, List.set_cons_succ])
                          refine Go.Proofs.Ytmgdpkmmcmglfaa.Sep.takeW (i := 18) (v := ?_) rfl rfl (by kernel_rfl) (by kernel_rfl) (by kernel_rfl) (fun _ _ _ h => h) (by rfl) ?_ hHeld ?_
                          rotate_left 1
                          · (intro w hSw; (try dsimp only at hSw); go_simp <;> (try with_reducible rfl))
                          (try simp only [Act.put, List.setIfInBounds_toArray, List.set_cons_zero, List.set_cons_succ])
                          refine Go.Proofs.Ytmgdpkmmcmglfaa.Sep.takeW (i := 19) (v := ?_) rfl rfl (by kernel_rfl) (by kernel_rfl) (by kernel_rfl) (fun _ _ _ h => h) (by rfl) ?_ hHeld ?_
                          rotate_left 1
                          · (intro w hSw; (try dsimp only at hSw); go_simp <;> (try with_reducible rfl))
                          (try simp only [Act.put, List.setIfInBounds_toArray, List.set_cons_zero, List.set_cons_succ])
                          refine Go.Proofs.Ytmgdpkmmcmglfaa.Sep.takeW (i := 20) (v := ?_) rfl rfl (by kernel_rfl) (by kernel_rfl) (by kernel_rfl) (fun _ _ _ h => h) (by rfl) ?_ hHeld ?_
                          rotate_left 1
                          · (intro w hSw; (try dsimp only at hSw); go_simp <;> (try with_reducible rfl))
                          (try simp only [Act.put, List.setIfInBounds_toArray, List.set_cons_zero, List.set_cons_succ])
                          refine Go.Proofs.Ytmgdpkmmcmglfaa.Sep.takeW (i := 21) (v := ?_) rfl rfl (by kernel_rfl) (by kernel_rfl) (by kernel_rfl) (fun _ _ _ h => h) (by rfl) ?_ hHeld ?_
                          rotate_left 1
                          · (intro w hSw; (try dsimp only at hSw); go_simp <;> (try with_reducible rfl))
                          (try simp only [Act.put, List.setIfInBounds_toArray, List.set_cons_zero, List.set_cons_succ])
                          refine Go.Proofs.Ytmgdpkmmcmglfaa.Sep.takeW (i := 22) (v := ?_) rfl rfl (by kernel_rfl) (by kernel_rfl) (by kernel_rfl) (fun _ _ _ h => h) (by rfl) ?_ hHeld ?_
                          rotate_left 1
                          · (intro w hSw; (try dsimp only at hSw); go_simp <;> (try with_reducible rfl))
                          (try simp only [Act.put, List.setIfInBounds_toArray, List.set_cons_zero, List.set_cons_succ])
                          refine Go.Proofs.Ytmgdpkmmcmglfaa.Sep.takeW (i := 23) (v := ?_) rfl rfl (by kernel_rfl) (by kernel_rfl) (by kernel_rfl) (fun _ _ _ h => h) (by rfl) ?_ hHeld ?_
                          rotate_left 1
                          · (intro w hSw; (try dsimp only at hSw); go_simp <;> (try with_reducible rfl))
                          (try simp only [Act.put, List.setIfInBounds_toArray, List.set_cons_zero, List.set_cons_succ])
                          refine Go.Proofs.Ytmgdpkmmcmglfaa.Sep.takeW (i := 24) (v := ?_) rfl rfl (by kernel_rfl) (by kernel_rfl) (by kernel_rfl) (fun _ _ _ h => h) (by rfl) ?_ hHeld ?_
                          rotate_left 1
                          · (intro w hSw; (try dsimp only at hSw); go_simp <;> (try with_reducible rfl))
                          (try simp only [Act.put, List.setIfInBounds_toArray, List.set_cons_zero, List.set_cons_succ])
                          refine Go.Proofs.Ytmgdpkmmcmglfaa.Sep.takeW (i := 25) (v := ?_) rfl rfl (by kernel_rfl) (by kernel_rfl) (by kernel_rfl) (fun _ _ _ h => h) (by rfl) ?_ hHeld ?_
                          rotate_left 1
                          · (intro w hSw; (try dsimp only at hSw); go_simp <;> (try with_reducible rfl))
                          (try simp only [Act.put, List.setIfInBounds_toArray, List.set_cons_zero, List.set_cons_succ])
                          refine Go.Proofs.Ytmgdpkmmcmglfaa.Sep.takeW (i := 26) (v := ?_) rfl rfl (by kernel_rfl) (by kernel_rfl) (by kernel_rfl) (fun _ _ _ h => h) (by rfl) ?_ hHeld ?_
                          rotate_left 1
                          · (intro w hSw; (try dsimp only at hSw); go_simp <;> (try with_reducible rfl))
                          (try simp only [Act.put, List.setIfInBounds_toArray, List.set_cons_zero, List.set_cons_succ])
                          refine Go.Proofs.Ytmgdpkmmcmglfaa.Sep.takeW (i := 27) (v := ?_) rfl rfl (by kernel_rfl) (by kernel_rfl) (by kernel_rfl) (fun _ _ _ h => h) (by rfl) ?_ hHeld ?_
                          rotate_left 1
                          · (intro w hSw; (try dsimp only at hSw); go_simp <;> (try with_reducible rfl))
                          (try simp only [Act.put, List.setIfInBounds_toArray, List.set_cons_zero, List.set_cons_succ])
                          refine Go.Proofs.Ytmgdpkmmcmglfaa.Sep.takeW (i := 28) (v := ?_) rfl rfl (by kernel_rfl) (by kernel_rfl) (by kernel_rfl) (fun _ _ _ h => h) (by rfl) ?_ hHeld ?_
                          rotate_left 1
                          · (intro w hSw; (try dsimp only at hSw); go_simp <;> (try with_reducible rfl))
                          (try simp only [Act.put, List.setIfInBounds_toArray, List.set_cons_zero, List.set_cons_succ])
                          refine Go.Proofs.Ytmgdpkmmcmglfaa.Sep.takeU (i := 29) rfl rfl (by kernel_rfl) (by kernel_rfl) (by kernel_rfl) (fun _ _ _ h => h) (by rfl) hHeld ?_
                          (try simp only [Act.put, List.setIfInBounds_toArray, List.set_cons_zero, List.set_cons_succ])
                          refine Go.Proofs.Ytmgdpkmmcmglfaa.Sep.takeU (i := 30) rfl rfl (by kernel_rfl) (by kernel_rfl) (by kernel_rfl) (fun _ _ _ h => h) (by rfl) hHeld ?_
                          (try simp only [Act.put, List.setIfInBounds_toArray, List.set_cons_zero, List.set_cons_succ])
                          refine Go.Proofs.Ytmgdpkmmcmglfaa.Sep.takeU (i := 31) rfl rfl (by kernel_rfl) (by kernel_rfl) (by kernel_rfl) (fun _ _ _ h => h) (by rfl) hHeld ?_
                          (try simp only [Act.put, List.setIfInBounds_toArray, List.set_cons_zero, List.set_cons_succ])
                          refine Go.Proofs.Ytmgdpkmmcmglfaa.Sep.takeU (i := 32) rfl rfl (by kernel_rfl) (by kernel_rfl) (by kernel_rfl) (fun _ _ _ h => h) (by rfl) hHeld ?_
                          (try simp only [Act.put, List.setIfInBounds_toArray, List.set_cons_zero, List.set_cons_succ])
                          refine Go.Proofs.Ytmgdpkmmcmglfaa.Sep.takeU (i := 33) rfl rfl (by kernel_rfl) (by kernel_rfl) (by kernel_rfl) (fun _ _ _ h => h) (by rfl) hHeld ?_
                          (try simp only [Act.put, List.setIfInBounds_toArray, List.set_cons_zero, List.set_cons_succ])
                          refine Go.Proofs.Ytmgdpkmmcmglfaa.Sep.takeU (i := 34) rfl rfl (by kernel_rfl) (by kernel_rfl) (by kernel_rfl) (fun _ _ _ h => h) (by rfl) hHeld ?_
                          (try simp only [Act.put, List.setIfInBounds_toArray, List.set_cons_zero, List.set_cons_succ])
                          refine Go.Proofs.Ytmgdpkmmcmglfaa.Sep.takeW (i := 35) (v := ?_) rfl rfl (by kernel_rfl) (by kernel_rfl) (by kernel_rfl) (fun _ _ _ h => h) (by rfl) ?_ hHeld ?_
                          rotate_left 1
                          · (intro w hSw; (try dsimp only at hSw); go_simp <;> (try with_reducible rfl))
                          (try simp only [Act.put, List.setIfInBounds_toArray, List.set_cons_zero, List.set_cons_succ])
                          refine Go.Proofs.Ytmgdpkmmcmglfaa.Sep.takeW (i := 36) (v := ?_) rfl rfl (by kernel_rfl) (by kernel_rfl) (by kernel_rfl) (fun _ _ _ h => h) (by rfl) ?_ hHeld ?_
                          rotate_left 1
                          · (intro w hSw; (try dsimp only at hSw); go_simp <;> (try with_reducible rfl))
                          (try simp only [Act.put, List.setIfInBounds_toArray, List.set_cons_zero, List.set_cons_succ])
                          refine wpAnyH_done (by kernel_rfl) ?_ _
                          have yo2 : wr.drew.drew.cell? _ = _ := yo
                          have yf2 : wr.drew.drew.frozen? _ = _ := yf
                          go_wp2
                          go_roundg k2
                          case measure => have := HK2.out; omega
                          case rel =>
                            have hn := HA2.out.next HO.out HG.out
                            have hph := MarkW.phi_next HO.out HWF.out HG.out
                            refine ⟨i + 1, _, _, true, rfl, rfl, ⟨by have := HK2.out; omega⟩, ⟨by omega⟩, ⟨hn⟩, ⟨fun _ => ?_⟩, ⟨fun h => by cases h⟩, ⟨Has.put (i := i) HW2.out.drew.drew (t.sure + 1)⟩⟩
                            cases ag with
                            | true => have := HT2.out (by first | exact rfl | trivial); omega
                            | false => have := (HF2.out (by first | exact rfl | trivial)).1; omega
                        · have d3 : decide ((q : Int) = 0) = false := decide_eq_false (by omega)
                          have d3b : ((q : Int) == 0) = false := by simpa using d3
                          have d3c : decide (q = 0) = false := decide_eq_false c3_
                          obtain ⟨K, hK9⟩ := known_eq HRR.out HA2.out HFW.out hil HO.out HQ.out (by omega) (by rw [HX.out]; omega)
                          have hkn := joustref15_known.calls K c r p wi sd (some ad) c1 l (some ⟨gq, 0, none⟩) cp y5 (i : Int) (q : Int) _ wr.drew.drew (HW2.out.drew.drew.came (Nat.le_refl _) HR1.out) hc1 (by have := HW2.out.drew.drew.rowN.2.2; rw [HYL.out]; exact this) (by rw [HYL.out]; exact HW2.out.rowN.2.1) (hK9 K (Nat.le_refl _))
                          rw [HYL.out] at hkn
                          cases hall : allFrom ms2 t q 0 with
                          | false =>
                            have HG := Aside0.mk (show goesP ms2 t = false from by rw [HGO.out]; exact hall)
                            rw [hall] at hkn
                            have HKN := Aside0.mk hkn
                            clear hkn hK9 hall
                            refine wp_region_held_drew (S := (fun w' => w'.cell? ⟨w.heap.size, 0, none⟩ = some (.int .i64 c) ∧ w'.cell? ⟨w.heap.size, 1, none⟩ = some (.int .i64 r) ∧ w'.cell? ⟨w.heap.size, 2, none⟩ = some (.int .i64 p) ∧ w'.cell? ⟨w.heap.size, 3, none⟩ = some (.int .i64 wi) ∧ w'.cell? ⟨w.heap.size, 4, none⟩ = some (.int .u64 sd) ∧ w'.cell? ⟨(ad.add (i * 4)).block, (ad.add (i * 4)).off + 2, none⟩ = some (.slice (some ad2) x.f2.length c2) ∧ w'.cell? ⟨(ad.add (i * 4)).block, (ad.add (i * 4)).off + 3, none⟩ = some (.slice A3 x.f3.length c3) ∧ w'.cell? (ad2.add q) = some (.bool true))) (by kernel_rfl) ?_ (fun hHeld => ?_)
                            · (exact ⟨z0, z1, z2, z3, z4, x2, x3, yb⟩)
                            refine Go.Proofs.Ytmgdpkmmcmglfaa.Sep.takeW (i := 0) (v := ?_) rfl rfl (by kernel_rfl) (by kernel_rfl) (by kernel_rfl) (fun _ _ _ h => h) (by rfl) ?_ hHeld ?_
                            rotate_left 1
                            · (intro w hSw; (try dsimp only at hSw); go_simp <;> (try with_reducible rfl))
                            (try simp only [Act.put, List.setIfInBounds_toArray, List.set_cons_zero, List.set_cons_succ])
                            refine Go.Proofs.Ytmgdpkmmcmglfaa.Sep.takeW (i := 1) (v := ?_) rfl rfl (by kernel_rfl) (by kernel_rfl) (by kernel_rfl) (fun _ _ _ h => h) (by rfl) ?_ hHeld ?_
                            rotate_left 1
                            · (intro w hSw; (try dsimp only at hSw); go_simp <;> (try with_reducible rfl))
                            (try simp only [Act.put, List.setIfInBounds_toArray, List.set_cons_zero, List.set_cons_succ])
                            refine Go.Proofs.Ytmgdpkmmcmglfaa.Sep.takeW (i := 2) (v := ?_) rfl rfl (by kernel_rfl) (by kernel_rfl) (by kernel_rfl) (fun _ _ _ h => h) (by rfl) ?_ hHeld ?_
                            rotate_left 1
                            · (intro w hSw; (try dsimp only at hSw); go_simp <;> (try with_reducible rfl))
                            (try simp only [Act.put, List.setIfInBounds_toArray, List.set_cons_zero, List.set_cons_succ])
                            refine Go.Proofs.Ytmgdpkmmcmglfaa.Sep.takeW (i := 3) (v := ?_) rfl rfl (by kernel_rfl) (by kernel_rfl) (by kernel_rfl) (fun _ _ _ h => h) (by rfl) ?_ hHeld ?_
                            rotate_left 1
                            · (intro w hSw; (try dsimp only at hSw); go_simp <;> (try with_reducible rfl))
                            (try simp only [Act.put, List.setIfInBounds_toArray, List.set_cons_zero, List.set_cons_succ])
                            refine Go.Proofs.Ytmgdpkmmcmglfaa.Sep.takeW (i := 4) (v := ?_) rfl rfl (by kernel_rfl) (by kernel_rfl) (by kernel_rfl) (fun _ _ _ h => h) (by rfl) ?_ hHeld ?_
                            rotate_left 1
                            · (intro w hSw; (try dsimp only at hSw); go_simp <;> (try with_reducible rfl))
                            (try simp only [Act.put, List.setIfInBounds_toArray, List.set_cons_zero, List.set_cons_succ])
                            refine Go.Proofs.Ytmgdpkmmcmglfaa.Sep.takeW (i := 5) (v := ?_) rfl rfl (by kernel_rfl) (by kernel_rfl) (by kernel_rfl) (fun _ _ _ h => h) (by rfl) ?_ hHeld ?_
                            rotate_left 1
                            · (intro w hSw; (try dsimp only at hSw); go_simp <;> (try with_reducible rfl))
                            (try simp only [Act.put, List.setIfInBounds_toArray, List.set_cons_zero, List.set_cons_succ])
                            refine Go.Proofs.Ytmgdpkmmcmglfaa.Sep.takeW (i := 6) (v := ?_) rfl rfl (by kernel_rfl) (by kernel_rfl) (by kernel_rfl) (fun _ _ _ h => h) (by rfl) ?_ hHeld ?_
                            rotate_left 1
                            · (intro w hSw; (try dsimp only at hSw); go_simp <;> (try with_reducible rfl))
                            (try simp only [Act.put, List.setIfInBounds_toArray, List.set_cons_zero, List.set_cons_succ])
                            refine Go.Proofs.Ytmgdpkmmcmglfaa.Sep.takeW (i := 7) (v := ?_) rfl rfl (by kernel_rfl) (by kernel_rfl) (by kernel_rfl) (fun _ _ _ h => h) (by rfl) ?_ hHeld ?_
                            rotate_left 1
                            · (intro w hSw; (try dsimp only at hSw); go_simp <;> (try with_reducible rfl))
                            (try simp only [Act.put, List.setIfInBounds_toArray, List.set_cons_zero, List.set_cons_succ])
                            refine Go.Proofs.Ytmgdpkmmcmglfaa.Sep.takeW (i := 8) (v := ?_) rfl rfl (by kernel_rfl) (by kernel_rfl) (by kernel_rfl) (fun _ _ _ h => h) (by rfl) ?_ hHeld ?_
                            rotate_left 1
                            · (intro w hSw; (try dsimp only at hSw); go_simp <;> (try with_reducible rfl))
                            (try simp only [Act.put, List.setIfInBounds_toArray, List.set_cons_zero, List.set_cons_succ])
                            refine Go.Proofs.Ytmgdpkmmcmglfaa.Sep.takeW (i := 9) (v := ?_) rfl rfl (by kernel_rfl) (by kernel_rfl) (by kernel_rfl) (fun _ _ _ h => h) (by rfl) ?_ hHeld ?_
                            rotate_left 1
                            · (intro w hSw; (try dsimp only at hSw); go_simp <;> (try with_reducible rfl))
                            (try simp only [Act.put, List.setIfInBounds_toArray, List.set_cons_zero, List.set_cons_succ])
                            refine Go.Proofs.Ytmgdpkmmcmglfaa.Sep.takeW (i := 10) (v := ?_) rfl rfl (by kernel_rfl) (by kernel_rfl) (by kernel_rfl) (fun _ _ _ h => h) (by rfl) ?_ hHeld ?_
                            rotate_left 1
                            · (intro w hSw; (try dsimp only at hSw); go_simp <;> (try with_reducible rfl))
                            (try simp only [Act.put, List.setIfInBounds_toArray, List.set_cons_zero, List.set_cons_succ])
                            refine Go.Proofs.Ytmgdpkmmcmglfaa.Sep.takeW (i := 11) (v := ?_) rfl rfl (by kernel_rfl) (by kernel_rfl) (by kernel_rfl) (fun _ _ _ h => h) (by rfl) ?_ hHeld ?_
                            rotate_left 1
                            · (intro w hSw; (try dsimp only at hSw); go_simp <;> (try with_reducible rfl))
                            (try simp only [Act.put, List.setIfInBounds_toArray, List.set_cons_zero, List.set_cons_succ])
                            refine Go.Proofs.Ytmgdpkmmcmglfaa.Sep.takeW (i := 12) (v := ?_) rfl rfl (by kernel_rfl) (by kernel_rfl) (by kernel_rfl) (fun _ _ _ h => h) (by rfl) ?_ hHeld ?_
                            rotate_left 1
                            · (intro w hSw; (try dsimp only at hSw); go_simp <;> (try with_reducible rfl))
                            (try simp only [Act.put, List.setIfInBounds_toArray, List.set_cons_zero, List.set_cons_succ])
                            refine Go.Proofs.Ytmgdpkmmcmglfaa.Sep.takeW (i := 13) (v := ?_) rfl rfl (by kernel_rfl) (by kernel_rfl) (by kernel_rfl) (fun _ _ _ h => h) (by rfl) ?_ hHeld ?_
                            rotate_left 1
                            · (intro w hSw; (try dsimp only at hSw); go_simp <;> (try with_reducible rfl))
                            (try simp only [Act.put, List.setIfInBounds_toArray, List.set_cons_zero, List.set_cons_succ])
                            refine Go.Proofs.Ytmgdpkmmcmglfaa.Sep.takeW (i := 14) (v := ?_) rfl rfl (by kernel_rfl) (by kernel_rfl) (by kernel_rfl) (fun _ _ _ h => h) (by rfl) ?_ hHeld ?_
                            rotate_left 1
                            · (intro w hSw; (try dsimp only at hSw); go_simp <;> (try with_reducible rfl))
                            (try simp only [Act.put, List.setIfInBounds_toArray, List.set_cons_zero, List.set_cons_succ])
                            refine Go.Proofs.Ytmgdpkmmcmglfaa.Sep.takeW (i := 15) (v := ?_) rfl rfl (by kernel_rfl) (by kernel_rfl) (by kernel_rfl) (fun _ _ _ h => h) (by rfl) ?_ hHeld ?_
                            rotate_left 1
                            · (intro w hSw; (try dsimp only at hSw); go_simp <;> (try with_reducible rfl))
                            (try simp only [Act.put, List.setIfInBounds_toArray, List.set_cons_zero, List.set_cons_succ])
                            refine Go.Proofs.Ytmgdpkmmcmglfaa.Sep.takeW (i := 16) (v := ?_) rfl rfl (by kernel_rfl) (by kernel_rfl) (by kernel_rfl) (fun _ _ _ h => h) (by rfl) ?_ hHeld ?_
                            rotate_left 1
                            · (intro w hSw; (try dsimp only at hSw); go_simp <;> (try with_reducible rfl))
                            (try simp only [Act.put, List.setIfInBounds_toArray, List.set_cons_zero, List.set_cons_succ])
                            refine Go.Proofs.Ytmgdpkmmcmglfaa.Sep.takeW (i := 17) (v := ?_) rfl rfl (by kernel_rfl) (by kernel_rfl) (by kernel_rfl) (fun _ _ _ h => h) (by rfl) ?_ hHeld ?_
                            rotate_left 1
                            · (intro w hSw; (try dsimp only at hSw); go_simp <;> (try with_reducible rfl))
                            (try simp only [Act.put, List.setIfInBounds_toArray, List.set_cons_zero, List.set_cons_succ])
                            refine Go.Proofs.Ytmgdpkmmcmglfaa.Sep.takeW (i := 18) (v := ?_) rfl rfl (by kernel_rfl) (by kernel_rfl) (by kernel_rfl) (fun _ _ _ h => h) (by rfl) ?_ hHeld ?_
                            rotate_left 1
                            · (intro w hSw; (try dsimp only at hSw); go_simp <;> (try with_reducible rfl))
                            (try simp only [Act.put, List.setIfInBounds_toArray, List.set_cons_zero, List.set_cons_succ])
                            refine Go.Proofs.Ytmgdpkmmcmglfaa.Sep.takeW (i := 19) (v := ?_) rfl rfl (by kernel_rfl) (by kernel_rfl) (by kernel_rfl) (fun _ _ _ h => h) (by rfl) ?_ hHeld ?_
                            rotate_left 1
                            · (intro w hSw; (try dsimp only at hSw); go_simp <;> (try with_reducible rfl))
                            (try simp only [Act.put, List.setIfInBounds_toArray, List.set_cons_zero, List.set_cons_succ])
                            refine Go.Proofs.Ytmgdpkmmcmglfaa.Sep.takeW (i := 20) (v := ?_) rfl rfl (by kernel_rfl) (by kernel_rfl) (by kernel_rfl) (fun _ _ _ h => h) (by rfl) ?_ hHeld ?_
                            rotate_left 1
                            · (intro w hSw; (try dsimp only at hSw); go_simp <;> (try with_reducible rfl))
                            (try simp only [Act.put, List.setIfInBounds_toArray, List.set_cons_zero, List.set_cons_succ])
                            refine Go.Proofs.Ytmgdpkmmcmglfaa.Sep.takeW (i := 21) (v := ?_) rfl rfl (by kernel_rfl) (by kernel_rfl) (by kernel_rfl) (fun _ _ _ h => h) (by rfl) ?_ hHeld ?_
                            rotate_left 1
                            · (intro w hSw; (try dsimp only at hSw); go_simp <;> (try with_reducible rfl))
                            (try simp only [Act.put, List.setIfInBounds_toArray, List.set_cons_zero, List.set_cons_succ])
                            refine Go.Proofs.Ytmgdpkmmcmglfaa.Sep.takeW (i := 22) (v := ?_) rfl rfl (by kernel_rfl) (by kernel_rfl) (by kernel_rfl) (fun _ _ _ h => h) (by rfl) ?_ hHeld ?_
                            rotate_left 1
                            · (intro w hSw; (try dsimp only at hSw); go_simp <;> (try with_reducible rfl))
                            (try simp only [Act.put, List.setIfInBounds_toArray, List.set_cons_zero, List.set_cons_succ])
                            refine Go.Proofs.Ytmgdpkmmcmglfaa.Sep.takeW (i := 23) (v := ?_) rfl rfl (by kernel_rfl) (by kernel_rfl) (by kernel_rfl) (fun _ _ _ h => h) (by rfl) ?_ hHeld ?_
                            rotate_left 1
                            · (intro w hSw; (try dsimp only at hSw); go_simp <;> (try with_reducible rfl))
                            (try simp only [Act.put, List.setIfInBounds_toArray, List.set_cons_zero, List.set_cons_succ])
                            refine Go.Proofs.Ytmgdpkmmcmglfaa.Sep.takeW (i := 24) (v := ?_) rfl rfl (by kernel_rfl) (by kernel_rfl) (by kernel_rfl) (fun _ _ _ h => h) (by rfl) ?_ hHeld ?_
                            rotate_left 1
                            · (intro w hSw; (try dsimp only at hSw); go_simp <;> (try with_reducible rfl))
                            (try simp only [Act.put, List.setIfInBounds_toArray, List.set_cons_zero, List.set_cons_succ])
                            refine Go.Proofs.Ytmgdpkmmcmglfaa.Sep.takeW (i := 25) (v := ?_) rfl rfl (by kernel_rfl) (by kernel_rfl) (by kernel_rfl) (fun _ _ _ h => h) (by rfl) ?_ hHeld ?_
                            rotate_left 1
                            · (intro w hSw; (try dsimp only at hSw); go_simp <;> (try with_reducible rfl))
                            (try simp only [Act.put, List.setIfInBounds_toArray, List.set_cons_zero, List.set_cons_succ])
                            refine Go.Proofs.Ytmgdpkmmcmglfaa.Sep.takeW (i := 26) (v := ?_) rfl rfl (by kernel_rfl) (by kernel_rfl) (by kernel_rfl) (fun _ _ _ h => h) (by rfl) ?_ hHeld ?_
                            rotate_left 1
                            · (intro w hSw; (try dsimp only at hSw); go_simp <;> (try with_reducible rfl))
                            (try simp only [Act.put, List.setIfInBounds_toArray, List.set_cons_zero, List.set_cons_succ])
                            refine Go.Proofs.Ytmgdpkmmcmglfaa.Sep.takeW (i := 27) (v := ?_) rfl rfl (by kernel_rfl) (by kernel_rfl) (by kernel_rfl) (fun _ _ _ h => h) (by rfl) ?_ hHeld ?_
                            rotate_left 1
                            · (intro w hSw; (try dsimp only at hSw); go_simp <;> (try with_reducible rfl))
                            (try simp only [Act.put, List.setIfInBounds_toArray, List.set_cons_zero, List.set_cons_succ])
                            refine Go.Proofs.Ytmgdpkmmcmglfaa.Sep.takeW (i := 28) (v := ?_) rfl rfl (by kernel_rfl) (by kernel_rfl) (by kernel_rfl) (fun _ _ _ h => h) (by rfl) ?_ hHeld ?_
                            rotate_left 1
                            · (intro w hSw; (try dsimp only at hSw); go_simp <;> (try with_reducible rfl))
                            (try simp only [Act.put, List.setIfInBounds_toArray, List.set_cons_zero, List.set_cons_succ])
                            refine Go.Proofs.Ytmgdpkmmcmglfaa.Sep.takeW (i := 29) (v := ?_) rfl rfl (by kernel_rfl) (by kernel_rfl) (by kernel_rfl) (fun _ _ _ h => h) (by rfl) ?_ hHeld ?_
                            rotate_left 1
                            · (intro w hSw; (try dsimp only at hSw); go_simp <;> (try with_reducible rfl))
                            (try simp only [Act.put, List.setIfInBounds_toArray, List.set_cons_zero, List.set_cons_succ])
                            refine Go.Proofs.Ytmgdpkmmcmglfaa.Sep.takeW (i := 30) (v := ?_) rfl rfl (by kernel_rfl) (by kernel_rfl) (by kernel_rfl) (fun _ _ _ h => h) (by rfl) ?_ hHeld ?_
                            rotate_left 1
                            · (intro w hSw; (try dsimp only at hSw); go_simp <;> (try with_reducible rfl))
                            (try simp only [Act.put, List.setIfInBounds_toArray, List.set_cons_zero, List.set_cons_succ])
                            refine Go.Proofs.Ytmgdpkmmcmglfaa.Sep.takeW (i := 31) (v := ?_) rfl rfl (by kernel_rfl) (by kernel_rfl) (by kernel_rfl) (fun _ _ _ h => h) (by rfl) ?_ hHeld ?_
                            rotate_left 1
                            · (intro w hSw; (try dsimp only at hSw); go_simp <;> (try with_reducible rfl))
                            (try simp only [Act.put, List.setIfInBounds_toArray, List.set_cons_zero, List.set_cons_succ])
                            refine Go.Proofs.Ytmgdpkmmcmglfaa.Sep.takeW (i := 32) (v := ?_) rfl rfl (by kernel_rfl) (by kernel_rfl) (by kernel_rfl) (fun _ _ _ h => h) (by rfl) ?_ hHeld ?_
                            rotate_left 1
                            · (intro w hSw; (try dsimp only at hSw); go_simp <;> (try with_reducible rfl))
                            (try simp only [Act.put, List.setIfInBounds_toArray, List.set_cons_zero, List.set_cons_succ])
                            refine Go.Proofs.Ytmgdpkmmcmglfaa.Sep.takeW (i := 33) (v := ?_) rfl rfl (by kernel_rfl) (by kernel_rfl) (by kernel_rfl) (fun _ _ _ h => h) (by rfl) ?_ hHeld ?_
                            rotate_left 1
                            · (intro w hSw; (try dsimp only at hSw); go_simp <;> (try with_reducible rfl))
                            (try simp only [Act.put, List.setIfInBounds_toArray, List.set_cons_zero, List.set_cons_succ])
                            refine Go.Proofs.Ytmgdpkmmcmglfaa.Sep.callC (i := 34) rfl (by kernel_rfl) (by rfl) (fun K hK => ?_)
                            clear hHeld
                            (go_wp2_with ((go_at_call 24; (with_reducible refine HKN.out.mono ?_); rintro e_ w5 ⟨rfl, hb5⟩; have HB5 := Aside0.mk hb5; clear hb5)))
                            refine hK.out _ _ ?_ (fun hHeld => ?_)
                            · (exact ⟨pw_cell_below (w := wr.drew.drew) HB5.out z0, pw_cell_below (w := wr.drew.drew) HB5.out z1, pw_cell_below (w := wr.drew.drew) HB5.out z2, pw_cell_below (w := wr.drew.drew) HB5.out z3, pw_cell_below (w := wr.drew.drew) HB5.out z4, pw_cell_below (w := wr.drew.drew) HB5.out x2, pw_cell_below (w := wr.drew.drew) HB5.out x3, pw_cell_below (w := wr.drew.drew) HB5.out yb⟩)
                            clear hK K
                            (try simp only [Act.put, List.setIfInBounds_toArray, List.set_cons_zero, List.set_cons_succ])
                            refine Go.Proofs.Ytmgdpkmmcmglfaa.Sep.takeW (i := 35) (v := ?_) rfl rfl (by kernel_rfl) (by kernel_rfl) (by kernel_rfl) (fun _ _ _ h => h) (by rfl) ?_ hHeld ?_
                            rotate_left 1
                            · (intro w hSw; (try dsimp only at hSw); go_simp <;> (try with_reducible rfl))
                            (try simp only [Act.put, List.setIfInBounds_toArray, List.set_cons_zero, List.set_cons_succ])
                            refine Go.Proofs.Ytmgdpkmmcmglfaa.Sep.takeW (i := 36) (v := ?_) rfl rfl (by kernel_rfl) (by kernel_rfl) (by kernel_rfl) (fun _ _ _ h => h) (by rfl) ?_ hHeld ?_
                            rotate_left 1
                            · (intro w hSw; (try dsimp only at hSw); go_simp <;> (try with_reducible rfl))
                            (try simp only [Act.put, List.setIfInBounds_toArray, List.set_cons_zero, List.set_cons_succ])
                            refine wpAnyH_done (by kernel_rfl) ?_ _
                            go_wp2
                            go_roundg k2
                            case measure => have := HK2.out; omega
                            case rel => exact ⟨i + 1, y5, ms2, ag, rfl, rfl, ⟨by have := HK2.out; omega⟩, ⟨by omega⟩, HA2, HT2, ⟨SKIP.out (fun t' e => by cases e; exact HG.out)⟩, ⟨(HW2.out.drew.drew.step HB5.out)⟩⟩
                          | true =>
                            have HG := Aside0.mk (show goesP ms2 t = true from by rw [HGO.out]; exact hall)
                            rw [hall] at hkn
                            have HKN := Aside0.mk hkn
                            clear hkn hK9 hall
                            refine wp_region_held_drew (S := (fun w' => w'.cell? ⟨w.heap.size, 0, none⟩ = some (.int .i64 c) ∧ w'.cell? ⟨w.heap.size, 1, none⟩ = some (.int .i64 r) ∧ w'.cell? ⟨w.heap.size, 2, none⟩ = some (.int .i64 p) ∧ w'.cell? ⟨w.heap.size, 3, none⟩ = some (.int .i64 wi) ∧ w'.cell? ⟨w.heap.size, 4, none⟩ = some (.int .u64 sd) ∧ w'.cell? ⟨(ad.add (i * 4)).block, (ad.add (i * 4)).off + 2, none⟩ = some (.slice (some ad2) x.f2.length c2) ∧ w'.cell? ⟨(ad.add (i * 4)).block, (ad.add (i * 4)).off + 3, none⟩ = some (.slice A3 x.f3.length c3) ∧ w'.cell? (ad2.add q) = some (.bool true))) (by kernel_rfl) ?_ (fun hHeld => ?_)
                            · (exact ⟨z0, z1, z2, z3, z4, x2, x3, yb⟩)
                            refine Go.Proofs.Ytmgdpkmmcmglfaa.Sep.takeW (i := 0) (v := ?_) rfl rfl (by kernel_rfl) (by kernel_rfl) (by kernel_rfl) (fun _ _ _ h => h) (by rfl) ?_ hHeld ?_
                            rotate_left 1
                            · (intro w hSw; (try dsimp only at hSw); go_simp <;> (try with_reducible rfl))
                            (try simp only [Act.put, List.setIfInBounds_toArray, List.set_cons_zero, List.set_cons_succ])
                            refine Go.Proofs.Ytmgdpkmmcmglfaa.Sep.takeW (i := 1) (v := ?_) rfl rfl (by kernel_rfl) (by kernel_rfl) (by kernel_rfl) (fun _ _ _ h => h) (by rfl) ?_ hHeld ?_
                            rotate_left 1
                            · (intro w hSw; (try dsimp only at hSw); go_simp <;> (try with_reducible rfl))
                            (try simp only [Act.put, List.setIfInBounds_toArray, List.set_cons_zero, List.set_cons_succ])
                            refine Go.Proofs.Ytmgdpkmmcmglfaa.Sep.takeW (i := 2) (v := ?_) rfl rfl (by kernel_rfl) (by kernel_rfl) (by kernel_rfl) (fun _ _ _ h => h) (by rfl) ?_ hHeld ?_
                            rotate_left 1
                            · (intro w hSw; (try dsimp only at hSw); go_simp <;> (try with_reducible rfl))
                            (try simp only [Act.put, List.setIfInBounds_toArray, List.set_cons_zero, List.set_cons_succ])
                            refine Go.Proofs.Ytmgdpkmmcmglfaa.Sep.takeW (i := 3) (v := ?_) rfl rfl (by kernel_rfl) (by kernel_rfl) (by kernel_rfl) (fun _ _ _ h => h) (by rfl) ?_ hHeld ?_
                            rotate_left 1
                            · (intro w hSw; (try dsimp only at hSw); go_simp <;> (try with_reducible rfl))
                            (try simp only [Act.put, List.setIfInBounds_toArray, List.set_cons_zero, List.set_cons_succ])
                            refine Go.Proofs.Ytmgdpkmmcmglfaa.Sep.takeW (i := 4) (v := ?_) rfl rfl (by kernel_rfl) (by kernel_rfl) (by kernel_rfl) (fun _ _ _ h => h) (by rfl) ?_ hHeld ?_
                            rotate_left 1
                            · (intro w hSw; (try dsimp only at hSw); go_simp <;> (try with_reducible rfl))
                            (try simp only [Act.put, List.setIfInBounds_toArray, List.set_cons_zero, List.set_cons_succ])
                            refine Go.Proofs.Ytmgdpkmmcmglfaa.Sep.takeW (i := 5) (v := ?_) rfl rfl (by kernel_rfl) (by kernel_rfl) (by kernel_rfl) (fun _ _ _ h => h) (by rfl) ?_ hHeld ?_
                            rotate_left 1
                            · (intro w hSw; (try dsimp only at hSw); go_simp <;> (try with_reducible rfl))
                            (try simp only [Act.put, List.setIfInBounds_toArray, List.set_cons_zero, List.set_cons_succ])
                            refine Go.Proofs.Ytmgdpkmmcmglfaa.Sep.takeW (i := 6) (v := ?_) rfl rfl (by kernel_rfl) (by kernel_rfl) (by kernel_rfl) (fun _ _ _ h => h) (by rfl) ?_ hHeld ?_
                            rotate_left 1
                            · (intro w hSw; (try dsimp only at hSw); go_simp <;> (try with_reducible rfl))
                            (try simp only [Act.put, List.setIfInBounds_toArray, List.set_cons_zero, List.set_cons_succ])
                            refine Go.Proofs.Ytmgdpkmmcmglfaa.Sep.takeW (i := 7) (v := ?_) rfl rfl (by kernel_rfl) (by kernel_rfl) (by kernel_rfl) (fun _ _ _ h => h) (by rfl) ?_ hHeld ?_
                            rotate_left 1
                            · (intro w hSw; (try dsimp only at hSw); go_simp <;> (try with_reducible rfl))
                            (try simp only [Act.put, List.setIfInBounds_toArray, List.set_cons_zero, List.set_cons_succ])
                            refine Go.Proofs.Ytmgdpkmmcmglfaa.Sep.takeW (i := 8) (v := ?_) rfl rfl (by kernel_rfl) (by kernel_rfl) (by kernel_rfl) (fun _ _ _ h => h) (by rfl) ?_ hHeld ?_
                            rotate_left 1
                            · (intro w hSw; (try dsimp only at hSw); go_simp <;> (try with_reducible rfl))
                            (try simp only [Act.put, List.setIfInBounds_toArray, List.set_cons_zero, List.set_cons_succ])
                            refine Go.Proofs.Ytmgdpkmmcmglfaa.Sep.takeW (i := 9) (v := ?_) rfl rfl (by kernel_rfl) (by kernel_rfl) (by kernel_rfl) (fun _ _ _ h => h) (by rfl) ?_ hHeld ?_
                            rotate_left 1
                            · (intro w hSw; (try dsimp only at hSw); go_simp <;> (try with_reducible rfl))
                            (try simp only [Act.put, List.setIfInBounds_toArray, List.set_cons_zero, List.set_cons_succ])
                            refine Go.Proofs.Ytmgdpkmmcmglfaa.Sep.takeW (i := 10) (v := ?_) rfl rfl (by kernel_rfl) (by kernel_rfl) (by kernel_rfl) (fun _ _ _ h => h) (by rfl) ?_ hHeld ?_
                            rotate_left 1
                            · (intro w hSw; (try dsimp only at hSw); go_simp <;> (try with_reducible rfl))
                            (try simp only [Act.put, List.setIfInBounds_toArray, List.set_cons_zero, List.set_cons_succ])
                            refine Go.Proofs.Ytmgdpkmmcmglfaa.Sep.takeW (i := 11) (v := ?_) rfl rfl (by kernel_rfl) (by kernel_rfl) (by kernel_rfl) (fun _ _ _ h => h) (by rfl) ?_ hHeld ?_
                            rotate_left 1
                            · (intro w hSw; (try dsimp only at hSw); go_simp <;> (try with_reducible rfl))
                            (try simp only [Act.put, List.setIfInBounds_toArray, List.set_cons_zero, List.set_cons_succ])
                            refine Go.Proofs.Ytmgdpkmmcmglfaa.Sep.takeW (i := 12) (v := ?_) rfl rfl (by kernel_rfl) (by kernel_rfl) (by kernel_rfl) (fun _ _ _ h => h) (by rfl) ?_ hHeld ?_
                            rotate_left 1
                            · (intro w hSw; (try dsimp only at hSw); go_simp <;> (try with_reducible rfl))
                            (try simp only [Act.put, List.setIfInBounds_toArray, List.set_cons_zero, List.set_cons_succ])
                            refine Go.Proofs.Ytmgdpkmmcmglfaa.Sep.takeW (i := 13) (v := ?_) rfl rfl (by kernel_rfl) (by kernel_rfl) (by kernel_rfl) (fun _ _ _ h => h) (by rfl) ?_ hHeld ?_
                            rotate_left 1
                            · (intro w hSw; (try dsimp only at hSw); go_simp <;> (try with_reducible rfl))
                            (try simp only [Act.put, List.setIfInBounds_toArray, List.set_cons_zero, List.set_cons_succ])
                            refine Go.Proofs.Ytmgdpkmmcmglfaa.Sep.takeW (i := 14) (v := ?_) rfl rfl (by kernel_rfl) (by kernel_rfl) (by kernel_rfl) (fun _ _ _ h => h) (by rfl) ?_ hHeld ?_
                            rotate_left 1
                            · (intro w hSw; (try dsimp only at hSw); go_simp <;> (try with_reducible rfl))
                            (try simp only [Act.put, List.setIfInBounds_toArray, List.set_cons_zero, List.set_cons_succ])
                            refine Go.Proofs.Ytmgdpkmmcmglfaa.Sep.takeW (i := 15) (v := ?_) rfl rfl (by kernel_rfl) (by kernel_rfl) (by kernel_rfl) (fun _ _ _ h => h) (by rfl) ?_ hHeld ?_
                            rotate_left 1
                            · (intro w hSw; (try dsimp only at hSw); go_simp <;> (try with_reducible rfl))
                            (try simp only [Act.put, List.setIfInBounds_toArray, List.set_cons_zero, List.set_cons_succ])
                            refine Go.Proofs.Ytmgdpkmmcmglfaa.Sep.takeW (i := 16) (v := ?_) rfl rfl (by kernel_rfl) (by kernel_rfl) (by kernel_rfl) (fun _ _ _ h => h) (by rfl) ?_ hHeld ?_
                            rotate_left 1
                            · (intro w hSw; (try dsimp only at hSw); go_simp <;> (try with_reducible rfl))
                            (try simp only [Act.put, List.setIfInBounds_toArray, List.set_cons_zero, List.set_cons_succ])
                            refine Go.Proofs.Ytmgdpkmmcmglfaa.Sep.takeW (i := 17) (v := ?_) rfl rfl (by kernel_rfl) (by kernel_rfl) (by kernel_rfl) (fun _ _ _ h => h) (by rfl) ?_ hHeld ?_
                            rotate_left 1
                            · (intro w hSw; (try dsimp only at hSw); go_simp <;> (try with_reducible rfl))
                            (try simp only [Act.put, List.setIfInBounds_toArray, List.set_cons_zero, List.set_cons_succ])
                            refine Go.Proofs.Ytmgdpkmmcmglfaa.Sep.takeW (i := 18) (v := ?_) rfl rfl (by kernel_rfl) (by kernel_rfl) (by kernel_rfl) (fun _ _ _ h => h) (by rfl) ?_ hHeld ?_
                            rotate_left 1
                            · (intro w hSw; (try dsimp only at hSw); go_simp <;> (try with_reducible rfl))
                            (try simp only [Act.put, List.setIfInBounds_toArray, List.set_cons_zero, List.set_cons_succ])
                            refine Go.Proofs.Ytmgdpkmmcmglfaa.Sep.takeW (i := 19) (v := ?_) rfl rfl (by kernel_rfl) (by kernel_rfl) (by kernel_rfl) (fun _ _ _ h => h) (by rfl) ?_ hHeld ?_
                            rotate_left 1
                            · (intro w hSw; (try dsimp only at hSw); go_simp <;> (try with_reducible rfl))
                            (try simp only [Act.put, List.setIfInBounds_toArray, List.set_cons_zero, List.set_cons_succ])
                            refine Go.Proofs.Ytmgdpkmmcmglfaa.Sep.takeW (i := 20) (v := ?_) rfl rfl (by kernel_rfl) (by kernel_rfl) (by kernel_rfl) (fun _ _ _ h => h) (by rfl) ?_ hHeld ?_
                            rotate_left 1
                            · (intro w hSw; (try dsimp only at hSw); go_simp <;> (try with_reducible rfl))
                            (try simp only [Act.put, List.setIfInBounds_toArray, List.set_cons_zero, List.set_cons_succ])
                            refine Go.Proofs.Ytmgdpkmmcmglfaa.Sep.takeW (i := 21) (v := ?_) rfl rfl (by kernel_rfl) (by kernel_rfl) (by kernel_rfl) (fun _ _ _ h => h) (by rfl) ?_ hHeld ?_
                            rotate_left 1
                            · (intro w hSw; (try dsimp only at hSw); go_simp <;> (try with_reducible rfl))
                            (try simp only [Act.put, List.setIfInBounds_toArray, List.set_cons_zero, List.set_cons_succ])
                            refine Go.Proofs.Ytmgdpkmmcmglfaa.Sep.takeW (i := 22) (v := ?_) rfl rfl (by kernel_rfl) (by kernel_rfl) (by kernel_rfl) (fun _ _ _ h => h) (by rfl) ?_ hHeld ?_
                            rotate_left 1
                            · (intro w hSw; (try dsimp only at hSw); go_simp <;> (try with_reducible rfl))
                            (try simp only [Act.put, List.setIfInBounds_toArray, List.set_cons_zero, List.set_cons_succ])
                            refine Go.Proofs.Ytmgdpkmmcmglfaa.Sep.takeW (i := 23) (v := ?_) rfl rfl (by kernel_rfl) (by kernel_rfl) (by kernel_rfl) (fun _ _ _ h => h) (by rfl) ?_ hHeld ?_
                            rotate_left 1
                            · (intro w hSw; (try dsimp only at hSw); go_simp <;> (try with_reducible rfl))
                            (try simp only [Act.put, List.setIfInBounds_toArray, List.set_cons_zero, List.set_cons_succ])
                            refine Go.Proofs.Ytmgdpkmmcmglfaa.Sep.takeW (i := 24) (v := ?_) rfl rfl (by kernel_rfl) (by kernel_rfl) (by kernel_rfl) (fun _ _ _ h => h) (by rfl) ?_ hHeld ?_
                            rotate_left 1
                            · (intro w hSw; (try dsimp only at hSw); go_simp <;> (try with_reducible rfl))
                            (try simp only [Act.put, List.setIfInBounds_toArray, List.set_cons_zero, List.set_cons_succ])
                            refine Go.Proofs.Ytmgdpkmmcmglfaa.Sep.takeW (i := 25) (v := ?_) rfl rfl (by kernel_rfl) (by kernel_rfl) (by kernel_rfl) (fun _ _ _ h => h) (by rfl) ?_ hHeld ?_
                            rotate_left 1
                            · (intro w hSw; (try dsimp only at hSw); go_simp <;> (try with_reducible rfl))
                            (try simp only [Act.put, List.setIfInBounds_toArray, List.set_cons_zero, List.set_cons_succ])
                            refine Go.Proofs.Ytmgdpkmmcmglfaa.Sep.takeW (i := 26) (v := ?_) rfl rfl (by kernel_rfl) (by kernel_rfl) (by kernel_rfl) (fun _ _ _ h => h) (by rfl) ?_ hHeld ?_
                            rotate_left 1
                            · (intro w hSw; (try dsimp only at hSw); go_simp <;> (try with_reducible rfl))
                            (try simp only [Act.put, List.setIfInBounds_toArray, List.set_cons_zero, List.set_cons_succ])
                            refine Go.Proofs.Ytmgdpkmmcmglfaa.Sep.takeW (i := 27) (v := ?_) rfl rfl (by kernel_rfl) (by kernel_rfl) (by kernel_rfl) (fun _ _ _ h => h) (by rfl) ?_ hHeld ?_
                            rotate_left 1
                            · (intro w hSw; (try dsimp only at hSw); go_simp <;> (try with_reducible rfl))
                            (try simp only [Act.put, List.setIfInBounds_toArray, List.set_cons_zero, List.set_cons_succ])
                            refine Go.Proofs.Ytmgdpkmmcmglfaa.Sep.takeW (i := 28) (v := ?_) rfl rfl (by kernel_rfl) (by kernel_rfl) (by kernel_rfl) (fun _ _ _ h => h) (by rfl) ?_ hHeld ?_
                            rotate_left 1
                            · (intro w hSw; (try dsimp only at hSw); go_simp <;> (try with_reducible rfl))
                            (try simp only [Act.put, List.setIfInBounds_toArray, List.set_cons_zero, List.set_cons_succ])
                            refine Go.Proofs.Ytmgdpkmmcmglfaa.Sep.takeW (i := 29) (v := ?_) rfl rfl (by kernel_rfl) (by kernel_rfl) (by kernel_rfl) (fun _ _ _ h => h) (by rfl) ?_ hHeld ?_
                            rotate_left 1
                            · (intro w hSw; (try dsimp only at hSw); go_simp <;> (try with_reducible rfl))
                            (try simp only [Act.put, List.setIfInBounds_toArray, List.set_cons_zero, List.set_cons_succ])
                            refine Go.Proofs.Ytmgdpkmmcmglfaa.Sep.takeW (i := 30) (v := ?_) rfl rfl (by kernel_rfl) (by kernel_rfl) (by kernel_rfl) (fun _ _ _ h => h) (by rfl) ?_ hHeld ?_
                            rotate_left 1
                            · (intro w hSw; (try dsimp only at hSw); go_simp <;> (try with_reducible rfl))
                            (try simp only [Act.put, List.setIfInBounds_toArray, List.set_cons_zero, List.set_cons_succ])
                            refine Go.Proofs.Ytmgdpkmmcmglfaa.Sep.takeW (i := 31) (v := ?_) rfl rfl (by kernel_rfl) (by kernel_rfl) (by kernel_rfl) (fun _ _ _ h => h) (by rfl) ?_ hHeld ?_
                            rotate_left 1
                            · (intro w hSw; (try dsimp only at hSw); go_simp <;> (try with_reducible rfl))
                            (try simp only [Act.put, List.setIfInBounds_toArray, List.set_cons_zero, List.set_cons_succ])
                            refine Go.Proofs.Ytmgdpkmmcmglfaa.Sep.takeW (i := 32) (v := ?_) rfl rfl (by kernel_rfl) (by kernel_rfl) (by kernel_rfl) (fun _ _ _ h => h) (by rfl) ?_ hHeld ?_
                            rotate_left 1
                            · (intro w hSw; (try dsimp only at hSw); go_simp <;> (try with_reducible rfl))
                            (try simp only [Act.put, List.setIfInBounds_toArray, List.set_cons_zero, List.set_cons_succ])
                            refine Go.Proofs.Ytmgdpkmmcmglfaa.Sep.takeW (i := 33) (v := ?_) rfl rfl (by kernel_rfl) (by kernel_rfl) (by kernel_rfl) (fun _ _ _ h => h) (by rfl) ?_ hHeld ?_
                            rotate_left 1
                            · (intro w hSw; (try dsimp only at hSw); go_simp <;> (try with_reducible rfl))
                            (try simp only [Act.put, List.setIfInBounds_toArray, List.set_cons_zero, List.set_cons_succ])
                            refine Go.Proofs.Ytmgdpkmmcmglfaa.Sep.callC (i := 34) rfl (by kernel_rfl) (by rfl) (fun K hK => ?_)
                            clear hHeld
                            (go_wp2_with ((go_at_call 24; (with_reducible refine HKN.out.mono ?_); rintro e_ w5 ⟨rfl, hb5⟩; have HB5 := Aside0.mk hb5; clear hb5)))
                            refine hK.out _ _ ?_ (fun hHeld => ?_)
                            · (exact ⟨pw_cell_below (w := wr.drew.drew) HB5.out z0, pw_cell_below (w := wr.drew.drew) HB5.out z1, pw_cell_below (w := wr.drew.drew) HB5.out z2, pw_cell_below (w := wr.drew.drew) HB5.out z3, pw_cell_below (w := wr.drew.drew) HB5.out z4, pw_cell_below (w := wr.drew.drew) HB5.out x2, pw_cell_below (w := wr.drew.drew) HB5.out x3, pw_cell_below (w := wr.drew.drew) HB5.out yb⟩)
                            clear hK K
                            (try simp only [Act.put, List.setIfInBounds_toArray, List.set_cons_zero, List.set_cons_succ])
                            refine Go.Proofs.Ytmgdpkmmcmglfaa.Sep.takeW (i := 35) (v := ?_) rfl rfl (by kernel_rfl) (by kernel_rfl) (by kernel_rfl) (fun _ _ _ h => h) (by rfl) ?_ hHeld ?_
                            rotate_left 1
                            · (intro w hSw; (try dsimp only at hSw); go_simp <;> (try with_reducible rfl))
                            (try simp only [Act.put, List.setIfInBounds_toArray, List.set_cons_zero, List.set_cons_succ])
                            refine Go.Proofs.Ytmgdpkmmcmglfaa.Sep.takeW (i := 36) (v := ?_) rfl rfl (by kernel_rfl) (by kernel_rfl) (by kernel_rfl) (fun _ _ _ h => h) (by rfl) ?_ hHeld ?_
                            rotate_left 1
                            · (intro w hSw; (try dsimp only at hSw); go_simp <;> (try with_reducible rfl))
                            (try simp only [Act.put, List.setIfInBounds_toArray, List.set_cons_zero, List.set_cons_succ])
                            refine wpAnyH_done (by kernel_rfl) ?_ _
                            have HW5 := Aside0.mk (HW2.out.drew.drew.step HB5.out)
                            have yo2 : w5.cell? _ = _ := pw_cell_below (w := wr.drew.drew) HB5.out yo
                            have yf2 : w5.frozen? ⟨gq, i, none⟩ = false := by
                              obtain ⟨S6, ⟨hS6, _⟩, _⟩ := HW5.out.first
                              obtain ⟨g6, cap6, eq6, _, _, cells6, hb6⟩ := Kd.R_form hS6 (by rw [HYL.out]; omega)
                              have eq7 := Option.some.inj (Value.slice.inj eq6).1
                              obtain rfl : gq = g6 := congrArg Addr.block eq7
                              exact blk_frozen hb6 i
                            go_wp2
                            go_roundg k2
                            case measure => have := HK2.out; omega
                            case rel =>
                              have hn := HA2.out.next HO.out HG.out
                              have hph := MarkW.phi_next HO.out HWF.out HG.out
                              refine ⟨i + 1, _, _, true, rfl, rfl, ⟨by have := HK2.out; omega⟩, ⟨by omega⟩, ⟨hn⟩, ⟨fun _ => ?_⟩, ⟨fun h => by cases h⟩, ⟨Has.put (i := i) HW5.out (t.sure + 1)⟩⟩
                              cases ag with
                              | true => have := HT2.out (by first | exact rfl | trivial); omega
                              | false => have := (HF2.out (by first | exact rfl | trivial)).1; omega
                    · have d1 : decide ((q : Int) < st) = false := decide_eq_false c1_
                      have HG := Aside0.mk (show goesP ms2 t = false from by rw [HGO.out, decide_eq_false c1_, Bool.false_and, Bool.false_and])
                      refine wp_region_held_drew (S := (fun w' => w'.cell? ⟨w.heap.size, 0, none⟩ = some (.int .i64 c) ∧ w'.cell? ⟨w.heap.size, 1, none⟩ = some (.int .i64 r) ∧ w'.cell? ⟨w.heap.size, 2, none⟩ = some (.int .i64 p) ∧ w'.cell? ⟨w.heap.size, 3, none⟩ = some (.int .i64 wi) ∧ w'.cell? ⟨w.heap.size, 4, none⟩ = some (.int .u64 sd) ∧ w'.cell? ⟨(ad.add (i * 4)).block, (ad.add (i * 4)).off + 2, none⟩ = some (.slice A2 x.f2.length c2) ∧ w'.cell? ⟨(ad.add (i * 4)).block, (ad.add (i * 4)).off + 3, none⟩ = some (.slice A3 x.f3.length c3))) (by kernel_rfl) ?_ (fun hHeld => ?_)
                      · (exact ⟨z0, z1, z2, z3, z4, x2, x3⟩)
                      refine Go.Proofs.Ytmgdpkmmcmglfaa.Sep.takeW (i := 0) (v := ?_) rfl rfl (by kernel_rfl) (by kernel_rfl) (by kernel_rfl) (fun _ _ _ h => h) (by rfl) ?_ hHeld ?_
                      rotate_left 1
                      · (intro w hSw; (try dsimp only at hSw); go_simp <;> (try with_reducible rfl))
                      (try simp only [Act.put, List.setIfInBounds_toArray, List.set_cons_zero, List.set_cons_succ])
                      refine Go.Proofs.Ytmgdpkmmcmglfaa.Sep.takeW (i := 1) (v := ?_) rfl rfl (by kernel_rfl) (by kernel_rfl) (by kernel_rfl) (fun _ _ _ h => h) (by rfl) ?_ hHeld ?_
                      rotate_left 1
                      · (intro w hSw; (try dsimp only at hSw); go_simp <;> (try with_reducible rfl))
                      (try simp only [Act.put, List.setIfInBounds_toArray, List.set_cons_zero, List.set_cons_succ])
                      refine Go.Proofs.Ytmgdpkmmcmglfaa.Sep.takeW (i := 2) (v := ?_) rfl rfl (by kernel_rfl) (by kernel_rfl) (by kernel_rfl) (fun _ _ _ h => h) (by rfl) ?_ hHeld ?_
                      rotate_left 1
                      · (intro w hSw; (try dsimp only at hSw); go_simp <;> (try with_reducible rfl))
                      (try simp only [Act.put, List.setIfInBounds_toArray, List.set_cons_zero, List.set_cons_succ])
                      refine Go.Proofs.Ytmgdpkmmcmglfaa.Sep.takeW (i := 3) (v := ?_) rfl rfl (by kernel_rfl) (by kernel_rfl) (by kernel_rfl) (fun _ _ _ h => h) (by rfl) ?_ hHeld ?_
                      rotate_left 1
                      · (intro w hSw; (try dsimp only at hSw); go_simp <;> (try with_reducible rfl))
                      (try simp only [Act.put, List.setIfInBounds_toArray, List.set_cons_zero, List.set_cons_succ])
                      refine Go.Proofs.Ytmgdpkmmcmglfaa.Sep.takeW (i := 4) (v := ?_) rfl rfl (by kernel_rfl) (by kernel_rfl) (by kernel_rfl) (fun _ _ _ h => h) (by rfl) ?_ hHeld ?_
                      rotate_left 1
                      · (intro w hSw; (try dsimp only at hSw); go_simp <;> (try with_reducible rfl))
                      (try simp only [Act.put, List.setIfInBounds_toArray, List.set_cons_zero, List.set_cons_succ])
                      refine Go.Proofs.Ytmgdpkmmcmglfaa.Sep.takeW (i := 5) (v := ?_) rfl rfl (by kernel_rfl) (by kernel_rfl) (by kernel_rfl) (fun _ _ _ h => h) (by rfl) ?_ hHeld ?_
                      rotate_left 1
                      · (intro w hSw; (try dsimp only at hSw); go_simp <;> (try with_reducible rfl))
                      (try simp only [Act.put, List.setIfInBounds_toArray, List.set_cons_zero, List.set_cons_succ])
                      refine Go.Proofs.Ytmgdpkmmcmglfaa.Sep.takeW (i := 6) (v := ?_) rfl rfl (by kernel_rfl) (by kernel_rfl) (by kernel_rfl) (fun _ _ _ h => h) (by rfl) ?_ hHeld ?_
                      rotate_left 1
                      · (intro w hSw; (try dsimp only at hSw); go_simp <;> (try with_reducible rfl))
                      (try simp only [Act.put, List.setIfInBounds_toArray, List.set_cons_zero, List.set_cons_succ])
                      refine Go.Proofs.Ytmgdpkmmcmglfaa.Sep.takeW (i := 7) (v := ?_) rfl rfl (by kernel_rfl) (by kernel_rfl) (by kernel_rfl) (fun _ _ _ h => h) (by rfl) ?_ hHeld ?_
                      rotate_left 1
                      · (intro w hSw; (try dsimp only at hSw); go_simp <;> (try with_reducible rfl))
                      (try simp only [Act.put, List.setIfInBounds_toArray, List.set_cons_zero, List.set_cons_succ])
                      refine Go.Proofs.Ytmgdpkmmcmglfaa.Sep.takeW (i := 8) (v := ?_) rfl rfl (by kernel_rfl) (by kernel_rfl) (by kernel_rfl) (fun _ _ _ h => h) (by rfl) ?_ hHeld ?_
                      rotate_left 1
                      · (intro w hSw; (try dsimp only at hSw); go_simp <;> (try with_reducible rfl))
                      (try simp only [Act.put, List.setIfInBounds_toArray, List.set_cons_zero, List.set_cons_succ])
                      refine Go.Proofs.Ytmgdpkmmcmglfaa.Sep.takeW (i := 9) (v := ?_) rfl rfl (by kernel_rfl) (by kernel_rfl) (by kernel_rfl) (fun _ _ _ h => h) (by rfl) ?_ hHeld ?_
                      rotate_left 1
                      · (intro w hSw; (try dsimp only at hSw); go_simp <;> (try with_reducible rfl))
                      (try simp only [Act.put, List.setIfInBounds_toArray, List.set_cons_zero, List.set_cons_succ])
                      refine Go.Proofs.Ytmgdpkmmcmglfaa.Sep.takeW (i := 10) (v := ?_) rfl rfl (by kernel_rfl) (by kernel_rfl) (by kernel_rfl) (fun _ _ _ h => h) (by rfl) ?_ hHeld ?_
                      rotate_left 1
                      · (intro w hSw; (try dsimp only at hSw); go_simp <;> (try with_reducible rfl))
                      (try simp only [Act.put, List.setIfInBounds_toArray, List.set_cons_zero, List.set_cons_succ])
                      refine Go.Proofs.Ytmgdpkmmcmglfaa.Sep.takeW (i := 11) (v := ?_) rfl rfl (by kernel_rfl) (by kernel_rfl) (by kernel_rfl) (fun _ _ _ h => h) (by rfl) ?_ hHeld ?_
                      rotate_left 1
                      · (intro w hSw; (try dsimp only at hSw); go_simp <;> (try with_reducible rfl))
                      (try simp only [Act.put, List.setIfInBounds_toArray, List.set_cons_zero, List.set_cons_succ])
                      refine Go.Proofs.Ytmgdpkmmcmglfaa.Sep.takeW (i := 12) (v := ?_) rfl rfl (by kernel_rfl) (by kernel_rfl) (by kernel_rfl) (fun _ _ _ h => h) (by rfl) ?_ hHeld ?_
                      rotate_left 1
                      · (intro w hSw; (try dsimp only at hSw); go_simp <;> (try with_reducible rfl))
                      (try simp only [Act.put, List.setIfInBounds_toArray, List.set_cons_zero, List.set_cons_succ])
                      refine Go.Proofs.Ytmgdpkmmcmglfaa.Sep.takeW (i := 13) (v := ?_) rfl rfl (by kernel_rfl) (by kernel_rfl) (by kernel_rfl) (fun _ _ _ h => h) (by rfl) ?_ hHeld ?_
                      rotate_left 1
                      · (intro w hSw; (try dsimp only at hSw); go_simp <;> (try with_reducible rfl))
                      (try simp only [Act.put, List.setIfInBounds_toArray, List.set_cons_zero, List.set_cons_succ])
                      refine Go.Proofs.Ytmgdpkmmcmglfaa.Sep.takeW (i := 14) (v := ?_) rfl rfl (by kernel_rfl) (by kernel_rfl) (by kernel_rfl) (fun _ _ _ h => h) (by rfl) ?_ hHeld ?_
                      rotate_left 1
                      · (intro w hSw; (try dsimp only at hSw); go_simp <;> (try with_reducible rfl))
                      (try simp only [Act.put, List.setIfInBounds_toArray, List.set_cons_zero, List.set_cons_succ])
                      refine Go.Proofs.Ytmgdpkmmcmglfaa.Sep.takeW (i := 15) (v := ?_) rfl rfl (by kernel_rfl) (by kernel_rfl) (by kernel_rfl) (fun _ _ _ h => h) (by rfl) ?_ hHeld ?_
                      rotate_left 1
                      · (intro w hSw; (try dsimp only at hSw); go_simp <;> (try with_reducible rfl))
                      (try simp only [Act.put, List.setIfInBounds_toArray, List.set_cons_zero, List.set_cons_succ])
                      refine Go.Proofs.Ytmgdpkmmcmglfaa.Sep.takeU (i := 16) rfl rfl (by kernel_rfl) (by kernel_rfl) (by kernel_rfl) (fun _ _ _ h => h) (by rfl) hHeld ?_
                      (try simp only [Act.put, List.setIfInBounds_toArray, List.set_cons_zero, List.set_cons_succ])
                      refine Go.Proofs.Ytmgdpkmmcmglfaa.Sep.takeU (i := 17) rfl rfl (by kernel_rfl) (by kernel_rfl) (by kernel_rfl) (fun _ _ _ h => h) (by rfl) hHeld ?_
                      (try simp only [Act.put, List.setIfInBounds_toArray, List.set_cons_zero, List.set_cons_succ])
                      refine Go.Proofs.Ytmgdpkmmcmglfaa.Sep.takeU (i := 18) rfl rfl (by kernel_rfl) (by kernel_rfl) (by kernel_rfl) (fun _ _ _ h => h) (by rfl) hHeld ?_
                      (try simp only [Act.put, List.setIfInBounds_toArray, List.set_cons_zero, List.set_cons_succ])
                      refine Go.Proofs.Ytmgdpkmmcmglfaa.Sep.takeU (i := 19) rfl rfl (by kernel_rfl) (by kernel_rfl) (by kernel_rfl) (fun _ _ _ h => h) (by rfl) hHeld ?_
                      (try simp only [Act.put, List.setIfInBounds_toArray, List.set_cons_zero, List.set_cons_succ])
                      refine Go.Proofs.Ytmgdpkmmcmglfaa.Sep.takeU (i := 20) rfl rfl (by kernel_rfl) (by kernel_rfl) (by kernel_rfl) (fun _ _ _ h => h) (by rfl) hHeld ?_
                      (try simp only [Act.put, List.setIfInBounds_toArray, List.set_cons_zero, List.set_cons_succ])
                      refine Go.Proofs.Ytmgdpkmmcmglfaa.Sep.takeU (i := 21) rfl rfl (by kernel_rfl) (by kernel_rfl) (by kernel_rfl) (fun _ _ _ h => h) (by rfl) hHeld ?_
                      (try simp only [Act.put, List.setIfInBounds_toArray, List.set_cons_zero, List.set_cons_succ])
                      refine Go.Proofs.Ytmgdpkmmcmglfaa.Sep.takeU (i := 22) rfl rfl (by kernel_rfl) (by kernel_rfl) (by kernel_rfl) (fun _ _ _ h => h) (by rfl) hHeld ?_
                      (try simp only [Act.put, List.setIfInBounds_toArray, List.set_cons_zero, List.set_cons_succ])
                      refine Go.Proofs.Ytmgdpkmmcmglfaa.Sep.takeU (i := 23) rfl rfl (by kernel_rfl) (by kernel_rfl) (by kernel_rfl) (fun _ _ _ h => h) (by rfl) hHeld ?_
                      (try simp only [Act.put, List.setIfInBounds_toArray, List.set_cons_zero, List.set_cons_succ])
                      refine Go.Proofs.Ytmgdpkmmcmglfaa.Sep.takeW (i := 24) (v := ?_) rfl rfl (by kernel_rfl) (by kernel_rfl) (by kernel_rfl) (fun _ _ _ h => h) (by rfl) ?_ hHeld ?_
                      rotate_left 1
                      · (intro w hSw; (try dsimp only at hSw); go_simp <;> (try with_reducible rfl))
                      (try simp only [Act.put, List.setIfInBounds_toArray, List.set_cons_zero, List.set_cons_succ])
                      refine Go.Proofs.Ytmgdpkmmcmglfaa.Sep.takeW (i := 25) (v := ?_) rfl rfl (by kernel_rfl) (by kernel_rfl) (by kernel_rfl) (fun _ _ _ h => h) (by rfl) ?_ hHeld ?_
                      rotate_left 1
                      · (intro w hSw; (try dsimp only at hSw); go_simp <;> (try with_reducible rfl))
                      (try simp only [Act.put, List.setIfInBounds_toArray, List.set_cons_zero, List.set_cons_succ])
                      refine Go.Proofs.Ytmgdpkmmcmglfaa.Sep.takeU (i := 26) rfl rfl (by kernel_rfl) (by kernel_rfl) (by kernel_rfl) (fun _ _ _ h => h) (by rfl) hHeld ?_
                      (try simp only [Act.put, List.setIfInBounds_toArray, List.set_cons_zero, List.set_cons_succ])
                      refine Go.Proofs.Ytmgdpkmmcmglfaa.Sep.takeU (i := 27) rfl rfl (by kernel_rfl) (by kernel_rfl) (by kernel_rfl) (fun _ _ _ h => h) (by rfl) hHeld ?_
                      (try simp only [Act.put, List.setIfInBounds_toArray, List.set_cons_zero, List.set_cons_succ])
                      refine Go.Proofs.Ytmgdpkmmcmglfaa.Sep.takeU (i := 28) rfl rfl (by kernel_rfl) (by kernel_rfl) (by kernel_rfl) (fun _ _ _ h => h) (by rfl) hHeld ?_
                      (try simp only [Act.put, List.setIfInBounds_toArray, List.set_cons_zero, List.set_cons_succ])
                      refine Go.Proofs.Ytmgdpkmmcmglfaa.Sep.takeU (i := 29) rfl rfl (by kernel_rfl) (by kernel_rfl) (by kernel_rfl) (fun _ _ _ h => h) (by rfl) hHeld ?_
                      (try simp only [Act.put, List.setIfInBounds_toArray, List.set_cons_zero, List.set_cons_succ])
                      refine Go.Proofs.Ytmgdpkmmcmglfaa.Sep.takeU (i := 30) rfl rfl (by kernel_rfl) (by kernel_rfl) (by kernel_rfl) (fun _ _ _ h => h) (by rfl) hHeld ?_
                      (try simp only [Act.put, List.setIfInBounds_toArray, List.set_cons_zero, List.set_cons_succ])
                      refine Go.Proofs.Ytmgdpkmmcmglfaa.Sep.takeU (i := 31) rfl rfl (by kernel_rfl) (by kernel_rfl) (by kernel_rfl) (fun _ _ _ h => h) (by rfl) hHeld ?_
                      (try simp only [Act.put, List.setIfInBounds_toArray, List.set_cons_zero, List.set_cons_succ])
                      refine Go.Proofs.Ytmgdpkmmcmglfaa.Sep.takeU (i := 32) rfl rfl (by kernel_rfl) (by kernel_rfl) (by kernel_rfl) (fun _ _ _ h => h) (by rfl) hHeld ?_
                      (try simp only [Act.put, List.setIfInBounds_toArray, List.set_cons_zero, List.set_cons_succ])
                      refine Go.Proofs.Ytmgdpkmmcmglfaa.Sep.takeU (i := 33) rfl rfl (by kernel_rfl) (by kernel_rfl) (by kernel_rfl) (fun _ _ _ h => h) (by rfl) hHeld ?_
                      (try simp only [Act.put, List.setIfInBounds_toArray, List.set_cons_zero, List.set_cons_succ])
                      refine Go.Proofs.Ytmgdpkmmcmglfaa.Sep.takeU (i := 34) rfl rfl (by kernel_rfl) (by kernel_rfl) (by kernel_rfl) (fun _ _ _ h => h) (by rfl) hHeld ?_
                      (try simp only [Act.put, List.setIfInBounds_toArray, List.set_cons_zero, List.set_cons_succ])
                      refine Go.Proofs.Ytmgdpkmmcmglfaa.Sep.takeU (i := 35) rfl rfl (by kernel_rfl) (by kernel_rfl) (by kernel_rfl) (fun _ _ _ h => h) (by rfl) hHeld ?_
                      (try simp only [Act.put, List.setIfInBounds_toArray, List.set_cons_zero, List.set_cons_succ])
                      refine Go.Proofs.Ytmgdpkmmcmglfaa.Sep.takeW (i := 36) (v := ?_) rfl rfl (by kernel_rfl) (by kernel_rfl) (by kernel_rfl) (fun _ _ _ h => h) (by rfl) ?_ hHeld ?_
                      rotate_left 1
                      · (intro w hSw; (try dsimp only at hSw); go_simp <;> (try with_reducible rfl))
                      (try simp only [Act.put, List.setIfInBounds_toArray, List.set_cons_zero, List.set_cons_succ])
                      refine wpAnyH_done (by kernel_rfl) ?_ _
                      go_wp2
                      go_roundg k2
                      case measure => have := HK2.out; omega
                      case rel => exact ⟨i + 1, y5, ms2, ag, rfl, rfl, ⟨by have := HK2.out; omega⟩, ⟨by omega⟩, HA2, HT2, ⟨SKIP.out (fun t' e => by cases e; exact HG.out)⟩, ⟨HW2.out.drew.drew⟩⟩
              · have e5 : decide ((i : Int) < (l.length : Int)) = false := decide_eq_false (by omega)
                go_wp2
                go_roundg k1
                case measure => have := HT.out (by first | exact rfl | trivial); omega
                case rel =>
                  have hT0 := HT.out (by first | exact rfl | trivial)
                  refine ⟨y5, ms2, ag, rfl, HA2, ⟨fun h => ?_⟩, ⟨fun h => ⟨fun j s hj => ?_, by omega⟩⟩, HW2⟩
                  · have := HT2.out h; omega
                  · exact (HF2.out h).2 j (by have := (List.getElem?_eq_some_iff.1 hj).1; rw [HA2.out.len.1] at this; omega) s hj
end Go.Proofs.Ytmgdpkmmcmglfaa.RMark
