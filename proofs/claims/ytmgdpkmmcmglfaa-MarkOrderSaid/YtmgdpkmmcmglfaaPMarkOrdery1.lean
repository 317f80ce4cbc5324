/- What the law MarkOrder comes to: true of all. Condition: each number within its kind. -/
import Derived.Test.YtmgdpkmmcmglfaaMarkLens
import Derived.Test.YtmgdpkmmcmglfaaMarkOX
import Derived.Test.YtmgdpkmmcmglfaaRawRow2
import Derived.Test.YtmgdpkmmcmglfaaRegK2
import Derived.Test.YtmgdpkmmcmglfaaWGuard
import Derived.OpenShut
namespace Go.Proofs.Ytmgdpkmmcmglfaa.PMarkOrder
open Go Go.RowKit Go.Proofs.YtmgdpkmmcmglfaaW.PrintWords Go.Proofs.YtmgdpkmmcmglfaaW.PrintLast Go.Proofs.YtmgdpkmmcmglfaaW.PrintMore Go.Proofs.Ytmgdpkmmcmglfaa.Sep
open Go.Proofs.Ytmgdpkmmcmglfaa.MarkW (nearG kline at_line ofG)
attribute [local go_sem] max2_int min2_int max_two min_two max_three min_three max_four min_four   -- for this text's walks alone
set_option linter.unusedVariables false
set_option linter.unusedSimpArgs false
theorem few_b {A : Option Addr} {c1 : Nat} {l : List S44} {r : Bool} {w w1 : World} (hb : Below w.heap.size w w1) (hr : Kd.C k44 w A l.length l) (hc : l.length ≤ c1) (h : joustlaw17_few.f (most l) l = some r) : Calls Try.prog 8 #[.slice A l.length c1] w1 fun e w' => e = .returned (.bool r) ∧ Below w1.heap.size w1 w' := by
  refine (joustlaw17_few.calls _ A c1 l r w1 (Kd.C_below hr hb) hc h).mono ?_
  rintro e w' ⟨rfl, hd⟩
  exact ⟨rfl, hd.below⟩
theorem of_lines (c r p wi s : Int) {A : Option Addr} {n c1 : Nat} {ys : List S44} {v : List Int} {w : World} (h : n = ys.length ∧ n ≤ c1 ∧ Kd.C k44 w A n ys) (hf : ofG c r p wi s (ys.map toL) = some v) : Calls Try.prog 11 #[.agg #[.int .i64 c, .int .i64 r, .int .i64 p, .int .i64 wi, .int .u64 s], .slice A n c1] w fun e w' => ∃ v0_ : Value, e = .returned v0_ ∧ Kd.R (Kd.int .i64) 3 w' w.heap.size (fun _ => True) v0_ v ∧ Below w.heap.size w w' := by
  obtain ⟨rfl, h2, h3⟩ := h
  exact mark_Of.calls c r p wi s A c1 ys v w h3 h2 hf
theorem hasRg_succ {Y : List S44} {js : List Nat} {k b : Nat} {z : S44} {q : Int} (hk : js[k]? = some b) (hz : Y[b]? = some z) : hasRg Y (js.take (k + 1)) q = (hasRg Y (js.take k) q || decide (z.f0 = q)) := by
  unfold hasRg
  rw [List.take_add_one, hk, List.any_append]
  simp [hz]
theorem firsts_yes {Y : List S44} {i : Nat} {y : S44} {js : List Nat} (hj : js = firsts Y i) (hy : Y[i]? = some y) (h : hasRg Y js y.f0 = true) : js = firsts Y (i + 1) := by
  subst hj
  conv => rhs; unfold firsts
  rw [hy]
  simp only [h, if_true]
theorem firsts_no {Y : List S44} {i : Nat} {y : S44} {js : List Nat} (hj : js = firsts Y i) (hy : Y[i]? = some y) (h : hasRg Y js y.f0 = false) : js ++ [i] = firsts Y (i + 1) := by
  subst hj
  conv => rhs; unfold firsts
  rw [hy]
  simp [h]
set_option maxHeartbeats 8000000 in
set_option maxRecDepth 100000 in
theorem law.calls (c0 r0 p0 wi0 s : Int) (A1 : Option Addr) (c1 : Nat) (l : List S44) (A2 : Option Addr) (c2 : Nat) (tu : List Int) (w : World) (hr1 : Kd.C k44 w A1 l.length l) (hc1 : l.length ≤ c1) (hr2 : Kd.C (Kd.int .i64) w A2 tu.length tu) (hc2 : tu.length ≤ c2) (hl0 : l.length < 4611686018427387904) (hlb : ∀ x ∈ l, x.f2.length < 4611686018427387904 ∧ x.f3.length < 4611686018427387904) :
    Calls Try.prog 6 #[.agg #[.int .i64 c0, .int .i64 r0, .int .i64 p0, .int .i64 wi0, .int .u64 s], .slice A1 l.length c1, .slice A2 tu.length c2] w fun e w' => e = .returned (.bool true) ∧ Below w.heap.size w w' := by
  obtain ⟨c, r, p, wi, hcfg, hR⟩ := cfg_eq c0 r0 p0 wi0 s
  have HCFG := Aside0.mk hcfg
  have HNEW := Aside0.mk (new_eq s hR)
  have HRR := Aside0.mk hR
  obtain ⟨fv, hfv, hfp⟩ := few_eq hl0 hlb l.length (most l) 0 (by omega) (by rw [List.drop_zero]; omega) (fun j hj h => absurd h (by omega))
  have HFV : Aside0 (joustlaw17_few.f (most l) l = some fv) := ⟨hfv⟩
  have HFP := Aside0.mk hfp
  have HR1 := Aside0.mk hr1
  have HC1 := Aside0.mk hc1
  have HR2 := Aside0.mk hr2
  clear hcfg hR hfv hfp hr1 hc1 hl0 hlb hr2
  have hu24 := Try.underlying24
  have hu27 := Try.underlying27
  have hu44 := Try.underlying44
  have H0 := Aside0.mk (Has.nil (w := w) (base := w.heap.size) (Nat.le_refl _))
  cases fv with
  | false =>
    go_enter Try.func6, Try.ntmps6
    go_wp2_with (first | ((with_reducible refine gate_dst (N := 3) rfl ?_); refine box_event ?hg (N := 3) ?hd (cs := #[.int .i64 c0, .int .i64 r0, .int .i64 p0, .int .i64 wi0, .int .u64 s]) (t := 24) ?hr ?_; (case hd => rfl); (case hg => rfl); (case hr => first | (go_simp; done) | (go_simp; rfl)); intro g4 hgb_ wa1 hbox_ hb5_; have h_new := Has.ownNew H0.out hgb_ hb5_ hbox_; clear hgb_ hb5_ hbox_; have Ha1 := Aside0.mk h_new; clear h_new H0; have c_cfg_0 : wa1.cell? ⟨g4, 0, none⟩ = some (.int .i64 c0) := (blk_cell (Ha1.out).blk 0).trans rfl; have f_cfg_0 := blk_frozen (Ha1.out).blk 0; have c_cfg_1 : wa1.cell? ⟨g4, 1, none⟩ = some (.int .i64 r0) := (blk_cell (Ha1.out).blk 1).trans rfl; have f_cfg_1 := blk_frozen (Ha1.out).blk 1; have c_cfg_2 : wa1.cell? ⟨g4, 2, none⟩ = some (.int .i64 p0) := (blk_cell (Ha1.out).blk 2).trans rfl; have f_cfg_2 := blk_frozen (Ha1.out).blk 2; have c_cfg_3 : wa1.cell? ⟨g4, 3, none⟩ = some (.int .i64 wi0) := (blk_cell (Ha1.out).blk 3).trans rfl; have f_cfg_3 := blk_frozen (Ha1.out).blk 3; have c_cfg_4 : wa1.cell? ⟨g4, 4, none⟩ = some (.int .u64 s) := (blk_cell (Ha1.out).blk 4).trans rfl; have f_cfg_4 := blk_frozen (Ha1.out).blk 4) | ((go_at_call 13); (with_reducible refine (joustplay_Config.calls c0 r0 p0 wi0 s c r p wi s wa1 HCFG.out).mono ?_); rintro e_ wa2 ⟨rfl, hb_⟩; have h_new := Ha1.out.step hb_; clear hb_; have Ha2 := Aside0.mk h_new; clear h_new Ha1; clear c_cfg_0 f_cfg_0 c_cfg_1 f_cfg_1 c_cfg_2 f_cfg_2 c_cfg_3 f_cfg_3 c_cfg_4 f_cfg_4; have c_cfg_0 : wa2.cell? ⟨g4, 0, none⟩ = some (.int .i64 c0) := (blk_cell (Ha2.out).blk 0).trans rfl; have f_cfg_0 := blk_frozen (Ha2.out).blk 0; have c_cfg_1 : wa2.cell? ⟨g4, 1, none⟩ = some (.int .i64 r0) := (blk_cell (Ha2.out).blk 1).trans rfl; have f_cfg_1 := blk_frozen (Ha2.out).blk 1; have c_cfg_2 : wa2.cell? ⟨g4, 2, none⟩ = some (.int .i64 p0) := (blk_cell (Ha2.out).blk 2).trans rfl; have f_cfg_2 := blk_frozen (Ha2.out).blk 2; have c_cfg_3 : wa2.cell? ⟨g4, 3, none⟩ = some (.int .i64 wi0) := (blk_cell (Ha2.out).blk 3).trans rfl; have f_cfg_3 := blk_frozen (Ha2.out).blk 3; have c_cfg_4 : wa2.cell? ⟨g4, 4, none⟩ = some (.int .u64 s) := (blk_cell (Ha2.out).blk 4).trans rfl; have f_cfg_4 := blk_frozen (Ha2.out).blk 4) | ((with_reducible refine gate_store (t := 24) (p := 3) rfl ?_); refine wp_storeB rfl rfl 24 _ _ rfl (g := g4) (j := 0) (u := (.agg #[.int .i64 c, .int .i64 r, .int .i64 p, .int .i64 wi, .int .u64 s])) (cs2 := #[.int .i64 c, .int .i64 r, .int .i64 p, .int .i64 wi, .int .u64 s]) [.int .i64 c, .int .i64 r, .int .i64 p, .int .i64 wi, .int .u64 s] rfl rfl rfl ?sI (by simp [Value.oneCell']) rfl (Ha2.out) (by simp) ?_; (case sI => first | rfl | kernel_rfl); intro wa3 h_new; have Ha3 := Aside0.mk h_new; clear h_new Ha2; clear c_cfg_0 f_cfg_0 c_cfg_1 f_cfg_1 c_cfg_2 f_cfg_2 c_cfg_3 f_cfg_3 c_cfg_4 f_cfg_4; have c_cfg_0 : wa3.cell? ⟨g4, 0, none⟩ = some (.int .i64 c) := (blk_cell (Ha3.out).blk 0).trans rfl; have f_cfg_0 := blk_frozen (Ha3.out).blk 0; have c_cfg_1 : wa3.cell? ⟨g4, 1, none⟩ = some (.int .i64 r) := (blk_cell (Ha3.out).blk 1).trans rfl; have f_cfg_1 := blk_frozen (Ha3.out).blk 1; have c_cfg_2 : wa3.cell? ⟨g4, 2, none⟩ = some (.int .i64 p) := (blk_cell (Ha3.out).blk 2).trans rfl; have f_cfg_2 := blk_frozen (Ha3.out).blk 2; have c_cfg_3 : wa3.cell? ⟨g4, 3, none⟩ = some (.int .i64 wi) := (blk_cell (Ha3.out).blk 3).trans rfl; have f_cfg_3 := blk_frozen (Ha3.out).blk 3; have c_cfg_4 : wa3.cell? ⟨g4, 4, none⟩ = some (.int .u64 s) := (blk_cell (Ha3.out).blk 4).trans rfl; have f_cfg_4 := blk_frozen (Ha3.out).blk 4) | ((go_at_call 7); (with_reducible refine (grid_New.calls c r p wi s c r p wi s 0 wa3 HNEW.out).mono ?_); rintro e_ wa4 ⟨rfl, hb_⟩; have h_new := Ha3.out.step hb_; clear hb_; have Ha4 := Aside0.mk h_new; clear h_new Ha3; clear c_cfg_0 f_cfg_0 c_cfg_1 f_cfg_1 c_cfg_2 f_cfg_2 c_cfg_3 f_cfg_3 c_cfg_4 f_cfg_4; have c_cfg_0 : wa4.cell? ⟨g4, 0, none⟩ = some (.int .i64 c) := (blk_cell (Ha4.out).blk 0).trans rfl; have f_cfg_0 := blk_frozen (Ha4.out).blk 0; have c_cfg_1 : wa4.cell? ⟨g4, 1, none⟩ = some (.int .i64 r) := (blk_cell (Ha4.out).blk 1).trans rfl; have f_cfg_1 := blk_frozen (Ha4.out).blk 1; have c_cfg_2 : wa4.cell? ⟨g4, 2, none⟩ = some (.int .i64 p) := (blk_cell (Ha4.out).blk 2).trans rfl; have f_cfg_2 := blk_frozen (Ha4.out).blk 2; have c_cfg_3 : wa4.cell? ⟨g4, 3, none⟩ = some (.int .i64 wi) := (blk_cell (Ha4.out).blk 3).trans rfl; have f_cfg_3 := blk_frozen (Ha4.out).blk 3; have c_cfg_4 : wa4.cell? ⟨g4, 4, none⟩ = some (.int .u64 s) := (blk_cell (Ha4.out).blk 4).trans rfl; have f_cfg_4 := blk_frozen (Ha4.out).blk 4) | ((with_reducible refine gate_dst (N := 7) rfl ?_); refine box_event ?hg (N := 7) ?hd (cs := #[.int .i64 0, .int .i64 0, .int .i64 0, .int .i64 0, .int .u64 0]) (t := 27) ?hr ?_; (case hd => rfl); (case hg => rfl); (case hr => first | (go_simp; done) | (go_simp; rfl)); intro g9 hgb_ wa5 hbox_ hb5_; have h_new := Has.ownNew Ha4.out hgb_ hb5_ hbox_; clear hgb_ hb5_ hbox_; have Ha5 := Aside0.mk h_new; clear h_new Ha4; clear c_cfg_0 f_cfg_0 c_cfg_1 f_cfg_1 c_cfg_2 f_cfg_2 c_cfg_3 f_cfg_3 c_cfg_4 f_cfg_4; have c_cfg_0 : wa5.cell? ⟨g4, 0, none⟩ = some (.int .i64 c) := (blk_cell (Ha5.out.sw).blk 0).trans rfl; have f_cfg_0 := blk_frozen (Ha5.out.sw).blk 0; have c_cfg_1 : wa5.cell? ⟨g4, 1, none⟩ = some (.int .i64 r) := (blk_cell (Ha5.out.sw).blk 1).trans rfl; have f_cfg_1 := blk_frozen (Ha5.out.sw).blk 1; have c_cfg_2 : wa5.cell? ⟨g4, 2, none⟩ = some (.int .i64 p) := (blk_cell (Ha5.out.sw).blk 2).trans rfl; have f_cfg_2 := blk_frozen (Ha5.out.sw).blk 2; have c_cfg_3 : wa5.cell? ⟨g4, 3, none⟩ = some (.int .i64 wi) := (blk_cell (Ha5.out.sw).blk 3).trans rfl; have f_cfg_3 := blk_frozen (Ha5.out.sw).blk 3; have c_cfg_4 : wa5.cell? ⟨g4, 4, none⟩ = some (.int .u64 s) := (blk_cell (Ha5.out.sw).blk 4).trans rfl; have f_cfg_4 := blk_frozen (Ha5.out.sw).blk 4) | ((with_reducible refine gate_store (t := 27) (p := 7) rfl ?_); refine wp_storeB rfl rfl 27 _ _ rfl (g := g9) (j := 0) (u := (.agg #[.int .i64 c, .int .i64 r, .int .i64 p, .int .i64 wi, .int .u64 s])) (cs2 := #[.int .i64 c, .int .i64 r, .int .i64 p, .int .i64 wi, .int .u64 s]) [.int .i64 c, .int .i64 r, .int .i64 p, .int .i64 wi, .int .u64 s] rfl rfl rfl ?sI (by simp [Value.oneCell']) rfl (Ha5.out) (by simp) ?_; (case sI => first | rfl | kernel_rfl); intro wa6 h_new; have Ha6 := Aside0.mk h_new; clear h_new Ha5; clear c_cfg_0 f_cfg_0 c_cfg_1 f_cfg_1 c_cfg_2 f_cfg_2 c_cfg_3 f_cfg_3 c_cfg_4 f_cfg_4; have c_cfg_0 : wa6.cell? ⟨g4, 0, none⟩ = some (.int .i64 c) := (blk_cell (Ha6.out.sw).blk 0).trans rfl; have f_cfg_0 := blk_frozen (Ha6.out.sw).blk 0; have c_cfg_1 : wa6.cell? ⟨g4, 1, none⟩ = some (.int .i64 r) := (blk_cell (Ha6.out.sw).blk 1).trans rfl; have f_cfg_1 := blk_frozen (Ha6.out.sw).blk 1; have c_cfg_2 : wa6.cell? ⟨g4, 2, none⟩ = some (.int .i64 p) := (blk_cell (Ha6.out.sw).blk 2).trans rfl; have f_cfg_2 := blk_frozen (Ha6.out.sw).blk 2; have c_cfg_3 : wa6.cell? ⟨g4, 3, none⟩ = some (.int .i64 wi) := (blk_cell (Ha6.out.sw).blk 3).trans rfl; have f_cfg_3 := blk_frozen (Ha6.out.sw).blk 3; have c_cfg_4 : wa6.cell? ⟨g4, 4, none⟩ = some (.int .u64 s) := (blk_cell (Ha6.out.sw).blk 4).trans rfl; have f_cfg_4 := blk_frozen (Ha6.out.sw).blk 4; have c_grid_0 : wa6.cell? ⟨g9, 0, none⟩ = some (.int .i64 c) := (blk_cell (Ha6.out).blk 0).trans rfl; have f_grid_0 := blk_frozen (Ha6.out).blk 0; have c_grid_1 : wa6.cell? ⟨g9, 1, none⟩ = some (.int .i64 r) := (blk_cell (Ha6.out).blk 1).trans rfl; have f_grid_1 := blk_frozen (Ha6.out).blk 1; have c_grid_2 : wa6.cell? ⟨g9, 2, none⟩ = some (.int .i64 p) := (blk_cell (Ha6.out).blk 2).trans rfl; have f_grid_2 := blk_frozen (Ha6.out).blk 2; have c_grid_3 : wa6.cell? ⟨g9, 3, none⟩ = some (.int .i64 wi) := (blk_cell (Ha6.out).blk 3).trans rfl; have f_grid_3 := blk_frozen (Ha6.out).blk 3; have c_grid_4 : wa6.cell? ⟨g9, 4, none⟩ = some (.int .u64 s) := (blk_cell (Ha6.out).blk 4).trans rfl; have f_grid_4 := blk_frozen (Ha6.out).blk 4) | ((go_at_call 9); (with_reducible refine (joustlaw17_awake.calls 100 true wa6 awake_eq).mono ?_); rintro e_ wa7 ⟨rfl, hb_⟩; have h_new := Ha6.out.step hb_; clear hb_; have Ha7 := Aside0.mk h_new; clear h_new Ha6; clear c_cfg_0 f_cfg_0 c_cfg_1 f_cfg_1 c_cfg_2 f_cfg_2 c_cfg_3 f_cfg_3 c_cfg_4 f_cfg_4 c_grid_0 f_grid_0 c_grid_1 f_grid_1 c_grid_2 f_grid_2 c_grid_3 f_grid_3 c_grid_4 f_grid_4; have c_cfg_0 : wa7.cell? ⟨g4, 0, none⟩ = some (.int .i64 c) := (blk_cell (Ha7.out.sw).blk 0).trans rfl; have f_cfg_0 := blk_frozen (Ha7.out.sw).blk 0; have c_cfg_1 : wa7.cell? ⟨g4, 1, none⟩ = some (.int .i64 r) := (blk_cell (Ha7.out.sw).blk 1).trans rfl; have f_cfg_1 := blk_frozen (Ha7.out.sw).blk 1; have c_cfg_2 : wa7.cell? ⟨g4, 2, none⟩ = some (.int .i64 p) := (blk_cell (Ha7.out.sw).blk 2).trans rfl; have f_cfg_2 := blk_frozen (Ha7.out.sw).blk 2; have c_cfg_3 : wa7.cell? ⟨g4, 3, none⟩ = some (.int .i64 wi) := (blk_cell (Ha7.out.sw).blk 3).trans rfl; have f_cfg_3 := blk_frozen (Ha7.out.sw).blk 3; have c_cfg_4 : wa7.cell? ⟨g4, 4, none⟩ = some (.int .u64 s) := (blk_cell (Ha7.out.sw).blk 4).trans rfl; have f_cfg_4 := blk_frozen (Ha7.out.sw).blk 4; have c_grid_0 : wa7.cell? ⟨g9, 0, none⟩ = some (.int .i64 c) := (blk_cell (Ha7.out).blk 0).trans rfl; have f_grid_0 := blk_frozen (Ha7.out).blk 0; have c_grid_1 : wa7.cell? ⟨g9, 1, none⟩ = some (.int .i64 r) := (blk_cell (Ha7.out).blk 1).trans rfl; have f_grid_1 := blk_frozen (Ha7.out).blk 1; have c_grid_2 : wa7.cell? ⟨g9, 2, none⟩ = some (.int .i64 p) := (blk_cell (Ha7.out).blk 2).trans rfl; have f_grid_2 := blk_frozen (Ha7.out).blk 2; have c_grid_3 : wa7.cell? ⟨g9, 3, none⟩ = some (.int .i64 wi) := (blk_cell (Ha7.out).blk 3).trans rfl; have f_grid_3 := blk_frozen (Ha7.out).blk 3; have c_grid_4 : wa7.cell? ⟨g9, 4, none⟩ = some (.int .u64 s) := (blk_cell (Ha7.out).blk 4).trans rfl; have f_grid_4 := blk_frozen (Ha7.out).blk 4) | ((go_at_call 8); (with_reducible refine (few_b ((Ha7.out)).below HR1.out HC1.out HFV.out).mono ?_); rintro e_ wa8 ⟨rfl, hb_⟩; have h_new := Ha7.out.step hb_; clear hb_; have Ha8 := Aside0.mk h_new; clear h_new Ha7; clear c_cfg_0 f_cfg_0 c_cfg_1 f_cfg_1 c_cfg_2 f_cfg_2 c_cfg_3 f_cfg_3 c_cfg_4 f_cfg_4 c_grid_0 f_grid_0 c_grid_1 f_grid_1 c_grid_2 f_grid_2 c_grid_3 f_grid_3 c_grid_4 f_grid_4; have c_cfg_0 : wa8.cell? ⟨g4, 0, none⟩ = some (.int .i64 c) := (blk_cell (Ha8.out.sw).blk 0).trans rfl; have f_cfg_0 := blk_frozen (Ha8.out.sw).blk 0; have c_cfg_1 : wa8.cell? ⟨g4, 1, none⟩ = some (.int .i64 r) := (blk_cell (Ha8.out.sw).blk 1).trans rfl; have f_cfg_1 := blk_frozen (Ha8.out.sw).blk 1; have c_cfg_2 : wa8.cell? ⟨g4, 2, none⟩ = some (.int .i64 p) := (blk_cell (Ha8.out.sw).blk 2).trans rfl; have f_cfg_2 := blk_frozen (Ha8.out.sw).blk 2; have c_cfg_3 : wa8.cell? ⟨g4, 3, none⟩ = some (.int .i64 wi) := (blk_cell (Ha8.out.sw).blk 3).trans rfl; have f_cfg_3 := blk_frozen (Ha8.out.sw).blk 3; have c_cfg_4 : wa8.cell? ⟨g4, 4, none⟩ = some (.int .u64 s) := (blk_cell (Ha8.out.sw).blk 4).trans rfl; have f_cfg_4 := blk_frozen (Ha8.out.sw).blk 4; have c_grid_0 : wa8.cell? ⟨g9, 0, none⟩ = some (.int .i64 c) := (blk_cell (Ha8.out).blk 0).trans rfl; have f_grid_0 := blk_frozen (Ha8.out).blk 0; have c_grid_1 : wa8.cell? ⟨g9, 1, none⟩ = some (.int .i64 r) := (blk_cell (Ha8.out).blk 1).trans rfl; have f_grid_1 := blk_frozen (Ha8.out).blk 1; have c_grid_2 : wa8.cell? ⟨g9, 2, none⟩ = some (.int .i64 p) := (blk_cell (Ha8.out).blk 2).trans rfl; have f_grid_2 := blk_frozen (Ha8.out).blk 2; have c_grid_3 : wa8.cell? ⟨g9, 3, none⟩ = some (.int .i64 wi) := (blk_cell (Ha8.out).blk 3).trans rfl; have f_grid_3 := blk_frozen (Ha8.out).blk 3; have c_grid_4 : wa8.cell? ⟨g9, 4, none⟩ = some (.int .u64 s) := (blk_cell (Ha8.out).blk 4).trans rfl; have f_grid_4 := blk_frozen (Ha8.out).blk 4) | ((go_at_call 9); (with_reducible refine (joustlaw17_awake.calls 100 true wa8 awake_eq).mono ?_); rintro e_ wa9 ⟨rfl, hb_⟩; have h_new := Ha8.out.step hb_; clear hb_; have Ha9 := Aside0.mk h_new; clear h_new Ha8; clear c_cfg_0 f_cfg_0 c_cfg_1 f_cfg_1 c_cfg_2 f_cfg_2 c_cfg_3 f_cfg_3 c_cfg_4 f_cfg_4 c_grid_0 f_grid_0 c_grid_1 f_grid_1 c_grid_2 f_grid_2 c_grid_3 f_grid_3 c_grid_4 f_grid_4; have c_cfg_0 : wa9.cell? ⟨g4, 0, none⟩ = some (.int .i64 c) := (blk_cell (Ha9.out.sw).blk 0).trans rfl; have f_cfg_0 := blk_frozen (Ha9.out.sw).blk 0; have c_cfg_1 : wa9.cell? ⟨g4, 1, none⟩ = some (.int .i64 r) := (blk_cell (Ha9.out.sw).blk 1).trans rfl; have f_cfg_1 := blk_frozen (Ha9.out.sw).blk 1; have c_cfg_2 : wa9.cell? ⟨g4, 2, none⟩ = some (.int .i64 p) := (blk_cell (Ha9.out.sw).blk 2).trans rfl; have f_cfg_2 := blk_frozen (Ha9.out.sw).blk 2; have c_cfg_3 : wa9.cell? ⟨g4, 3, none⟩ = some (.int .i64 wi) := (blk_cell (Ha9.out.sw).blk 3).trans rfl; have f_cfg_3 := blk_frozen (Ha9.out.sw).blk 3; have c_cfg_4 : wa9.cell? ⟨g4, 4, none⟩ = some (.int .u64 s) := (blk_cell (Ha9.out.sw).blk 4).trans rfl; have f_cfg_4 := blk_frozen (Ha9.out.sw).blk 4; have c_grid_0 : wa9.cell? ⟨g9, 0, none⟩ = some (.int .i64 c) := (blk_cell (Ha9.out).blk 0).trans rfl; have f_grid_0 := blk_frozen (Ha9.out).blk 0; have c_grid_1 : wa9.cell? ⟨g9, 1, none⟩ = some (.int .i64 r) := (blk_cell (Ha9.out).blk 1).trans rfl; have f_grid_1 := blk_frozen (Ha9.out).blk 1; have c_grid_2 : wa9.cell? ⟨g9, 2, none⟩ = some (.int .i64 p) := (blk_cell (Ha9.out).blk 2).trans rfl; have f_grid_2 := blk_frozen (Ha9.out).blk 2; have c_grid_3 : wa9.cell? ⟨g9, 3, none⟩ = some (.int .i64 wi) := (blk_cell (Ha9.out).blk 3).trans rfl; have f_grid_3 := blk_frozen (Ha9.out).blk 3; have c_grid_4 : wa9.cell? ⟨g9, 4, none⟩ = some (.int .u64 s) := (blk_cell (Ha9.out).blk 4).trans rfl; have f_grid_4 := blk_frozen (Ha9.out).blk 4))
    go_ret
    exact ⟨rfl, Ha9.out.below⟩
  | true =>
    obtain ⟨hl20, hf60⟩ := HFP.out rfl
    have HF60 := Aside0.mk hf60
    clear hf60 HFP
    obtain ⟨n, hn⟩ : ∃ n, l.length = n := ⟨_, rfl⟩
    obtain ⟨tn, htn⟩ : ∃ tn, tu.length = tn := ⟨_, rfl⟩
    have hFL : (fitL c r p wi s l).length = n := by rw [← hn]; simp [fitL]
    have hwf := fitL_wf s HRR.out l
    obtain ⟨Y, hY⟩ : ∃ Y, fitL c r p wi s l = Y := ⟨_, rfl⟩
    rw [hY] at hFL hwf
    have hn20 : n ≤ 20 := by omega
    have HWF : Aside0 (∀ z ∈ Y, WfS c r p wi s z) := ⟨fun z hz => (hwf z hz).1⟩
    have HYL := Aside0.mk hFL
    have HFIT : Aside0 (fitL c r p wi s l = Y) := ⟨hY⟩
    have HN := Aside0.mk hn
    have HTN := Aside0.mk htn
    rw [hn] at hl20
    have FEW : ∀ {w1 : World}, Below w.heap.size w w1 → Calls Try.prog 8 #[.slice A1 n c1] w1 fun e w' => e = .returned (.bool true) ∧ Below w1.heap.size w1 w' := fun hb => by rw [← HN.out]; exact few_b hb HR1.out HC1.out HFV.out
    have FIT : ∀ {w1 : World} {F : List Asr}, Has w w.heap.size w1 F → Calls Try.prog 14 #[.agg #[.int .i64 c, .int .i64 r, .int .i64 p, .int .i64 wi, .int .u64 s], .slice A1 n c1] w1 fun e w' => ∃ (A : Option Addr) (c' : Nat), e = .returned (.slice A n c') ∧ Has w w.heap.size w' (linesP (.slice A n c') Y :: F) := fun h => by rw [← HN.out, ← HFIT.out]; exact fit.L s h (Nat.le_refl _) A1 c1 l HR1.out HRR.out (by rw [HN.out]; exact hl20) HF60.out
    rw [hn, htn]
    rw [htn] at HR2 hc2
    clear hn hFL hwf hY htn
    go_enter Try.func6, Try.ntmps6
    go_wp2_with (first | ((with_reducible refine gate_dst (N := 3) rfl ?_); refine box_event ?hg (N := 3) ?hd (cs := #[.int .i64 c0, .int .i64 r0, .int .i64 p0, .int .i64 wi0, .int .u64 s]) (t := 24) ?hr ?_; (case hd => rfl); (case hg => rfl); (case hr => first | (go_simp; done) | (go_simp; rfl)); intro g4 hgb_ wd1 hbox_ hb5_; have h_new := Has.ownNew H0.out hgb_ hb5_ hbox_; clear hgb_ hb5_ hbox_; have Hd1 := Aside0.mk h_new; clear h_new H0; have c_cfg_0 : wd1.cell? ⟨g4, 0, none⟩ = some (.int .i64 c0) := (blk_cell (Hd1.out).blk 0).trans rfl; have f_cfg_0 := blk_frozen (Hd1.out).blk 0; have c_cfg_1 : wd1.cell? ⟨g4, 1, none⟩ = some (.int .i64 r0) := (blk_cell (Hd1.out).blk 1).trans rfl; have f_cfg_1 := blk_frozen (Hd1.out).blk 1; have c_cfg_2 : wd1.cell? ⟨g4, 2, none⟩ = some (.int .i64 p0) := (blk_cell (Hd1.out).blk 2).trans rfl; have f_cfg_2 := blk_frozen (Hd1.out).blk 2; have c_cfg_3 : wd1.cell? ⟨g4, 3, none⟩ = some (.int .i64 wi0) := (blk_cell (Hd1.out).blk 3).trans rfl; have f_cfg_3 := blk_frozen (Hd1.out).blk 3; have c_cfg_4 : wd1.cell? ⟨g4, 4, none⟩ = some (.int .u64 s) := (blk_cell (Hd1.out).blk 4).trans rfl; have f_cfg_4 := blk_frozen (Hd1.out).blk 4) | ((go_at_call 13); (with_reducible refine (joustplay_Config.calls c0 r0 p0 wi0 s c r p wi s wd1 HCFG.out).mono ?_); rintro e_ wd2 ⟨rfl, hb_⟩; have h_new := Hd1.out.step hb_; clear hb_; have Hd2 := Aside0.mk h_new; clear h_new Hd1; clear c_cfg_0 f_cfg_0 c_cfg_1 f_cfg_1 c_cfg_2 f_cfg_2 c_cfg_3 f_cfg_3 c_cfg_4 f_cfg_4; have c_cfg_0 : wd2.cell? ⟨g4, 0, none⟩ = some (.int .i64 c0) := (blk_cell (Hd2.out).blk 0).trans rfl; have f_cfg_0 := blk_frozen (Hd2.out).blk 0; have c_cfg_1 : wd2.cell? ⟨g4, 1, none⟩ = some (.int .i64 r0) := (blk_cell (Hd2.out).blk 1).trans rfl; have f_cfg_1 := blk_frozen (Hd2.out).blk 1; have c_cfg_2 : wd2.cell? ⟨g4, 2, none⟩ = some (.int .i64 p0) := (blk_cell (Hd2.out).blk 2).trans rfl; have f_cfg_2 := blk_frozen (Hd2.out).blk 2; have c_cfg_3 : wd2.cell? ⟨g4, 3, none⟩ = some (.int .i64 wi0) := (blk_cell (Hd2.out).blk 3).trans rfl; have f_cfg_3 := blk_frozen (Hd2.out).blk 3; have c_cfg_4 : wd2.cell? ⟨g4, 4, none⟩ = some (.int .u64 s) := (blk_cell (Hd2.out).blk 4).trans rfl; have f_cfg_4 := blk_frozen (Hd2.out).blk 4) | ((with_reducible refine gate_store (t := 24) (p := 3) rfl ?_); refine wp_storeB rfl rfl 24 _ _ rfl (g := g4) (j := 0) (u := (.agg #[.int .i64 c, .int .i64 r, .int .i64 p, .int .i64 wi, .int .u64 s])) (cs2 := #[.int .i64 c, .int .i64 r, .int .i64 p, .int .i64 wi, .int .u64 s]) [.int .i64 c, .int .i64 r, .int .i64 p, .int .i64 wi, .int .u64 s] rfl rfl rfl ?sI (by simp [Value.oneCell']) rfl (Hd2.out) (by simp) ?_; (case sI => first | rfl | kernel_rfl); intro wd3 h_new; have Hd3 := Aside0.mk h_new; clear h_new Hd2; clear c_cfg_0 f_cfg_0 c_cfg_1 f_cfg_1 c_cfg_2 f_cfg_2 c_cfg_3 f_cfg_3 c_cfg_4 f_cfg_4; have c_cfg_0 : wd3.cell? ⟨g4, 0, none⟩ = some (.int .i64 c) := (blk_cell (Hd3.out).blk 0).trans rfl; have f_cfg_0 := blk_frozen (Hd3.out).blk 0; have c_cfg_1 : wd3.cell? ⟨g4, 1, none⟩ = some (.int .i64 r) := (blk_cell (Hd3.out).blk 1).trans rfl; have f_cfg_1 := blk_frozen (Hd3.out).blk 1; have c_cfg_2 : wd3.cell? ⟨g4, 2, none⟩ = some (.int .i64 p) := (blk_cell (Hd3.out).blk 2).trans rfl; have f_cfg_2 := blk_frozen (Hd3.out).blk 2; have c_cfg_3 : wd3.cell? ⟨g4, 3, none⟩ = some (.int .i64 wi) := (blk_cell (Hd3.out).blk 3).trans rfl; have f_cfg_3 := blk_frozen (Hd3.out).blk 3; have c_cfg_4 : wd3.cell? ⟨g4, 4, none⟩ = some (.int .u64 s) := (blk_cell (Hd3.out).blk 4).trans rfl; have f_cfg_4 := blk_frozen (Hd3.out).blk 4) | ((go_at_call 7); (with_reducible refine (grid_New.calls c r p wi s c r p wi s 0 wd3 HNEW.out).mono ?_); rintro e_ wd4 ⟨rfl, hb_⟩; have h_new := Hd3.out.step hb_; clear hb_; have Hd4 := Aside0.mk h_new; clear h_new Hd3; clear c_cfg_0 f_cfg_0 c_cfg_1 f_cfg_1 c_cfg_2 f_cfg_2 c_cfg_3 f_cfg_3 c_cfg_4 f_cfg_4; have c_cfg_0 : wd4.cell? ⟨g4, 0, none⟩ = some (.int .i64 c) := (blk_cell (Hd4.out).blk 0).trans rfl; have f_cfg_0 := blk_frozen (Hd4.out).blk 0; have c_cfg_1 : wd4.cell? ⟨g4, 1, none⟩ = some (.int .i64 r) := (blk_cell (Hd4.out).blk 1).trans rfl; have f_cfg_1 := blk_frozen (Hd4.out).blk 1; have c_cfg_2 : wd4.cell? ⟨g4, 2, none⟩ = some (.int .i64 p) := (blk_cell (Hd4.out).blk 2).trans rfl; have f_cfg_2 := blk_frozen (Hd4.out).blk 2; have c_cfg_3 : wd4.cell? ⟨g4, 3, none⟩ = some (.int .i64 wi) := (blk_cell (Hd4.out).blk 3).trans rfl; have f_cfg_3 := blk_frozen (Hd4.out).blk 3; have c_cfg_4 : wd4.cell? ⟨g4, 4, none⟩ = some (.int .u64 s) := (blk_cell (Hd4.out).blk 4).trans rfl; have f_cfg_4 := blk_frozen (Hd4.out).blk 4) | ((with_reducible refine gate_dst (N := 7) rfl ?_); refine box_event ?hg (N := 7) ?hd (cs := #[.int .i64 0, .int .i64 0, .int .i64 0, .int .i64 0, .int .u64 0]) (t := 27) ?hr ?_; (case hd => rfl); (case hg => rfl); (case hr => first | (go_simp; done) | (go_simp; rfl)); intro g9 hgb_ wd5 hbox_ hb5_; have h_new := Has.ownNew Hd4.out hgb_ hb5_ hbox_; clear hgb_ hb5_ hbox_; have Hd5 := Aside0.mk h_new; clear h_new Hd4; clear c_cfg_0 f_cfg_0 c_cfg_1 f_cfg_1 c_cfg_2 f_cfg_2 c_cfg_3 f_cfg_3 c_cfg_4 f_cfg_4; have c_cfg_0 : wd5.cell? ⟨g4, 0, none⟩ = some (.int .i64 c) := (blk_cell (Hd5.out.sw).blk 0).trans rfl; have f_cfg_0 := blk_frozen (Hd5.out.sw).blk 0; have c_cfg_1 : wd5.cell? ⟨g4, 1, none⟩ = some (.int .i64 r) := (blk_cell (Hd5.out.sw).blk 1).trans rfl; have f_cfg_1 := blk_frozen (Hd5.out.sw).blk 1; have c_cfg_2 : wd5.cell? ⟨g4, 2, none⟩ = some (.int .i64 p) := (blk_cell (Hd5.out.sw).blk 2).trans rfl; have f_cfg_2 := blk_frozen (Hd5.out.sw).blk 2; have c_cfg_3 : wd5.cell? ⟨g4, 3, none⟩ = some (.int .i64 wi) := (blk_cell (Hd5.out.sw).blk 3).trans rfl; have f_cfg_3 := blk_frozen (Hd5.out.sw).blk 3; have c_cfg_4 : wd5.cell? ⟨g4, 4, none⟩ = some (.int .u64 s) := (blk_cell (Hd5.out.sw).blk 4).trans rfl; have f_cfg_4 := blk_frozen (Hd5.out.sw).blk 4) | ((with_reducible refine gate_store (t := 27) (p := 7) rfl ?_); refine wp_storeB rfl rfl 27 _ _ rfl (g := g9) (j := 0) (u := (.agg #[.int .i64 c, .int .i64 r, .int .i64 p, .int .i64 wi, .int .u64 s])) (cs2 := #[.int .i64 c, .int .i64 r, .int .i64 p, .int .i64 wi, .int .u64 s]) [.int .i64 c, .int .i64 r, .int .i64 p, .int .i64 wi, .int .u64 s] rfl rfl rfl ?sI (by simp [Value.oneCell']) rfl (Hd5.out) (by simp) ?_; (case sI => first | rfl | kernel_rfl); intro wd6 h_new; have Hd6 := Aside0.mk h_new; clear h_new Hd5; clear c_cfg_0 f_cfg_0 c_cfg_1 f_cfg_1 c_cfg_2 f_cfg_2 c_cfg_3 f_cfg_3 c_cfg_4 f_cfg_4; have c_cfg_0 : wd6.cell? ⟨g4, 0, none⟩ = some (.int .i64 c) := (blk_cell (Hd6.out.sw).blk 0).trans rfl; have f_cfg_0 := blk_frozen (Hd6.out.sw).blk 0; have c_cfg_1 : wd6.cell? ⟨g4, 1, none⟩ = some (.int .i64 r) := (blk_cell (Hd6.out.sw).blk 1).trans rfl; have f_cfg_1 := blk_frozen (Hd6.out.sw).blk 1; have c_cfg_2 : wd6.cell? ⟨g4, 2, none⟩ = some (.int .i64 p) := (blk_cell (Hd6.out.sw).blk 2).trans rfl; have f_cfg_2 := blk_frozen (Hd6.out.sw).blk 2; have c_cfg_3 : wd6.cell? ⟨g4, 3, none⟩ = some (.int .i64 wi) := (blk_cell (Hd6.out.sw).blk 3).trans rfl; have f_cfg_3 := blk_frozen (Hd6.out.sw).blk 3; have c_cfg_4 : wd6.cell? ⟨g4, 4, none⟩ = some (.int .u64 s) := (blk_cell (Hd6.out.sw).blk 4).trans rfl; have f_cfg_4 := blk_frozen (Hd6.out.sw).blk 4; have c_grid_0 : wd6.cell? ⟨g9, 0, none⟩ = some (.int .i64 c) := (blk_cell (Hd6.out).blk 0).trans rfl; have f_grid_0 := blk_frozen (Hd6.out).blk 0; have c_grid_1 : wd6.cell? ⟨g9, 1, none⟩ = some (.int .i64 r) := (blk_cell (Hd6.out).blk 1).trans rfl; have f_grid_1 := blk_frozen (Hd6.out).blk 1; have c_grid_2 : wd6.cell? ⟨g9, 2, none⟩ = some (.int .i64 p) := (blk_cell (Hd6.out).blk 2).trans rfl; have f_grid_2 := blk_frozen (Hd6.out).blk 2; have c_grid_3 : wd6.cell? ⟨g9, 3, none⟩ = some (.int .i64 wi) := (blk_cell (Hd6.out).blk 3).trans rfl; have f_grid_3 := blk_frozen (Hd6.out).blk 3; have c_grid_4 : wd6.cell? ⟨g9, 4, none⟩ = some (.int .u64 s) := (blk_cell (Hd6.out).blk 4).trans rfl; have f_grid_4 := blk_frozen (Hd6.out).blk 4) | ((go_at_call 9); (with_reducible refine (joustlaw17_awake.calls 100 true wd6 awake_eq).mono ?_); rintro e_ wd7 ⟨rfl, hb_⟩; have h_new := Hd6.out.step hb_; clear hb_; have Hd7 := Aside0.mk h_new; clear h_new Hd6; clear c_cfg_0 f_cfg_0 c_cfg_1 f_cfg_1 c_cfg_2 f_cfg_2 c_cfg_3 f_cfg_3 c_cfg_4 f_cfg_4 c_grid_0 f_grid_0 c_grid_1 f_grid_1 c_grid_2 f_grid_2 c_grid_3 f_grid_3 c_grid_4 f_grid_4; have c_cfg_0 : wd7.cell? ⟨g4, 0, none⟩ = some (.int .i64 c) := (blk_cell (Hd7.out.sw).blk 0).trans rfl; have f_cfg_0 := blk_frozen (Hd7.out.sw).blk 0; have c_cfg_1 : wd7.cell? ⟨g4, 1, none⟩ = some (.int .i64 r) := (blk_cell (Hd7.out.sw).blk 1).trans rfl; have f_cfg_1 := blk_frozen (Hd7.out.sw).blk 1; have c_cfg_2 : wd7.cell? ⟨g4, 2, none⟩ = some (.int .i64 p) := (blk_cell (Hd7.out.sw).blk 2).trans rfl; have f_cfg_2 := blk_frozen (Hd7.out.sw).blk 2; have c_cfg_3 : wd7.cell? ⟨g4, 3, none⟩ = some (.int .i64 wi) := (blk_cell (Hd7.out.sw).blk 3).trans rfl; have f_cfg_3 := blk_frozen (Hd7.out.sw).blk 3; have c_cfg_4 : wd7.cell? ⟨g4, 4, none⟩ = some (.int .u64 s) := (blk_cell (Hd7.out.sw).blk 4).trans rfl; have f_cfg_4 := blk_frozen (Hd7.out.sw).blk 4; have c_grid_0 : wd7.cell? ⟨g9, 0, none⟩ = some (.int .i64 c) := (blk_cell (Hd7.out).blk 0).trans rfl; have f_grid_0 := blk_frozen (Hd7.out).blk 0; have c_grid_1 : wd7.cell? ⟨g9, 1, none⟩ = some (.int .i64 r) := (blk_cell (Hd7.out).blk 1).trans rfl; have f_grid_1 := blk_frozen (Hd7.out).blk 1; have c_grid_2 : wd7.cell? ⟨g9, 2, none⟩ = some (.int .i64 p) := (blk_cell (Hd7.out).blk 2).trans rfl; have f_grid_2 := blk_frozen (Hd7.out).blk 2; have c_grid_3 : wd7.cell? ⟨g9, 3, none⟩ = some (.int .i64 wi) := (blk_cell (Hd7.out).blk 3).trans rfl; have f_grid_3 := blk_frozen (Hd7.out).blk 3; have c_grid_4 : wd7.cell? ⟨g9, 4, none⟩ = some (.int .u64 s) := (blk_cell (Hd7.out).blk 4).trans rfl; have f_grid_4 := blk_frozen (Hd7.out).blk 4) | ((go_at_call 8); (with_reducible refine (FEW ((Hd7.out)).below).mono ?_); rintro e_ wd8 ⟨rfl, hb_⟩; have h_new := Hd7.out.step hb_; clear hb_; have Hd8 := Aside0.mk h_new; clear h_new Hd7; clear c_cfg_0 f_cfg_0 c_cfg_1 f_cfg_1 c_cfg_2 f_cfg_2 c_cfg_3 f_cfg_3 c_cfg_4 f_cfg_4 c_grid_0 f_grid_0 c_grid_1 f_grid_1 c_grid_2 f_grid_2 c_grid_3 f_grid_3 c_grid_4 f_grid_4; have c_cfg_0 : wd8.cell? ⟨g4, 0, none⟩ = some (.int .i64 c) := (blk_cell (Hd8.out.sw).blk 0).trans rfl; have f_cfg_0 := blk_frozen (Hd8.out.sw).blk 0; have c_cfg_1 : wd8.cell? ⟨g4, 1, none⟩ = some (.int .i64 r) := (blk_cell (Hd8.out.sw).blk 1).trans rfl; have f_cfg_1 := blk_frozen (Hd8.out.sw).blk 1; have c_cfg_2 : wd8.cell? ⟨g4, 2, none⟩ = some (.int .i64 p) := (blk_cell (Hd8.out.sw).blk 2).trans rfl; have f_cfg_2 := blk_frozen (Hd8.out.sw).blk 2; have c_cfg_3 : wd8.cell? ⟨g4, 3, none⟩ = some (.int .i64 wi) := (blk_cell (Hd8.out.sw).blk 3).trans rfl; have f_cfg_3 := blk_frozen (Hd8.out.sw).blk 3; have c_cfg_4 : wd8.cell? ⟨g4, 4, none⟩ = some (.int .u64 s) := (blk_cell (Hd8.out.sw).blk 4).trans rfl; have f_cfg_4 := blk_frozen (Hd8.out.sw).blk 4; have c_grid_0 : wd8.cell? ⟨g9, 0, none⟩ = some (.int .i64 c) := (blk_cell (Hd8.out).blk 0).trans rfl; have f_grid_0 := blk_frozen (Hd8.out).blk 0; have c_grid_1 : wd8.cell? ⟨g9, 1, none⟩ = some (.int .i64 r) := (blk_cell (Hd8.out).blk 1).trans rfl; have f_grid_1 := blk_frozen (Hd8.out).blk 1; have c_grid_2 : wd8.cell? ⟨g9, 2, none⟩ = some (.int .i64 p) := (blk_cell (Hd8.out).blk 2).trans rfl; have f_grid_2 := blk_frozen (Hd8.out).blk 2; have c_grid_3 : wd8.cell? ⟨g9, 3, none⟩ = some (.int .i64 wi) := (blk_cell (Hd8.out).blk 3).trans rfl; have f_grid_3 := blk_frozen (Hd8.out).blk 3; have c_grid_4 : wd8.cell? ⟨g9, 4, none⟩ = some (.int .u64 s) := (blk_cell (Hd8.out).blk 4).trans rfl; have f_grid_4 := blk_frozen (Hd8.out).blk 4) | ((go_at_call 14); (with_reducible refine (FIT ((Hd8.out))).mono ?_); rintro e_ wd9 ⟨Aa, ca, rfl, h_new⟩; have Hd9 := Aside0.mk h_new; clear h_new Hd8; clear c_cfg_0 f_cfg_0 c_cfg_1 f_cfg_1 c_cfg_2 f_cfg_2 c_cfg_3 f_cfg_3 c_cfg_4 f_cfg_4 c_grid_0 f_grid_0 c_grid_1 f_grid_1 c_grid_2 f_grid_2 c_grid_3 f_grid_3 c_grid_4 f_grid_4; have c_cfg_0 : wd9.cell? ⟨g4, 0, none⟩ = some (.int .i64 c) := (blk_cell (Hd9.out.up2).blk 0).trans rfl; have f_cfg_0 := blk_frozen (Hd9.out.up2).blk 0; have c_cfg_1 : wd9.cell? ⟨g4, 1, none⟩ = some (.int .i64 r) := (blk_cell (Hd9.out.up2).blk 1).trans rfl; have f_cfg_1 := blk_frozen (Hd9.out.up2).blk 1; have c_cfg_2 : wd9.cell? ⟨g4, 2, none⟩ = some (.int .i64 p) := (blk_cell (Hd9.out.up2).blk 2).trans rfl; have f_cfg_2 := blk_frozen (Hd9.out.up2).blk 2; have c_cfg_3 : wd9.cell? ⟨g4, 3, none⟩ = some (.int .i64 wi) := (blk_cell (Hd9.out.up2).blk 3).trans rfl; have f_cfg_3 := blk_frozen (Hd9.out.up2).blk 3; have c_cfg_4 : wd9.cell? ⟨g4, 4, none⟩ = some (.int .u64 s) := (blk_cell (Hd9.out.up2).blk 4).trans rfl; have f_cfg_4 := blk_frozen (Hd9.out.up2).blk 4; have c_grid_0 : wd9.cell? ⟨g9, 0, none⟩ = some (.int .i64 c) := (blk_cell (Hd9.out.sw).blk 0).trans rfl; have f_grid_0 := blk_frozen (Hd9.out.sw).blk 0; have c_grid_1 : wd9.cell? ⟨g9, 1, none⟩ = some (.int .i64 r) := (blk_cell (Hd9.out.sw).blk 1).trans rfl; have f_grid_1 := blk_frozen (Hd9.out.sw).blk 1; have c_grid_2 : wd9.cell? ⟨g9, 2, none⟩ = some (.int .i64 p) := (blk_cell (Hd9.out.sw).blk 2).trans rfl; have f_grid_2 := blk_frozen (Hd9.out.sw).blk 2; have c_grid_3 : wd9.cell? ⟨g9, 3, none⟩ = some (.int .i64 wi) := (blk_cell (Hd9.out.sw).blk 3).trans rfl; have f_grid_3 := blk_frozen (Hd9.out.sw).blk 3; have c_grid_4 : wd9.cell? ⟨g9, 4, none⟩ = some (.int .u64 s) := (blk_cell (Hd9.out.sw).blk 4).trans rfl; have f_grid_4 := blk_frozen (Hd9.out.sw).blk 4))
    obtain ⟨R, O, hRL, hRA, hLA, hREAD⟩ := lines_open (Hd9.out.up2.up2.up2)
    clear Hd9
    have HRA := Aside0.mk hRA
    have HREAD := Aside0.mk @hREAD
    have HX := Aside0.mk (hLA.rowNil (kcells 4) 44)
    clear hRL hRA hLA hREAD
    go_loopg [10, 11] (n + 1) (fun kq v10 v11 w' => ∃ (i L : Nat) (js : List Nat) (Aj : Option Addr) (cj : Nat), v10 = .slice Aj L cj ∧ v11 = .int .i64 (i : Int) ∧ Aside0 (i + kq = n + 1) ∧ Aside0 (i ≤ n) ∧ Aside0 (js = firsts Y i) ∧ Aside0 (js.length = L) ∧ Aside0 (Has w w.heap.size w' [row (kcells 4) 44 (.slice Aj L cj) (rawAt R js), row (kcells 4) 44 (.slice Aa n ca) R, O, blk g9 (.cells #[.int .i64 c, .int .i64 r, .int .i64 p, .int .i64 wi, .int .u64 s] 27 (0, 0)), blk g4 (.cells #[.int .i64 c, .int .i64 r, .int .i64 p, .int .i64 wi, .int .u64 s] 24 (0, 0))])) 
    case atStart => exact ⟨0, 0, [], none, 0, rfl, rfl, ⟨by omega⟩, ⟨by omega⟩, ⟨rfl⟩, ⟨rfl⟩, HX⟩
    case round =>
      clear HX
      obtain ⟨i, L, js, Aj, cj, rfl, rfl, HK, HI, HJ, HL, HW⟩ := hrel
      have hii := HI.out
      have hL20 : L ≤ i := by rw [← HL.out, HJ.out]; exact firsts_len Y i
      by_cases hil : i < n
      · have e1 : decide ((i : Int) < (n : Int)) = true := decide_eq_true (by omega)
        have e2 : decide (i < n) = true := decide_eq_true (by omega)
        have i0 : (0 : Int) ≤ (i : Int) := by omega
        have i1 : (i : Int) < (n : Int) := by omega
        obtain ⟨y, hy⟩ : ∃ y, Y[i]? = some y := ⟨Y[i]'(by rw [HYL.out]; exact hil), List.getElem?_eq_getElem _⟩
        obtain ⟨v2, v3, hRi, ho2, ho3, _⟩ := HRA.out i y hy
        have HY := Aside0.mk hy
        have HRI := Aside0.mk hRi
        clear hy hRi
        obtain ⟨gl, rfl⟩ := HW.out.sw.rowAt (by omega)
        cases gk with
        | zero => exact absurd HK.out (by omega)
        | succ k1 =>
          go_wp2
          go_loopg [12, 13] (L + 1) (fun kq v12 v13 w' => ∃ (k : Nat) (ag : Bool), v12 = .bool ag ∧ v13 = .int .i64 (k : Int) ∧ Aside0 (k + kq = L + 1) ∧ Aside0 (k ≤ L) ∧ Aside0 (hasRg Y (js.take k) y.f0 = ag) ∧ Aside0 (Has w w.heap.size w' [row (kcells 4) 44 (.slice Aj L cj) (rawAt R js), row (kcells 4) 44 (.slice (some ⟨gl, 0, none⟩) n ca) R, O, blk g9 (.cells #[.int .i64 c, .int .i64 r, .int .i64 p, .int .i64 wi, .int .u64 s] 27 (0, 0)), blk g4 (.cells #[.int .i64 c, .int .i64 r, .int .i64 p, .int .i64 wi, .int .u64 s] 24 (0, 0))]))
          case atStart => exact ⟨0, false, rfl, rfl, ⟨by omega⟩, ⟨by omega⟩, ⟨rfl⟩, HW⟩
          case round =>
            clear HW
            obtain ⟨k, ag, rfl, rfl, HK2, HI2, HAG, HV⟩ := hrel
            have hkk := HI2.out
            by_cases hkl : k < L
            · have e3 : decide ((k : Int) < (L : Int)) = true := decide_eq_true (by omega)
              have e4 : decide (k < L) = true := decide_eq_true (by omega)
              have k0 : (0 : Int) ≤ (k : Int) := by omega
              have k1' : (k : Int) < (L : Int) := by omega
              obtain ⟨b, hb⟩ : ∃ b, js[k]? = some b := ⟨js[k]'(by rw [HL.out]; exact hkl), List.getElem?_eq_getElem _⟩
              obtain ⟨z, hz⟩ : ∃ z, Y[b]? = some z := ⟨Y[b]'((firsts_js Y i (by rw [HYL.out]; exact hii)).lt b (by rw [← HJ.out]; exact List.mem_of_getElem? hb)), List.getElem?_eq_getElem _⟩
              obtain ⟨u2, u3, hRb, _, _, _⟩ := HRA.out b z hz
              have HRB := Aside0.mk (rawAt_at hb hRb)
              have HSU := Aside0.mk (hasRg_succ (q := y.f0) hb hz)
              clear hb hz hRb
              obtain ⟨gj, rfl⟩ := HV.out.rowAt (by omega)
              cases gk with
              | zero => exact absurd HK2.out (by omega)
              | succ k2 =>
                rcases Bool.eq_false_or_eq_true ag with rfl | rfl
                · skip
                  have a0 : wr.cell? ⟨gj, k * 4, none⟩ = some (.int .i64 z.f0) := Has.rawCell (f := 0) (HV.out) HRB.out rfl
                  have l0 : wr.cell? ⟨gl, i * 4, none⟩ = some (.int .i64 y.f0) := Has.rawCell (f := 0) (HV.out.sw) HRI.out rfl
                  go_wp2
                  have He1r1 := Aside0.mk HV.out.drew
                  clear a0 l0
                  have a0 : (wr).drew.cell? ⟨gj, k * 4, none⟩ = some (.int .i64 z.f0) := Has.rawCell (f := 0) (He1r1.out) HRB.out rfl
                  have l0 : (wr).drew.cell? ⟨gl, i * 4, none⟩ = some (.int .i64 y.f0) := Has.rawCell (f := 0) (He1r1.out.sw) HRI.out rfl
                  refine wp_regionK (T := (fun w' => w'.cell? ⟨gj, k * 4, none⟩ = some (.int .i64 z.f0) ∧ w'.cell? ⟨gl, i * 4, none⟩ = some (.int .i64 y.f0))) 15 (by kernel_rfl) ?_ (fun hHeld => ?_)
                  · exact ⟨a0, l0⟩
                  refine takeWK (i := 0) (v := ?_) rfl rfl (by kernel_rfl) (by kernel_rfl) (by kernel_rfl) (by kernel_rfl) (by rfl) (by rfl) (by kernel_rfl) (fun _ _ _ h => h) (by rfl) ?_ hHeld ?_
                  rotate_left 1
                  · (intro w hSw; (try dsimp only at hSw); go_simp <;> (try with_reducible rfl))
                  (try simp only [Act.put, List.setIfInBounds_toArray, List.set_cons_zero, List.set_cons_succ])
                  refine takeWK (i := 1) (v := ?_) rfl rfl (by kernel_rfl) (by kernel_rfl) (by kernel_rfl) (by kernel_rfl) (by rfl) (by rfl) (by kernel_rfl) (fun _ _ _ h => h) (by rfl) ?_ hHeld ?_
                  rotate_left 1
                  · (intro w hSw; (try dsimp only at hSw); go_simp <;> (try with_reducible rfl))
                  (try simp only [Act.put, List.setIfInBounds_toArray, List.set_cons_zero, List.set_cons_succ])
                  refine takeUK (i := 2) rfl rfl (by kernel_rfl) (by kernel_rfl) (by kernel_rfl) (by kernel_rfl) (by rfl) (by rfl) (by kernel_rfl) (fun _ _ _ h => h) (by rfl) hHeld ?_
                  (try simp only [Act.put, List.setIfInBounds_toArray, List.set_cons_zero, List.set_cons_succ])
                  refine takeUK (i := 3) rfl rfl (by kernel_rfl) (by kernel_rfl) (by kernel_rfl) (by kernel_rfl) (by rfl) (by rfl) (by kernel_rfl) (fun _ _ _ h => h) (by rfl) hHeld ?_
                  (try simp only [Act.put, List.setIfInBounds_toArray, List.set_cons_zero, List.set_cons_succ])
                  refine takeUK (i := 4) rfl rfl (by kernel_rfl) (by kernel_rfl) (by kernel_rfl) (by kernel_rfl) (by rfl) (by rfl) (by kernel_rfl) (fun _ _ _ h => h) (by rfl) hHeld ?_
                  (try simp only [Act.put, List.setIfInBounds_toArray, List.set_cons_zero, List.set_cons_succ])
                  refine takeUK (i := 5) rfl rfl (by kernel_rfl) (by kernel_rfl) (by kernel_rfl) (by kernel_rfl) (by rfl) (by rfl) (by kernel_rfl) (fun _ _ _ h => h) (by rfl) hHeld ?_
                  (try simp only [Act.put, List.setIfInBounds_toArray, List.set_cons_zero, List.set_cons_succ])
                  refine takeUK (i := 6) rfl rfl (by kernel_rfl) (by kernel_rfl) (by kernel_rfl) (by kernel_rfl) (by rfl) (by rfl) (by kernel_rfl) (fun _ _ _ h => h) (by rfl) hHeld ?_
                  (try simp only [Act.put, List.setIfInBounds_toArray, List.set_cons_zero, List.set_cons_succ])
                  refine takeUK (i := 7) rfl rfl (by kernel_rfl) (by kernel_rfl) (by kernel_rfl) (by kernel_rfl) (by rfl) (by rfl) (by kernel_rfl) (fun _ _ _ h => h) (by rfl) hHeld ?_
                  (try simp only [Act.put, List.setIfInBounds_toArray, List.set_cons_zero, List.set_cons_succ])
                  refine takeUK (i := 8) rfl rfl (by kernel_rfl) (by kernel_rfl) (by kernel_rfl) (by kernel_rfl) (by rfl) (by rfl) (by kernel_rfl) (fun _ _ _ h => h) (by rfl) hHeld ?_
                  (try simp only [Act.put, List.setIfInBounds_toArray, List.set_cons_zero, List.set_cons_succ])
                  refine takeUK (i := 9) rfl rfl (by kernel_rfl) (by kernel_rfl) (by kernel_rfl) (by kernel_rfl) (by rfl) (by rfl) (by kernel_rfl) (fun _ _ _ h => h) (by rfl) hHeld ?_
                  (try simp only [Act.put, List.setIfInBounds_toArray, List.set_cons_zero, List.set_cons_succ])
                  refine takeUK (i := 10) rfl rfl (by kernel_rfl) (by kernel_rfl) (by kernel_rfl) (by kernel_rfl) (by rfl) (by rfl) (by kernel_rfl) (fun _ _ _ h => h) (by rfl) hHeld ?_
                  (try simp only [Act.put, List.setIfInBounds_toArray, List.set_cons_zero, List.set_cons_succ])
                  refine takeUK (i := 11) rfl rfl (by kernel_rfl) (by kernel_rfl) (by kernel_rfl) (by kernel_rfl) (by rfl) (by rfl) (by kernel_rfl) (fun _ _ _ h => h) (by rfl) hHeld ?_
                  (try simp only [Act.put, List.setIfInBounds_toArray, List.set_cons_zero, List.set_cons_succ])
                  refine takeUK (i := 12) rfl rfl (by kernel_rfl) (by kernel_rfl) (by kernel_rfl) (by kernel_rfl) (by rfl) (by rfl) (by kernel_rfl) (fun _ _ _ h => h) (by rfl) hHeld ?_
                  (try simp only [Act.put, List.setIfInBounds_toArray, List.set_cons_zero, List.set_cons_succ])
                  refine takeWK (i := 13) (v := ?_) rfl rfl (by kernel_rfl) (by kernel_rfl) (by kernel_rfl) (by kernel_rfl) (by rfl) (by rfl) (by kernel_rfl) (fun _ _ _ h => h) (by rfl) ?_ hHeld ?_
                  rotate_left 1
                  · (intro w hSw; (try dsimp only at hSw); go_simp <;> (try with_reducible rfl))
                  (try simp only [Act.put, List.setIfInBounds_toArray, List.set_cons_zero, List.set_cons_succ])
                  refine takeWK (i := 14) (v := ?_) rfl rfl (by kernel_rfl) (by kernel_rfl) (by kernel_rfl) (by kernel_rfl) (by rfl) (by rfl) (by kernel_rfl) (fun _ _ _ h => h) (by rfl) ?_ hHeld ?_
                  rotate_left 1
                  · (intro w hSw; (try dsimp only at hSw); go_simp <;> (try with_reducible rfl))
                  (try simp only [Act.put, List.setIfInBounds_toArray, List.set_cons_zero, List.set_cons_succ])
                  refine doneK (by kernel_rfl) ?_ _
                  go_wp2
                  go_roundg k2
                  case measure => have := HK2.out; omega
                  case rel => exact ⟨k + 1, true, rfl, rfl, ⟨by have := HK2.out; omega⟩, ⟨by omega⟩, ⟨by rw [HSU.out, HAG.out]; rfl⟩, ⟨He1r1.out⟩⟩
                · by_cases hzy : z.f0 = y.f0
                  · have t1 : decide (z.f0 = y.f0) = true := decide_eq_true hzy
                    have t2 : (z.f0 == y.f0) = true := by simp [hzy]
                    have HZ := Aside0.mk t1
                    clear hzy
                    skip
                    have a0 : wr.cell? ⟨gj, k * 4, none⟩ = some (.int .i64 z.f0) := Has.rawCell (f := 0) (HV.out) HRB.out rfl
                    have l0 : wr.cell? ⟨gl, i * 4, none⟩ = some (.int .i64 y.f0) := Has.rawCell (f := 0) (HV.out.sw) HRI.out rfl
                    go_wp2
                    have He2r1 := Aside0.mk HV.out.drew
                    clear a0 l0
                    have a0 : (wr).drew.cell? ⟨gj, k * 4, none⟩ = some (.int .i64 z.f0) := Has.rawCell (f := 0) (He2r1.out) HRB.out rfl
                    have l0 : (wr).drew.cell? ⟨gl, i * 4, none⟩ = some (.int .i64 y.f0) := Has.rawCell (f := 0) (He2r1.out.sw) HRI.out rfl
                    refine wp_regionK (T := (fun w' => w'.cell? ⟨gj, k * 4, none⟩ = some (.int .i64 z.f0) ∧ w'.cell? ⟨gl, i * 4, none⟩ = some (.int .i64 y.f0))) 15 (by kernel_rfl) ?_ (fun hHeld => ?_)
                    · exact ⟨a0, l0⟩
                    refine takeWK (i := 0) (v := ?_) rfl rfl (by kernel_rfl) (by kernel_rfl) (by kernel_rfl) (by kernel_rfl) (by rfl) (by rfl) (by kernel_rfl) (fun _ _ _ h => h) (by rfl) ?_ hHeld ?_
                    rotate_left 1
                    · (intro w hSw; (try dsimp only at hSw); go_simp <;> (try with_reducible rfl))
                    (try simp only [Act.put, List.setIfInBounds_toArray, List.set_cons_zero, List.set_cons_succ])
                    refine takeWK (i := 1) (v := ?_) rfl rfl (by kernel_rfl) (by kernel_rfl) (by kernel_rfl) (by kernel_rfl) (by rfl) (by rfl) (by kernel_rfl) (fun _ _ _ h => h) (by rfl) ?_ hHeld ?_
                    rotate_left 1
                    · (intro w hSw; (try dsimp only at hSw); go_simp <;> (try with_reducible rfl))
                    (try simp only [Act.put, List.setIfInBounds_toArray, List.set_cons_zero, List.set_cons_succ])
                    refine takeWK (i := 2) (v := ?_) rfl rfl (by kernel_rfl) (by kernel_rfl) (by kernel_rfl) (by kernel_rfl) (by rfl) (by rfl) (by kernel_rfl) (fun _ _ _ h => h) (by rfl) ?_ hHeld ?_
                    rotate_left 1
                    · (intro w hSw; (try dsimp only at hSw); go_simp <;> (try with_reducible rfl))
                    (try simp only [Act.put, List.setIfInBounds_toArray, List.set_cons_zero, List.set_cons_succ])
                    refine takeWK (i := 3) (v := ?_) rfl rfl (by kernel_rfl) (by kernel_rfl) (by kernel_rfl) (by kernel_rfl) (by rfl) (by rfl) (by kernel_rfl) (fun _ _ _ h => h) (by rfl) ?_ hHeld ?_
                    rotate_left 1
                    · (intro w hSw; (try dsimp only at hSw); go_simp <;> (try with_reducible rfl))
                    (try simp only [Act.put, List.setIfInBounds_toArray, List.set_cons_zero, List.set_cons_succ])
                    refine takeWK (i := 4) (v := ?_) rfl rfl (by kernel_rfl) (by kernel_rfl) (by kernel_rfl) (by kernel_rfl) (by rfl) (by rfl) (by kernel_rfl) (fun _ _ _ h => h) (by rfl) ?_ hHeld ?_
                    rotate_left 1
                    · (intro w hSw; (try dsimp only at hSw); go_simp <;> (try with_reducible rfl))
                    (try simp only [Act.put, List.setIfInBounds_toArray, List.set_cons_zero, List.set_cons_succ])
                    refine takeWK (i := 5) (v := ?_) rfl rfl (by kernel_rfl) (by kernel_rfl) (by kernel_rfl) (by kernel_rfl) (by rfl) (by rfl) (by kernel_rfl) (fun _ _ _ h => h) (by rfl) ?_ hHeld ?_
                    rotate_left 1
                    · (intro w hSw; (try dsimp only at hSw); go_simp <;> (try with_reducible rfl))
                    (try simp only [Act.put, List.setIfInBounds_toArray, List.set_cons_zero, List.set_cons_succ])
                    refine takeWK (i := 6) (v := ?_) rfl rfl (by kernel_rfl) (by kernel_rfl) (by kernel_rfl) (by kernel_rfl) (by rfl) (by rfl) (by kernel_rfl) (fun _ _ _ h => h) (by rfl) ?_ hHeld ?_
                    rotate_left 1
                    · (intro w hSw; (try dsimp only at hSw); go_simp <;> (try with_reducible rfl))
                    (try simp only [Act.put, List.setIfInBounds_toArray, List.set_cons_zero, List.set_cons_succ])
                    refine takeWK (i := 7) (v := ?_) rfl rfl (by kernel_rfl) (by kernel_rfl) (by kernel_rfl) (by kernel_rfl) (by rfl) (by rfl) (by kernel_rfl) (fun _ _ _ h => h) (by rfl) ?_ hHeld ?_
                    rotate_left 1
                    · (intro w hSw; (try dsimp only at hSw); go_simp <;> (try with_reducible rfl))
                    (try simp only [Act.put, List.setIfInBounds_toArray, List.set_cons_zero, List.set_cons_succ])
                    refine takeWK (i := 8) (v := ?_) rfl rfl (by kernel_rfl) (by kernel_rfl) (by kernel_rfl) (by kernel_rfl) (by rfl) (by rfl) (by kernel_rfl) (fun _ _ _ h => h) (by rfl) ?_ hHeld ?_
                    rotate_left 1
                    · (intro w hSw; (try dsimp only at hSw); go_simp <;> (try with_reducible rfl))
                    (try simp only [Act.put, List.setIfInBounds_toArray, List.set_cons_zero, List.set_cons_succ])
                    refine takeWK (i := 9) (v := ?_) rfl rfl (by kernel_rfl) (by kernel_rfl) (by kernel_rfl) (by kernel_rfl) (by rfl) (by rfl) (by kernel_rfl) (fun _ _ _ h => h) (by rfl) ?_ hHeld ?_
                    rotate_left 1
                    · (intro w hSw; (try dsimp only at hSw); go_simp <;> (try with_reducible rfl))
                    (try simp only [Act.put, List.setIfInBounds_toArray, List.set_cons_zero, List.set_cons_succ])
                    refine takeWK (i := 10) (v := ?_) rfl rfl (by kernel_rfl) (by kernel_rfl) (by kernel_rfl) (by kernel_rfl) (by rfl) (by rfl) (by kernel_rfl) (fun _ _ _ h => h) (by rfl) ?_ hHeld ?_
                    rotate_left 1
                    · (intro w hSw; (try dsimp only at hSw); go_simp <;> (try with_reducible rfl))
                    (try simp only [Act.put, List.setIfInBounds_toArray, List.set_cons_zero, List.set_cons_succ])
                    refine takeWK (i := 11) (v := ?_) rfl rfl (by kernel_rfl) (by kernel_rfl) (by kernel_rfl) (by kernel_rfl) (by rfl) (by rfl) (by kernel_rfl) (fun _ _ _ h => h) (by rfl) ?_ hHeld ?_
                    rotate_left 1
                    · (intro w hSw; (try dsimp only at hSw); go_simp <;> (try with_reducible rfl))
                    (try simp only [Act.put, List.setIfInBounds_toArray, List.set_cons_zero, List.set_cons_succ])
                    refine takeWK (i := 12) (v := ?_) rfl rfl (by kernel_rfl) (by kernel_rfl) (by kernel_rfl) (by kernel_rfl) (by rfl) (by rfl) (by kernel_rfl) (fun _ _ _ h => h) (by rfl) ?_ hHeld ?_
                    rotate_left 1
                    · (intro w hSw; (try dsimp only at hSw); go_simp <;> (try with_reducible rfl))
                    (try simp only [Act.put, List.setIfInBounds_toArray, List.set_cons_zero, List.set_cons_succ])
                    refine takeWK (i := 13) (v := ?_) rfl rfl (by kernel_rfl) (by kernel_rfl) (by kernel_rfl) (by kernel_rfl) (by rfl) (by rfl) (by kernel_rfl) (fun _ _ _ h => h) (by rfl) ?_ hHeld ?_
                    rotate_left 1
                    · (intro w hSw; (try dsimp only at hSw); go_simp <;> (try with_reducible rfl))
                    (try simp only [Act.put, List.setIfInBounds_toArray, List.set_cons_zero, List.set_cons_succ])
                    refine takeWK (i := 14) (v := ?_) rfl rfl (by kernel_rfl) (by kernel_rfl) (by kernel_rfl) (by kernel_rfl) (by rfl) (by rfl) (by kernel_rfl) (fun _ _ _ h => h) (by rfl) ?_ hHeld ?_
                    rotate_left 1
                    · (intro w hSw; (try dsimp only at hSw); go_simp <;> (try with_reducible rfl))
                    (try simp only [Act.put, List.setIfInBounds_toArray, List.set_cons_zero, List.set_cons_succ])
                    refine doneK (by kernel_rfl) ?_ _
                    go_wp2
                    go_roundg k2
                    case measure => have := HK2.out; omega
                    case rel => exact ⟨k + 1, true, rfl, rfl, ⟨by have := HK2.out; omega⟩, ⟨by omega⟩, ⟨by rw [HSU.out, HAG.out, HZ.out]; rfl⟩, ⟨He2r1.out⟩⟩
                  · have t1 : decide (z.f0 = y.f0) = false := decide_eq_false hzy
                    have t2 : (z.f0 == y.f0) = false := by simp [hzy]
                    have HZ := Aside0.mk t1
                    clear hzy
                    skip
                    have a0 : wr.cell? ⟨gj, k * 4, none⟩ = some (.int .i64 z.f0) := Has.rawCell (f := 0) (HV.out) HRB.out rfl
                    have l0 : wr.cell? ⟨gl, i * 4, none⟩ = some (.int .i64 y.f0) := Has.rawCell (f := 0) (HV.out.sw) HRI.out rfl
                    go_wp2
                    have He3r1 := Aside0.mk HV.out.drew
                    clear a0 l0
                    have a0 : (wr).drew.cell? ⟨gj, k * 4, none⟩ = some (.int .i64 z.f0) := Has.rawCell (f := 0) (He3r1.out) HRB.out rfl
                    have l0 : (wr).drew.cell? ⟨gl, i * 4, none⟩ = some (.int .i64 y.f0) := Has.rawCell (f := 0) (He3r1.out.sw) HRI.out rfl
                    refine wp_regionK (T := (fun w' => w'.cell? ⟨gj, k * 4, none⟩ = some (.int .i64 z.f0) ∧ w'.cell? ⟨gl, i * 4, none⟩ = some (.int .i64 y.f0))) 15 (by kernel_rfl) ?_ (fun hHeld => ?_)
                    · exact ⟨a0, l0⟩
                    refine takeWK (i := 0) (v := ?_) rfl rfl (by kernel_rfl) (by kernel_rfl) (by kernel_rfl) (by kernel_rfl) (by rfl) (by rfl) (by kernel_rfl) (fun _ _ _ h => h) (by rfl) ?_ hHeld ?_
                    rotate_left 1
                    · (intro w hSw; (try dsimp only at hSw); go_simp <;> (try with_reducible rfl))
                    (try simp only [Act.put, List.setIfInBounds_toArray, List.set_cons_zero, List.set_cons_succ])
                    refine takeWK (i := 1) (v := ?_) rfl rfl (by kernel_rfl) (by kernel_rfl) (by kernel_rfl) (by kernel_rfl) (by rfl) (by rfl) (by kernel_rfl) (fun _ _ _ h => h) (by rfl) ?_ hHeld ?_
                    rotate_left 1
                    · (intro w hSw; (try dsimp only at hSw); go_simp <;> (try with_reducible rfl))
                    (try simp only [Act.put, List.setIfInBounds_toArray, List.set_cons_zero, List.set_cons_succ])
                    refine takeWK (i := 2) (v := ?_) rfl rfl (by kernel_rfl) (by kernel_rfl) (by kernel_rfl) (by kernel_rfl) (by rfl) (by rfl) (by kernel_rfl) (fun _ _ _ h => h) (by rfl) ?_ hHeld ?_
                    rotate_left 1
                    · (intro w hSw; (try dsimp only at hSw); go_simp <;> (try with_reducible rfl))
                    (try simp only [Act.put, List.setIfInBounds_toArray, List.set_cons_zero, List.set_cons_succ])
                    refine takeWK (i := 3) (v := ?_) rfl rfl (by kernel_rfl) (by kernel_rfl) (by kernel_rfl) (by kernel_rfl) (by rfl) (by rfl) (by kernel_rfl) (fun _ _ _ h => h) (by rfl) ?_ hHeld ?_
                    rotate_left 1
                    · (intro w hSw; (try dsimp only at hSw); go_simp <;> (try with_reducible rfl))
                    (try simp only [Act.put, List.setIfInBounds_toArray, List.set_cons_zero, List.set_cons_succ])
                    refine takeWK (i := 4) (v := ?_) rfl rfl (by kernel_rfl) (by kernel_rfl) (by kernel_rfl) (by kernel_rfl) (by rfl) (by rfl) (by kernel_rfl) (fun _ _ _ h => h) (by rfl) ?_ hHeld ?_
                    rotate_left 1
                    · (intro w hSw; (try dsimp only at hSw); go_simp <;> (try with_reducible rfl))
                    (try simp only [Act.put, List.setIfInBounds_toArray, List.set_cons_zero, List.set_cons_succ])
                    refine takeWK (i := 5) (v := ?_) rfl rfl (by kernel_rfl) (by kernel_rfl) (by kernel_rfl) (by kernel_rfl) (by rfl) (by rfl) (by kernel_rfl) (fun _ _ _ h => h) (by rfl) ?_ hHeld ?_
                    rotate_left 1
                    · (intro w hSw; (try dsimp only at hSw); go_simp <;> (try with_reducible rfl))
                    (try simp only [Act.put, List.setIfInBounds_toArray, List.set_cons_zero, List.set_cons_succ])
                    refine takeWK (i := 6) (v := ?_) rfl rfl (by kernel_rfl) (by kernel_rfl) (by kernel_rfl) (by kernel_rfl) (by rfl) (by rfl) (by kernel_rfl) (fun _ _ _ h => h) (by rfl) ?_ hHeld ?_
                    rotate_left 1
                    · (intro w hSw; (try dsimp only at hSw); go_simp <;> (try with_reducible rfl))
                    (try simp only [Act.put, List.setIfInBounds_toArray, List.set_cons_zero, List.set_cons_succ])
                    refine takeWK (i := 7) (v := ?_) rfl rfl (by kernel_rfl) (by kernel_rfl) (by kernel_rfl) (by kernel_rfl) (by rfl) (by rfl) (by kernel_rfl) (fun _ _ _ h => h) (by rfl) ?_ hHeld ?_
                    rotate_left 1
                    · (intro w hSw; (try dsimp only at hSw); go_simp <;> (try with_reducible rfl))
                    (try simp only [Act.put, List.setIfInBounds_toArray, List.set_cons_zero, List.set_cons_succ])
                    refine takeWK (i := 8) (v := ?_) rfl rfl (by kernel_rfl) (by kernel_rfl) (by kernel_rfl) (by kernel_rfl) (by rfl) (by rfl) (by kernel_rfl) (fun _ _ _ h => h) (by rfl) ?_ hHeld ?_
                    rotate_left 1
                    · (intro w hSw; (try dsimp only at hSw); go_simp <;> (try with_reducible rfl))
                    (try simp only [Act.put, List.setIfInBounds_toArray, List.set_cons_zero, List.set_cons_succ])
                    refine takeWK (i := 9) (v := ?_) rfl rfl (by kernel_rfl) (by kernel_rfl) (by kernel_rfl) (by kernel_rfl) (by rfl) (by rfl) (by kernel_rfl) (fun _ _ _ h => h) (by rfl) ?_ hHeld ?_
                    rotate_left 1
                    · (intro w hSw; (try dsimp only at hSw); go_simp <;> (try with_reducible rfl))
                    (try simp only [Act.put, List.setIfInBounds_toArray, List.set_cons_zero, List.set_cons_succ])
                    refine takeWK (i := 10) (v := ?_) rfl rfl (by kernel_rfl) (by kernel_rfl) (by kernel_rfl) (by kernel_rfl) (by rfl) (by rfl) (by kernel_rfl) (fun _ _ _ h => h) (by rfl) ?_ hHeld ?_
                    rotate_left 1
                    · (intro w hSw; (try dsimp only at hSw); go_simp <;> (try with_reducible rfl))
                    (try simp only [Act.put, List.setIfInBounds_toArray, List.set_cons_zero, List.set_cons_succ])
                    refine takeWK (i := 11) (v := ?_) rfl rfl (by kernel_rfl) (by kernel_rfl) (by kernel_rfl) (by kernel_rfl) (by rfl) (by rfl) (by kernel_rfl) (fun _ _ _ h => h) (by rfl) ?_ hHeld ?_
                    rotate_left 1
                    · (intro w hSw; (try dsimp only at hSw); go_simp <;> (try with_reducible rfl))
                    (try simp only [Act.put, List.setIfInBounds_toArray, List.set_cons_zero, List.set_cons_succ])
                    refine takeWK (i := 12) (v := ?_) rfl rfl (by kernel_rfl) (by kernel_rfl) (by kernel_rfl) (by kernel_rfl) (by rfl) (by rfl) (by kernel_rfl) (fun _ _ _ h => h) (by rfl) ?_ hHeld ?_
                    rotate_left 1
                    · (intro w hSw; (try dsimp only at hSw); go_simp <;> (try with_reducible rfl))
                    (try simp only [Act.put, List.setIfInBounds_toArray, List.set_cons_zero, List.set_cons_succ])
                    refine takeWK (i := 13) (v := ?_) rfl rfl (by kernel_rfl) (by kernel_rfl) (by kernel_rfl) (by kernel_rfl) (by rfl) (by rfl) (by kernel_rfl) (fun _ _ _ h => h) (by rfl) ?_ hHeld ?_
                    rotate_left 1
                    · (intro w hSw; (try dsimp only at hSw); go_simp <;> (try with_reducible rfl))
                    (try simp only [Act.put, List.setIfInBounds_toArray, List.set_cons_zero, List.set_cons_succ])
                    refine takeWK (i := 14) (v := ?_) rfl rfl (by kernel_rfl) (by kernel_rfl) (by kernel_rfl) (by kernel_rfl) (by rfl) (by rfl) (by kernel_rfl) (fun _ _ _ h => h) (by rfl) ?_ hHeld ?_
                    rotate_left 1
                    · (intro w hSw; (try dsimp only at hSw); go_simp <;> (try with_reducible rfl))
                    (try simp only [Act.put, List.setIfInBounds_toArray, List.set_cons_zero, List.set_cons_succ])
                    refine doneK (by kernel_rfl) ?_ _
                    go_wp2
                    go_roundg k2
                    case measure => have := HK2.out; omega
                    case rel => exact ⟨k + 1, false, rfl, rfl, ⟨by have := HK2.out; omega⟩, ⟨by omega⟩, ⟨by rw [HSU.out, HAG.out, HZ.out]; rfl⟩, ⟨He3r1.out⟩⟩
            · have e3 : decide ((k : Int) < (L : Int)) = false := decide_eq_false (by omega)
              have e4 : decide (k < L) = false := decide_eq_false (by omega)
              obtain rfl : k = L := by omega
              have HAG' : Aside0 (hasRg Y js y.f0 = ag) := ⟨by rw [← HAG.out, ← HL.out, List.take_length]⟩
              clear HAG HK2 HI2
              rcases Bool.eq_false_or_eq_true ag with rfl | rfl
              · go_wp2
                go_roundg k1
                case measure => have := HK.out; omega
                case rel => exact ⟨i + 1, k, js, Aj, cj, rfl, rfl, ⟨by have := HK.out; omega⟩, ⟨by omega⟩, ⟨firsts_yes HJ.out HY.out HAG'.out⟩, HL, HV⟩
              · skip
                have x0 : wr.cell? ⟨gl, i * 4, none⟩ = some (.int .i64 y.f0) := Has.rawCell (f := 0) (HV.out.sw) HRI.out rfl
                have x1 : wr.cell? ⟨gl, i * 4 + 1, none⟩ = some (.int .i64 y.f1) := Has.rawCell (f := 1) (HV.out.sw) HRI.out rfl
                have x2 : wr.cell? ⟨gl, i * 4 + 2, none⟩ = some v2 := Has.rawCell (f := 2) (HV.out.sw) HRI.out rfl
                have x3 : wr.cell? ⟨gl, i * 4 + 3, none⟩ = some v3 := Has.rawCell (f := 3) (HV.out.sw) HRI.out rfl
                go_wp2_with (first | ((with_reducible refine gate_dst (N := 80) rfl ?_); refine wp_litF (kcells 4) 44 rfl (N := 80) rfl (xs := [[.int .i64 y.f0, .int .i64 y.f1, v2, v3]]) (inner := [.int .i64 y.f0, .int .i64 y.f1, v2, v3]) (n := 1) ?lR ?lP rfl (by decide) (HV.out) ?_; (case lR => first | (go_simp; done) | (go_simp; rfl)); (case lP => exact reps_one (cells_ok rfl (one4 ho2 ho3)) rfl); intro gl1 c_l1 wf1 h_new hc_l1; have Hf1 := Aside0.mk h_new; clear h_new HV; clear x0 x1 x2 x3; have x0 : wf1.cell? ⟨gl, i * 4, none⟩ = some (.int .i64 y.f0) := Has.rawCell (f := 0) (Hf1.out.up2) HRI.out rfl; have x1 : wf1.cell? ⟨gl, i * 4 + 1, none⟩ = some (.int .i64 y.f1) := Has.rawCell (f := 1) (Hf1.out.up2) HRI.out rfl; have x2 : wf1.cell? ⟨gl, i * 4 + 2, none⟩ = some v2 := Has.rawCell (f := 2) (Hf1.out.up2) HRI.out rfl; have x3 : wf1.cell? ⟨gl, i * 4 + 3, none⟩ = some v3 := Has.rawCell (f := 3) (Hf1.out.up2) HRI.out rfl) | ((with_reducible refine gate_dst (N := 81) rfl ?_); at_builtin; refine wp_appR (kcells 4) rfl (.tmp 75) (.tmp 80) 25 44 (.agg #[.int .i64 0, .int .i64 0, .slice none 0 0, .slice none 0 0]) 64 rfl Try.underlying25 infoL rfl (by decide) (by decide) (n := k) (m := 1) ((rawAt R js)) ([[.int .i64 y.f0, .int .i64 y.f1, v2, v3]]) rfl rfl (Hf1.out.sw) ((rawAt_len R js).trans HL.out) ?aL ?_; (case aL => rw [rawAt_len, HL.out]; omega); intro A_a c_a wf2 h_new hc_a; rw [show ((rawAt R js)) ++ ([[.int .i64 y.f0, .int .i64 y.f1, v2, v3]]) = (rawAt R (js ++ [i])) from rawAt_snoc R js HRI.out] at h_new; have Hf2 := Aside0.mk h_new; clear h_new Hf1; clear x0 x1 x2 x3; have x0 : wf2.cell? ⟨gl, i * 4, none⟩ = some (.int .i64 y.f0) := Has.rawCell (f := 0) (Hf2.out.sw) HRI.out rfl; have x1 : wf2.cell? ⟨gl, i * 4 + 1, none⟩ = some (.int .i64 y.f1) := Has.rawCell (f := 1) (Hf2.out.sw) HRI.out rfl; have x2 : wf2.cell? ⟨gl, i * 4 + 2, none⟩ = some v2 := Has.rawCell (f := 2) (Hf2.out.sw) HRI.out rfl; have x3 : wf2.cell? ⟨gl, i * 4 + 3, none⟩ = some v3 := Has.rawCell (f := 3) (Hf2.out.sw) HRI.out rfl))
                go_roundg k1
                case measure => have := HK.out; omega
                case rel => exact ⟨i + 1, k + 1, js ++ [i], A_a, c_a, rfl, rfl, ⟨by have := HK.out; omega⟩, ⟨by omega⟩, ⟨firsts_no HJ.out HY.out HAG'.out⟩, ⟨by rw [List.length_append, HL.out]; rfl⟩, ⟨(Hf2.out.up4.up4.up4.up4.up4)⟩⟩
      · have e1 : decide ((i : Int) < (n : Int)) = false := decide_eq_false (by omega)
        have e2 : decide (i < n) = false := decide_eq_false (by omega)
        obtain rfl : n = i := by omega
        have HJS : Aside0 (Js Y js) := ⟨by rw [HJ.out]; exact firsts_js Y n (by rw [HYL.out]; exact Nat.le_refl _)⟩
        have hL20' : L ≤ 20 := by omega
        clear HK HI HJ hL20
        go_wp2_with (first | ((with_reducible refine gate_dst (N := 83) rfl ?_); at_builtin; refine wp_appNil (kcells 4) rfl (.const (.slice none 0 0)) (.tmp 82) 25 44 (.agg #[.int .i64 0, .int .i64 0, .slice none 0 0, .slice none 0 0]) 64 rfl Try.underlying25 infoL rfl (by decide) (by decide) (m := L) ((rawAt R js)) rfl rfl (HW.out) ((HW.out).rowN.2.2) (fun x cs hK => hK) (by omega) ?_; intro A_b c_b wg1 h_new hc_b; have Hg1 := Aside0.mk h_new; clear h_new HW))
        go_wp2
        go_loopg [15] (tn + 1) (fun kq v15 w' => ∃ (i : Nat) (ks : List Nat), v15 = .int .i64 (i : Int) ∧ Aside0 (i + kq = tn + 1) ∧ Aside0 (i ≤ tn) ∧ Aside0 (Js Y ks) ∧ Aside0 (ks.length = L) ∧ Aside0 (∀ j, j ∈ ks ↔ j ∈ js) ∧ Aside0 (Has w w.heap.size w' [row (kcells 4) 44 (.slice A_b L c_b) (rawAt R ks), row (kcells 4) 44 (.slice Aj L cj) (rawAt R js), row (kcells 4) 44 (.slice Aa n ca) R, O, blk g9 (.cells #[.int .i64 c, .int .i64 r, .int .i64 p, .int .i64 wi, .int .u64 s] 27 (0, 0)), blk g4 (.cells #[.int .i64 c, .int .i64 r, .int .i64 p, .int .i64 wi, .int .u64 s] 24 (0, 0))]))
        case atStart => exact ⟨0, js, rfl, ⟨by omega⟩, ⟨by omega⟩, HJS, HL, ⟨fun _ => Iff.rfl⟩, Hg1⟩
        case round =>
          clear Hg1
          obtain ⟨m, ks, rfl, HK, HI, HKS, HKL, HKM, HV⟩ := hrel
          have hmm := HI.out
          by_cases hgo : m < tn ∧ m < 40 ∧ 0 < L
          · obtain ⟨g1, g2, g3⟩ := hgo
            have e3 : decide ((m : Int) < (tn : Int)) = true := decide_eq_true (by omega)
            have e4 : decide (m < tn) = true := decide_eq_true (by omega)
            have e5 : decide ((m : Int) < 40) = true := decide_eq_true (by omega)
            have e6 : decide (m < 40) = true := decide_eq_true (by omega)
            have e7 : decide ((0 : Int) < (L : Int)) = true := decide_eq_true (by omega)
            have e8 : decide (0 < L) = true := decide_eq_true (by omega)
            have m0 : (0 : Int) ≤ (m : Int) := by omega
            have m1 : (m : Int) < (tn : Int) := by omega
            obtain ⟨ad, rfl, hx0⟩ := rdInt HR2.out m (by rw [HTN.out]; exact g1)
            obtain ⟨x, hx⟩ : ∃ x, tu[m]'(by rw [HTN.out]; exact g1) = x := ⟨_, rfl⟩
            rw [hx] at hx0
            have HX0 := Aside0.mk hx0
            clear hx0 hx
            have hus : 0 ≤ IntKind.u64.wrap x := by rw [IntKind.wrap_u64]; omega
            obtain ⟨k, hk⟩ : ∃ k : Nat, (k : Int) = Int.tmod (IntKind.u64.wrap x) (L : Int) := by
              rw [Int.tmod_eq_emod_of_nonneg hus]
              have := Int.emod_nonneg (IntKind.u64.wrap x) (show (L : Int) ≠ 0 by omega)
              exact ⟨((IntKind.u64.wrap x) % (L : Int)).toNat, by omega⟩
            have hkn : k < L := by
              rw [Int.tmod_eq_emod_of_nonneg hus] at hk
              have := Int.emod_lt_of_pos (IntKind.u64.wrap x) (show (0 : Int) < (L : Int) by omega)
              omega
            have hk2 := hk.symm
            have vk : IntKind.i64.wrap (k : Int) = k := by rw [IntKind.wrap_i64]; omega
            have hul : IntKind.u64.wrap (L : Int) = L := by rw [IntKind.wrap_u64]; omega
            obtain ⟨q, hq⟩ : ∃ q : Nat, m % L = q := ⟨_, rfl⟩
            have hqn : q < L := by rw [← hq]; exact Nat.mod_lt _ g3
            have hq1 : Int.tmod (m : Int) (L : Int) = q := by rw [← hq, Int.tmod_eq_emod_of_nonneg (by omega)]; rfl
            have hq2 : (m : Int) % (L : Int) = q := by rw [← hq]; rfl
            have vq : IntKind.i64.wrap (q : Int) = q := by rw [IntKind.wrap_i64]; omega
            have hL0 : ¬ L = 0 := by omega
            have k0 : (0 : Int) ≤ (k : Int) := by omega
            have kL : (k : Int) < (L : Int) := by omega
            have q0 : (0 : Int) ≤ (q : Int) := by omega
            have qL : (q : Int) < (L : Int) := by omega
            clear hus hk
            have hka := getD_at (js := ks) (i := k) (by rw [HKL.out]; exact hkn)
            have hqa := getD_at (js := ks) (i := q) (by rw [HKL.out]; exact hqn)
            have HSW : Aside0 ((ks.set q (ks.getD k 0)).set k (ks.getD q 0) = swp ks q k) := ⟨rfl⟩
            obtain ⟨kk, hkk⟩ : ∃ kk, ks.getD k 0 = kk := ⟨_, rfl⟩
            obtain ⟨qq, hqq⟩ : ∃ qq, ks.getD q 0 = qq := ⟨_, rfl⟩
            rw [hkk] at hka HSW
            rw [hqq] at hqa HSW
            clear hkk hqq
            have hkY := HKS.out.lt kk (List.mem_of_getElem? hka)
            have hqY := HKS.out.lt qq (List.mem_of_getElem? hqa)
            obtain ⟨y, hy⟩ : ∃ y, Y[kk]? = some y := ⟨Y[kk]'hkY, List.getElem?_eq_getElem _⟩
            obtain ⟨z, hz⟩ : ∃ z, Y[qq]? = some z := ⟨Y[qq]'hqY, List.getElem?_eq_getElem _⟩
            obtain ⟨y2, y3, hRy, oy2, oy3, _⟩ := HRA.out kk y hy
            obtain ⟨z2, z3, hRz, oz2, oz3, _⟩ := HRA.out qq z hz
            have HRY := Aside0.mk hRy
            have HRZ := Aside0.mk hRz
            have HAK := Aside0.mk (rawAt_at hka hRy)
            have HAQ := Aside0.mk (rawAt_at hqa hRz)
            clear hka hqa hkY hqY hy hz hRy hRz
            obtain ⟨gb, rfl⟩ := HV.out.rowAt g3
            cases gk with
            | zero => exact absurd HK.out (by omega)
            | succ k1 =>
              have xt : wr.cell? (ad.add m) = some (.int .i64 x) := pw_cell_below (HV.out).below HX0.out
              go_wp2
              have Hs1 := Aside0.mk HV.out.drew
              clear xt
              have xk0 : (wr).drew.cell? ⟨gb, k * 4, none⟩ = some (.int .i64 y.f0) := Has.rawCell (f := 0) (Hs1.out) HAK.out rfl
              have xk1 : (wr).drew.cell? ⟨gb, k * 4 + 1, none⟩ = some (.int .i64 y.f1) := Has.rawCell (f := 1) (Hs1.out) HAK.out rfl
              have xk2 : (wr).drew.cell? ⟨gb, k * 4 + 2, none⟩ = some y2 := Has.rawCell (f := 2) (Hs1.out) HAK.out rfl
              have xk3 : (wr).drew.cell? ⟨gb, k * 4 + 3, none⟩ = some y3 := Has.rawCell (f := 3) (Hs1.out) HAK.out rfl
              have xq0 : (wr).drew.cell? ⟨gb, q * 4, none⟩ = some (.int .i64 z.f0) := Has.rawCell (f := 0) (Hs1.out) HAQ.out rfl
              have xq1 : (wr).drew.cell? ⟨gb, q * 4 + 1, none⟩ = some (.int .i64 z.f1) := Has.rawCell (f := 1) (Hs1.out) HAQ.out rfl
              have xq2 : (wr).drew.cell? ⟨gb, q * 4 + 2, none⟩ = some z2 := Has.rawCell (f := 2) (Hs1.out) HAQ.out rfl
              have xq3 : (wr).drew.cell? ⟨gb, q * 4 + 3, none⟩ = some z3 := Has.rawCell (f := 3) (Hs1.out) HAQ.out rfl
              refine wp_regionK (T := (fun w' => w'.cell? ⟨gb, k * 4, none⟩ = some (.int .i64 y.f0) ∧ w'.cell? ⟨gb, k * 4 + 1, none⟩ = some (.int .i64 y.f1) ∧ w'.cell? ⟨gb, k * 4 + 2, none⟩ = some y2 ∧ w'.cell? ⟨gb, k * 4 + 3, none⟩ = some y3 ∧ w'.cell? ⟨gb, q * 4, none⟩ = some (.int .i64 z.f0) ∧ w'.cell? ⟨gb, q * 4 + 1, none⟩ = some (.int .i64 z.f1) ∧ w'.cell? ⟨gb, q * 4 + 2, none⟩ = some z2 ∧ w'.cell? ⟨gb, q * 4 + 3, none⟩ = some z3)) 19 (by kernel_rfl) ?_ (fun hHeld => ?_)
              · exact ⟨xk0, xk1, xk2, xk3, xq0, xq1, xq2, xq3⟩
              refine takeWK (i := 0) (v := ?_) rfl rfl (by kernel_rfl) (by kernel_rfl) (by kernel_rfl) (by kernel_rfl) (by rfl) (by rfl) (by kernel_rfl) (fun _ _ _ h => h) (by rfl) ?_ hHeld ?_
              rotate_left 1
              · (intro w hSw; (try dsimp only at hSw); go_simp <;> (try with_reducible rfl))
              (try simp only [Act.put, List.setIfInBounds_toArray, List.set_cons_zero, List.set_cons_succ])
              refine takeWK (i := 1) (v := ?_) rfl rfl (by kernel_rfl) (by kernel_rfl) (by kernel_rfl) (by kernel_rfl) (by rfl) (by rfl) (by kernel_rfl) (fun _ _ _ h => h) (by rfl) ?_ hHeld ?_
              rotate_left 1
              · (intro w hSw; (try dsimp only at hSw); go_simp <;> (try with_reducible rfl))
              (try simp only [Act.put, List.setIfInBounds_toArray, List.set_cons_zero, List.set_cons_succ])
              refine takeWK (i := 2) (v := ?_) rfl rfl (by kernel_rfl) (by kernel_rfl) (by kernel_rfl) (by kernel_rfl) (by rfl) (by rfl) (by kernel_rfl) (fun _ _ _ h => h) (by rfl) ?_ hHeld ?_
              rotate_left 1
              · (intro w hSw; (try dsimp only at hSw); go_simp <;> (try with_reducible rfl))
              (try simp only [Act.put, List.setIfInBounds_toArray, List.set_cons_zero, List.set_cons_succ])
              refine takeWK (i := 3) (v := ?_) rfl rfl (by kernel_rfl) (by kernel_rfl) (by kernel_rfl) (by kernel_rfl) (by rfl) (by rfl) (by kernel_rfl) (fun _ _ _ h => h) (by rfl) ?_ hHeld ?_
              rotate_left 1
              · (intro w hSw; (try dsimp only at hSw); go_simp <;> (try with_reducible rfl))
              (try simp only [Act.put, List.setIfInBounds_toArray, List.set_cons_zero, List.set_cons_succ])
              refine takeWK (i := 4) (v := ?_) rfl rfl (by kernel_rfl) (by kernel_rfl) (by kernel_rfl) (by kernel_rfl) (by rfl) (by rfl) (by kernel_rfl) (fun _ _ _ h => h) (by rfl) ?_ hHeld ?_
              rotate_left 1
              · (intro w hSw; (try dsimp only at hSw); go_simp <;> (try with_reducible rfl))
              (try simp only [Act.put, List.setIfInBounds_toArray, List.set_cons_zero, List.set_cons_succ])
              refine takeAK (i := 5) (v := ?_) rfl rfl (by kernel_rfl) (by kernel_rfl) (by kernel_rfl) (by rfl) (fun _ _ _ h => h) (by rfl) ?_ hHeld ?_
              rotate_left 1
              · (intro w; go_simp <;> (try with_reducible rfl))
              (try simp only [Act.put, List.setIfInBounds_toArray, List.set_cons_zero, List.set_cons_succ])
              refine takeAK (i := 6) (v := ?_) rfl rfl (by kernel_rfl) (by kernel_rfl) (by kernel_rfl) (by rfl) (fun _ _ _ h => h) (by rfl) ?_ hHeld ?_
              rotate_left 1
              · (intro w; go_simp <;> (try with_reducible rfl))
              (try simp only [Act.put, List.setIfInBounds_toArray, List.set_cons_zero, List.set_cons_succ])
              refine takeWK (i := 7) (v := ?_) rfl rfl (by kernel_rfl) (by kernel_rfl) (by kernel_rfl) (by kernel_rfl) (by rfl) (by rfl) (by kernel_rfl) (fun _ _ _ h => h) (by rfl) ?_ hHeld ?_
              rotate_left 1
              · (intro w hSw; (try dsimp only at hSw); go_simp <;> (try with_reducible rfl))
              (try simp only [Act.put, List.setIfInBounds_toArray, List.set_cons_zero, List.set_cons_succ])
              refine takeWK (i := 8) (v := ?_) rfl rfl (by kernel_rfl) (by kernel_rfl) (by kernel_rfl) (by kernel_rfl) (by rfl) (by rfl) (by kernel_rfl) (fun _ _ _ h => h) (by rfl) ?_ hHeld ?_
              rotate_left 1
              · (intro w hSw; (try dsimp only at hSw); go_simp <;> (try with_reducible rfl))
              (try simp only [Act.put, List.setIfInBounds_toArray, List.set_cons_zero, List.set_cons_succ])
              refine takeWK (i := 9) (v := ?_) rfl rfl (by kernel_rfl) (by kernel_rfl) (by kernel_rfl) (by kernel_rfl) (by rfl) (by rfl) (by kernel_rfl) (fun _ _ _ h => h) (by rfl) ?_ hHeld ?_
              rotate_left 1
              · (intro w hSw; (try dsimp only at hSw); go_simp <;> (try with_reducible rfl))
              (try simp only [Act.put, List.setIfInBounds_toArray, List.set_cons_zero, List.set_cons_succ])
              refine takeWK (i := 10) (v := ?_) rfl rfl (by kernel_rfl) (by kernel_rfl) (by kernel_rfl) (by kernel_rfl) (by rfl) (by rfl) (by kernel_rfl) (fun _ _ _ h => h) (by rfl) ?_ hHeld ?_
              rotate_left 1
              · (intro w hSw; (try dsimp only at hSw); go_simp <;> (try with_reducible rfl))
              (try simp only [Act.put, List.setIfInBounds_toArray, List.set_cons_zero, List.set_cons_succ])
              refine takeWK (i := 11) (v := ?_) rfl rfl (by kernel_rfl) (by kernel_rfl) (by kernel_rfl) (by kernel_rfl) (by rfl) (by rfl) (by kernel_rfl) (fun _ _ _ h => h) (by rfl) ?_ hHeld ?_
              rotate_left 1
              · (intro w hSw; (try dsimp only at hSw); go_simp <;> (try with_reducible rfl))
              (try simp only [Act.put, List.setIfInBounds_toArray, List.set_cons_zero, List.set_cons_succ])
              refine takeAK (i := 12) (v := ?_) rfl rfl (by kernel_rfl) (by kernel_rfl) (by kernel_rfl) (by rfl) (fun _ _ _ h => h) (by rfl) ?_ hHeld ?_
              rotate_left 1
              · (intro w; go_simp <;> (try with_reducible rfl))
              (try simp only [Act.put, List.setIfInBounds_toArray, List.set_cons_zero, List.set_cons_succ])
              refine takeAK (i := 13) (v := ?_) rfl rfl (by kernel_rfl) (by kernel_rfl) (by kernel_rfl) (by rfl) (fun _ _ _ h => h) (by rfl) ?_ hHeld ?_
              rotate_left 1
              · (intro w; go_simp <;> (try with_reducible rfl))
              (try simp only [Act.put, List.setIfInBounds_toArray, List.set_cons_zero, List.set_cons_succ])
              refine takeAK (i := 14) (v := ?_) rfl rfl (by kernel_rfl) (by kernel_rfl) (by kernel_rfl) (by rfl) (fun _ _ _ h => h) (by rfl) ?_ hHeld ?_
              rotate_left 1
              · (intro w; go_simp <;> (try with_reducible rfl))
              (try simp only [Act.put, List.setIfInBounds_toArray, List.set_cons_zero, List.set_cons_succ])
              refine takeWK (i := 15) (v := ?_) rfl rfl (by kernel_rfl) (by kernel_rfl) (by kernel_rfl) (by kernel_rfl) (by rfl) (by rfl) (by kernel_rfl) (fun _ _ _ h => h) (by rfl) ?_ hHeld ?_
              rotate_left 1
              · (intro w hSw; (try dsimp only at hSw); go_simp <;> (try with_reducible rfl))
              (try simp only [Act.put, List.setIfInBounds_toArray, List.set_cons_zero, List.set_cons_succ])
              refine takeWK (i := 16) (v := ?_) rfl rfl (by kernel_rfl) (by kernel_rfl) (by kernel_rfl) (by kernel_rfl) (by rfl) (by rfl) (by kernel_rfl) (fun _ _ _ h => h) (by rfl) ?_ hHeld ?_
              rotate_left 1
              · (intro w hSw; (try dsimp only at hSw); go_simp <;> (try with_reducible rfl))
              (try simp only [Act.put, List.setIfInBounds_toArray, List.set_cons_zero, List.set_cons_succ])
              refine takeWK (i := 17) (v := ?_) rfl rfl (by kernel_rfl) (by kernel_rfl) (by kernel_rfl) (by kernel_rfl) (by rfl) (by rfl) (by kernel_rfl) (fun _ _ _ h => h) (by rfl) ?_ hHeld ?_
              rotate_left 1
              · (intro w hSw; (try dsimp only at hSw); go_simp <;> (try with_reducible rfl))
              (try simp only [Act.put, List.setIfInBounds_toArray, List.set_cons_zero, List.set_cons_succ])
              refine takeWK (i := 18) (v := ?_) rfl rfl (by kernel_rfl) (by kernel_rfl) (by kernel_rfl) (by kernel_rfl) (by rfl) (by rfl) (by kernel_rfl) (fun _ _ _ h => h) (by rfl) ?_ hHeld ?_
              rotate_left 1
              · (intro w hSw; (try dsimp only at hSw); go_simp <;> (try with_reducible rfl))
              (try simp only [Act.put, List.setIfInBounds_toArray, List.set_cons_zero, List.set_cons_succ])
              refine readyK (rs := [19]) (by kernel_rfl) (by simp) (AllK.cons (i := 19) rfl (by rfl) (fun K hK => ?_) AllK.nil)
              clear hHeld
              (refine wp_of_list (ops := #[]) (by rfl) ?_; (with_reducible refine gate_store (t := 44) (p := 127) rfl ?_); refine wp_storeE (kcells 4) rfl rfl 44 _ _ rfl (g := gb) (j := q) [.int .i64 y.f0, .int .i64 y.f1, y2, y3] (u := (.agg #[.int .i64 y.f0, .int .i64 y.f1, y2, y3])) [.int .i64 y.f0, .int .i64 y.f1, y2, y3] ?sA rfl rfl rfl rfl ?sI (one4 oy2 oy3) (fun _ _ _ => cells_ok rfl (one4 oy2 oy3)) (Hs1.out) (hqn) ?_; (case sI => first | rfl | kernel_rfl); (case sA => first | rfl | (go_simp; done) | (go_simp; rfl)); intro ws2 h_new; rw [rawAt_set R ks HRY.out] at h_new; have Hs2 := Aside0.mk h_new; clear h_new Hs1; clear xk0 xk1 xk2 xk3 xq0 xq1 xq2 xq3; change K _ _)
              refine hK.out _ _ ?_ (fun hHeld => ?_)
              · exact fun h => absurd (show (true = false) from h) (by decide)
              clear hHeld
              clear hK K
              (try simp only [Act.put, List.setIfInBounds_toArray, List.set_cons_zero, List.set_cons_succ])
              refine readyK (rs := [20]) (by kernel_rfl) (by simp) (AllK.cons (i := 20) rfl (by rfl) (fun K hK => ?_) AllK.nil)
              (refine wp_of_list (ops := #[]) (by rfl) ?_; go_wp2; change K _ _)
              refine hK.out _ _ ?_ (fun hHeld => ?_)
              · exact fun h => absurd (show (true = false) from h) (by decide)
              clear hHeld
              clear hK K
              (try simp only [Act.put, List.setIfInBounds_toArray, List.set_cons_zero, List.set_cons_succ])
              refine readyK (rs := [21]) (by kernel_rfl) (by simp) (AllK.cons (i := 21) rfl (by rfl) (fun K hK => ?_) AllK.nil)
              (refine wp_of_list (ops := #[]) (by rfl) ?_; (with_reducible refine gate_store (t := 44) (p := 128) rfl ?_); refine wp_storeE (kcells 4) rfl rfl 44 _ _ rfl (g := gb) (j := k) [.int .i64 z.f0, .int .i64 z.f1, z2, z3] (u := (.agg #[.int .i64 z.f0, .int .i64 z.f1, z2, z3])) [.int .i64 z.f0, .int .i64 z.f1, z2, z3] ?sA rfl rfl rfl rfl ?sI (one4 oz2 oz3) (fun _ _ _ => cells_ok rfl (one4 oz2 oz3)) (Hs2.out) (hkn) ?_; (case sI => first | rfl | kernel_rfl); (case sA => first | rfl | (go_simp; done) | (go_simp; rfl)); intro ws3 h_new; rw [rawAt_set R (ks.set q kk) HRZ.out, HSW.out] at h_new; have Hs3 := Aside0.mk h_new; clear h_new Hs2; change K _ _)
              refine hK.out _ _ ?_ (fun hHeld => ?_)
              · exact fun h => absurd (show (true = false) from h) (by decide)
              clear hHeld
              clear hK K
              (try simp only [Act.put, List.setIfInBounds_toArray, List.set_cons_zero, List.set_cons_succ])
              refine doneK (by kernel_rfl) ?_ _
              go_wp2
              go_roundg k1
              case measure => have := HK.out; omega
              case rel => exact ⟨m + 1, swp ks q k, rfl, ⟨by have := HK.out; omega⟩, ⟨by omega⟩, ⟨swp_js HKS.out (by rw [HKL.out]; exact hqn) (by rw [HKL.out]; exact hkn)⟩, ⟨by rw [swp_len, HKL.out]⟩, ⟨fun j => (swp_mem (by rw [HKL.out]; exact hqn) (by rw [HKL.out]; exact hkn) j).trans (HKM.out j)⟩, ⟨(Hs3.out.up5.up5.up5.up5.up5.up5)⟩⟩
          · obtain ⟨r1, r2, ho1, ho2, hl1, hl2, hsame⟩ := order_js (s := s) HRR.out HWF.out HJS.out HKS.out (by rw [HL.out]; exact hL20') (by rw [HKL.out, HL.out]) HKM.out
            have HO1 := Aside0.mk ho1
            have HO2 := Aside0.mk ho2
            have HL1 : Aside0 (r1.length = L) := ⟨by rw [hl1, HL.out]⟩
            have HL2 : Aside0 (r2.length = L) := ⟨by rw [hl2, HL.out]⟩
            have HSAME := Aside0.mk hsame
            clear ho1 ho2 hl1 hl2 hsame HK HI
            have key : (¬ m < tn) ∨ (m < tn ∧ ¬ m < 40) ∨ (m < tn ∧ m < 40 ∧ ¬ 0 < L) := by omega
            clear hgo
            rcases key with h1 | ⟨h1, h2⟩ | ⟨h1, h2, h3⟩
            · have e3 : decide ((m : Int) < (tn : Int)) = false := decide_eq_false (by omega)
              have e4 : decide (m < tn) = false := decide_eq_false (by omega)
              clear h1
              go_wp2
              have Hv1 := Aside0.mk HV.out.drew
              have c_grid_0 : (wr).drew.cell? ⟨g9, 0, none⟩ = some (.int .i64 c) := (blk_cell (Hv1.out.up4).blk 0).trans rfl
              have f_grid_0 := blk_frozen (Hv1.out.up4).blk 0
              have c_grid_1 : (wr).drew.cell? ⟨g9, 1, none⟩ = some (.int .i64 r) := (blk_cell (Hv1.out.up4).blk 1).trans rfl
              have f_grid_1 := blk_frozen (Hv1.out.up4).blk 1
              have c_grid_2 : (wr).drew.cell? ⟨g9, 2, none⟩ = some (.int .i64 p) := (blk_cell (Hv1.out.up4).blk 2).trans rfl
              have f_grid_2 := blk_frozen (Hv1.out.up4).blk 2
              have c_grid_3 : (wr).drew.cell? ⟨g9, 3, none⟩ = some (.int .i64 wi) := (blk_cell (Hv1.out.up4).blk 3).trans rfl
              have f_grid_3 := blk_frozen (Hv1.out.up4).blk 3
              have c_grid_4 : (wr).drew.cell? ⟨g9, 4, none⟩ = some (.int .u64 s) := (blk_cell (Hv1.out.up4).blk 4).trans rfl
              have f_grid_4 := blk_frozen (Hv1.out.up4).blk 4
              refine wp_regionK (T := (fun w' => w'.cell? ⟨g9, 0, none⟩ = some (.int .i64 c) ∧ w'.cell? ⟨g9, 1, none⟩ = some (.int .i64 r) ∧ w'.cell? ⟨g9, 2, none⟩ = some (.int .i64 p) ∧ w'.cell? ⟨g9, 3, none⟩ = some (.int .i64 wi) ∧ w'.cell? ⟨g9, 4, none⟩ = some (.int .u64 s))) 8 (by kernel_rfl) ?_ (fun hHeld => ?_)
              · exact ⟨c_grid_0, c_grid_1, c_grid_2, c_grid_3, c_grid_4⟩
              refine takeWK (i := 0) (v := ?_) rfl rfl (by kernel_rfl) (by kernel_rfl) (by kernel_rfl) (by kernel_rfl) (by rfl) (by rfl) (by kernel_rfl) (fun _ _ _ h => h) (by rfl) ?_ hHeld ?_
              rotate_left 1
              · (intro w hSw; (try dsimp only at hSw); go_simp <;> (try with_reducible rfl))
              (try simp only [Act.put, List.setIfInBounds_toArray, List.set_cons_zero, List.set_cons_succ])
              refine takeWK (i := 1) (v := ?_) rfl rfl (by kernel_rfl) (by kernel_rfl) (by kernel_rfl) (by kernel_rfl) (by rfl) (by rfl) (by kernel_rfl) (fun _ _ _ h => h) (by rfl) ?_ hHeld ?_
              rotate_left 1
              · (intro w hSw; (try dsimp only at hSw); go_simp <;> (try with_reducible rfl))
              (try simp only [Act.put, List.setIfInBounds_toArray, List.set_cons_zero, List.set_cons_succ])
              refine takeWK (i := 3) (v := ?_) rfl rfl (by kernel_rfl) (by kernel_rfl) (by kernel_rfl) (by kernel_rfl) (by rfl) (by rfl) (by kernel_rfl) (fun _ _ _ h => h) (by rfl) ?_ hHeld ?_
              rotate_left 1
              · (intro w hSw; (try dsimp only at hSw); go_simp <;> (try with_reducible rfl))
              (try simp only [Act.put, List.setIfInBounds_toArray, List.set_cons_zero, List.set_cons_succ])
              refine takeWK (i := 4) (v := ?_) rfl rfl (by kernel_rfl) (by kernel_rfl) (by kernel_rfl) (by kernel_rfl) (by rfl) (by rfl) (by kernel_rfl) (fun _ _ _ h => h) (by rfl) ?_ hHeld ?_
              rotate_left 1
              · (intro w hSw; (try dsimp only at hSw); go_simp <;> (try with_reducible rfl))
              (try simp only [Act.put, List.setIfInBounds_toArray, List.set_cons_zero, List.set_cons_succ])
              refine readyK (rs := [2]) (by kernel_rfl) (by simp) (AllK.cons (i := 2) rfl (by rfl) (fun K hK => ?_) AllK.nil)
              clear hHeld
              (refine wp_of_list (ops := #[]) (by rfl) ?_; go_wp2_with (first | ((go_at_call 11); (with_reducible refine (of_lines c r p wi s (HREAD.out (Hv1.out.sw) (Hv1.out.up3) HJS.out.lt) HO1.out).mono ?_); rintro e_ wv2 ⟨v_, rfl, hR_, hb_⟩; have h_new := Has.newRow Hv1.out hb_ hR_; clear hb_ hR_; obtain ⟨A_fx, c_fx, ev_⟩ := h_new.rowIs; rw [show (r1).length = L from by exact HL1.out] at ev_; subst ev_; have hc_fx := h_new.rowN.2.1; have Hv2 := Aside0.mk h_new; clear h_new Hv1; clear c_grid_0 f_grid_0 c_grid_1 f_grid_1 c_grid_2 f_grid_2 c_grid_3 f_grid_3 c_grid_4 f_grid_4; have c_grid_0 : wv2.cell? ⟨g9, 0, none⟩ = some (.int .i64 c) := (blk_cell (Hv2.out.up5).blk 0).trans rfl; have f_grid_0 := blk_frozen (Hv2.out.up5).blk 0; have c_grid_1 : wv2.cell? ⟨g9, 1, none⟩ = some (.int .i64 r) := (blk_cell (Hv2.out.up5).blk 1).trans rfl; have f_grid_1 := blk_frozen (Hv2.out.up5).blk 1; have c_grid_2 : wv2.cell? ⟨g9, 2, none⟩ = some (.int .i64 p) := (blk_cell (Hv2.out.up5).blk 2).trans rfl; have f_grid_2 := blk_frozen (Hv2.out.up5).blk 2; have c_grid_3 : wv2.cell? ⟨g9, 3, none⟩ = some (.int .i64 wi) := (blk_cell (Hv2.out.up5).blk 3).trans rfl; have f_grid_3 := blk_frozen (Hv2.out.up5).blk 3; have c_grid_4 : wv2.cell? ⟨g9, 4, none⟩ = some (.int .u64 s) := (blk_cell (Hv2.out.up5).blk 4).trans rfl; have f_grid_4 := blk_frozen (Hv2.out.up5).blk 4)); change K _ _)
              refine hK.out _ _ ?_ (fun hHeld => ?_)
              · exact fun _ => ⟨c_grid_0, c_grid_1, c_grid_2, c_grid_3, c_grid_4⟩
              replace hHeld := hHeld (by rfl)
              clear hK K
              (try simp only [Act.put, List.setIfInBounds_toArray, List.set_cons_zero, List.set_cons_succ])
              refine readyK (rs := [5]) (by kernel_rfl) (by simp) (AllK.cons (i := 5) rfl (by rfl) (fun K hK => ?_) AllK.nil)
              clear hHeld
              (refine wp_of_list (ops := #[]) (by rfl) ?_; go_wp2_with (first | ((go_at_call 11); (with_reducible refine (of_lines c r p wi s (HREAD.out (Hv2.out.sw) (Hv2.out.up4) HKS.out.lt) HO2.out).mono ?_); rintro e_ wv3 ⟨v_, rfl, hR_, hb_⟩; have h_new := Has.newRow Hv2.out hb_ hR_; clear hb_ hR_; obtain ⟨A_fy, c_fy, ev_⟩ := h_new.rowIs; rw [show (r2).length = L from by exact HL2.out] at ev_; subst ev_; have hc_fy := h_new.rowN.2.1; have Hv3 := Aside0.mk h_new; clear h_new Hv2; clear c_grid_0 f_grid_0 c_grid_1 f_grid_1 c_grid_2 f_grid_2 c_grid_3 f_grid_3 c_grid_4 f_grid_4; have c_grid_0 : wv3.cell? ⟨g9, 0, none⟩ = some (.int .i64 c) := (blk_cell (Hv3.out.up6).blk 0).trans rfl; have f_grid_0 := blk_frozen (Hv3.out.up6).blk 0; have c_grid_1 : wv3.cell? ⟨g9, 1, none⟩ = some (.int .i64 r) := (blk_cell (Hv3.out.up6).blk 1).trans rfl; have f_grid_1 := blk_frozen (Hv3.out.up6).blk 1; have c_grid_2 : wv3.cell? ⟨g9, 2, none⟩ = some (.int .i64 p) := (blk_cell (Hv3.out.up6).blk 2).trans rfl; have f_grid_2 := blk_frozen (Hv3.out.up6).blk 2; have c_grid_3 : wv3.cell? ⟨g9, 3, none⟩ = some (.int .i64 wi) := (blk_cell (Hv3.out.up6).blk 3).trans rfl; have f_grid_3 := blk_frozen (Hv3.out.up6).blk 3; have c_grid_4 : wv3.cell? ⟨g9, 4, none⟩ = some (.int .u64 s) := (blk_cell (Hv3.out.up6).blk 4).trans rfl; have f_grid_4 := blk_frozen (Hv3.out.up6).blk 4)); change K _ _)
              refine hK.out _ _ ?_ (fun hHeld => ?_)
              · exact fun _ => ⟨c_grid_0, c_grid_1, c_grid_2, c_grid_3, c_grid_4⟩
              replace hHeld := hHeld (by rfl)
              clear hK K
              (try simp only [Act.put, List.setIfInBounds_toArray, List.set_cons_zero, List.set_cons_succ])
              refine takeWK (i := 6) (v := ?_) rfl rfl (by kernel_rfl) (by kernel_rfl) (by kernel_rfl) (by kernel_rfl) (by rfl) (by rfl) (by kernel_rfl) (fun _ _ _ h => h) (by rfl) ?_ hHeld ?_
              rotate_left 1
              · (intro w hSw; (try dsimp only at hSw); go_simp <;> (try with_reducible rfl))
              (try simp only [Act.put, List.setIfInBounds_toArray, List.set_cons_zero, List.set_cons_succ])
              refine takeWK (i := 7) (v := ?_) rfl rfl (by kernel_rfl) (by kernel_rfl) (by kernel_rfl) (by kernel_rfl) (by rfl) (by rfl) (by kernel_rfl) (fun _ _ _ h => h) (by rfl) ?_ hHeld ?_
              rotate_left 1
              · (intro w hSw; (try dsimp only at hSw); go_simp <;> (try with_reducible rfl))
              (try simp only [Act.put, List.setIfInBounds_toArray, List.set_cons_zero, List.set_cons_succ])
              refine doneK (by kernel_rfl) ?_ _
              go_wp2
              go_loopg [19] (L + 1) (fun kq v19 w' => ∃ i : Nat, v19 = .int .i64 (i : Int) ∧ Aside0 (i + kq = L + 1) ∧ Aside0 (i ≤ L) ∧ Aside0 (Has w w.heap.size w' [row (Kd.int .i64) 3 (.slice A_fx L c_fx) r1, row (Kd.int .i64) 3 (.slice A_fy L c_fy) r2, row (kcells 4) 44 (.slice Aj L cj) (rawAt R js), row (kcells 4) 44 (.slice A_b L c_b) (rawAt R ks), row (kcells 4) 44 (.slice Aa n ca) R, O, blk g9 (.cells #[.int .i64 c, .int .i64 r, .int .i64 p, .int .i64 wi, .int .u64 s] 27 (0, 0)), blk g4 (.cells #[.int .i64 c, .int .i64 r, .int .i64 p, .int .i64 wi, .int .u64 s] 24 (0, 0))]))
              case atStart => exact ⟨0, rfl, ⟨by omega⟩, ⟨by omega⟩, ⟨(Hv3.out.up7.up7.up7.up7.up6.up7.up6.up7)⟩⟩
              case round =>
                clear Hv3 HV
                obtain ⟨i, rfl, HK, HI, HW⟩ := hrel
                have hii := HI.out
                by_cases hil : i < L
                · have f1 : decide ((i : Int) < (L : Int)) = true := decide_eq_true (by omega)
                  have f2 : decide (i < L) = true := decide_eq_true (by omega)
                  have i0 : (0 : Int) ≤ (i : Int) := by omega
                  have iL : (i : Int) < (L : Int) := by omega
                  cases gk with
                  | zero => exact absurd HK.out (by omega)
                  | succ k1 =>
                    go_wp2
                    go_loopg [20] (L + 1) (fun kq v20 w' => ∃ k : Nat, v20 = .int .i64 (k : Int) ∧ Aside0 (k + kq = L + 1) ∧ Aside0 (k ≤ L) ∧ Aside0 (Has w w.heap.size w' [row (Kd.int .i64) 3 (.slice A_fx L c_fx) r1, row (Kd.int .i64) 3 (.slice A_fy L c_fy) r2, row (kcells 4) 44 (.slice Aj L cj) (rawAt R js), row (kcells 4) 44 (.slice A_b L c_b) (rawAt R ks), row (kcells 4) 44 (.slice Aa n ca) R, O, blk g9 (.cells #[.int .i64 c, .int .i64 r, .int .i64 p, .int .i64 wi, .int .u64 s] 27 (0, 0)), blk g4 (.cells #[.int .i64 c, .int .i64 r, .int .i64 p, .int .i64 wi, .int .u64 s] 24 (0, 0))]))
                    case atStart => exact ⟨0, rfl, ⟨by omega⟩, ⟨by omega⟩, HW⟩
                    case round =>
                      clear HW
                      obtain ⟨k, rfl, HK2, HI2, HU⟩ := hrel
                      have hkk := HI2.out
                      by_cases hkl : k < L
                      · have f3 : decide ((k : Int) < (L : Int)) = true := decide_eq_true (by omega)
                        have f4 : decide (k < L) = true := decide_eq_true (by omega)
                        have k0 : (0 : Int) ≤ (k : Int) := by omega
                        have kL : (k : Int) < (L : Int) := by omega
                        obtain ⟨a, ha⟩ : ∃ a, js[i]? = some a := ⟨js[i]'(by rw [HL.out]; exact hil), List.getElem?_eq_getElem _⟩
                        obtain ⟨b, hb⟩ : ∃ b, ks[k]? = some b := ⟨ks[k]'(by rw [HKL.out]; exact hkl), List.getElem?_eq_getElem _⟩
                        obtain ⟨y, hy⟩ : ∃ y, Y[a]? = some y := ⟨Y[a]'(HJS.out.lt a (List.mem_of_getElem? ha)), List.getElem?_eq_getElem _⟩
                        obtain ⟨z, hz⟩ : ∃ z, Y[b]? = some z := ⟨Y[b]'(HKS.out.lt b (List.mem_of_getElem? hb)), List.getElem?_eq_getElem _⟩
                        obtain ⟨y2, y3, hRy, _, _, _⟩ := HRA.out a y hy
                        obtain ⟨z2, z3, hRz, _, _, _⟩ := HRA.out b z hz
                        obtain ⟨u, hu⟩ : ∃ u, r1[i]? = some u := ⟨r1[i]'(by rw [HL1.out]; exact hil), List.getElem?_eq_getElem _⟩
                        obtain ⟨v, hv⟩ : ∃ v, r2[k]? = some v := ⟨r2[k]'(by rw [HL2.out]; exact hkl), List.getElem?_eq_getElem _⟩
                        have HYA := Aside0.mk (rawAt_at ha hRy)
                        have HZB := Aside0.mk (rawAt_at hb hRz)
                        have HU1 := Aside0.mk hu
                        have HU2 := Aside0.mk hv
                        have HS := Aside0.mk (fun e => HSAME.out i k a b y z u v ha hb hy hz e hu hv)
                        clear ha hb hy hz hRy hRz hu hv
                        obtain ⟨gx, rfl⟩ := HU.out.rowAt (by omega)
                        obtain ⟨gy, rfl⟩ := HU.out.sw.rowAt (by omega)
                        obtain ⟨gj, rfl⟩ := HU.out.up2.rowAt (by omega)
                        obtain ⟨gb, rfl⟩ := HU.out.up3.rowAt (by omega)
                        cases gk with
                        | zero => exact absurd HK2.out (by omega)
                        | succ k2 =>
                          by_cases hyz : y.f0 = z.f0
                          · obtain rfl := HS.out hyz
                            have t1 : decide (y.f0 = z.f0) = true := decide_eq_true hyz
                            have t2 : (y.f0 == z.f0) = true := by simp [hyz]
                            clear hyz
                            have x0 : wr.cell? ⟨gj, i * 4, none⟩ = some (.int .i64 y.f0) := Has.rawCell (f := 0) (HU.out.up2) HYA.out rfl
                            have x1 : wr.cell? ⟨gb, k * 4, none⟩ = some (.int .i64 z.f0) := Has.rawCell (f := 0) (HU.out.up3) HZB.out rfl
                            have x2 : wr.cell? ⟨gx, i, none⟩ = some (.int .i64 u) := rowInt (HU.out) HU1.out
                            have x3 : wr.cell? ⟨gy, k, none⟩ = some (.int .i64 u) := rowInt (HU.out.sw) HU2.out
                            go_wp2
                            have Hpr1 := Aside0.mk HU.out.drew
                            clear x0 x1 x2 x3
                            have x0 : (wr).drew.cell? ⟨gj, i * 4, none⟩ = some (.int .i64 y.f0) := Has.rawCell (f := 0) (Hpr1.out.up2) HYA.out rfl
                            have x1 : (wr).drew.cell? ⟨gb, k * 4, none⟩ = some (.int .i64 z.f0) := Has.rawCell (f := 0) (Hpr1.out.up3) HZB.out rfl
                            have x2 : (wr).drew.cell? ⟨gx, i, none⟩ = some (.int .i64 u) := rowInt (Hpr1.out) HU1.out
                            have x3 : (wr).drew.cell? ⟨gy, k, none⟩ = some (.int .i64 u) := rowInt (Hpr1.out.sw) HU2.out
                            refine wp_regionK (T := (fun w' => w'.cell? ⟨gj, i * 4, none⟩ = some (.int .i64 y.f0) ∧ w'.cell? ⟨gb, k * 4, none⟩ = some (.int .i64 z.f0) ∧ w'.cell? ⟨gx, i, none⟩ = some (.int .i64 u) ∧ w'.cell? ⟨gy, k, none⟩ = some (.int .i64 u))) 22 (by kernel_rfl) ?_ (fun hHeld => ?_)
                            · exact ⟨x0, x1, x2, x3⟩
                            refine takeWK (i := 0) (v := ?_) rfl rfl (by kernel_rfl) (by kernel_rfl) (by kernel_rfl) (by kernel_rfl) (by rfl) (by rfl) (by kernel_rfl) (fun _ _ _ h => h) (by rfl) ?_ hHeld ?_
                            rotate_left 1
                            · (intro w hSw; (try dsimp only at hSw); go_simp <;> (try with_reducible rfl))
                            (try simp only [Act.put, List.setIfInBounds_toArray, List.set_cons_zero, List.set_cons_succ])
                            refine takeWK (i := 1) (v := ?_) rfl rfl (by kernel_rfl) (by kernel_rfl) (by kernel_rfl) (by kernel_rfl) (by rfl) (by rfl) (by kernel_rfl) (fun _ _ _ h => h) (by rfl) ?_ hHeld ?_
                            rotate_left 1
                            · (intro w hSw; (try dsimp only at hSw); go_simp <;> (try with_reducible rfl))
                            (try simp only [Act.put, List.setIfInBounds_toArray, List.set_cons_zero, List.set_cons_succ])
                            refine takeWK (i := 2) (v := ?_) rfl rfl (by kernel_rfl) (by kernel_rfl) (by kernel_rfl) (by kernel_rfl) (by rfl) (by rfl) (by kernel_rfl) (fun _ _ _ h => h) (by rfl) ?_ hHeld ?_
                            rotate_left 1
                            · (intro w hSw; (try dsimp only at hSw); go_simp <;> (try with_reducible rfl))
                            (try simp only [Act.put, List.setIfInBounds_toArray, List.set_cons_zero, List.set_cons_succ])
                            refine takeWK (i := 3) (v := ?_) rfl rfl (by kernel_rfl) (by kernel_rfl) (by kernel_rfl) (by kernel_rfl) (by rfl) (by rfl) (by kernel_rfl) (fun _ _ _ h => h) (by rfl) ?_ hHeld ?_
                            rotate_left 1
                            · (intro w hSw; (try dsimp only at hSw); go_simp <;> (try with_reducible rfl))
                            (try simp only [Act.put, List.setIfInBounds_toArray, List.set_cons_zero, List.set_cons_succ])
                            refine takeWK (i := 4) (v := ?_) rfl rfl (by kernel_rfl) (by kernel_rfl) (by kernel_rfl) (by kernel_rfl) (by rfl) (by rfl) (by kernel_rfl) (fun _ _ _ h => h) (by rfl) ?_ hHeld ?_
                            rotate_left 1
                            · (intro w hSw; (try dsimp only at hSw); go_simp <;> (try with_reducible rfl))
                            (try simp only [Act.put, List.setIfInBounds_toArray, List.set_cons_zero, List.set_cons_succ])
                            refine takeWK (i := 5) (v := ?_) rfl rfl (by kernel_rfl) (by kernel_rfl) (by kernel_rfl) (by kernel_rfl) (by rfl) (by rfl) (by kernel_rfl) (fun _ _ _ h => h) (by rfl) ?_ hHeld ?_
                            rotate_left 1
                            · (intro w hSw; (try dsimp only at hSw); go_simp <;> (try with_reducible rfl))
                            (try simp only [Act.put, List.setIfInBounds_toArray, List.set_cons_zero, List.set_cons_succ])
                            refine takeWK (i := 6) (v := ?_) rfl rfl (by kernel_rfl) (by kernel_rfl) (by kernel_rfl) (by kernel_rfl) (by rfl) (by rfl) (by kernel_rfl) (fun _ _ _ h => h) (by rfl) ?_ hHeld ?_
                            rotate_left 1
                            · (intro w hSw; (try dsimp only at hSw); go_simp <;> (try with_reducible rfl))
                            (try simp only [Act.put, List.setIfInBounds_toArray, List.set_cons_zero, List.set_cons_succ])
                            refine takeWK (i := 7) (v := ?_) rfl rfl (by kernel_rfl) (by kernel_rfl) (by kernel_rfl) (by kernel_rfl) (by rfl) (by rfl) (by kernel_rfl) (fun _ _ _ h => h) (by rfl) ?_ hHeld ?_
                            rotate_left 1
                            · (intro w hSw; (try dsimp only at hSw); go_simp <;> (try with_reducible rfl))
                            (try simp only [Act.put, List.setIfInBounds_toArray, List.set_cons_zero, List.set_cons_succ])
                            refine takeWK (i := 8) (v := ?_) rfl rfl (by kernel_rfl) (by kernel_rfl) (by kernel_rfl) (by kernel_rfl) (by rfl) (by rfl) (by kernel_rfl) (fun _ _ _ h => h) (by rfl) ?_ hHeld ?_
                            rotate_left 1
                            · (intro w hSw; (try dsimp only at hSw); go_simp <;> (try with_reducible rfl))
                            (try simp only [Act.put, List.setIfInBounds_toArray, List.set_cons_zero, List.set_cons_succ])
                            refine takeWK (i := 9) (v := ?_) rfl rfl (by kernel_rfl) (by kernel_rfl) (by kernel_rfl) (by kernel_rfl) (by rfl) (by rfl) (by kernel_rfl) (fun _ _ _ h => h) (by rfl) ?_ hHeld ?_
                            rotate_left 1
                            · (intro w hSw; (try dsimp only at hSw); go_simp <;> (try with_reducible rfl))
                            (try simp only [Act.put, List.setIfInBounds_toArray, List.set_cons_zero, List.set_cons_succ])
                            refine takeWK (i := 10) (v := ?_) rfl rfl (by kernel_rfl) (by kernel_rfl) (by kernel_rfl) (by kernel_rfl) (by rfl) (by rfl) (by kernel_rfl) (fun _ _ _ h => h) (by rfl) ?_ hHeld ?_
                            rotate_left 1
                            · (intro w hSw; (try dsimp only at hSw); go_simp <;> (try with_reducible rfl))
                            (try simp only [Act.put, List.setIfInBounds_toArray, List.set_cons_zero, List.set_cons_succ])
                            refine takeWK (i := 11) (v := ?_) rfl rfl (by kernel_rfl) (by kernel_rfl) (by kernel_rfl) (by kernel_rfl) (by rfl) (by rfl) (by kernel_rfl) (fun _ _ _ h => h) (by rfl) ?_ hHeld ?_
                            rotate_left 1
                            · (intro w hSw; (try dsimp only at hSw); go_simp <;> (try with_reducible rfl))
                            (try simp only [Act.put, List.setIfInBounds_toArray, List.set_cons_zero, List.set_cons_succ])
                            refine takeWK (i := 12) (v := ?_) rfl rfl (by kernel_rfl) (by kernel_rfl) (by kernel_rfl) (by kernel_rfl) (by rfl) (by rfl) (by kernel_rfl) (fun _ _ _ h => h) (by rfl) ?_ hHeld ?_
                            rotate_left 1
                            · (intro w hSw; (try dsimp only at hSw); go_simp <;> (try with_reducible rfl))
                            (try simp only [Act.put, List.setIfInBounds_toArray, List.set_cons_zero, List.set_cons_succ])
                            refine takeWK (i := 13) (v := ?_) rfl rfl (by kernel_rfl) (by kernel_rfl) (by kernel_rfl) (by kernel_rfl) (by rfl) (by rfl) (by kernel_rfl) (fun _ _ _ h => h) (by rfl) ?_ hHeld ?_
                            rotate_left 1
                            · (intro w hSw; (try dsimp only at hSw); go_simp <;> (try with_reducible rfl))
                            (try simp only [Act.put, List.setIfInBounds_toArray, List.set_cons_zero, List.set_cons_succ])
                            refine takeWK (i := 14) (v := ?_) rfl rfl (by kernel_rfl) (by kernel_rfl) (by kernel_rfl) (by kernel_rfl) (by rfl) (by rfl) (by kernel_rfl) (fun _ _ _ h => h) (by rfl) ?_ hHeld ?_
                            rotate_left 1
                            · (intro w hSw; (try dsimp only at hSw); go_simp <;> (try with_reducible rfl))
                            (try simp only [Act.put, List.setIfInBounds_toArray, List.set_cons_zero, List.set_cons_succ])
                            refine takeWK (i := 15) (v := ?_) rfl rfl (by kernel_rfl) (by kernel_rfl) (by kernel_rfl) (by kernel_rfl) (by rfl) (by rfl) (by kernel_rfl) (fun _ _ _ h => h) (by rfl) ?_ hHeld ?_
                            rotate_left 1
                            · (intro w hSw; (try dsimp only at hSw); go_simp <;> (try with_reducible rfl))
                            (try simp only [Act.put, List.setIfInBounds_toArray, List.set_cons_zero, List.set_cons_succ])
                            refine takeWK (i := 16) (v := ?_) rfl rfl (by kernel_rfl) (by kernel_rfl) (by kernel_rfl) (by kernel_rfl) (by rfl) (by rfl) (by kernel_rfl) (fun _ _ _ h => h) (by rfl) ?_ hHeld ?_
                            rotate_left 1
                            · (intro w hSw; (try dsimp only at hSw); go_simp <;> (try with_reducible rfl))
                            (try simp only [Act.put, List.setIfInBounds_toArray, List.set_cons_zero, List.set_cons_succ])
                            refine takeWK (i := 17) (v := ?_) rfl rfl (by kernel_rfl) (by kernel_rfl) (by kernel_rfl) (by kernel_rfl) (by rfl) (by rfl) (by kernel_rfl) (fun _ _ _ h => h) (by rfl) ?_ hHeld ?_
                            rotate_left 1
                            · (intro w hSw; (try dsimp only at hSw); go_simp <;> (try with_reducible rfl))
                            (try simp only [Act.put, List.setIfInBounds_toArray, List.set_cons_zero, List.set_cons_succ])
                            refine takeWK (i := 18) (v := ?_) rfl rfl (by kernel_rfl) (by kernel_rfl) (by kernel_rfl) (by kernel_rfl) (by rfl) (by rfl) (by kernel_rfl) (fun _ _ _ h => h) (by rfl) ?_ hHeld ?_
                            rotate_left 1
                            · (intro w hSw; (try dsimp only at hSw); go_simp <;> (try with_reducible rfl))
                            (try simp only [Act.put, List.setIfInBounds_toArray, List.set_cons_zero, List.set_cons_succ])
                            refine takeWK (i := 19) (v := ?_) rfl rfl (by kernel_rfl) (by kernel_rfl) (by kernel_rfl) (by kernel_rfl) (by rfl) (by rfl) (by kernel_rfl) (fun _ _ _ h => h) (by rfl) ?_ hHeld ?_
                            rotate_left 1
                            · (intro w hSw; (try dsimp only at hSw); go_simp <;> (try with_reducible rfl))
                            (try simp only [Act.put, List.setIfInBounds_toArray, List.set_cons_zero, List.set_cons_succ])
                            refine takeWK (i := 20) (v := ?_) rfl rfl (by kernel_rfl) (by kernel_rfl) (by kernel_rfl) (by kernel_rfl) (by rfl) (by rfl) (by kernel_rfl) (fun _ _ _ h => h) (by rfl) ?_ hHeld ?_
                            rotate_left 1
                            · (intro w hSw; (try dsimp only at hSw); go_simp <;> (try with_reducible rfl))
                            (try simp only [Act.put, List.setIfInBounds_toArray, List.set_cons_zero, List.set_cons_succ])
                            refine takeWK (i := 21) (v := ?_) rfl rfl (by kernel_rfl) (by kernel_rfl) (by kernel_rfl) (by kernel_rfl) (by rfl) (by rfl) (by kernel_rfl) (fun _ _ _ h => h) (by rfl) ?_ hHeld ?_
                            rotate_left 1
                            · (intro w hSw; (try dsimp only at hSw); go_simp <;> (try with_reducible rfl))
                            (try simp only [Act.put, List.setIfInBounds_toArray, List.set_cons_zero, List.set_cons_succ])
                            refine doneK (by kernel_rfl) ?_ _
                            go_wp2
                            go_roundg k2
                            case measure => have := HK2.out; omega
                            case rel => exact ⟨k + 1, rfl, ⟨by have := HK2.out; omega⟩, ⟨by omega⟩, ⟨Hpr1.out⟩⟩
                          · have t1 : decide (y.f0 = z.f0) = false := decide_eq_false hyz
                            have t2 : (y.f0 == z.f0) = false := by simp [hyz]
                            clear hyz HS
                            have x0 : wr.cell? ⟨gj, i * 4, none⟩ = some (.int .i64 y.f0) := Has.rawCell (f := 0) (HU.out.up2) HYA.out rfl
                            have x1 : wr.cell? ⟨gb, k * 4, none⟩ = some (.int .i64 z.f0) := Has.rawCell (f := 0) (HU.out.up3) HZB.out rfl
                            have x2 : wr.cell? ⟨gx, i, none⟩ = some (.int .i64 u) := rowInt (HU.out) HU1.out
                            have x3 : wr.cell? ⟨gy, k, none⟩ = some (.int .i64 v) := rowInt (HU.out.sw) HU2.out
                            go_wp2
                            have Hqr1 := Aside0.mk HU.out.drew
                            clear x0 x1 x2 x3
                            have x0 : (wr).drew.cell? ⟨gj, i * 4, none⟩ = some (.int .i64 y.f0) := Has.rawCell (f := 0) (Hqr1.out.up2) HYA.out rfl
                            have x1 : (wr).drew.cell? ⟨gb, k * 4, none⟩ = some (.int .i64 z.f0) := Has.rawCell (f := 0) (Hqr1.out.up3) HZB.out rfl
                            have x2 : (wr).drew.cell? ⟨gx, i, none⟩ = some (.int .i64 u) := rowInt (Hqr1.out) HU1.out
                            have x3 : (wr).drew.cell? ⟨gy, k, none⟩ = some (.int .i64 v) := rowInt (Hqr1.out.sw) HU2.out
                            refine wp_regionK (T := (fun w' => w'.cell? ⟨gj, i * 4, none⟩ = some (.int .i64 y.f0) ∧ w'.cell? ⟨gb, k * 4, none⟩ = some (.int .i64 z.f0) ∧ w'.cell? ⟨gx, i, none⟩ = some (.int .i64 u) ∧ w'.cell? ⟨gy, k, none⟩ = some (.int .i64 v))) 22 (by kernel_rfl) ?_ (fun hHeld => ?_)
                            · exact ⟨x0, x1, x2, x3⟩
                            refine takeWK (i := 0) (v := ?_) rfl rfl (by kernel_rfl) (by kernel_rfl) (by kernel_rfl) (by kernel_rfl) (by rfl) (by rfl) (by kernel_rfl) (fun _ _ _ h => h) (by rfl) ?_ hHeld ?_
                            rotate_left 1
                            · (intro w hSw; (try dsimp only at hSw); go_simp <;> (try with_reducible rfl))
                            (try simp only [Act.put, List.setIfInBounds_toArray, List.set_cons_zero, List.set_cons_succ])
                            refine takeWK (i := 1) (v := ?_) rfl rfl (by kernel_rfl) (by kernel_rfl) (by kernel_rfl) (by kernel_rfl) (by rfl) (by rfl) (by kernel_rfl) (fun _ _ _ h => h) (by rfl) ?_ hHeld ?_
                            rotate_left 1
                            · (intro w hSw; (try dsimp only at hSw); go_simp <;> (try with_reducible rfl))
                            (try simp only [Act.put, List.setIfInBounds_toArray, List.set_cons_zero, List.set_cons_succ])
                            refine takeWK (i := 2) (v := ?_) rfl rfl (by kernel_rfl) (by kernel_rfl) (by kernel_rfl) (by kernel_rfl) (by rfl) (by rfl) (by kernel_rfl) (fun _ _ _ h => h) (by rfl) ?_ hHeld ?_
                            rotate_left 1
                            · (intro w hSw; (try dsimp only at hSw); go_simp <;> (try with_reducible rfl))
                            (try simp only [Act.put, List.setIfInBounds_toArray, List.set_cons_zero, List.set_cons_succ])
                            refine takeWK (i := 3) (v := ?_) rfl rfl (by kernel_rfl) (by kernel_rfl) (by kernel_rfl) (by kernel_rfl) (by rfl) (by rfl) (by kernel_rfl) (fun _ _ _ h => h) (by rfl) ?_ hHeld ?_
                            rotate_left 1
                            · (intro w hSw; (try dsimp only at hSw); go_simp <;> (try with_reducible rfl))
                            (try simp only [Act.put, List.setIfInBounds_toArray, List.set_cons_zero, List.set_cons_succ])
                            refine takeWK (i := 4) (v := ?_) rfl rfl (by kernel_rfl) (by kernel_rfl) (by kernel_rfl) (by kernel_rfl) (by rfl) (by rfl) (by kernel_rfl) (fun _ _ _ h => h) (by rfl) ?_ hHeld ?_
                            rotate_left 1
                            · (intro w hSw; (try dsimp only at hSw); go_simp <;> (try with_reducible rfl))
                            (try simp only [Act.put, List.setIfInBounds_toArray, List.set_cons_zero, List.set_cons_succ])
                            refine takeWK (i := 5) (v := ?_) rfl rfl (by kernel_rfl) (by kernel_rfl) (by kernel_rfl) (by kernel_rfl) (by rfl) (by rfl) (by kernel_rfl) (fun _ _ _ h => h) (by rfl) ?_ hHeld ?_
                            rotate_left 1
                            · (intro w hSw; (try dsimp only at hSw); go_simp <;> (try with_reducible rfl))
                            (try simp only [Act.put, List.setIfInBounds_toArray, List.set_cons_zero, List.set_cons_succ])
                            refine takeWK (i := 6) (v := ?_) rfl rfl (by kernel_rfl) (by kernel_rfl) (by kernel_rfl) (by kernel_rfl) (by rfl) (by rfl) (by kernel_rfl) (fun _ _ _ h => h) (by rfl) ?_ hHeld ?_
                            rotate_left 1
                            · (intro w hSw; (try dsimp only at hSw); go_simp <;> (try with_reducible rfl))
                            (try simp only [Act.put, List.setIfInBounds_toArray, List.set_cons_zero, List.set_cons_succ])
                            refine takeWK (i := 7) (v := ?_) rfl rfl (by kernel_rfl) (by kernel_rfl) (by kernel_rfl) (by kernel_rfl) (by rfl) (by rfl) (by kernel_rfl) (fun _ _ _ h => h) (by rfl) ?_ hHeld ?_
                            rotate_left 1
                            · (intro w hSw; (try dsimp only at hSw); go_simp <;> (try with_reducible rfl))
                            (try simp only [Act.put, List.setIfInBounds_toArray, List.set_cons_zero, List.set_cons_succ])
                            refine takeWK (i := 8) (v := ?_) rfl rfl (by kernel_rfl) (by kernel_rfl) (by kernel_rfl) (by kernel_rfl) (by rfl) (by rfl) (by kernel_rfl) (fun _ _ _ h => h) (by rfl) ?_ hHeld ?_
                            rotate_left 1
                            · (intro w hSw; (try dsimp only at hSw); go_simp <;> (try with_reducible rfl))
                            (try simp only [Act.put, List.setIfInBounds_toArray, List.set_cons_zero, List.set_cons_succ])
                            refine takeWK (i := 9) (v := ?_) rfl rfl (by kernel_rfl) (by kernel_rfl) (by kernel_rfl) (by kernel_rfl) (by rfl) (by rfl) (by kernel_rfl) (fun _ _ _ h => h) (by rfl) ?_ hHeld ?_
                            rotate_left 1
                            · (intro w hSw; (try dsimp only at hSw); go_simp <;> (try with_reducible rfl))
                            (try simp only [Act.put, List.setIfInBounds_toArray, List.set_cons_zero, List.set_cons_succ])
                            refine takeWK (i := 10) (v := ?_) rfl rfl (by kernel_rfl) (by kernel_rfl) (by kernel_rfl) (by kernel_rfl) (by rfl) (by rfl) (by kernel_rfl) (fun _ _ _ h => h) (by rfl) ?_ hHeld ?_
                            rotate_left 1
                            · (intro w hSw; (try dsimp only at hSw); go_simp <;> (try with_reducible rfl))
                            (try simp only [Act.put, List.setIfInBounds_toArray, List.set_cons_zero, List.set_cons_succ])
                            refine takeWK (i := 11) (v := ?_) rfl rfl (by kernel_rfl) (by kernel_rfl) (by kernel_rfl) (by kernel_rfl) (by rfl) (by rfl) (by kernel_rfl) (fun _ _ _ h => h) (by rfl) ?_ hHeld ?_
                            rotate_left 1
                            · (intro w hSw; (try dsimp only at hSw); go_simp <;> (try with_reducible rfl))
                            (try simp only [Act.put, List.setIfInBounds_toArray, List.set_cons_zero, List.set_cons_succ])
                            refine takeUK (i := 12) rfl rfl (by kernel_rfl) (by kernel_rfl) (by kernel_rfl) (by kernel_rfl) (by rfl) (by rfl) (by kernel_rfl) (fun _ _ _ h => h) (by rfl) hHeld ?_
                            (try simp only [Act.put, List.setIfInBounds_toArray, List.set_cons_zero, List.set_cons_succ])
                            refine takeUK (i := 13) rfl rfl (by kernel_rfl) (by kernel_rfl) (by kernel_rfl) (by kernel_rfl) (by rfl) (by rfl) (by kernel_rfl) (fun _ _ _ h => h) (by rfl) hHeld ?_
                            (try simp only [Act.put, List.setIfInBounds_toArray, List.set_cons_zero, List.set_cons_succ])
                            refine takeUK (i := 14) rfl rfl (by kernel_rfl) (by kernel_rfl) (by kernel_rfl) (by kernel_rfl) (by rfl) (by rfl) (by kernel_rfl) (fun _ _ _ h => h) (by rfl) hHeld ?_
                            (try simp only [Act.put, List.setIfInBounds_toArray, List.set_cons_zero, List.set_cons_succ])
                            refine takeUK (i := 15) rfl rfl (by kernel_rfl) (by kernel_rfl) (by kernel_rfl) (by kernel_rfl) (by rfl) (by rfl) (by kernel_rfl) (fun _ _ _ h => h) (by rfl) hHeld ?_
                            (try simp only [Act.put, List.setIfInBounds_toArray, List.set_cons_zero, List.set_cons_succ])
                            refine takeUK (i := 16) rfl rfl (by kernel_rfl) (by kernel_rfl) (by kernel_rfl) (by kernel_rfl) (by rfl) (by rfl) (by kernel_rfl) (fun _ _ _ h => h) (by rfl) hHeld ?_
                            (try simp only [Act.put, List.setIfInBounds_toArray, List.set_cons_zero, List.set_cons_succ])
                            refine takeUK (i := 17) rfl rfl (by kernel_rfl) (by kernel_rfl) (by kernel_rfl) (by kernel_rfl) (by rfl) (by rfl) (by kernel_rfl) (fun _ _ _ h => h) (by rfl) hHeld ?_
                            (try simp only [Act.put, List.setIfInBounds_toArray, List.set_cons_zero, List.set_cons_succ])
                            refine takeUK (i := 18) rfl rfl (by kernel_rfl) (by kernel_rfl) (by kernel_rfl) (by kernel_rfl) (by rfl) (by rfl) (by kernel_rfl) (fun _ _ _ h => h) (by rfl) hHeld ?_
                            (try simp only [Act.put, List.setIfInBounds_toArray, List.set_cons_zero, List.set_cons_succ])
                            refine takeUK (i := 19) rfl rfl (by kernel_rfl) (by kernel_rfl) (by kernel_rfl) (by kernel_rfl) (by rfl) (by rfl) (by kernel_rfl) (fun _ _ _ h => h) (by rfl) hHeld ?_
                            (try simp only [Act.put, List.setIfInBounds_toArray, List.set_cons_zero, List.set_cons_succ])
                            refine takeUK (i := 20) rfl rfl (by kernel_rfl) (by kernel_rfl) (by kernel_rfl) (by kernel_rfl) (by rfl) (by rfl) (by kernel_rfl) (fun _ _ _ h => h) (by rfl) hHeld ?_
                            (try simp only [Act.put, List.setIfInBounds_toArray, List.set_cons_zero, List.set_cons_succ])
                            refine takeWK (i := 21) (v := ?_) rfl rfl (by kernel_rfl) (by kernel_rfl) (by kernel_rfl) (by kernel_rfl) (by rfl) (by rfl) (by kernel_rfl) (fun _ _ _ h => h) (by rfl) ?_ hHeld ?_
                            rotate_left 1
                            · (intro w hSw; (try dsimp only at hSw); go_simp <;> (try with_reducible rfl))
                            (try simp only [Act.put, List.setIfInBounds_toArray, List.set_cons_zero, List.set_cons_succ])
                            refine doneK (by kernel_rfl) ?_ _
                            go_wp2
                            go_roundg k2
                            case measure => have := HK2.out; omega
                            case rel => exact ⟨k + 1, rfl, ⟨by have := HK2.out; omega⟩, ⟨by omega⟩, ⟨Hqr1.out⟩⟩
                      · have f3 : decide ((k : Int) < (L : Int)) = false := decide_eq_false (by omega)
                        have f4 : decide (k < L) = false := decide_eq_false (by omega)
                        go_wp2
                        go_roundg k1
                        case measure => have := HK.out; omega
                        case rel => exact ⟨i + 1, rfl, ⟨by have := HK.out; omega⟩, ⟨by omega⟩, HU⟩
                · have f1 : decide ((i : Int) < (L : Int)) = false := decide_eq_false (by omega)
                  have f2 : decide (i < L) = false := decide_eq_false (by omega)
                  go_wp2
                  go_ret
                  exact ⟨rfl, HW.out.below⟩
            · have e3 : decide ((m : Int) < (tn : Int)) = true := decide_eq_true (by omega)
              have e4 : decide (m < tn) = true := decide_eq_true (by omega)
              have e5 : decide ((m : Int) < 40) = false := decide_eq_false (by omega)
              have e6 : decide (m < 40) = false := decide_eq_false (by omega)
              clear h1
              go_wp2
              have Hv1 := Aside0.mk HV.out.drew
              have c_grid_0 : (wr).drew.cell? ⟨g9, 0, none⟩ = some (.int .i64 c) := (blk_cell (Hv1.out.up4).blk 0).trans rfl
              have f_grid_0 := blk_frozen (Hv1.out.up4).blk 0
              have c_grid_1 : (wr).drew.cell? ⟨g9, 1, none⟩ = some (.int .i64 r) := (blk_cell (Hv1.out.up4).blk 1).trans rfl
              have f_grid_1 := blk_frozen (Hv1.out.up4).blk 1
              have c_grid_2 : (wr).drew.cell? ⟨g9, 2, none⟩ = some (.int .i64 p) := (blk_cell (Hv1.out.up4).blk 2).trans rfl
              have f_grid_2 := blk_frozen (Hv1.out.up4).blk 2
              have c_grid_3 : (wr).drew.cell? ⟨g9, 3, none⟩ = some (.int .i64 wi) := (blk_cell (Hv1.out.up4).blk 3).trans rfl
              have f_grid_3 := blk_frozen (Hv1.out.up4).blk 3
              have c_grid_4 : (wr).drew.cell? ⟨g9, 4, none⟩ = some (.int .u64 s) := (blk_cell (Hv1.out.up4).blk 4).trans rfl
              have f_grid_4 := blk_frozen (Hv1.out.up4).blk 4
              refine wp_regionK (T := (fun w' => w'.cell? ⟨g9, 0, none⟩ = some (.int .i64 c) ∧ w'.cell? ⟨g9, 1, none⟩ = some (.int .i64 r) ∧ w'.cell? ⟨g9, 2, none⟩ = some (.int .i64 p) ∧ w'.cell? ⟨g9, 3, none⟩ = some (.int .i64 wi) ∧ w'.cell? ⟨g9, 4, none⟩ = some (.int .u64 s))) 8 (by kernel_rfl) ?_ (fun hHeld => ?_)
              · exact ⟨c_grid_0, c_grid_1, c_grid_2, c_grid_3, c_grid_4⟩
              refine takeWK (i := 0) (v := ?_) rfl rfl (by kernel_rfl) (by kernel_rfl) (by kernel_rfl) (by kernel_rfl) (by rfl) (by rfl) (by kernel_rfl) (fun _ _ _ h => h) (by rfl) ?_ hHeld ?_
              rotate_left 1
              · (intro w hSw; (try dsimp only at hSw); go_simp <;> (try with_reducible rfl))
              (try simp only [Act.put, List.setIfInBounds_toArray, List.set_cons_zero, List.set_cons_succ])
              refine takeWK (i := 1) (v := ?_) rfl rfl (by kernel_rfl) (by kernel_rfl) (by kernel_rfl) (by kernel_rfl) (by rfl) (by rfl) (by kernel_rfl) (fun _ _ _ h => h) (by rfl) ?_ hHeld ?_
              rotate_left 1
              · (intro w hSw; (try dsimp only at hSw); go_simp <;> (try with_reducible rfl))
              (try simp only [Act.put, List.setIfInBounds_toArray, List.set_cons_zero, List.set_cons_succ])
              refine takeWK (i := 3) (v := ?_) rfl rfl (by kernel_rfl) (by kernel_rfl) (by kernel_rfl) (by kernel_rfl) (by rfl) (by rfl) (by kernel_rfl) (fun _ _ _ h => h) (by rfl) ?_ hHeld ?_
              rotate_left 1
              · (intro w hSw; (try dsimp only at hSw); go_simp <;> (try with_reducible rfl))
              (try simp only [Act.put, List.setIfInBounds_toArray, List.set_cons_zero, List.set_cons_succ])
              refine takeWK (i := 4) (v := ?_) rfl rfl (by kernel_rfl) (by kernel_rfl) (by kernel_rfl) (by kernel_rfl) (by rfl) (by rfl) (by kernel_rfl) (fun _ _ _ h => h) (by rfl) ?_ hHeld ?_
              rotate_left 1
              · (intro w hSw; (try dsimp only at hSw); go_simp <;> (try with_reducible rfl))
              (try simp only [Act.put, List.setIfInBounds_toArray, List.set_cons_zero, List.set_cons_succ])
              refine readyK (rs := [2]) (by kernel_rfl) (by simp) (AllK.cons (i := 2) rfl (by rfl) (fun K hK => ?_) AllK.nil)
              clear hHeld
              (refine wp_of_list (ops := #[]) (by rfl) ?_; go_wp2_with (first | ((go_at_call 11); (with_reducible refine (of_lines c r p wi s (HREAD.out (Hv1.out.sw) (Hv1.out.up3) HJS.out.lt) HO1.out).mono ?_); rintro e_ wv2 ⟨v_, rfl, hR_, hb_⟩; have h_new := Has.newRow Hv1.out hb_ hR_; clear hb_ hR_; obtain ⟨A_fx, c_fx, ev_⟩ := h_new.rowIs; rw [show (r1).length = L from by exact HL1.out] at ev_; subst ev_; have hc_fx := h_new.rowN.2.1; have Hv2 := Aside0.mk h_new; clear h_new Hv1; clear c_grid_0 f_grid_0 c_grid_1 f_grid_1 c_grid_2 f_grid_2 c_grid_3 f_grid_3 c_grid_4 f_grid_4; have c_grid_0 : wv2.cell? ⟨g9, 0, none⟩ = some (.int .i64 c) := (blk_cell (Hv2.out.up5).blk 0).trans rfl; have f_grid_0 := blk_frozen (Hv2.out.up5).blk 0; have c_grid_1 : wv2.cell? ⟨g9, 1, none⟩ = some (.int .i64 r) := (blk_cell (Hv2.out.up5).blk 1).trans rfl; have f_grid_1 := blk_frozen (Hv2.out.up5).blk 1; have c_grid_2 : wv2.cell? ⟨g9, 2, none⟩ = some (.int .i64 p) := (blk_cell (Hv2.out.up5).blk 2).trans rfl; have f_grid_2 := blk_frozen (Hv2.out.up5).blk 2; have c_grid_3 : wv2.cell? ⟨g9, 3, none⟩ = some (.int .i64 wi) := (blk_cell (Hv2.out.up5).blk 3).trans rfl; have f_grid_3 := blk_frozen (Hv2.out.up5).blk 3; have c_grid_4 : wv2.cell? ⟨g9, 4, none⟩ = some (.int .u64 s) := (blk_cell (Hv2.out.up5).blk 4).trans rfl; have f_grid_4 := blk_frozen (Hv2.out.up5).blk 4)); change K _ _)
              refine hK.out _ _ ?_ (fun hHeld => ?_)
              · exact fun _ => ⟨c_grid_0, c_grid_1, c_grid_2, c_grid_3, c_grid_4⟩
              replace hHeld := hHeld (by rfl)
              clear hK K
              (try simp only [Act.put, List.setIfInBounds_toArray, List.set_cons_zero, List.set_cons_succ])
              refine readyK (rs := [5]) (by kernel_rfl) (by simp) (AllK.cons (i := 5) rfl (by rfl) (fun K hK => ?_) AllK.nil)
              clear hHeld
              (refine wp_of_list (ops := #[]) (by rfl) ?_; go_wp2_with (first | ((go_at_call 11); (with_reducible refine (of_lines c r p wi s (HREAD.out (Hv2.out.sw) (Hv2.out.up4) HKS.out.lt) HO2.out).mono ?_); rintro e_ wv3 ⟨v_, rfl, hR_, hb_⟩; have h_new := Has.newRow Hv2.out hb_ hR_; clear hb_ hR_; obtain ⟨A_fy, c_fy, ev_⟩ := h_new.rowIs; rw [show (r2).length = L from by exact HL2.out] at ev_; subst ev_; have hc_fy := h_new.rowN.2.1; have Hv3 := Aside0.mk h_new; clear h_new Hv2; clear c_grid_0 f_grid_0 c_grid_1 f_grid_1 c_grid_2 f_grid_2 c_grid_3 f_grid_3 c_grid_4 f_grid_4; have c_grid_0 : wv3.cell? ⟨g9, 0, none⟩ = some (.int .i64 c) := (blk_cell (Hv3.out.up6).blk 0).trans rfl; have f_grid_0 := blk_frozen (Hv3.out.up6).blk 0; have c_grid_1 : wv3.cell? ⟨g9, 1, none⟩ = some (.int .i64 r) := (blk_cell (Hv3.out.up6).blk 1).trans rfl; have f_grid_1 := blk_frozen (Hv3.out.up6).blk 1; have c_grid_2 : wv3.cell? ⟨g9, 2, none⟩ = some (.int .i64 p) := (blk_cell (Hv3.out.up6).blk 2).trans rfl; have f_grid_2 := blk_frozen (Hv3.out.up6).blk 2; have c_grid_3 : wv3.cell? ⟨g9, 3, none⟩ = some (.int .i64 wi) := (blk_cell (Hv3.out.up6).blk 3).trans rfl; have f_grid_3 := blk_frozen (Hv3.out.up6).blk 3; have c_grid_4 : wv3.cell? ⟨g9, 4, none⟩ = some (.int .u64 s) := (blk_cell (Hv3.out.up6).blk 4).trans rfl; have f_grid_4 := blk_frozen (Hv3.out.up6).blk 4)); change K _ _)
              refine hK.out _ _ ?_ (fun hHeld => ?_)
              · exact fun _ => ⟨c_grid_0, c_grid_1, c_grid_2, c_grid_3, c_grid_4⟩
              replace hHeld := hHeld (by rfl)
              clear hK K
              (try simp only [Act.put, List.setIfInBounds_toArray, List.set_cons_zero, List.set_cons_succ])
              refine takeWK (i := 6) (v := ?_) rfl rfl (by kernel_rfl) (by kernel_rfl) (by kernel_rfl) (by kernel_rfl) (by rfl) (by rfl) (by kernel_rfl) (fun _ _ _ h => h) (by rfl) ?_ hHeld ?_
              rotate_left 1
              · (intro w hSw; (try dsimp only at hSw); go_simp <;> (try with_reducible rfl))
              (try simp only [Act.put, List.setIfInBounds_toArray, List.set_cons_zero, List.set_cons_succ])
              refine takeWK (i := 7) (v := ?_) rfl rfl (by kernel_rfl) (by kernel_rfl) (by kernel_rfl) (by kernel_rfl) (by rfl) (by rfl) (by kernel_rfl) (fun _ _ _ h => h) (by rfl) ?_ hHeld ?_
              rotate_left 1
              · (intro w hSw; (try dsimp only at hSw); go_simp <;> (try with_reducible rfl))
              (try simp only [Act.put, List.setIfInBounds_toArray, List.set_cons_zero, List.set_cons_succ])
              refine doneK (by kernel_rfl) ?_ _
              go_wp2
              go_loopg [19] (L + 1) (fun kq v19 w' => ∃ i : Nat, v19 = .int .i64 (i : Int) ∧ Aside0 (i + kq = L + 1) ∧ Aside0 (i ≤ L) ∧ Aside0 (Has w w.heap.size w' [row (Kd.int .i64) 3 (.slice A_fx L c_fx) r1, row (Kd.int .i64) 3 (.slice A_fy L c_fy) r2, row (kcells 4) 44 (.slice Aj L cj) (rawAt R js), row (kcells 4) 44 (.slice A_b L c_b) (rawAt R ks), row (kcells 4) 44 (.slice Aa n ca) R, O, blk g9 (.cells #[.int .i64 c, .int .i64 r, .int .i64 p, .int .i64 wi, .int .u64 s] 27 (0, 0)), blk g4 (.cells #[.int .i64 c, .int .i64 r, .int .i64 p, .int .i64 wi, .int .u64 s] 24 (0, 0))]))
              case atStart => exact ⟨0, rfl, ⟨by omega⟩, ⟨by omega⟩, ⟨(Hv3.out.up7.up7.up7.up7.up6.up7.up6.up7)⟩⟩
              case round =>
                clear Hv3 HV
                obtain ⟨i, rfl, HK, HI, HW⟩ := hrel
                have hii := HI.out
                by_cases hil : i < L
                · have f1 : decide ((i : Int) < (L : Int)) = true := decide_eq_true (by omega)
                  have f2 : decide (i < L) = true := decide_eq_true (by omega)
                  have i0 : (0 : Int) ≤ (i : Int) := by omega
                  have iL : (i : Int) < (L : Int) := by omega
                  cases gk with
                  | zero => exact absurd HK.out (by omega)
                  | succ k1 =>
                    go_wp2
                    go_loopg [20] (L + 1) (fun kq v20 w' => ∃ k : Nat, v20 = .int .i64 (k : Int) ∧ Aside0 (k + kq = L + 1) ∧ Aside0 (k ≤ L) ∧ Aside0 (Has w w.heap.size w' [row (Kd.int .i64) 3 (.slice A_fx L c_fx) r1, row (Kd.int .i64) 3 (.slice A_fy L c_fy) r2, row (kcells 4) 44 (.slice Aj L cj) (rawAt R js), row (kcells 4) 44 (.slice A_b L c_b) (rawAt R ks), row (kcells 4) 44 (.slice Aa n ca) R, O, blk g9 (.cells #[.int .i64 c, .int .i64 r, .int .i64 p, .int .i64 wi, .int .u64 s] 27 (0, 0)), blk g4 (.cells #[.int .i64 c, .int .i64 r, .int .i64 p, .int .i64 wi, .int .u64 s] 24 (0, 0))]))
                    case atStart => exact ⟨0, rfl, ⟨by omega⟩, ⟨by omega⟩, HW⟩
                    case round =>
                      clear HW
                      obtain ⟨k, rfl, HK2, HI2, HU⟩ := hrel
                      have hkk := HI2.out
                      by_cases hkl : k < L
                      · have f3 : decide ((k : Int) < (L : Int)) = true := decide_eq_true (by omega)
                        have f4 : decide (k < L) = true := decide_eq_true (by omega)
                        have k0 : (0 : Int) ≤ (k : Int) := by omega
                        have kL : (k : Int) < (L : Int) := by omega
                        obtain ⟨a, ha⟩ : ∃ a, js[i]? = some a := ⟨js[i]'(by rw [HL.out]; exact hil), List.getElem?_eq_getElem _⟩
                        obtain ⟨b, hb⟩ : ∃ b, ks[k]? = some b := ⟨ks[k]'(by rw [HKL.out]; exact hkl), List.getElem?_eq_getElem _⟩
                        obtain ⟨y, hy⟩ : ∃ y, Y[a]? = some y := ⟨Y[a]'(HJS.out.lt a (List.mem_of_getElem? ha)), List.getElem?_eq_getElem _⟩
                        obtain ⟨z, hz⟩ : ∃ z, Y[b]? = some z := ⟨Y[b]'(HKS.out.lt b (List.mem_of_getElem? hb)), List.getElem?_eq_getElem _⟩
                        obtain ⟨y2, y3, hRy, _, _, _⟩ := HRA.out a y hy
                        obtain ⟨z2, z3, hRz, _, _, _⟩ := HRA.out b z hz
                        obtain ⟨u, hu⟩ : ∃ u, r1[i]? = some u := ⟨r1[i]'(by rw [HL1.out]; exact hil), List.getElem?_eq_getElem _⟩
                        obtain ⟨v, hv⟩ : ∃ v, r2[k]? = some v := ⟨r2[k]'(by rw [HL2.out]; exact hkl), List.getElem?_eq_getElem _⟩
                        have HYA := Aside0.mk (rawAt_at ha hRy)
                        have HZB := Aside0.mk (rawAt_at hb hRz)
                        have HU1 := Aside0.mk hu
                        have HU2 := Aside0.mk hv
                        have HS := Aside0.mk (fun e => HSAME.out i k a b y z u v ha hb hy hz e hu hv)
                        clear ha hb hy hz hRy hRz hu hv
                        obtain ⟨gx, rfl⟩ := HU.out.rowAt (by omega)
                        obtain ⟨gy, rfl⟩ := HU.out.sw.rowAt (by omega)
                        obtain ⟨gj, rfl⟩ := HU.out.up2.rowAt (by omega)
                        obtain ⟨gb, rfl⟩ := HU.out.up3.rowAt (by omega)
                        cases gk with
                        | zero => exact absurd HK2.out (by omega)
                        | succ k2 =>
                          by_cases hyz : y.f0 = z.f0
                          · obtain rfl := HS.out hyz
                            have t1 : decide (y.f0 = z.f0) = true := decide_eq_true hyz
                            have t2 : (y.f0 == z.f0) = true := by simp [hyz]
                            clear hyz
                            have x0 : wr.cell? ⟨gj, i * 4, none⟩ = some (.int .i64 y.f0) := Has.rawCell (f := 0) (HU.out.up2) HYA.out rfl
                            have x1 : wr.cell? ⟨gb, k * 4, none⟩ = some (.int .i64 z.f0) := Has.rawCell (f := 0) (HU.out.up3) HZB.out rfl
                            have x2 : wr.cell? ⟨gx, i, none⟩ = some (.int .i64 u) := rowInt (HU.out) HU1.out
                            have x3 : wr.cell? ⟨gy, k, none⟩ = some (.int .i64 u) := rowInt (HU.out.sw) HU2.out
                            go_wp2
                            have Hpr1 := Aside0.mk HU.out.drew
                            clear x0 x1 x2 x3
                            have x0 : (wr).drew.cell? ⟨gj, i * 4, none⟩ = some (.int .i64 y.f0) := Has.rawCell (f := 0) (Hpr1.out.up2) HYA.out rfl
                            have x1 : (wr).drew.cell? ⟨gb, k * 4, none⟩ = some (.int .i64 z.f0) := Has.rawCell (f := 0) (Hpr1.out.up3) HZB.out rfl
                            have x2 : (wr).drew.cell? ⟨gx, i, none⟩ = some (.int .i64 u) := rowInt (Hpr1.out) HU1.out
                            have x3 : (wr).drew.cell? ⟨gy, k, none⟩ = some (.int .i64 u) := rowInt (Hpr1.out.sw) HU2.out
                            refine wp_regionK (T := (fun w' => w'.cell? ⟨gj, i * 4, none⟩ = some (.int .i64 y.f0) ∧ w'.cell? ⟨gb, k * 4, none⟩ = some (.int .i64 z.f0) ∧ w'.cell? ⟨gx, i, none⟩ = some (.int .i64 u) ∧ w'.cell? ⟨gy, k, none⟩ = some (.int .i64 u))) 22 (by kernel_rfl) ?_ (fun hHeld => ?_)
                            · exact ⟨x0, x1, x2, x3⟩
                            refine takeWK (i := 0) (v := ?_) rfl rfl (by kernel_rfl) (by kernel_rfl) (by kernel_rfl) (by kernel_rfl) (by rfl) (by rfl) (by kernel_rfl) (fun _ _ _ h => h) (by rfl) ?_ hHeld ?_
                            rotate_left 1
                            · (intro w hSw; (try dsimp only at hSw); go_simp <;> (try with_reducible rfl))
                            (try simp only [Act.put, List.setIfInBounds_toArray, List.set_cons_zero, List.set_cons_succ])
                            refine takeWK (i := 1) (v := ?_) rfl rfl (by kernel_rfl) (by kernel_rfl) (by kernel_rfl) (by kernel_rfl) (by rfl) (by rfl) (by kernel_rfl) (fun _ _ _ h => h) (by rfl) ?_ hHeld ?_
                            rotate_left 1
                            · (intro w hSw; (try dsimp only at hSw); go_simp <;> (try with_reducible rfl))
                            (try simp only [Act.put, List.setIfInBounds_toArray, List.set_cons_zero, List.set_cons_succ])
                            refine takeWK (i := 2) (v := ?_) rfl rfl (by kernel_rfl) (by kernel_rfl) (by kernel_rfl) (by kernel_rfl) (by rfl) (by rfl) (by kernel_rfl) (fun _ _ _ h => h) (by rfl) ?_ hHeld ?_
                            rotate_left 1
                            · (intro w hSw; (try dsimp only at hSw); go_simp <;> (try with_reducible rfl))
                            (try simp only [Act.put, List.setIfInBounds_toArray, List.set_cons_zero, List.set_cons_succ])
                            refine takeWK (i := 3) (v := ?_) rfl rfl (by kernel_rfl) (by kernel_rfl) (by kernel_rfl) (by kernel_rfl) (by rfl) (by rfl) (by kernel_rfl) (fun _ _ _ h => h) (by rfl) ?_ hHeld ?_
                            rotate_left 1
                            · (intro w hSw; (try dsimp only at hSw); go_simp <;> (try with_reducible rfl))
                            (try simp only [Act.put, List.setIfInBounds_toArray, List.set_cons_zero, List.set_cons_succ])
                            refine takeWK (i := 4) (v := ?_) rfl rfl (by kernel_rfl) (by kernel_rfl) (by kernel_rfl) (by kernel_rfl) (by rfl) (by rfl) (by kernel_rfl) (fun _ _ _ h => h) (by rfl) ?_ hHeld ?_
                            rotate_left 1
                            · (intro w hSw; (try dsimp only at hSw); go_simp <;> (try with_reducible rfl))
                            (try simp only [Act.put, List.setIfInBounds_toArray, List.set_cons_zero, List.set_cons_succ])
                            refine takeWK (i := 5) (v := ?_) rfl rfl (by kernel_rfl) (by kernel_rfl) (by kernel_rfl) (by kernel_rfl) (by rfl) (by rfl) (by kernel_rfl) (fun _ _ _ h => h) (by rfl) ?_ hHeld ?_
                            rotate_left 1
                            · (intro w hSw; (try dsimp only at hSw); go_simp <;> (try with_reducible rfl))
                            (try simp only [Act.put, List.setIfInBounds_toArray, List.set_cons_zero, List.set_cons_succ])
                            refine takeWK (i := 6) (v := ?_) rfl rfl (by kernel_rfl) (by kernel_rfl) (by kernel_rfl) (by kernel_rfl) (by rfl) (by rfl) (by kernel_rfl) (fun _ _ _ h => h) (by rfl) ?_ hHeld ?_
                            rotate_left 1
                            · (intro w hSw; (try dsimp only at hSw); go_simp <;> (try with_reducible rfl))
                            (try simp only [Act.put, List.setIfInBounds_toArray, List.set_cons_zero, List.set_cons_succ])
                            refine takeWK (i := 7) (v := ?_) rfl rfl (by kernel_rfl) (by kernel_rfl) (by kernel_rfl) (by kernel_rfl) (by rfl) (by rfl) (by kernel_rfl) (fun _ _ _ h => h) (by rfl) ?_ hHeld ?_
                            rotate_left 1
                            · (intro w hSw; (try dsimp only at hSw); go_simp <;> (try with_reducible rfl))
                            (try simp only [Act.put, List.setIfInBounds_toArray, List.set_cons_zero, List.set_cons_succ])
                            refine takeWK (i := 8) (v := ?_) rfl rfl (by kernel_rfl) (by kernel_rfl) (by kernel_rfl) (by kernel_rfl) (by rfl) (by rfl) (by kernel_rfl) (fun _ _ _ h => h) (by rfl) ?_ hHeld ?_
                            rotate_left 1
                            · (intro w hSw; (try dsimp only at hSw); go_simp <;> (try with_reducible rfl))
                            (try simp only [Act.put, List.setIfInBounds_toArray, List.set_cons_zero, List.set_cons_succ])
                            refine takeWK (i := 9) (v := ?_) rfl rfl (by kernel_rfl) (by kernel_rfl) (by kernel_rfl) (by kernel_rfl) (by rfl) (by rfl) (by kernel_rfl) (fun _ _ _ h => h) (by rfl) ?_ hHeld ?_
                            rotate_left 1
                            · (intro w hSw; (try dsimp only at hSw); go_simp <;> (try with_reducible rfl))
                            (try simp only [Act.put, List.setIfInBounds_toArray, List.set_cons_zero, List.set_cons_succ])
                            refine takeWK (i := 10) (v := ?_) rfl rfl (by kernel_rfl) (by kernel_rfl) (by kernel_rfl) (by kernel_rfl) (by rfl) (by rfl) (by kernel_rfl) (fun _ _ _ h => h) (by rfl) ?_ hHeld ?_
                            rotate_left 1
                            · (intro w hSw; (try dsimp only at hSw); go_simp <;> (try with_reducible rfl))
                            (try simp only [Act.put, List.setIfInBounds_toArray, List.set_cons_zero, List.set_cons_succ])
                            refine takeWK (i := 11) (v := ?_) rfl rfl (by kernel_rfl) (by kernel_rfl) (by kernel_rfl) (by kernel_rfl) (by rfl) (by rfl) (by kernel_rfl) (fun _ _ _ h => h) (by rfl) ?_ hHeld ?_
                            rotate_left 1
                            · (intro w hSw; (try dsimp only at hSw); go_simp <;> (try with_reducible rfl))
                            (try simp only [Act.put, List.setIfInBounds_toArray, List.set_cons_zero, List.set_cons_succ])
                            refine takeWK (i := 12) (v := ?_) rfl rfl (by kernel_rfl) (by kernel_rfl) (by kernel_rfl) (by kernel_rfl) (by rfl) (by rfl) (by kernel_rfl) (fun _ _ _ h => h) (by rfl) ?_ hHeld ?_
                            rotate_left 1
                            · (intro w hSw; (try dsimp only at hSw); go_simp <;> (try with_reducible rfl))
                            (try simp only [Act.put, List.setIfInBounds_toArray, List.set_cons_zero, List.set_cons_succ])
                            refine takeWK (i := 13) (v := ?_) rfl rfl (by kernel_rfl) (by kernel_rfl) (by kernel_rfl) (by kernel_rfl) (by rfl) (by rfl) (by kernel_rfl) (fun _ _ _ h => h) (by rfl) ?_ hHeld ?_
                            rotate_left 1
                            · (intro w hSw; (try dsimp only at hSw); go_simp <;> (try with_reducible rfl))
                            (try simp only [Act.put, List.setIfInBounds_toArray, List.set_cons_zero, List.set_cons_succ])
                            refine takeWK (i := 14) (v := ?_) rfl rfl (by kernel_rfl) (by kernel_rfl) (by kernel_rfl) (by kernel_rfl) (by rfl) (by rfl) (by kernel_rfl) (fun _ _ _ h => h) (by rfl) ?_ hHeld ?_
                            rotate_left 1
                            · (intro w hSw; (try dsimp only at hSw); go_simp <;> (try with_reducible rfl))
                            (try simp only [Act.put, List.setIfInBounds_toArray, List.set_cons_zero, List.set_cons_succ])
                            refine takeWK (i := 15) (v := ?_) rfl rfl (by kernel_rfl) (by kernel_rfl) (by kernel_rfl) (by kernel_rfl) (by rfl) (by rfl) (by kernel_rfl) (fun _ _ _ h => h) (by rfl) ?_ hHeld ?_
                            rotate_left 1
                            · (intro w hSw; (try dsimp only at hSw); go_simp <;> (try with_reducible rfl))
                            (try simp only [Act.put, List.setIfInBounds_toArray, List.set_cons_zero, List.set_cons_succ])
                            refine takeWK (i := 16) (v := ?_) rfl rfl (by kernel_rfl) (by kernel_rfl) (by kernel_rfl) (by kernel_rfl) (by rfl) (by rfl) (by kernel_rfl) (fun _ _ _ h => h) (by rfl) ?_ hHeld ?_
                            rotate_left 1
                            · (intro w hSw; (try dsimp only at hSw); go_simp <;> (try with_reducible rfl))
                            (try simp only [Act.put, List.setIfInBounds_toArray, List.set_cons_zero, List.set_cons_succ])
                            refine takeWK (i := 17) (v := ?_) rfl rfl (by kernel_rfl) (by kernel_rfl) (by kernel_rfl) (by kernel_rfl) (by rfl) (by rfl) (by kernel_rfl) (fun _ _ _ h => h) (by rfl) ?_ hHeld ?_
                            rotate_left 1
                            · (intro w hSw; (try dsimp only at hSw); go_simp <;> (try with_reducible rfl))
                            (try simp only [Act.put, List.setIfInBounds_toArray, List.set_cons_zero, List.set_cons_succ])
                            refine takeWK (i := 18) (v := ?_) rfl rfl (by kernel_rfl) (by kernel_rfl) (by kernel_rfl) (by kernel_rfl) (by rfl) (by rfl) (by kernel_rfl) (fun _ _ _ h => h) (by rfl) ?_ hHeld ?_
                            rotate_left 1
                            · (intro w hSw; (try dsimp only at hSw); go_simp <;> (try with_reducible rfl))
                            (try simp only [Act.put, List.setIfInBounds_toArray, List.set_cons_zero, List.set_cons_succ])
                            refine takeWK (i := 19) (v := ?_) rfl rfl (by kernel_rfl) (by kernel_rfl) (by kernel_rfl) (by kernel_rfl) (by rfl) (by rfl) (by kernel_rfl) (fun _ _ _ h => h) (by rfl) ?_ hHeld ?_
                            rotate_left 1
                            · (intro w hSw; (try dsimp only at hSw); go_simp <;> (try with_reducible rfl))
                            (try simp only [Act.put, List.setIfInBounds_toArray, List.set_cons_zero, List.set_cons_succ])
                            refine takeWK (i := 20) (v := ?_) rfl rfl (by kernel_rfl) (by kernel_rfl) (by kernel_rfl) (by kernel_rfl) (by rfl) (by rfl) (by kernel_rfl) (fun _ _ _ h => h) (by rfl) ?_ hHeld ?_
                            rotate_left 1
                            · (intro w hSw; (try dsimp only at hSw); go_simp <;> (try with_reducible rfl))
                            (try simp only [Act.put, List.setIfInBounds_toArray, List.set_cons_zero, List.set_cons_succ])
                            refine takeWK (i := 21) (v := ?_) rfl rfl (by kernel_rfl) (by kernel_rfl) (by kernel_rfl) (by kernel_rfl) (by rfl) (by rfl) (by kernel_rfl) (fun _ _ _ h => h) (by rfl) ?_ hHeld ?_
                            rotate_left 1
                            · (intro w hSw; (try dsimp only at hSw); go_simp <;> (try with_reducible rfl))
                            (try simp only [Act.put, List.setIfInBounds_toArray, List.set_cons_zero, List.set_cons_succ])
                            refine doneK (by kernel_rfl) ?_ _
                            go_wp2
                            go_roundg k2
                            case measure => have := HK2.out; omega
                            case rel => exact ⟨k + 1, rfl, ⟨by have := HK2.out; omega⟩, ⟨by omega⟩, ⟨Hpr1.out⟩⟩
                          · have t1 : decide (y.f0 = z.f0) = false := decide_eq_false hyz
                            have t2 : (y.f0 == z.f0) = false := by simp [hyz]
                            clear hyz HS
                            have x0 : wr.cell? ⟨gj, i * 4, none⟩ = some (.int .i64 y.f0) := Has.rawCell (f := 0) (HU.out.up2) HYA.out rfl
                            have x1 : wr.cell? ⟨gb, k * 4, none⟩ = some (.int .i64 z.f0) := Has.rawCell (f := 0) (HU.out.up3) HZB.out rfl
                            have x2 : wr.cell? ⟨gx, i, none⟩ = some (.int .i64 u) := rowInt (HU.out) HU1.out
                            have x3 : wr.cell? ⟨gy, k, none⟩ = some (.int .i64 v) := rowInt (HU.out.sw) HU2.out
                            go_wp2
                            have Hqr1 := Aside0.mk HU.out.drew
                            clear x0 x1 x2 x3
                            have x0 : (wr).drew.cell? ⟨gj, i * 4, none⟩ = some (.int .i64 y.f0) := Has.rawCell (f := 0) (Hqr1.out.up2) HYA.out rfl
                            have x1 : (wr).drew.cell? ⟨gb, k * 4, none⟩ = some (.int .i64 z.f0) := Has.rawCell (f := 0) (Hqr1.out.up3) HZB.out rfl
                            have x2 : (wr).drew.cell? ⟨gx, i, none⟩ = some (.int .i64 u) := rowInt (Hqr1.out) HU1.out
                            have x3 : (wr).drew.cell? ⟨gy, k, none⟩ = some (.int .i64 v) := rowInt (Hqr1.out.sw) HU2.out
                            refine wp_regionK (T := (fun w' => w'.cell? ⟨gj, i * 4, none⟩ = some (.int .i64 y.f0) ∧ w'.cell? ⟨gb, k * 4, none⟩ = some (.int .i64 z.f0) ∧ w'.cell? ⟨gx, i, none⟩ = some (.int .i64 u) ∧ w'.cell? ⟨gy, k, none⟩ = some (.int .i64 v))) 22 (by kernel_rfl) ?_ (fun hHeld => ?_)
                            · exact ⟨x0, x1, x2, x3⟩
                            refine takeWK (i := 0) (v := ?_) rfl rfl (by kernel_rfl) (by kernel_rfl) (by kernel_rfl) (by kernel_rfl) (by rfl) (by rfl) (by kernel_rfl) (fun _ _ _ h => h) (by rfl) ?_ hHeld ?_
                            rotate_left 1
                            · (intro w hSw; (try dsimp only at hSw); go_simp <;> (try with_reducible rfl))
                            (try simp only [Act.put, List.setIfInBounds_toArray, List.set_cons_zero, List.set_cons_succ])
                            refine takeWK (i := 1) (v := ?_) rfl rfl (by kernel_rfl) (by kernel_rfl) (by kernel_rfl) (by kernel_rfl) (by rfl) (by rfl) (by kernel_rfl) (fun _ _ _ h => h) (by rfl) ?_ hHeld ?_
                            rotate_left 1
                            · (intro w hSw; (try dsimp only at hSw); go_simp <;> (try with_reducible rfl))
                            (try simp only [Act.put, List.setIfInBounds_toArray, List.set_cons_zero, List.set_cons_succ])
                            refine takeWK (i := 2) (v := ?_) rfl rfl (by kernel_rfl) (by kernel_rfl) (by kernel_rfl) (by kernel_rfl) (by rfl) (by rfl) (by kernel_rfl) (fun _ _ _ h => h) (by rfl) ?_ hHeld ?_
                            rotate_left 1
                            · (intro w hSw; (try dsimp only at hSw); go_simp <;> (try with_reducible rfl))
                            (try simp only [Act.put, List.setIfInBounds_toArray, List.set_cons_zero, List.set_cons_succ])
                            refine takeWK (i := 3) (v := ?_) rfl rfl (by kernel_rfl) (by kernel_rfl) (by kernel_rfl) (by kernel_rfl) (by rfl) (by rfl) (by kernel_rfl) (fun _ _ _ h => h) (by rfl) ?_ hHeld ?_
                            rotate_left 1
                            · (intro w hSw; (try dsimp only at hSw); go_simp <;> (try with_reducible rfl))
                            (try simp only [Act.put, List.setIfInBounds_toArray, List.set_cons_zero, List.set_cons_succ])
                            refine takeWK (i := 4) (v := ?_) rfl rfl (by kernel_rfl) (by kernel_rfl) (by kernel_rfl) (by kernel_rfl) (by rfl) (by rfl) (by kernel_rfl) (fun _ _ _ h => h) (by rfl) ?_ hHeld ?_
                            rotate_left 1
                            · (intro w hSw; (try dsimp only at hSw); go_simp <;> (try with_reducible rfl))
                            (try simp only [Act.put, List.setIfInBounds_toArray, List.set_cons_zero, List.set_cons_succ])
                            refine takeWK (i := 5) (v := ?_) rfl rfl (by kernel_rfl) (by kernel_rfl) (by kernel_rfl) (by kernel_rfl) (by rfl) (by rfl) (by kernel_rfl) (fun _ _ _ h => h) (by rfl) ?_ hHeld ?_
                            rotate_left 1
                            · (intro w hSw; (try dsimp only at hSw); go_simp <;> (try with_reducible rfl))
                            (try simp only [Act.put, List.setIfInBounds_toArray, List.set_cons_zero, List.set_cons_succ])
                            refine takeWK (i := 6) (v := ?_) rfl rfl (by kernel_rfl) (by kernel_rfl) (by kernel_rfl) (by kernel_rfl) (by rfl) (by rfl) (by kernel_rfl) (fun _ _ _ h => h) (by rfl) ?_ hHeld ?_
                            rotate_left 1
                            · (intro w hSw; (try dsimp only at hSw); go_simp <;> (try with_reducible rfl))
                            (try simp only [Act.put, List.setIfInBounds_toArray, List.set_cons_zero, List.set_cons_succ])
                            refine takeWK (i := 7) (v := ?_) rfl rfl (by kernel_rfl) (by kernel_rfl) (by kernel_rfl) (by kernel_rfl) (by rfl) (by rfl) (by kernel_rfl) (fun _ _ _ h => h) (by rfl) ?_ hHeld ?_
                            rotate_left 1
                            · (intro w hSw; (try dsimp only at hSw); go_simp <;> (try with_reducible rfl))
                            (try simp only [Act.put, List.setIfInBounds_toArray, List.set_cons_zero, List.set_cons_succ])
                            refine takeWK (i := 8) (v := ?_) rfl rfl (by kernel_rfl) (by kernel_rfl) (by kernel_rfl) (by kernel_rfl) (by rfl) (by rfl) (by kernel_rfl) (fun _ _ _ h => h) (by rfl) ?_ hHeld ?_
                            rotate_left 1
                            · (intro w hSw; (try dsimp only at hSw); go_simp <;> (try with_reducible rfl))
                            (try simp only [Act.put, List.setIfInBounds_toArray, List.set_cons_zero, List.set_cons_succ])
                            refine takeWK (i := 9) (v := ?_) rfl rfl (by kernel_rfl) (by kernel_rfl) (by kernel_rfl) (by kernel_rfl) (by rfl) (by rfl) (by kernel_rfl) (fun _ _ _ h => h) (by rfl) ?_ hHeld ?_
                            rotate_left 1
                            · (intro w hSw; (try dsimp only at hSw); go_simp <;> (try with_reducible rfl))
                            (try simp only [Act.put, List.setIfInBounds_toArray, List.set_cons_zero, List.set_cons_succ])
                            refine takeWK (i := 10) (v := ?_) rfl rfl (by kernel_rfl) (by kernel_rfl) (by kernel_rfl) (by kernel_rfl) (by rfl) (by rfl) (by kernel_rfl) (fun _ _ _ h => h) (by rfl) ?_ hHeld ?_
                            rotate_left 1
                            · (intro w hSw; (try dsimp only at hSw); go_simp <;> (try with_reducible rfl))
                            (try simp only [Act.put, List.setIfInBounds_toArray, List.set_cons_zero, List.set_cons_succ])
                            refine takeWK (i := 11) (v := ?_) rfl rfl (by kernel_rfl) (by kernel_rfl) (by kernel_rfl) (by kernel_rfl) (by rfl) (by rfl) (by kernel_rfl) (fun _ _ _ h => h) (by rfl) ?_ hHeld ?_
                            rotate_left 1
                            · (intro w hSw; (try dsimp only at hSw); go_simp <;> (try with_reducible rfl))
                            (try simp only [Act.put, List.setIfInBounds_toArray, List.set_cons_zero, List.set_cons_succ])
                            refine takeUK (i := 12) rfl rfl (by kernel_rfl) (by kernel_rfl) (by kernel_rfl) (by kernel_rfl) (by rfl) (by rfl) (by kernel_rfl) (fun _ _ _ h => h) (by rfl) hHeld ?_
                            (try simp only [Act.put, List.setIfInBounds_toArray, List.set_cons_zero, List.set_cons_succ])
                            refine takeUK (i := 13) rfl rfl (by kernel_rfl) (by kernel_rfl) (by kernel_rfl) (by kernel_rfl) (by rfl) (by rfl) (by kernel_rfl) (fun _ _ _ h => h) (by rfl) hHeld ?_
                            (try simp only [Act.put, List.setIfInBounds_toArray, List.set_cons_zero, List.set_cons_succ])
                            refine takeUK (i := 14) rfl rfl (by kernel_rfl) (by kernel_rfl) (by kernel_rfl) (by kernel_rfl) (by rfl) (by rfl) (by kernel_rfl) (fun _ _ _ h => h) (by rfl) hHeld ?_
                            (try simp only [Act.put, List.setIfInBounds_toArray, List.set_cons_zero, List.set_cons_succ])
                            refine takeUK (i := 15) rfl rfl (by kernel_rfl) (by kernel_rfl) (by kernel_rfl) (by kernel_rfl) (by rfl) (by rfl) (by kernel_rfl) (fun _ _ _ h => h) (by rfl) hHeld ?_
                            (try simp only [Act.put, List.setIfInBounds_toArray, List.set_cons_zero, List.set_cons_succ])
                            refine takeUK (i := 16) rfl rfl (by kernel_rfl) (by kernel_rfl) (by kernel_rfl) (by kernel_rfl) (by rfl) (by rfl) (by kernel_rfl) (fun _ _ _ h => h) (by rfl) hHeld ?_
                            (try simp only [Act.put, List.setIfInBounds_toArray, List.set_cons_zero, List.set_cons_succ])
                            refine takeUK (i := 17) rfl rfl (by kernel_rfl) (by kernel_rfl) (by kernel_rfl) (by kernel_rfl) (by rfl) (by rfl) (by kernel_rfl) (fun _ _ _ h => h) (by rfl) hHeld ?_
                            (try simp only [Act.put, List.setIfInBounds_toArray, List.set_cons_zero, List.set_cons_succ])
                            refine takeUK (i := 18) rfl rfl (by kernel_rfl) (by kernel_rfl) (by kernel_rfl) (by kernel_rfl) (by rfl) (by rfl) (by kernel_rfl) (fun _ _ _ h => h) (by rfl) hHeld ?_
                            (try simp only [Act.put, List.setIfInBounds_toArray, List.set_cons_zero, List.set_cons_succ])
                            refine takeUK (i := 19) rfl rfl (by kernel_rfl) (by kernel_rfl) (by kernel_rfl) (by kernel_rfl) (by rfl) (by rfl) (by kernel_rfl) (fun _ _ _ h => h) (by rfl) hHeld ?_
                            (try simp only [Act.put, List.setIfInBounds_toArray, List.set_cons_zero, List.set_cons_succ])
                            refine takeUK (i := 20) rfl rfl (by kernel_rfl) (by kernel_rfl) (by kernel_rfl) (by kernel_rfl) (by rfl) (by rfl) (by kernel_rfl) (fun _ _ _ h => h) (by rfl) hHeld ?_
                            (try simp only [Act.put, List.setIfInBounds_toArray, List.set_cons_zero, List.set_cons_succ])
                            refine takeWK (i := 21) (v := ?_) rfl rfl (by kernel_rfl) (by kernel_rfl) (by kernel_rfl) (by kernel_rfl) (by rfl) (by rfl) (by kernel_rfl) (fun _ _ _ h => h) (by rfl) ?_ hHeld ?_
                            rotate_left 1
                            · (intro w hSw; (try dsimp only at hSw); go_simp <;> (try with_reducible rfl))
                            (try simp only [Act.put, List.setIfInBounds_toArray, List.set_cons_zero, List.set_cons_succ])
                            refine doneK (by kernel_rfl) ?_ _
                            go_wp2
                            go_roundg k2
                            case measure => have := HK2.out; omega
                            case rel => exact ⟨k + 1, rfl, ⟨by have := HK2.out; omega⟩, ⟨by omega⟩, ⟨Hqr1.out⟩⟩
                      · have f3 : decide ((k : Int) < (L : Int)) = false := decide_eq_false (by omega)
                        have f4 : decide (k < L) = false := decide_eq_false (by omega)
                        go_wp2
                        go_roundg k1
                        case measure => have := HK.out; omega
                        case rel => exact ⟨i + 1, rfl, ⟨by have := HK.out; omega⟩, ⟨by omega⟩, HU⟩
                · have f1 : decide ((i : Int) < (L : Int)) = false := decide_eq_false (by omega)
                  have f2 : decide (i < L) = false := decide_eq_false (by omega)
                  go_wp2
                  go_ret
                  exact ⟨rfl, HW.out.below⟩
            · have e3 : decide ((m : Int) < (tn : Int)) = true := decide_eq_true (by omega)
              have e4 : decide (m < tn) = true := decide_eq_true (by omega)
              have e5 : decide ((m : Int) < 40) = true := decide_eq_true (by omega)
              have e6 : decide (m < 40) = true := decide_eq_true (by omega)
              have e7 : decide ((0 : Int) < (L : Int)) = false := decide_eq_false (by omega)
              have e8 : decide (0 < L) = false := decide_eq_false (by omega)
              clear h1
              go_wp2
              have Hv1 := Aside0.mk HV.out.drew
              have c_grid_0 : (wr).drew.cell? ⟨g9, 0, none⟩ = some (.int .i64 c) := (blk_cell (Hv1.out.up4).blk 0).trans rfl
              have f_grid_0 := blk_frozen (Hv1.out.up4).blk 0
              have c_grid_1 : (wr).drew.cell? ⟨g9, 1, none⟩ = some (.int .i64 r) := (blk_cell (Hv1.out.up4).blk 1).trans rfl
              have f_grid_1 := blk_frozen (Hv1.out.up4).blk 1
              have c_grid_2 : (wr).drew.cell? ⟨g9, 2, none⟩ = some (.int .i64 p) := (blk_cell (Hv1.out.up4).blk 2).trans rfl
              have f_grid_2 := blk_frozen (Hv1.out.up4).blk 2
              have c_grid_3 : (wr).drew.cell? ⟨g9, 3, none⟩ = some (.int .i64 wi) := (blk_cell (Hv1.out.up4).blk 3).trans rfl
              have f_grid_3 := blk_frozen (Hv1.out.up4).blk 3
              have c_grid_4 : (wr).drew.cell? ⟨g9, 4, none⟩ = some (.int .u64 s) := (blk_cell (Hv1.out.up4).blk 4).trans rfl
              have f_grid_4 := blk_frozen (Hv1.out.up4).blk 4
              refine wp_regionK (T := (fun w' => w'.cell? ⟨g9, 0, none⟩ = some (.int .i64 c) ∧ w'.cell? ⟨g9, 1, none⟩ = some (.int .i64 r) ∧ w'.cell? ⟨g9, 2, none⟩ = some (.int .i64 p) ∧ w'.cell? ⟨g9, 3, none⟩ = some (.int .i64 wi) ∧ w'.cell? ⟨g9, 4, none⟩ = some (.int .u64 s))) 8 (by kernel_rfl) ?_ (fun hHeld => ?_)
              · exact ⟨c_grid_0, c_grid_1, c_grid_2, c_grid_3, c_grid_4⟩
              refine takeWK (i := 0) (v := ?_) rfl rfl (by kernel_rfl) (by kernel_rfl) (by kernel_rfl) (by kernel_rfl) (by rfl) (by rfl) (by kernel_rfl) (fun _ _ _ h => h) (by rfl) ?_ hHeld ?_
              rotate_left 1
              · (intro w hSw; (try dsimp only at hSw); go_simp <;> (try with_reducible rfl))
              (try simp only [Act.put, List.setIfInBounds_toArray, List.set_cons_zero, List.set_cons_succ])
              refine takeWK (i := 1) (v := ?_) rfl rfl (by kernel_rfl) (by kernel_rfl) (by kernel_rfl) (by kernel_rfl) (by rfl) (by rfl) (by kernel_rfl) (fun _ _ _ h => h) (by rfl) ?_ hHeld ?_
              rotate_left 1
              · (intro w hSw; (try dsimp only at hSw); go_simp <;> (try with_reducible rfl))
              (try simp only [Act.put, List.setIfInBounds_toArray, List.set_cons_zero, List.set_cons_succ])
              refine takeWK (i := 3) (v := ?_) rfl rfl (by kernel_rfl) (by kernel_rfl) (by kernel_rfl) (by kernel_rfl) (by rfl) (by rfl) (by kernel_rfl) (fun _ _ _ h => h) (by rfl) ?_ hHeld ?_
              rotate_left 1
              · (intro w hSw; (try dsimp only at hSw); go_simp <;> (try with_reducible rfl))
              (try simp only [Act.put, List.setIfInBounds_toArray, List.set_cons_zero, List.set_cons_succ])
              refine takeWK (i := 4) (v := ?_) rfl rfl (by kernel_rfl) (by kernel_rfl) (by kernel_rfl) (by kernel_rfl) (by rfl) (by rfl) (by kernel_rfl) (fun _ _ _ h => h) (by rfl) ?_ hHeld ?_
              rotate_left 1
              · (intro w hSw; (try dsimp only at hSw); go_simp <;> (try with_reducible rfl))
              (try simp only [Act.put, List.setIfInBounds_toArray, List.set_cons_zero, List.set_cons_succ])
              refine readyK (rs := [2]) (by kernel_rfl) (by simp) (AllK.cons (i := 2) rfl (by rfl) (fun K hK => ?_) AllK.nil)
              clear hHeld
              (refine wp_of_list (ops := #[]) (by rfl) ?_; go_wp2_with (first | ((go_at_call 11); (with_reducible refine (of_lines c r p wi s (HREAD.out (Hv1.out.sw) (Hv1.out.up3) HJS.out.lt) HO1.out).mono ?_); rintro e_ wv2 ⟨v_, rfl, hR_, hb_⟩; have h_new := Has.newRow Hv1.out hb_ hR_; clear hb_ hR_; obtain ⟨A_fx, c_fx, ev_⟩ := h_new.rowIs; rw [show (r1).length = L from by exact HL1.out] at ev_; subst ev_; have hc_fx := h_new.rowN.2.1; have Hv2 := Aside0.mk h_new; clear h_new Hv1; clear c_grid_0 f_grid_0 c_grid_1 f_grid_1 c_grid_2 f_grid_2 c_grid_3 f_grid_3 c_grid_4 f_grid_4; have c_grid_0 : wv2.cell? ⟨g9, 0, none⟩ = some (.int .i64 c) := (blk_cell (Hv2.out.up5).blk 0).trans rfl; have f_grid_0 := blk_frozen (Hv2.out.up5).blk 0; have c_grid_1 : wv2.cell? ⟨g9, 1, none⟩ = some (.int .i64 r) := (blk_cell (Hv2.out.up5).blk 1).trans rfl; have f_grid_1 := blk_frozen (Hv2.out.up5).blk 1; have c_grid_2 : wv2.cell? ⟨g9, 2, none⟩ = some (.int .i64 p) := (blk_cell (Hv2.out.up5).blk 2).trans rfl; have f_grid_2 := blk_frozen (Hv2.out.up5).blk 2; have c_grid_3 : wv2.cell? ⟨g9, 3, none⟩ = some (.int .i64 wi) := (blk_cell (Hv2.out.up5).blk 3).trans rfl; have f_grid_3 := blk_frozen (Hv2.out.up5).blk 3; have c_grid_4 : wv2.cell? ⟨g9, 4, none⟩ = some (.int .u64 s) := (blk_cell (Hv2.out.up5).blk 4).trans rfl; have f_grid_4 := blk_frozen (Hv2.out.up5).blk 4)); change K _ _)
              refine hK.out _ _ ?_ (fun hHeld => ?_)
              · exact fun _ => ⟨c_grid_0, c_grid_1, c_grid_2, c_grid_3, c_grid_4⟩
              replace hHeld := hHeld (by rfl)
              clear hK K
              (try simp only [Act.put, List.setIfInBounds_toArray, List.set_cons_zero, List.set_cons_succ])
              refine readyK (rs := [5]) (by kernel_rfl) (by simp) (AllK.cons (i := 5) rfl (by rfl) (fun K hK => ?_) AllK.nil)
              clear hHeld
              (refine wp_of_list (ops := #[]) (by rfl) ?_; go_wp2_with (first | ((go_at_call 11); (with_reducible refine (of_lines c r p wi s (HREAD.out (Hv2.out.sw) (Hv2.out.up4) HKS.out.lt) HO2.out).mono ?_); rintro e_ wv3 ⟨v_, rfl, hR_, hb_⟩; have h_new := Has.newRow Hv2.out hb_ hR_; clear hb_ hR_; obtain ⟨A_fy, c_fy, ev_⟩ := h_new.rowIs; rw [show (r2).length = L from by exact HL2.out] at ev_; subst ev_; have hc_fy := h_new.rowN.2.1; have Hv3 := Aside0.mk h_new; clear h_new Hv2; clear c_grid_0 f_grid_0 c_grid_1 f_grid_1 c_grid_2 f_grid_2 c_grid_3 f_grid_3 c_grid_4 f_grid_4; have c_grid_0 : wv3.cell? ⟨g9, 0, none⟩ = some (.int .i64 c) := (blk_cell (Hv3.out.up6).blk 0).trans rfl; have f_grid_0 := blk_frozen (Hv3.out.up6).blk 0; have c_grid_1 : wv3.cell? ⟨g9, 1, none⟩ = some (.int .i64 r) := (blk_cell (Hv3.out.up6).blk 1).trans rfl; have f_grid_1 := blk_frozen (Hv3.out.up6).blk 1; have c_grid_2 : wv3.cell? ⟨g9, 2, none⟩ = some (.int .i64 p) := (blk_cell (Hv3.out.up6).blk 2).trans rfl; have f_grid_2 := blk_frozen (Hv3.out.up6).blk 2; have c_grid_3 : wv3.cell? ⟨g9, 3, none⟩ = some (.int .i64 wi) := (blk_cell (Hv3.out.up6).blk 3).trans rfl; have f_grid_3 := blk_frozen (Hv3.out.up6).blk 3; have c_grid_4 : wv3.cell? ⟨g9, 4, none⟩ = some (.int .u64 s) := (blk_cell (Hv3.out.up6).blk 4).trans rfl; have f_grid_4 := blk_frozen (Hv3.out.up6).blk 4)); change K _ _)
              refine hK.out _ _ ?_ (fun hHeld => ?_)
              · exact fun _ => ⟨c_grid_0, c_grid_1, c_grid_2, c_grid_3, c_grid_4⟩
              replace hHeld := hHeld (by rfl)
              clear hK K
              (try simp only [Act.put, List.setIfInBounds_toArray, List.set_cons_zero, List.set_cons_succ])
              refine takeWK (i := 6) (v := ?_) rfl rfl (by kernel_rfl) (by kernel_rfl) (by kernel_rfl) (by kernel_rfl) (by rfl) (by rfl) (by kernel_rfl) (fun _ _ _ h => h) (by rfl) ?_ hHeld ?_
              rotate_left 1
              · (intro w hSw; (try dsimp only at hSw); go_simp <;> (try with_reducible rfl))
              (try simp only [Act.put, List.setIfInBounds_toArray, List.set_cons_zero, List.set_cons_succ])
              refine takeWK (i := 7) (v := ?_) rfl rfl (by kernel_rfl) (by kernel_rfl) (by kernel_rfl) (by kernel_rfl) (by rfl) (by rfl) (by kernel_rfl) (fun _ _ _ h => h) (by rfl) ?_ hHeld ?_
              rotate_left 1
              · (intro w hSw; (try dsimp only at hSw); go_simp <;> (try with_reducible rfl))
              (try simp only [Act.put, List.setIfInBounds_toArray, List.set_cons_zero, List.set_cons_succ])
              refine doneK (by kernel_rfl) ?_ _
              go_wp2
              go_loopg [19] (L + 1) (fun kq v19 w' => ∃ i : Nat, v19 = .int .i64 (i : Int) ∧ Aside0 (i + kq = L + 1) ∧ Aside0 (i ≤ L) ∧ Aside0 (Has w w.heap.size w' [row (Kd.int .i64) 3 (.slice A_fx L c_fx) r1, row (Kd.int .i64) 3 (.slice A_fy L c_fy) r2, row (kcells 4) 44 (.slice Aj L cj) (rawAt R js), row (kcells 4) 44 (.slice A_b L c_b) (rawAt R ks), row (kcells 4) 44 (.slice Aa n ca) R, O, blk g9 (.cells #[.int .i64 c, .int .i64 r, .int .i64 p, .int .i64 wi, .int .u64 s] 27 (0, 0)), blk g4 (.cells #[.int .i64 c, .int .i64 r, .int .i64 p, .int .i64 wi, .int .u64 s] 24 (0, 0))]))
              case atStart => exact ⟨0, rfl, ⟨by omega⟩, ⟨by omega⟩, ⟨(Hv3.out.up7.up7.up7.up7.up6.up7.up6.up7)⟩⟩
              case round =>
                clear Hv3 HV
                obtain ⟨i, rfl, HK, HI, HW⟩ := hrel
                have hii := HI.out
                by_cases hil : i < L
                · have f1 : decide ((i : Int) < (L : Int)) = true := decide_eq_true (by omega)
                  have f2 : decide (i < L) = true := decide_eq_true (by omega)
                  have i0 : (0 : Int) ≤ (i : Int) := by omega
                  have iL : (i : Int) < (L : Int) := by omega
                  cases gk with
                  | zero => exact absurd HK.out (by omega)
                  | succ k1 =>
                    go_wp2
                    go_loopg [20] (L + 1) (fun kq v20 w' => ∃ k : Nat, v20 = .int .i64 (k : Int) ∧ Aside0 (k + kq = L + 1) ∧ Aside0 (k ≤ L) ∧ Aside0 (Has w w.heap.size w' [row (Kd.int .i64) 3 (.slice A_fx L c_fx) r1, row (Kd.int .i64) 3 (.slice A_fy L c_fy) r2, row (kcells 4) 44 (.slice Aj L cj) (rawAt R js), row (kcells 4) 44 (.slice A_b L c_b) (rawAt R ks), row (kcells 4) 44 (.slice Aa n ca) R, O, blk g9 (.cells #[.int .i64 c, .int .i64 r, .int .i64 p, .int .i64 wi, .int .u64 s] 27 (0, 0)), blk g4 (.cells #[.int .i64 c, .int .i64 r, .int .i64 p, .int .i64 wi, .int .u64 s] 24 (0, 0))]))
                    case atStart => exact ⟨0, rfl, ⟨by omega⟩, ⟨by omega⟩, HW⟩
                    case round =>
                      clear HW
                      obtain ⟨k, rfl, HK2, HI2, HU⟩ := hrel
                      have hkk := HI2.out
                      by_cases hkl : k < L
                      · have f3 : decide ((k : Int) < (L : Int)) = true := decide_eq_true (by omega)
                        have f4 : decide (k < L) = true := decide_eq_true (by omega)
                        have k0 : (0 : Int) ≤ (k : Int) := by omega
                        have kL : (k : Int) < (L : Int) := by omega
                        obtain ⟨a, ha⟩ : ∃ a, js[i]? = some a := ⟨js[i]'(by rw [HL.out]; exact hil), List.getElem?_eq_getElem _⟩
                        obtain ⟨b, hb⟩ : ∃ b, ks[k]? = some b := ⟨ks[k]'(by rw [HKL.out]; exact hkl), List.getElem?_eq_getElem _⟩
                        obtain ⟨y, hy⟩ : ∃ y, Y[a]? = some y := ⟨Y[a]'(HJS.out.lt a (List.mem_of_getElem? ha)), List.getElem?_eq_getElem _⟩
                        obtain ⟨z, hz⟩ : ∃ z, Y[b]? = some z := ⟨Y[b]'(HKS.out.lt b (List.mem_of_getElem? hb)), List.getElem?_eq_getElem _⟩
                        obtain ⟨y2, y3, hRy, _, _, _⟩ := HRA.out a y hy
                        obtain ⟨z2, z3, hRz, _, _, _⟩ := HRA.out b z hz
                        obtain ⟨u, hu⟩ : ∃ u, r1[i]? = some u := ⟨r1[i]'(by rw [HL1.out]; exact hil), List.getElem?_eq_getElem _⟩
                        obtain ⟨v, hv⟩ : ∃ v, r2[k]? = some v := ⟨r2[k]'(by rw [HL2.out]; exact hkl), List.getElem?_eq_getElem _⟩
                        have HYA := Aside0.mk (rawAt_at ha hRy)
                        have HZB := Aside0.mk (rawAt_at hb hRz)
                        have HU1 := Aside0.mk hu
                        have HU2 := Aside0.mk hv
                        have HS := Aside0.mk (fun e => HSAME.out i k a b y z u v ha hb hy hz e hu hv)
                        clear ha hb hy hz hRy hRz hu hv
                        obtain ⟨gx, rfl⟩ := HU.out.rowAt (by omega)
                        obtain ⟨gy, rfl⟩ := HU.out.sw.rowAt (by omega)
                        obtain ⟨gj, rfl⟩ := HU.out.up2.rowAt (by omega)
                        obtain ⟨gb, rfl⟩ := HU.out.up3.rowAt (by omega)
                        cases gk with
                        | zero => exact absurd HK2.out (by omega)
                        | succ k2 =>
                          by_cases hyz : y.f0 = z.f0
                          · obtain rfl := HS.out hyz
                            have t1 : decide (y.f0 = z.f0) = true := decide_eq_true hyz
                            have t2 : (y.f0 == z.f0) = true := by simp [hyz]
                            clear hyz
                            have x0 : wr.cell? ⟨gj, i * 4, none⟩ = some (.int .i64 y.f0) := Has.rawCell (f := 0) (HU.out.up2) HYA.out rfl
                            have x1 : wr.cell? ⟨gb, k * 4, none⟩ = some (.int .i64 z.f0) := Has.rawCell (f := 0) (HU.out.up3) HZB.out rfl
                            have x2 : wr.cell? ⟨gx, i, none⟩ = some (.int .i64 u) := rowInt (HU.out) HU1.out
                            have x3 : wr.cell? ⟨gy, k, none⟩ = some (.int .i64 u) := rowInt (HU.out.sw) HU2.out
                            go_wp2
                            have Hpr1 := Aside0.mk HU.out.drew
                            clear x0 x1 x2 x3
                            have x0 : (wr).drew.cell? ⟨gj, i * 4, none⟩ = some (.int .i64 y.f0) := Has.rawCell (f := 0) (Hpr1.out.up2) HYA.out rfl
                            have x1 : (wr).drew.cell? ⟨gb, k * 4, none⟩ = some (.int .i64 z.f0) := Has.rawCell (f := 0) (Hpr1.out.up3) HZB.out rfl
                            have x2 : (wr).drew.cell? ⟨gx, i, none⟩ = some (.int .i64 u) := rowInt (Hpr1.out) HU1.out
                            have x3 : (wr).drew.cell? ⟨gy, k, none⟩ = some (.int .i64 u) := rowInt (Hpr1.out.sw) HU2.out
                            refine wp_regionK (T := (fun w' => w'.cell? ⟨gj, i * 4, none⟩ = some (.int .i64 y.f0) ∧ w'.cell? ⟨gb, k * 4, none⟩ = some (.int .i64 z.f0) ∧ w'.cell? ⟨gx, i, none⟩ = some (.int .i64 u) ∧ w'.cell? ⟨gy, k, none⟩ = some (.int .i64 u))) 22 (by kernel_rfl) ?_ (fun hHeld => ?_)
                            · exact ⟨x0, x1, x2, x3⟩
                            refine takeWK (i := 0) (v := ?_) rfl rfl (by kernel_rfl) (by kernel_rfl) (by kernel_rfl) (by kernel_rfl) (by rfl) (by rfl) (by kernel_rfl) (fun _ _ _ h => h) (by rfl) ?_ hHeld ?_
                            rotate_left 1
                            · (intro w hSw; (try dsimp only at hSw); go_simp <;> (try with_reducible rfl))
                            (try simp only [Act.put, List.setIfInBounds_toArray, List.set_cons_zero, List.set_cons_succ])
                            refine takeWK (i := 1) (v := ?_) rfl rfl (by kernel_rfl) (by kernel_rfl) (by kernel_rfl) (by kernel_rfl) (by rfl) (by rfl) (by kernel_rfl) (fun _ _ _ h => h) (by rfl) ?_ hHeld ?_
                            rotate_left 1
                            · (intro w hSw; (try dsimp only at hSw); go_simp <;> (try with_reducible rfl))
                            (try simp only [Act.put, List.setIfInBounds_toArray, List.set_cons_zero, List.set_cons_succ])
                            refine takeWK (i := 2) (v := ?_) rfl rfl (by kernel_rfl) (by kernel_rfl) (by kernel_rfl) (by kernel_rfl) (by rfl) (by rfl) (by kernel_rfl) (fun _ _ _ h => h) (by rfl) ?_ hHeld ?_
                            rotate_left 1
                            · (intro w hSw; (try dsimp only at hSw); go_simp <;> (try with_reducible rfl))
                            (try simp only [Act.put, List.setIfInBounds_toArray, List.set_cons_zero, List.set_cons_succ])
                            refine takeWK (i := 3) (v := ?_) rfl rfl (by kernel_rfl) (by kernel_rfl) (by kernel_rfl) (by kernel_rfl) (by rfl) (by rfl) (by kernel_rfl) (fun _ _ _ h => h) (by rfl) ?_ hHeld ?_
                            rotate_left 1
                            · (intro w hSw; (try dsimp only at hSw); go_simp <;> (try with_reducible rfl))
                            (try simp only [Act.put, List.setIfInBounds_toArray, List.set_cons_zero, List.set_cons_succ])
                            refine takeWK (i := 4) (v := ?_) rfl rfl (by kernel_rfl) (by kernel_rfl) (by kernel_rfl) (by kernel_rfl) (by rfl) (by rfl) (by kernel_rfl) (fun _ _ _ h => h) (by rfl) ?_ hHeld ?_
                            rotate_left 1
                            · (intro w hSw; (try dsimp only at hSw); go_simp <;> (try with_reducible rfl))
                            (try simp only [Act.put, List.setIfInBounds_toArray, List.set_cons_zero, List.set_cons_succ])
                            refine takeWK (i := 5) (v := ?_) rfl rfl (by kernel_rfl) (by kernel_rfl) (by kernel_rfl) (by kernel_rfl) (by rfl) (by rfl) (by kernel_rfl) (fun _ _ _ h => h) (by rfl) ?_ hHeld ?_
                            rotate_left 1
                            · (intro w hSw; (try dsimp only at hSw); go_simp <;> (try with_reducible rfl))
                            (try simp only [Act.put, List.setIfInBounds_toArray, List.set_cons_zero, List.set_cons_succ])
                            refine takeWK (i := 6) (v := ?_) rfl rfl (by kernel_rfl) (by kernel_rfl) (by kernel_rfl) (by kernel_rfl) (by rfl) (by rfl) (by kernel_rfl) (fun _ _ _ h => h) (by rfl) ?_ hHeld ?_
                            rotate_left 1
                            · (intro w hSw; (try dsimp only at hSw); go_simp <;> (try with_reducible rfl))
                            (try simp only [Act.put, List.setIfInBounds_toArray, List.set_cons_zero, List.set_cons_succ])
                            refine takeWK (i := 7) (v := ?_) rfl rfl (by kernel_rfl) (by kernel_rfl) (by kernel_rfl) (by kernel_rfl) (by rfl) (by rfl) (by kernel_rfl) (fun _ _ _ h => h) (by rfl) ?_ hHeld ?_
                            rotate_left 1
                            · (intro w hSw; (try dsimp only at hSw); go_simp <;> (try with_reducible rfl))
                            (try simp only [Act.put, List.setIfInBounds_toArray, List.set_cons_zero, List.set_cons_succ])
                            refine takeWK (i := 8) (v := ?_) rfl rfl (by kernel_rfl) (by kernel_rfl) (by kernel_rfl) (by kernel_rfl) (by rfl) (by rfl) (by kernel_rfl) (fun _ _ _ h => h) (by rfl) ?_ hHeld ?_
                            rotate_left 1
                            · (intro w hSw; (try dsimp only at hSw); go_simp <;> (try with_reducible rfl))
                            (try simp only [Act.put, List.setIfInBounds_toArray, List.set_cons_zero, List.set_cons_succ])
                            refine takeWK (i := 9) (v := ?_) rfl rfl (by kernel_rfl) (by kernel_rfl) (by kernel_rfl) (by kernel_rfl) (by rfl) (by rfl) (by kernel_rfl) (fun _ _ _ h => h) (by rfl) ?_ hHeld ?_
                            rotate_left 1
                            · (intro w hSw; (try dsimp only at hSw); go_simp <;> (try with_reducible rfl))
                            (try simp only [Act.put, List.setIfInBounds_toArray, List.set_cons_zero, List.set_cons_succ])
                            refine takeWK (i := 10) (v := ?_) rfl rfl (by kernel_rfl) (by kernel_rfl) (by kernel_rfl) (by kernel_rfl) (by rfl) (by rfl) (by kernel_rfl) (fun _ _ _ h => h) (by rfl) ?_ hHeld ?_
                            rotate_left 1
                            · (intro w hSw; (try dsimp only at hSw); go_simp <;> (try with_reducible rfl))
                            (try simp only [Act.put, List.setIfInBounds_toArray, List.set_cons_zero, List.set_cons_succ])
                            refine takeWK (i := 11) (v := ?_) rfl rfl (by kernel_rfl) (by kernel_rfl) (by kernel_rfl) (by kernel_rfl) (by rfl) (by rfl) (by kernel_rfl) (fun _ _ _ h => h) (by rfl) ?_ hHeld ?_
                            rotate_left 1
                            · (intro w hSw; (try dsimp only at hSw); go_simp <;> (try with_reducible rfl))
                            (try simp only [Act.put, List.setIfInBounds_toArray, List.set_cons_zero, List.set_cons_succ])
                            refine takeWK (i := 12) (v := ?_) rfl rfl (by kernel_rfl) (by kernel_rfl) (by kernel_rfl) (by kernel_rfl) (by rfl) (by rfl) (by kernel_rfl) (fun _ _ _ h => h) (by rfl) ?_ hHeld ?_
                            rotate_left 1
                            · (intro w hSw; (try dsimp only at hSw); go_simp <;> (try with_reducible rfl))
                            (try simp only [Act.put, List.setIfInBounds_toArray, List.set_cons_zero, List.set_cons_succ])
                            refine takeWK (i := 13) (v := ?_) rfl rfl (by kernel_rfl) (by kernel_rfl) (by kernel_rfl) (by kernel_rfl) (by rfl) (by rfl) (by kernel_rfl) (fun _ _ _ h => h) (by rfl) ?_ hHeld ?_
                            rotate_left 1
                            · (intro w hSw; (try dsimp only at hSw); go_simp <;> (try with_reducible rfl))
                            (try simp only [Act.put, List.setIfInBounds_toArray, List.set_cons_zero, List.set_cons_succ])
                            refine takeWK (i := 14) (v := ?_) rfl rfl (by kernel_rfl) (by kernel_rfl) (by kernel_rfl) (by kernel_rfl) (by rfl) (by rfl) (by kernel_rfl) (fun _ _ _ h => h) (by rfl) ?_ hHeld ?_
                            rotate_left 1
                            · (intro w hSw; (try dsimp only at hSw); go_simp <;> (try with_reducible rfl))
                            (try simp only [Act.put, List.setIfInBounds_toArray, List.set_cons_zero, List.set_cons_succ])
                            refine takeWK (i := 15) (v := ?_) rfl rfl (by kernel_rfl) (by kernel_rfl) (by kernel_rfl) (by kernel_rfl) (by rfl) (by rfl) (by kernel_rfl) (fun _ _ _ h => h) (by rfl) ?_ hHeld ?_
                            rotate_left 1
                            · (intro w hSw; (try dsimp only at hSw); go_simp <;> (try with_reducible rfl))
                            (try simp only [Act.put, List.setIfInBounds_toArray, List.set_cons_zero, List.set_cons_succ])
                            refine takeWK (i := 16) (v := ?_) rfl rfl (by kernel_rfl) (by kernel_rfl) (by kernel_rfl) (by kernel_rfl) (by rfl) (by rfl) (by kernel_rfl) (fun _ _ _ h => h) (by rfl) ?_ hHeld ?_
                            rotate_left 1
                            · (intro w hSw; (try dsimp only at hSw); go_simp <;> (try with_reducible rfl))
                            (try simp only [Act.put, List.setIfInBounds_toArray, List.set_cons_zero, List.set_cons_succ])
                            refine takeWK (i := 17) (v := ?_) rfl rfl (by kernel_rfl) (by kernel_rfl) (by kernel_rfl) (by kernel_rfl) (by rfl) (by rfl) (by kernel_rfl) (fun _ _ _ h => h) (by rfl) ?_ hHeld ?_
                            rotate_left 1
                            · (intro w hSw; (try dsimp only at hSw); go_simp <;> (try with_reducible rfl))
                            (try simp only [Act.put, List.setIfInBounds_toArray, List.set_cons_zero, List.set_cons_succ])
                            refine takeWK (i := 18) (v := ?_) rfl rfl (by kernel_rfl) (by kernel_rfl) (by kernel_rfl) (by kernel_rfl) (by rfl) (by rfl) (by kernel_rfl) (fun _ _ _ h => h) (by rfl) ?_ hHeld ?_
                            rotate_left 1
                            · (intro w hSw; (try dsimp only at hSw); go_simp <;> (try with_reducible rfl))
                            (try simp only [Act.put, List.setIfInBounds_toArray, List.set_cons_zero, List.set_cons_succ])
                            refine takeWK (i := 19) (v := ?_) rfl rfl (by kernel_rfl) (by kernel_rfl) (by kernel_rfl) (by kernel_rfl) (by rfl) (by rfl) (by kernel_rfl) (fun _ _ _ h => h) (by rfl) ?_ hHeld ?_
                            rotate_left 1
                            · (intro w hSw; (try dsimp only at hSw); go_simp <;> (try with_reducible rfl))
                            (try simp only [Act.put, List.setIfInBounds_toArray, List.set_cons_zero, List.set_cons_succ])
                            refine takeWK (i := 20) (v := ?_) rfl rfl (by kernel_rfl) (by kernel_rfl) (by kernel_rfl) (by kernel_rfl) (by rfl) (by rfl) (by kernel_rfl) (fun _ _ _ h => h) (by rfl) ?_ hHeld ?_
                            rotate_left 1
                            · (intro w hSw; (try dsimp only at hSw); go_simp <;> (try with_reducible rfl))
                            (try simp only [Act.put, List.setIfInBounds_toArray, List.set_cons_zero, List.set_cons_succ])
                            refine takeWK (i := 21) (v := ?_) rfl rfl (by kernel_rfl) (by kernel_rfl) (by kernel_rfl) (by kernel_rfl) (by rfl) (by rfl) (by kernel_rfl) (fun _ _ _ h => h) (by rfl) ?_ hHeld ?_
                            rotate_left 1
                            · (intro w hSw; (try dsimp only at hSw); go_simp <;> (try with_reducible rfl))
                            (try simp only [Act.put, List.setIfInBounds_toArray, List.set_cons_zero, List.set_cons_succ])
                            refine doneK (by kernel_rfl) ?_ _
                            go_wp2
                            go_roundg k2
                            case measure => have := HK2.out; omega
                            case rel => exact ⟨k + 1, rfl, ⟨by have := HK2.out; omega⟩, ⟨by omega⟩, ⟨Hpr1.out⟩⟩
                          · have t1 : decide (y.f0 = z.f0) = false := decide_eq_false hyz
                            have t2 : (y.f0 == z.f0) = false := by simp [hyz]
                            clear hyz HS
                            have x0 : wr.cell? ⟨gj, i * 4, none⟩ = some (.int .i64 y.f0) := Has.rawCell (f := 0) (HU.out.up2) HYA.out rfl
                            have x1 : wr.cell? ⟨gb, k * 4, none⟩ = some (.int .i64 z.f0) := Has.rawCell (f := 0) (HU.out.up3) HZB.out rfl
                            have x2 : wr.cell? ⟨gx, i, none⟩ = some (.int .i64 u) := rowInt (HU.out) HU1.out
                            have x3 : wr.cell? ⟨gy, k, none⟩ = some (.int .i64 v) := rowInt (HU.out.sw) HU2.out
                            go_wp2
                            have Hqr1 := Aside0.mk HU.out.drew
                            clear x0 x1 x2 x3
                            have x0 : (wr).drew.cell? ⟨gj, i * 4, none⟩ = some (.int .i64 y.f0) := Has.rawCell (f := 0) (Hqr1.out.up2) HYA.out rfl
                            have x1 : (wr).drew.cell? ⟨gb, k * 4, none⟩ = some (.int .i64 z.f0) := Has.rawCell (f := 0) (Hqr1.out.up3) HZB.out rfl
                            have x2 : (wr).drew.cell? ⟨gx, i, none⟩ = some (.int .i64 u) := rowInt (Hqr1.out) HU1.out
                            have x3 : (wr).drew.cell? ⟨gy, k, none⟩ = some (.int .i64 v) := rowInt (Hqr1.out.sw) HU2.out
                            refine wp_regionK (T := (fun w' => w'.cell? ⟨gj, i * 4, none⟩ = some (.int .i64 y.f0) ∧ w'.cell? ⟨gb, k * 4, none⟩ = some (.int .i64 z.f0) ∧ w'.cell? ⟨gx, i, none⟩ = some (.int .i64 u) ∧ w'.cell? ⟨gy, k, none⟩ = some (.int .i64 v))) 22 (by kernel_rfl) ?_ (fun hHeld => ?_)
                            · exact ⟨x0, x1, x2, x3⟩
                            refine takeWK (i := 0) (v := ?_) rfl rfl (by kernel_rfl) (by kernel_rfl) (by kernel_rfl) (by kernel_rfl) (by rfl) (by rfl) (by kernel_rfl) (fun _ _ _ h => h) (by rfl) ?_ hHeld ?_
                            rotate_left 1
                            · (intro w hSw; (try dsimp only at hSw); go_simp <;> (try with_reducible rfl))
                            (try simp only [Act.put, List.setIfInBounds_toArray, List.set_cons_zero, List.set_cons_succ])
                            refine takeWK (i := 1) (v := ?_) rfl rfl (by kernel_rfl) (by kernel_rfl) (by kernel_rfl) (by kernel_rfl) (by rfl) (by rfl) (by kernel_rfl) (fun _ _ _ h => h) (by rfl) ?_ hHeld ?_
                            rotate_left 1
                            · (intro w hSw; (try dsimp only at hSw); go_simp <;> (try with_reducible rfl))
                            (try simp only [Act.put, List.setIfInBounds_toArray, List.set_cons_zero, List.set_cons_succ])
                            refine takeWK (i := 2) (v := ?_) rfl rfl (by kernel_rfl) (by kernel_rfl) (by kernel_rfl) (by kernel_rfl) (by rfl) (by rfl) (by kernel_rfl) (fun _ _ _ h => h) (by rfl) ?_ hHeld ?_
                            rotate_left 1
                            · (intro w hSw; (try dsimp only at hSw); go_simp <;> (try with_reducible rfl))
                            (try simp only [Act.put, List.setIfInBounds_toArray, List.set_cons_zero, List.set_cons_succ])
                            refine takeWK (i := 3) (v := ?_) rfl rfl (by kernel_rfl) (by kernel_rfl) (by kernel_rfl) (by kernel_rfl) (by rfl) (by rfl) (by kernel_rfl) (fun _ _ _ h => h) (by rfl) ?_ hHeld ?_
                            rotate_left 1
                            · (intro w hSw; (try dsimp only at hSw); go_simp <;> (try with_reducible rfl))
                            (try simp only [Act.put, List.setIfInBounds_toArray, List.set_cons_zero, List.set_cons_succ])
                            refine takeWK (i := 4) (v := ?_) rfl rfl (by kernel_rfl) (by kernel_rfl) (by kernel_rfl) (by kernel_rfl) (by rfl) (by rfl) (by kernel_rfl) (fun _ _ _ h => h) (by rfl) ?_ hHeld ?_
                            rotate_left 1
                            · (intro w hSw; (try dsimp only at hSw); go_simp <;> (try with_reducible rfl))
                            (try simp only [Act.put, List.setIfInBounds_toArray, List.set_cons_zero, List.set_cons_succ])
                            refine takeWK (i := 5) (v := ?_) rfl rfl (by kernel_rfl) (by kernel_rfl) (by kernel_rfl) (by kernel_rfl) (by rfl) (by rfl) (by kernel_rfl) (fun _ _ _ h => h) (by rfl) ?_ hHeld ?_
                            rotate_left 1
                            · (intro w hSw; (try dsimp only at hSw); go_simp <;> (try with_reducible rfl))
                            (try simp only [Act.put, List.setIfInBounds_toArray, List.set_cons_zero, List.set_cons_succ])
                            refine takeWK (i := 6) (v := ?_) rfl rfl (by kernel_rfl) (by kernel_rfl) (by kernel_rfl) (by kernel_rfl) (by rfl) (by rfl) (by kernel_rfl) (fun _ _ _ h => h) (by rfl) ?_ hHeld ?_
                            rotate_left 1
                            · (intro w hSw; (try dsimp only at hSw); go_simp <;> (try with_reducible rfl))
                            (try simp only [Act.put, List.setIfInBounds_toArray, List.set_cons_zero, List.set_cons_succ])
                            refine takeWK (i := 7) (v := ?_) rfl rfl (by kernel_rfl) (by kernel_rfl) (by kernel_rfl) (by kernel_rfl) (by rfl) (by rfl) (by kernel_rfl) (fun _ _ _ h => h) (by rfl) ?_ hHeld ?_
                            rotate_left 1
                            · (intro w hSw; (try dsimp only at hSw); go_simp <;> (try with_reducible rfl))
                            (try simp only [Act.put, List.setIfInBounds_toArray, List.set_cons_zero, List.set_cons_succ])
                            refine takeWK (i := 8) (v := ?_) rfl rfl (by kernel_rfl) (by kernel_rfl) (by kernel_rfl) (by kernel_rfl) (by rfl) (by rfl) (by kernel_rfl) (fun _ _ _ h => h) (by rfl) ?_ hHeld ?_
                            rotate_left 1
                            · (intro w hSw; (try dsimp only at hSw); go_simp <;> (try with_reducible rfl))
                            (try simp only [Act.put, List.setIfInBounds_toArray, List.set_cons_zero, List.set_cons_succ])
                            refine takeWK (i := 9) (v := ?_) rfl rfl (by kernel_rfl) (by kernel_rfl) (by kernel_rfl) (by kernel_rfl) (by rfl) (by rfl) (by kernel_rfl) (fun _ _ _ h => h) (by rfl) ?_ hHeld ?_
                            rotate_left 1
                            · (intro w hSw; (try dsimp only at hSw); go_simp <;> (try with_reducible rfl))
                            (try simp only [Act.put, List.setIfInBounds_toArray, List.set_cons_zero, List.set_cons_succ])
                            refine takeWK (i := 10) (v := ?_) rfl rfl (by kernel_rfl) (by kernel_rfl) (by kernel_rfl) (by kernel_rfl) (by rfl) (by rfl) (by kernel_rfl) (fun _ _ _ h => h) (by rfl) ?_ hHeld ?_
                            rotate_left 1
                            · (intro w hSw; (try dsimp only at hSw); go_simp <;> (try with_reducible rfl))
                            (try simp only [Act.put, List.setIfInBounds_toArray, List.set_cons_zero, List.set_cons_succ])
                            refine takeWK (i := 11) (v := ?_) rfl rfl (by kernel_rfl) (by kernel_rfl) (by kernel_rfl) (by kernel_rfl) (by rfl) (by rfl) (by kernel_rfl) (fun _ _ _ h => h) (by rfl) ?_ hHeld ?_
                            rotate_left 1
                            · (intro w hSw; (try dsimp only at hSw); go_simp <;> (try with_reducible rfl))
                            (try simp only [Act.put, List.setIfInBounds_toArray, List.set_cons_zero, List.set_cons_succ])
                            refine takeUK (i := 12) rfl rfl (by kernel_rfl) (by kernel_rfl) (by kernel_rfl) (by kernel_rfl) (by rfl) (by rfl) (by kernel_rfl) (fun _ _ _ h => h) (by rfl) hHeld ?_
                            (try simp only [Act.put, List.setIfInBounds_toArray, List.set_cons_zero, List.set_cons_succ])
                            refine takeUK (i := 13) rfl rfl (by kernel_rfl) (by kernel_rfl) (by kernel_rfl) (by kernel_rfl) (by rfl) (by rfl) (by kernel_rfl) (fun _ _ _ h => h) (by rfl) hHeld ?_
                            (try simp only [Act.put, List.setIfInBounds_toArray, List.set_cons_zero, List.set_cons_succ])
                            refine takeUK (i := 14) rfl rfl (by kernel_rfl) (by kernel_rfl) (by kernel_rfl) (by kernel_rfl) (by rfl) (by rfl) (by kernel_rfl) (fun _ _ _ h => h) (by rfl) hHeld ?_
                            (try simp only [Act.put, List.setIfInBounds_toArray, List.set_cons_zero, List.set_cons_succ])
                            refine takeUK (i := 15) rfl rfl (by kernel_rfl) (by kernel_rfl) (by kernel_rfl) (by kernel_rfl) (by rfl) (by rfl) (by kernel_rfl) (fun _ _ _ h => h) (by rfl) hHeld ?_
                            (try simp only [Act.put, List.setIfInBounds_toArray, List.set_cons_zero, List.set_cons_succ])
                            refine takeUK (i := 16) rfl rfl (by kernel_rfl) (by kernel_rfl) (by kernel_rfl) (by kernel_rfl) (by rfl) (by rfl) (by kernel_rfl) (fun _ _ _ h => h) (by rfl) hHeld ?_
                            (try simp only [Act.put, List.setIfInBounds_toArray, List.set_cons_zero, List.set_cons_succ])
                            refine takeUK (i := 17) rfl rfl (by kernel_rfl) (by kernel_rfl) (by kernel_rfl) (by kernel_rfl) (by rfl) (by rfl) (by kernel_rfl) (fun _ _ _ h => h) (by rfl) hHeld ?_
                            (try simp only [Act.put, List.setIfInBounds_toArray, List.set_cons_zero, List.set_cons_succ])
                            refine takeUK (i := 18) rfl rfl (by kernel_rfl) (by kernel_rfl) (by kernel_rfl) (by kernel_rfl) (by rfl) (by rfl) (by kernel_rfl) (fun _ _ _ h => h) (by rfl) hHeld ?_
                            (try simp only [Act.put, List.setIfInBounds_toArray, List.set_cons_zero, List.set_cons_succ])
                            refine takeUK (i := 19) rfl rfl (by kernel_rfl) (by kernel_rfl) (by kernel_rfl) (by kernel_rfl) (by rfl) (by rfl) (by kernel_rfl) (fun _ _ _ h => h) (by rfl) hHeld ?_
                            (try simp only [Act.put, List.setIfInBounds_toArray, List.set_cons_zero, List.set_cons_succ])
                            refine takeUK (i := 20) rfl rfl (by kernel_rfl) (by kernel_rfl) (by kernel_rfl) (by kernel_rfl) (by rfl) (by rfl) (by kernel_rfl) (fun _ _ _ h => h) (by rfl) hHeld ?_
                            (try simp only [Act.put, List.setIfInBounds_toArray, List.set_cons_zero, List.set_cons_succ])
                            refine takeWK (i := 21) (v := ?_) rfl rfl (by kernel_rfl) (by kernel_rfl) (by kernel_rfl) (by kernel_rfl) (by rfl) (by rfl) (by kernel_rfl) (fun _ _ _ h => h) (by rfl) ?_ hHeld ?_
                            rotate_left 1
                            · (intro w hSw; (try dsimp only at hSw); go_simp <;> (try with_reducible rfl))
                            (try simp only [Act.put, List.setIfInBounds_toArray, List.set_cons_zero, List.set_cons_succ])
                            refine doneK (by kernel_rfl) ?_ _
                            go_wp2
                            go_roundg k2
                            case measure => have := HK2.out; omega
                            case rel => exact ⟨k + 1, rfl, ⟨by have := HK2.out; omega⟩, ⟨by omega⟩, ⟨Hqr1.out⟩⟩
                      · have f3 : decide ((k : Int) < (L : Int)) = false := decide_eq_false (by omega)
                        have f4 : decide (k < L) = false := decide_eq_false (by omega)
                        go_wp2
                        go_roundg k1
                        case measure => have := HK.out; omega
                        case rel => exact ⟨i + 1, rfl, ⟨by have := HK.out; omega⟩, ⟨by omega⟩, HU⟩
                · have f1 : decide ((i : Int) < (L : Int)) = false := decide_eq_false (by omega)
                  have f2 : decide (i < L) = false := decide_eq_false (by omega)
                  go_wp2
                  go_ret
                  exact ⟨rfl, HW.out.below⟩
def toS (x : MarkW.Line) : S44 := ⟨x.1, x.2.1, x.2.2.1, x.2.2.2⟩
theorem C_toS {w : World} {A : Option Addr} {n : Nat} {l : List MarkW.Line} (h : Kd.C kline w A n l) : Kd.C k44 w A n (l.map toS) := by
  obtain ⟨h1, h2, h3⟩ := h
  refine ⟨by rw [List.length_map]; exact h1, h2, fun hn => ?_⟩
  obtain ⟨ad, e, hr⟩ := h3 hn
  refine ⟨ad, e, fun j p hj => ?_⟩
  rw [List.getElem?_map] at hj
  cases hx : l[j]? with
  | none => rw [hx] at hj; cases hj
  | some x =>
    rw [hx] at hj
    obtain rfl := Option.some.inj hj
    exact hr j x hx
def joustlaw17_MarkOrder.f (a0_0 : Int) (a0_1 : Int) (a0_2 : Int) (a0_3 : Int) (a0_4 : Int) (l1 : List MarkW.Line) (l2 : List Int) : Option Bool := if l1.length < 4611686018427387904 ∧ (∀ x ∈ l1, x.2.2.1.length < 4611686018427387904 ∧ x.2.2.2.length < 4611686018427387904) then some true else none
theorem joustlaw17_MarkOrder.calls (a0_0 : Int) (a0_1 : Int) (a0_2 : Int) (a0_3 : Int) (a0_4 : Int) (A1 : Option Addr) (c1 : Nat) (l1 : List MarkW.Line) (A2 : Option Addr) (c2 : Nat) (l2 : List Int) (r : Bool) (w : World) (hr_ : Aside0 (r = true)) (hr1 : Kd.C kline w A1 l1.length l1) (hc1 : l1.length ≤ c1) (hr2 : Kd.C (Kd.int .i64) w A2 l2.length l2) (hc2 : l2.length ≤ c2) (h : joustlaw17_MarkOrder.f a0_0 a0_1 a0_2 a0_3 a0_4 l1 l2 = some r) :
    Calls Try.prog 6 #[.agg #[.int .i64 a0_0, .int .i64 a0_1, .int .i64 a0_2, .int .i64 a0_3, .int .u64 a0_4], .slice A1 l1.length c1, .slice A2 l2.length c2] w fun e w' => e = .returned (.bool r) ∧ Below w.heap.size w w' := by
  obtain rfl := hr_.out
  unfold joustlaw17_MarkOrder.f at h
  by_cases hc : l1.length < 4611686018427387904 ∧ (∀ x ∈ l1, x.2.2.1.length < 4611686018427387904 ∧ x.2.2.2.length < 4611686018427387904)
  · have hl : (l1.map toS).length = l1.length := by rw [List.length_map]
    rw [← hl] at hr1 hc1 ⊢
    rw [hl] at hr1
    have h1 := C_toS hr1
    refine law.calls a0_0 a0_1 a0_2 a0_3 a0_4 A1 c1 (l1.map toS) A2 c2 l2 w (by rw [hl]; exact h1) hc1 hr2 hc2 (by rw [hl]; exact hc.1) ?_
    intro x hx
    obtain ⟨y, hy, rfl⟩ := List.mem_map.1 hx
    exact hc.2 y hy
  · rw [if_neg hc] at h
    cases h
end Go.Proofs.Ytmgdpkmmcmglfaa.PMarkOrder
