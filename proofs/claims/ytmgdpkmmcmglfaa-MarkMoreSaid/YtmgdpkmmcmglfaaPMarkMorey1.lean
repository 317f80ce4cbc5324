/- What the law MarkMore comes to: true of all. Condition: each number within its kind. -/
import Derived.Test.YtmgdpkmmcmglfaaMarkLens
import Derived.Test.YtmgdpkmmcmglfaaMarkMX
import Derived.Test.YtmgdpkmmcmglfaaRawRow2
import Derived.Test.YtmgdpkmmcmglfaaRegK
import Derived.Test.YtmgdpkmmcmglfaaWGuard
import Derived.OpenShut
import Derived.BigQuiet
import Derived.Deep.QuietTactic
namespace Go.Proofs.Ytmgdpkmmcmglfaa.PMarkMore
open Go Go.RowKit Go.Proofs.YtmgdpkmmcmglfaaW.PrintWords Go.Proofs.YtmgdpkmmcmglfaaW.PrintLast Go.Proofs.YtmgdpkmmcmglfaaW.PrintMore Go.Proofs.Ytmgdpkmmcmglfaa.Sep Go.Proofs.Ytmgdpkmmcmglfaa.PMarkOrder
open Go.Proofs.Ytmgdpkmmcmglfaa.MarkW (nearG kline at_line ofG)
attribute [local go_sem] max2_int min2_int max_two min_two max_three min_three max_four min_four   -- for this text's walks alone
set_option linter.unusedVariables false
set_option linter.unusedSimpArgs false
theorem few_b {A : Option Addr} {c1 : Nat} {l : List S44} {r : Bool} {w w1 : World} (hb : Below w.heap.size w w1) (hr : Kd.C k44 w A l.length l) (hc : l.length ≤ c1) (h : joustlaw17_few.f (most l) l = some r) : Calls Try.prog 8 #[.slice A l.length c1] w1 fun e w' => e = .returned (.bool r) ∧ Below w1.heap.size w1 w' := by
  refine (joustlaw17_few.calls _ A c1 l r w1 (Kd.C_below hr hb) hc h).mono ?_
  rintro e w' ⟨rfl, hd⟩
  exact ⟨rfl, hd.below⟩
theorem of_lines (c r p wi s : Int) {A : Option Addr} {n c1 : Nat} {ys : List S44} {v : List Int} {w : World} (h : n = ys.length ∧ n ≤ c1 ∧ Kd.C k44 w A n ys) (hf : ofG c r p wi s (ys.map toL) = some v) : Calls Try.prog 11 #[.agg #[.int .i64 c, .int .i64 r, .int .i64 p, .int .i64 wi, .int .u64 s], .slice A n c1] w fun e w' => ∃ v0_ : Value, e = .returned v0_ ∧ Kd.R (Kd.int .i64) 3 w' w.heap.size (fun _ => True) v0_ v ∧ Below w.heap.size w w' := by
  obtain ⟨rfl, h2, h3⟩ := h
  exact mark_Of.calls c r p wi s A c1 ys v w h3 h2 hf
theorem of_nil (c r p wi s : Int) (hR : GridP.R c r p wi) (w : World) : Calls Try.prog 11 #[.agg #[.int .i64 c, .int .i64 r, .int .i64 p, .int .i64 wi, .int .u64 s], .slice none 0 0] w fun e w' => ∃ v0_ : Value, e = .returned v0_ ∧ Kd.R (Kd.int .i64) 3 w' w.heap.size (fun _ => True) v0_ [] ∧ Below w.heap.size w w' :=
  mark_Of.calls c r p wi s none 0 [] [] w ⟨rfl, by simp, fun h => absurd h (by simp)⟩ (Nat.le_refl _) (ends_nil c r p wi s hR)
theorem at_mid {α : Type} {R1 R2 : List α} {el : α} {j : Nat} (h : R1.length = j) : (R1 ++ el :: R2)[j]? = some el := by subst h; simp
theorem set_mid {α : Type} {R1 R2 : List α} {el el' : α} {j : Nat} (h : R1.length = j) : (R1 ++ el :: R2).set j el' = R1 ++ el' :: R2 := by subst h; simp
theorem raw1Cell {w0 w : World} {base g e n c : Nat} {raws : List (List Value)} {F : List Asr} (h : Has w0 base w (row (kcells 1) e (.slice (some ⟨g, 0, none⟩) n c) raws :: F)) {j : Nat} {u : Value} (hj : raws[j]? = some [u]) : w.cell? ⟨g, j, none⟩ = some u := by
  have := Has.rawCell (f := 0) h hj rfl
  rwa [Nat.mul_one, Nat.add_zero] at this
set_option maxHeartbeats 8000000 in
set_option maxRecDepth 100000 in
theorem law.calls (c0 r0 p0 wi0 s : Int) (A1 : Option Addr) (c1 : Nat) (l : List S44) (x2 x3 x4 : Int) (w : World) (hr1 : Kd.C k44 w A1 l.length l) (hc1 : l.length ≤ c1) (hl0 : l.length < 4611686018427387904) (hlb : ∀ x ∈ l, x.f2.length < 4611686018427387904 ∧ x.f3.length < 4611686018427387904) :
    Calls Try.prog 4 #[.agg #[.int .i64 c0, .int .i64 r0, .int .i64 p0, .int .i64 wi0, .int .u64 s], .slice A1 l.length c1, .int .i64 x2, .int .i64 x3, .int .i64 x4] w fun e w' => e = .returned (.bool true) ∧ Below w.heap.size w w' := by
  obtain ⟨c, r, p, wi, hcfg, hR⟩ := cfg_eq c0 r0 p0 wi0 s
  have HCFG := Aside0.mk hcfg
  have HNEW := Aside0.mk (new_eq s hR)
  have HRR := Aside0.mk hR
  obtain ⟨fv, hfv, hfp⟩ := few_eq hl0 hlb l.length (most l) 0 (by omega) (by rw [List.drop_zero]; omega) (fun j hj h => absurd h (by omega))
  have HFV : Aside0 (joustlaw17_few.f (most l) l = some fv) := ⟨hfv⟩
  have HFP := Aside0.mk hfp
  have HR1 := Aside0.mk hr1
  have HC1 := Aside0.mk hc1
  clear hcfg hR hfv hfp hr1 hc1 hl0 hlb
  have hu24 := Try.underlying24
  have hu27 := Try.underlying27
  have hu44 := Try.underlying44
  have H0 := Aside0.mk (Has.nil (w := w) (base := w.heap.size) (Nat.le_refl _))
  cases fv with
  | false =>
    go_enter Try.func4, Try.ntmps4
    go_wp2_with (first | ((with_reducible refine gate_dst (N := 5) rfl ?_); refine box_event ?hg (N := 5) ?hd (cs := #[.int .i64 c0, .int .i64 r0, .int .i64 p0, .int .i64 wi0, .int .u64 s]) (t := 24) ?hr ?_; (case hd => rfl); (case hg => rfl); (case hr => first | (go_simp; done) | (go_simp; rfl)); intro g4 hgb_ wa1 hbox_ hb5_; have h_new := Has.ownNew H0.out hgb_ hb5_ hbox_; clear hgb_ hb5_ hbox_; have Ha1 := Aside0.mk h_new; clear h_new H0; have c_cfg_0 : wa1.cell? ⟨g4, 0, none⟩ = some (.int .i64 c0) := (blk_cell (Ha1.out).blk 0).trans rfl; have f_cfg_0 := blk_frozen (Ha1.out).blk 0; have c_cfg_1 : wa1.cell? ⟨g4, 1, none⟩ = some (.int .i64 r0) := (blk_cell (Ha1.out).blk 1).trans rfl; have f_cfg_1 := blk_frozen (Ha1.out).blk 1; have c_cfg_2 : wa1.cell? ⟨g4, 2, none⟩ = some (.int .i64 p0) := (blk_cell (Ha1.out).blk 2).trans rfl; have f_cfg_2 := blk_frozen (Ha1.out).blk 2; have c_cfg_3 : wa1.cell? ⟨g4, 3, none⟩ = some (.int .i64 wi0) := (blk_cell (Ha1.out).blk 3).trans rfl; have f_cfg_3 := blk_frozen (Ha1.out).blk 3; have c_cfg_4 : wa1.cell? ⟨g4, 4, none⟩ = some (.int .u64 s) := (blk_cell (Ha1.out).blk 4).trans rfl; have f_cfg_4 := blk_frozen (Ha1.out).blk 4) | ((go_at_call 13); (with_reducible refine (joustplay_Config.calls c0 r0 p0 wi0 s c r p wi s wa1 HCFG.out).mono ?_); rintro e_ wa2 ⟨rfl, hb_⟩; have h_new := Ha1.out.step hb_; clear hb_; have Ha2 := Aside0.mk h_new; clear h_new Ha1; clear c_cfg_0 f_cfg_0 c_cfg_1 f_cfg_1 c_cfg_2 f_cfg_2 c_cfg_3 f_cfg_3 c_cfg_4 f_cfg_4; have c_cfg_0 : wa2.cell? ⟨g4, 0, none⟩ = some (.int .i64 c0) := (blk_cell (Ha2.out).blk 0).trans rfl; have f_cfg_0 := blk_frozen (Ha2.out).blk 0; have c_cfg_1 : wa2.cell? ⟨g4, 1, none⟩ = some (.int .i64 r0) := (blk_cell (Ha2.out).blk 1).trans rfl; have f_cfg_1 := blk_frozen (Ha2.out).blk 1; have c_cfg_2 : wa2.cell? ⟨g4, 2, none⟩ = some (.int .i64 p0) := (blk_cell (Ha2.out).blk 2).trans rfl; have f_cfg_2 := blk_frozen (Ha2.out).blk 2; have c_cfg_3 : wa2.cell? ⟨g4, 3, none⟩ = some (.int .i64 wi0) := (blk_cell (Ha2.out).blk 3).trans rfl; have f_cfg_3 := blk_frozen (Ha2.out).blk 3; have c_cfg_4 : wa2.cell? ⟨g4, 4, none⟩ = some (.int .u64 s) := (blk_cell (Ha2.out).blk 4).trans rfl; have f_cfg_4 := blk_frozen (Ha2.out).blk 4) | ((with_reducible refine gate_store (t := 24) (p := 5) rfl ?_); refine wp_storeB rfl rfl 24 _ _ rfl (g := g4) (j := 0) (u := (.agg #[.int .i64 c, .int .i64 r, .int .i64 p, .int .i64 wi, .int .u64 s])) (cs2 := #[.int .i64 c, .int .i64 r, .int .i64 p, .int .i64 wi, .int .u64 s]) [.int .i64 c, .int .i64 r, .int .i64 p, .int .i64 wi, .int .u64 s] rfl rfl rfl ?sI (by simp [Value.oneCell']) rfl (Ha2.out) (by simp) ?_; (case sI => first | rfl | kernel_rfl); intro wa3 h_new; have Ha3 := Aside0.mk h_new; clear h_new Ha2; clear c_cfg_0 f_cfg_0 c_cfg_1 f_cfg_1 c_cfg_2 f_cfg_2 c_cfg_3 f_cfg_3 c_cfg_4 f_cfg_4; have c_cfg_0 : wa3.cell? ⟨g4, 0, none⟩ = some (.int .i64 c) := (blk_cell (Ha3.out).blk 0).trans rfl; have f_cfg_0 := blk_frozen (Ha3.out).blk 0; have c_cfg_1 : wa3.cell? ⟨g4, 1, none⟩ = some (.int .i64 r) := (blk_cell (Ha3.out).blk 1).trans rfl; have f_cfg_1 := blk_frozen (Ha3.out).blk 1; have c_cfg_2 : wa3.cell? ⟨g4, 2, none⟩ = some (.int .i64 p) := (blk_cell (Ha3.out).blk 2).trans rfl; have f_cfg_2 := blk_frozen (Ha3.out).blk 2; have c_cfg_3 : wa3.cell? ⟨g4, 3, none⟩ = some (.int .i64 wi) := (blk_cell (Ha3.out).blk 3).trans rfl; have f_cfg_3 := blk_frozen (Ha3.out).blk 3; have c_cfg_4 : wa3.cell? ⟨g4, 4, none⟩ = some (.int .u64 s) := (blk_cell (Ha3.out).blk 4).trans rfl; have f_cfg_4 := blk_frozen (Ha3.out).blk 4) | ((go_at_call 7); (with_reducible refine (grid_New.calls c r p wi s c r p wi s 0 wa3 HNEW.out).mono ?_); rintro e_ wa4 ⟨rfl, hb_⟩; have h_new := Ha3.out.step hb_; clear hb_; have Ha4 := Aside0.mk h_new; clear h_new Ha3; clear c_cfg_0 f_cfg_0 c_cfg_1 f_cfg_1 c_cfg_2 f_cfg_2 c_cfg_3 f_cfg_3 c_cfg_4 f_cfg_4; have c_cfg_0 : wa4.cell? ⟨g4, 0, none⟩ = some (.int .i64 c) := (blk_cell (Ha4.out).blk 0).trans rfl; have f_cfg_0 := blk_frozen (Ha4.out).blk 0; have c_cfg_1 : wa4.cell? ⟨g4, 1, none⟩ = some (.int .i64 r) := (blk_cell (Ha4.out).blk 1).trans rfl; have f_cfg_1 := blk_frozen (Ha4.out).blk 1; have c_cfg_2 : wa4.cell? ⟨g4, 2, none⟩ = some (.int .i64 p) := (blk_cell (Ha4.out).blk 2).trans rfl; have f_cfg_2 := blk_frozen (Ha4.out).blk 2; have c_cfg_3 : wa4.cell? ⟨g4, 3, none⟩ = some (.int .i64 wi) := (blk_cell (Ha4.out).blk 3).trans rfl; have f_cfg_3 := blk_frozen (Ha4.out).blk 3; have c_cfg_4 : wa4.cell? ⟨g4, 4, none⟩ = some (.int .u64 s) := (blk_cell (Ha4.out).blk 4).trans rfl; have f_cfg_4 := blk_frozen (Ha4.out).blk 4) | ((with_reducible refine gate_dst (N := 11) rfl ?_); refine box_event ?hg (N := 11) ?hd (cs := #[.int .i64 0, .int .i64 0, .int .i64 0, .int .i64 0, .int .u64 0]) (t := 27) ?hr ?_; (case hd => rfl); (case hg => rfl); (case hr => first | (go_simp; done) | (go_simp; rfl)); intro g9 hgb_ wa5 hbox_ hb5_; have h_new := Has.ownNew Ha4.out hgb_ hb5_ hbox_; clear hgb_ hb5_ hbox_; have Ha5 := Aside0.mk h_new; clear h_new Ha4; clear c_cfg_0 f_cfg_0 c_cfg_1 f_cfg_1 c_cfg_2 f_cfg_2 c_cfg_3 f_cfg_3 c_cfg_4 f_cfg_4; have c_cfg_0 : wa5.cell? ⟨g4, 0, none⟩ = some (.int .i64 c) := (blk_cell (Ha5.out.sw).blk 0).trans rfl; have f_cfg_0 := blk_frozen (Ha5.out.sw).blk 0; have c_cfg_1 : wa5.cell? ⟨g4, 1, none⟩ = some (.int .i64 r) := (blk_cell (Ha5.out.sw).blk 1).trans rfl; have f_cfg_1 := blk_frozen (Ha5.out.sw).blk 1; have c_cfg_2 : wa5.cell? ⟨g4, 2, none⟩ = some (.int .i64 p) := (blk_cell (Ha5.out.sw).blk 2).trans rfl; have f_cfg_2 := blk_frozen (Ha5.out.sw).blk 2; have c_cfg_3 : wa5.cell? ⟨g4, 3, none⟩ = some (.int .i64 wi) := (blk_cell (Ha5.out.sw).blk 3).trans rfl; have f_cfg_3 := blk_frozen (Ha5.out.sw).blk 3; have c_cfg_4 : wa5.cell? ⟨g4, 4, none⟩ = some (.int .u64 s) := (blk_cell (Ha5.out.sw).blk 4).trans rfl; have f_cfg_4 := blk_frozen (Ha5.out.sw).blk 4) | ((with_reducible refine gate_store (t := 27) (p := 11) rfl ?_); refine wp_storeB rfl rfl 27 _ _ rfl (g := g9) (j := 0) (u := (.agg #[.int .i64 c, .int .i64 r, .int .i64 p, .int .i64 wi, .int .u64 s])) (cs2 := #[.int .i64 c, .int .i64 r, .int .i64 p, .int .i64 wi, .int .u64 s]) [.int .i64 c, .int .i64 r, .int .i64 p, .int .i64 wi, .int .u64 s] rfl rfl rfl ?sI (by simp [Value.oneCell']) rfl (Ha5.out) (by simp) ?_; (case sI => first | rfl | kernel_rfl); intro wa6 h_new; have Ha6 := Aside0.mk h_new; clear h_new Ha5; clear c_cfg_0 f_cfg_0 c_cfg_1 f_cfg_1 c_cfg_2 f_cfg_2 c_cfg_3 f_cfg_3 c_cfg_4 f_cfg_4; have c_cfg_0 : wa6.cell? ⟨g4, 0, none⟩ = some (.int .i64 c) := (blk_cell (Ha6.out.sw).blk 0).trans rfl; have f_cfg_0 := blk_frozen (Ha6.out.sw).blk 0; have c_cfg_1 : wa6.cell? ⟨g4, 1, none⟩ = some (.int .i64 r) := (blk_cell (Ha6.out.sw).blk 1).trans rfl; have f_cfg_1 := blk_frozen (Ha6.out.sw).blk 1; have c_cfg_2 : wa6.cell? ⟨g4, 2, none⟩ = some (.int .i64 p) := (blk_cell (Ha6.out.sw).blk 2).trans rfl; have f_cfg_2 := blk_frozen (Ha6.out.sw).blk 2; have c_cfg_3 : wa6.cell? ⟨g4, 3, none⟩ = some (.int .i64 wi) := (blk_cell (Ha6.out.sw).blk 3).trans rfl; have f_cfg_3 := blk_frozen (Ha6.out.sw).blk 3; have c_cfg_4 : wa6.cell? ⟨g4, 4, none⟩ = some (.int .u64 s) := (blk_cell (Ha6.out.sw).blk 4).trans rfl; have f_cfg_4 := blk_frozen (Ha6.out.sw).blk 4; have c_grid_0 : wa6.cell? ⟨g9, 0, none⟩ = some (.int .i64 c) := (blk_cell (Ha6.out).blk 0).trans rfl; have f_grid_0 := blk_frozen (Ha6.out).blk 0; have c_grid_1 : wa6.cell? ⟨g9, 1, none⟩ = some (.int .i64 r) := (blk_cell (Ha6.out).blk 1).trans rfl; have f_grid_1 := blk_frozen (Ha6.out).blk 1; have c_grid_2 : wa6.cell? ⟨g9, 2, none⟩ = some (.int .i64 p) := (blk_cell (Ha6.out).blk 2).trans rfl; have f_grid_2 := blk_frozen (Ha6.out).blk 2; have c_grid_3 : wa6.cell? ⟨g9, 3, none⟩ = some (.int .i64 wi) := (blk_cell (Ha6.out).blk 3).trans rfl; have f_grid_3 := blk_frozen (Ha6.out).blk 3; have c_grid_4 : wa6.cell? ⟨g9, 4, none⟩ = some (.int .u64 s) := (blk_cell (Ha6.out).blk 4).trans rfl; have f_grid_4 := blk_frozen (Ha6.out).blk 4) | ((go_at_call 9); (with_reducible refine (joustlaw17_awake.calls 100 true wa6 awake_eq).mono ?_); rintro e_ wa7 ⟨rfl, hb_⟩; have h_new := Ha6.out.step hb_; clear hb_; have Ha7 := Aside0.mk h_new; clear h_new Ha6; clear c_cfg_0 f_cfg_0 c_cfg_1 f_cfg_1 c_cfg_2 f_cfg_2 c_cfg_3 f_cfg_3 c_cfg_4 f_cfg_4 c_grid_0 f_grid_0 c_grid_1 f_grid_1 c_grid_2 f_grid_2 c_grid_3 f_grid_3 c_grid_4 f_grid_4; have c_cfg_0 : wa7.cell? ⟨g4, 0, none⟩ = some (.int .i64 c) := (blk_cell (Ha7.out.sw).blk 0).trans rfl; have f_cfg_0 := blk_frozen (Ha7.out.sw).blk 0; have c_cfg_1 : wa7.cell? ⟨g4, 1, none⟩ = some (.int .i64 r) := (blk_cell (Ha7.out.sw).blk 1).trans rfl; have f_cfg_1 := blk_frozen (Ha7.out.sw).blk 1; have c_cfg_2 : wa7.cell? ⟨g4, 2, none⟩ = some (.int .i64 p) := (blk_cell (Ha7.out.sw).blk 2).trans rfl; have f_cfg_2 := blk_frozen (Ha7.out.sw).blk 2; have c_cfg_3 : wa7.cell? ⟨g4, 3, none⟩ = some (.int .i64 wi) := (blk_cell (Ha7.out.sw).blk 3).trans rfl; have f_cfg_3 := blk_frozen (Ha7.out.sw).blk 3; have c_cfg_4 : wa7.cell? ⟨g4, 4, none⟩ = some (.int .u64 s) := (blk_cell (Ha7.out.sw).blk 4).trans rfl; have f_cfg_4 := blk_frozen (Ha7.out.sw).blk 4; have c_grid_0 : wa7.cell? ⟨g9, 0, none⟩ = some (.int .i64 c) := (blk_cell (Ha7.out).blk 0).trans rfl; have f_grid_0 := blk_frozen (Ha7.out).blk 0; have c_grid_1 : wa7.cell? ⟨g9, 1, none⟩ = some (.int .i64 r) := (blk_cell (Ha7.out).blk 1).trans rfl; have f_grid_1 := blk_frozen (Ha7.out).blk 1; have c_grid_2 : wa7.cell? ⟨g9, 2, none⟩ = some (.int .i64 p) := (blk_cell (Ha7.out).blk 2).trans rfl; have f_grid_2 := blk_frozen (Ha7.out).blk 2; have c_grid_3 : wa7.cell? ⟨g9, 3, none⟩ = some (.int .i64 wi) := (blk_cell (Ha7.out).blk 3).trans rfl; have f_grid_3 := blk_frozen (Ha7.out).blk 3; have c_grid_4 : wa7.cell? ⟨g9, 4, none⟩ = some (.int .u64 s) := (blk_cell (Ha7.out).blk 4).trans rfl; have f_grid_4 := blk_frozen (Ha7.out).blk 4) | ((go_at_call 8); (with_reducible refine (few_b ((Ha7.out)).below HR1.out HC1.out HFV.out).mono ?_); rintro e_ wa8 ⟨rfl, hb_⟩; have h_new := Ha7.out.step hb_; clear hb_; have Ha8 := Aside0.mk h_new; clear h_new Ha7; clear c_cfg_0 f_cfg_0 c_cfg_1 f_cfg_1 c_cfg_2 f_cfg_2 c_cfg_3 f_cfg_3 c_cfg_4 f_cfg_4 c_grid_0 f_grid_0 c_grid_1 f_grid_1 c_grid_2 f_grid_2 c_grid_3 f_grid_3 c_grid_4 f_grid_4; have c_cfg_0 : wa8.cell? ⟨g4, 0, none⟩ = some (.int .i64 c) := (blk_cell (Ha8.out.sw).blk 0).trans rfl; have f_cfg_0 := blk_frozen (Ha8.out.sw).blk 0; have c_cfg_1 : wa8.cell? ⟨g4, 1, none⟩ = some (.int .i64 r) := (blk_cell (Ha8.out.sw).blk 1).trans rfl; have f_cfg_1 := blk_frozen (Ha8.out.sw).blk 1; have c_cfg_2 : wa8.cell? ⟨g4, 2, none⟩ = some (.int .i64 p) := (blk_cell (Ha8.out.sw).blk 2).trans rfl; have f_cfg_2 := blk_frozen (Ha8.out.sw).blk 2; have c_cfg_3 : wa8.cell? ⟨g4, 3, none⟩ = some (.int .i64 wi) := (blk_cell (Ha8.out.sw).blk 3).trans rfl; have f_cfg_3 := blk_frozen (Ha8.out.sw).blk 3; have c_cfg_4 : wa8.cell? ⟨g4, 4, none⟩ = some (.int .u64 s) := (blk_cell (Ha8.out.sw).blk 4).trans rfl; have f_cfg_4 := blk_frozen (Ha8.out.sw).blk 4; have c_grid_0 : wa8.cell? ⟨g9, 0, none⟩ = some (.int .i64 c) := (blk_cell (Ha8.out).blk 0).trans rfl; have f_grid_0 := blk_frozen (Ha8.out).blk 0; have c_grid_1 : wa8.cell? ⟨g9, 1, none⟩ = some (.int .i64 r) := (blk_cell (Ha8.out).blk 1).trans rfl; have f_grid_1 := blk_frozen (Ha8.out).blk 1; have c_grid_2 : wa8.cell? ⟨g9, 2, none⟩ = some (.int .i64 p) := (blk_cell (Ha8.out).blk 2).trans rfl; have f_grid_2 := blk_frozen (Ha8.out).blk 2; have c_grid_3 : wa8.cell? ⟨g9, 3, none⟩ = some (.int .i64 wi) := (blk_cell (Ha8.out).blk 3).trans rfl; have f_grid_3 := blk_frozen (Ha8.out).blk 3; have c_grid_4 : wa8.cell? ⟨g9, 4, none⟩ = some (.int .u64 s) := (blk_cell (Ha8.out).blk 4).trans rfl; have f_grid_4 := blk_frozen (Ha8.out).blk 4) | ((go_at_call 9); (with_reducible refine (joustlaw17_awake.calls 100 true wa8 awake_eq).mono ?_); rintro e_ wa9 ⟨rfl, hb_⟩; have h_new := Ha8.out.step hb_; clear hb_; have Ha9 := Aside0.mk h_new; clear h_new Ha8; clear c_cfg_0 f_cfg_0 c_cfg_1 f_cfg_1 c_cfg_2 f_cfg_2 c_cfg_3 f_cfg_3 c_cfg_4 f_cfg_4 c_grid_0 f_grid_0 c_grid_1 f_grid_1 c_grid_2 f_grid_2 c_grid_3 f_grid_3 c_grid_4 f_grid_4; have c_cfg_0 : wa9.cell? ⟨g4, 0, none⟩ = some (.int .i64 c) := (blk_cell (Ha9.out.sw).blk 0).trans rfl; have f_cfg_0 := blk_frozen (Ha9.out.sw).blk 0; have c_cfg_1 : wa9.cell? ⟨g4, 1, none⟩ = some (.int .i64 r) := (blk_cell (Ha9.out.sw).blk 1).trans rfl; have f_cfg_1 := blk_frozen (Ha9.out.sw).blk 1; have c_cfg_2 : wa9.cell? ⟨g4, 2, none⟩ = some (.int .i64 p) := (blk_cell (Ha9.out.sw).blk 2).trans rfl; have f_cfg_2 := blk_frozen (Ha9.out.sw).blk 2; have c_cfg_3 : wa9.cell? ⟨g4, 3, none⟩ = some (.int .i64 wi) := (blk_cell (Ha9.out.sw).blk 3).trans rfl; have f_cfg_3 := blk_frozen (Ha9.out.sw).blk 3; have c_cfg_4 : wa9.cell? ⟨g4, 4, none⟩ = some (.int .u64 s) := (blk_cell (Ha9.out.sw).blk 4).trans rfl; have f_cfg_4 := blk_frozen (Ha9.out.sw).blk 4; have c_grid_0 : wa9.cell? ⟨g9, 0, none⟩ = some (.int .i64 c) := (blk_cell (Ha9.out).blk 0).trans rfl; have f_grid_0 := blk_frozen (Ha9.out).blk 0; have c_grid_1 : wa9.cell? ⟨g9, 1, none⟩ = some (.int .i64 r) := (blk_cell (Ha9.out).blk 1).trans rfl; have f_grid_1 := blk_frozen (Ha9.out).blk 1; have c_grid_2 : wa9.cell? ⟨g9, 2, none⟩ = some (.int .i64 p) := (blk_cell (Ha9.out).blk 2).trans rfl; have f_grid_2 := blk_frozen (Ha9.out).blk 2; have c_grid_3 : wa9.cell? ⟨g9, 3, none⟩ = some (.int .i64 wi) := (blk_cell (Ha9.out).blk 3).trans rfl; have f_grid_3 := blk_frozen (Ha9.out).blk 3; have c_grid_4 : wa9.cell? ⟨g9, 4, none⟩ = some (.int .u64 s) := (blk_cell (Ha9.out).blk 4).trans rfl; have f_grid_4 := blk_frozen (Ha9.out).blk 4))
    go_ret
    exact ⟨rfl, Ha9.out.below⟩
  | true =>
    obtain ⟨hl20, hf60⟩ := HFP.out rfl
    have HF60 := Aside0.mk hf60
    clear hf60 HFP
    by_cases hz : l.length = 0
    · have HZ := Aside0.mk hz
      have FEW : ∀ {w1 : World}, Below w.heap.size w w1 → Calls Try.prog 8 #[.slice A1 0 c1] w1 fun e w' => e = .returned (.bool true) ∧ Below w1.heap.size w1 w' := fun hb => by rw [← HZ.out]; exact few_b hb HR1.out HC1.out HFV.out
      have FIT : ∀ {w1 : World} {F : List Asr}, Has w w.heap.size w1 F → Calls Try.prog 14 #[.agg #[.int .i64 c, .int .i64 r, .int .i64 p, .int .i64 wi, .int .u64 s], .slice A1 0 c1] w1 fun e w' => ∃ (A : Option Addr) (c' : Nat), e = .returned (.slice A 0 c') ∧ Has w w.heap.size w' (linesP (.slice A 0 c') (fitL c r p wi s l) :: F) := fun h => by
        have h9 := fit.L s h (Nat.le_refl _) A1 c1 l HR1.out HRR.out hl20 HF60.out
        rw [HZ.out] at h9
        exact h9
      rw [hz]
      clear hz
      go_enter Try.func4, Try.ntmps4
      go_wp2_with (first | ((with_reducible refine gate_dst (N := 5) rfl ?_); refine box_event ?hg (N := 5) ?hd (cs := #[.int .i64 c0, .int .i64 r0, .int .i64 p0, .int .i64 wi0, .int .u64 s]) (t := 24) ?hr ?_; (case hd => rfl); (case hg => rfl); (case hr => first | (go_simp; done) | (go_simp; rfl)); intro g4 hgb_ wb1 hbox_ hb5_; have h_new := Has.ownNew H0.out hgb_ hb5_ hbox_; clear hgb_ hb5_ hbox_; have Hb1 := Aside0.mk h_new; clear h_new H0; have c_cfg_0 : wb1.cell? ⟨g4, 0, none⟩ = some (.int .i64 c0) := (blk_cell (Hb1.out).blk 0).trans rfl; have f_cfg_0 := blk_frozen (Hb1.out).blk 0; have c_cfg_1 : wb1.cell? ⟨g4, 1, none⟩ = some (.int .i64 r0) := (blk_cell (Hb1.out).blk 1).trans rfl; have f_cfg_1 := blk_frozen (Hb1.out).blk 1; have c_cfg_2 : wb1.cell? ⟨g4, 2, none⟩ = some (.int .i64 p0) := (blk_cell (Hb1.out).blk 2).trans rfl; have f_cfg_2 := blk_frozen (Hb1.out).blk 2; have c_cfg_3 : wb1.cell? ⟨g4, 3, none⟩ = some (.int .i64 wi0) := (blk_cell (Hb1.out).blk 3).trans rfl; have f_cfg_3 := blk_frozen (Hb1.out).blk 3; have c_cfg_4 : wb1.cell? ⟨g4, 4, none⟩ = some (.int .u64 s) := (blk_cell (Hb1.out).blk 4).trans rfl; have f_cfg_4 := blk_frozen (Hb1.out).blk 4) | ((go_at_call 13); (with_reducible refine (joustplay_Config.calls c0 r0 p0 wi0 s c r p wi s wb1 HCFG.out).mono ?_); rintro e_ wb2 ⟨rfl, hb_⟩; have h_new := Hb1.out.step hb_; clear hb_; have Hb2 := Aside0.mk h_new; clear h_new Hb1; clear c_cfg_0 f_cfg_0 c_cfg_1 f_cfg_1 c_cfg_2 f_cfg_2 c_cfg_3 f_cfg_3 c_cfg_4 f_cfg_4; have c_cfg_0 : wb2.cell? ⟨g4, 0, none⟩ = some (.int .i64 c0) := (blk_cell (Hb2.out).blk 0).trans rfl; have f_cfg_0 := blk_frozen (Hb2.out).blk 0; have c_cfg_1 : wb2.cell? ⟨g4, 1, none⟩ = some (.int .i64 r0) := (blk_cell (Hb2.out).blk 1).trans rfl; have f_cfg_1 := blk_frozen (Hb2.out).blk 1; have c_cfg_2 : wb2.cell? ⟨g4, 2, none⟩ = some (.int .i64 p0) := (blk_cell (Hb2.out).blk 2).trans rfl; have f_cfg_2 := blk_frozen (Hb2.out).blk 2; have c_cfg_3 : wb2.cell? ⟨g4, 3, none⟩ = some (.int .i64 wi0) := (blk_cell (Hb2.out).blk 3).trans rfl; have f_cfg_3 := blk_frozen (Hb2.out).blk 3; have c_cfg_4 : wb2.cell? ⟨g4, 4, none⟩ = some (.int .u64 s) := (blk_cell (Hb2.out).blk 4).trans rfl; have f_cfg_4 := blk_frozen (Hb2.out).blk 4) | ((with_reducible refine gate_store (t := 24) (p := 5) rfl ?_); refine wp_storeB rfl rfl 24 _ _ rfl (g := g4) (j := 0) (u := (.agg #[.int .i64 c, .int .i64 r, .int .i64 p, .int .i64 wi, .int .u64 s])) (cs2 := #[.int .i64 c, .int .i64 r, .int .i64 p, .int .i64 wi, .int .u64 s]) [.int .i64 c, .int .i64 r, .int .i64 p, .int .i64 wi, .int .u64 s] rfl rfl rfl ?sI (by simp [Value.oneCell']) rfl (Hb2.out) (by simp) ?_; (case sI => first | rfl | kernel_rfl); intro wb3 h_new; have Hb3 := Aside0.mk h_new; clear h_new Hb2; clear c_cfg_0 f_cfg_0 c_cfg_1 f_cfg_1 c_cfg_2 f_cfg_2 c_cfg_3 f_cfg_3 c_cfg_4 f_cfg_4; have c_cfg_0 : wb3.cell? ⟨g4, 0, none⟩ = some (.int .i64 c) := (blk_cell (Hb3.out).blk 0).trans rfl; have f_cfg_0 := blk_frozen (Hb3.out).blk 0; have c_cfg_1 : wb3.cell? ⟨g4, 1, none⟩ = some (.int .i64 r) := (blk_cell (Hb3.out).blk 1).trans rfl; have f_cfg_1 := blk_frozen (Hb3.out).blk 1; have c_cfg_2 : wb3.cell? ⟨g4, 2, none⟩ = some (.int .i64 p) := (blk_cell (Hb3.out).blk 2).trans rfl; have f_cfg_2 := blk_frozen (Hb3.out).blk 2; have c_cfg_3 : wb3.cell? ⟨g4, 3, none⟩ = some (.int .i64 wi) := (blk_cell (Hb3.out).blk 3).trans rfl; have f_cfg_3 := blk_frozen (Hb3.out).blk 3; have c_cfg_4 : wb3.cell? ⟨g4, 4, none⟩ = some (.int .u64 s) := (blk_cell (Hb3.out).blk 4).trans rfl; have f_cfg_4 := blk_frozen (Hb3.out).blk 4) | ((go_at_call 7); (with_reducible refine (grid_New.calls c r p wi s c r p wi s 0 wb3 HNEW.out).mono ?_); rintro e_ wb4 ⟨rfl, hb_⟩; have h_new := Hb3.out.step hb_; clear hb_; have Hb4 := Aside0.mk h_new; clear h_new Hb3; clear c_cfg_0 f_cfg_0 c_cfg_1 f_cfg_1 c_cfg_2 f_cfg_2 c_cfg_3 f_cfg_3 c_cfg_4 f_cfg_4; have c_cfg_0 : wb4.cell? ⟨g4, 0, none⟩ = some (.int .i64 c) := (blk_cell (Hb4.out).blk 0).trans rfl; have f_cfg_0 := blk_frozen (Hb4.out).blk 0; have c_cfg_1 : wb4.cell? ⟨g4, 1, none⟩ = some (.int .i64 r) := (blk_cell (Hb4.out).blk 1).trans rfl; have f_cfg_1 := blk_frozen (Hb4.out).blk 1; have c_cfg_2 : wb4.cell? ⟨g4, 2, none⟩ = some (.int .i64 p) := (blk_cell (Hb4.out).blk 2).trans rfl; have f_cfg_2 := blk_frozen (Hb4.out).blk 2; have c_cfg_3 : wb4.cell? ⟨g4, 3, none⟩ = some (.int .i64 wi) := (blk_cell (Hb4.out).blk 3).trans rfl; have f_cfg_3 := blk_frozen (Hb4.out).blk 3; have c_cfg_4 : wb4.cell? ⟨g4, 4, none⟩ = some (.int .u64 s) := (blk_cell (Hb4.out).blk 4).trans rfl; have f_cfg_4 := blk_frozen (Hb4.out).blk 4) | ((with_reducible refine gate_dst (N := 11) rfl ?_); refine box_event ?hg (N := 11) ?hd (cs := #[.int .i64 0, .int .i64 0, .int .i64 0, .int .i64 0, .int .u64 0]) (t := 27) ?hr ?_; (case hd => rfl); (case hg => rfl); (case hr => first | (go_simp; done) | (go_simp; rfl)); intro g9 hgb_ wb5 hbox_ hb5_; have h_new := Has.ownNew Hb4.out hgb_ hb5_ hbox_; clear hgb_ hb5_ hbox_; have Hb5 := Aside0.mk h_new; clear h_new Hb4; clear c_cfg_0 f_cfg_0 c_cfg_1 f_cfg_1 c_cfg_2 f_cfg_2 c_cfg_3 f_cfg_3 c_cfg_4 f_cfg_4; have c_cfg_0 : wb5.cell? ⟨g4, 0, none⟩ = some (.int .i64 c) := (blk_cell (Hb5.out.sw).blk 0).trans rfl; have f_cfg_0 := blk_frozen (Hb5.out.sw).blk 0; have c_cfg_1 : wb5.cell? ⟨g4, 1, none⟩ = some (.int .i64 r) := (blk_cell (Hb5.out.sw).blk 1).trans rfl; have f_cfg_1 := blk_frozen (Hb5.out.sw).blk 1; have c_cfg_2 : wb5.cell? ⟨g4, 2, none⟩ = some (.int .i64 p) := (blk_cell (Hb5.out.sw).blk 2).trans rfl; have f_cfg_2 := blk_frozen (Hb5.out.sw).blk 2; have c_cfg_3 : wb5.cell? ⟨g4, 3, none⟩ = some (.int .i64 wi) := (blk_cell (Hb5.out.sw).blk 3).trans rfl; have f_cfg_3 := blk_frozen (Hb5.out.sw).blk 3; have c_cfg_4 : wb5.cell? ⟨g4, 4, none⟩ = some (.int .u64 s) := (blk_cell (Hb5.out.sw).blk 4).trans rfl; have f_cfg_4 := blk_frozen (Hb5.out.sw).blk 4) | ((with_reducible refine gate_store (t := 27) (p := 11) rfl ?_); refine wp_storeB rfl rfl 27 _ _ rfl (g := g9) (j := 0) (u := (.agg #[.int .i64 c, .int .i64 r, .int .i64 p, .int .i64 wi, .int .u64 s])) (cs2 := #[.int .i64 c, .int .i64 r, .int .i64 p, .int .i64 wi, .int .u64 s]) [.int .i64 c, .int .i64 r, .int .i64 p, .int .i64 wi, .int .u64 s] rfl rfl rfl ?sI (by simp [Value.oneCell']) rfl (Hb5.out) (by simp) ?_; (case sI => first | rfl | kernel_rfl); intro wb6 h_new; have Hb6 := Aside0.mk h_new; clear h_new Hb5; clear c_cfg_0 f_cfg_0 c_cfg_1 f_cfg_1 c_cfg_2 f_cfg_2 c_cfg_3 f_cfg_3 c_cfg_4 f_cfg_4; have c_cfg_0 : wb6.cell? ⟨g4, 0, none⟩ = some (.int .i64 c) := (blk_cell (Hb6.out.sw).blk 0).trans rfl; have f_cfg_0 := blk_frozen (Hb6.out.sw).blk 0; have c_cfg_1 : wb6.cell? ⟨g4, 1, none⟩ = some (.int .i64 r) := (blk_cell (Hb6.out.sw).blk 1).trans rfl; have f_cfg_1 := blk_frozen (Hb6.out.sw).blk 1; have c_cfg_2 : wb6.cell? ⟨g4, 2, none⟩ = some (.int .i64 p) := (blk_cell (Hb6.out.sw).blk 2).trans rfl; have f_cfg_2 := blk_frozen (Hb6.out.sw).blk 2; have c_cfg_3 : wb6.cell? ⟨g4, 3, none⟩ = some (.int .i64 wi) := (blk_cell (Hb6.out.sw).blk 3).trans rfl; have f_cfg_3 := blk_frozen (Hb6.out.sw).blk 3; have c_cfg_4 : wb6.cell? ⟨g4, 4, none⟩ = some (.int .u64 s) := (blk_cell (Hb6.out.sw).blk 4).trans rfl; have f_cfg_4 := blk_frozen (Hb6.out.sw).blk 4; have c_grid_0 : wb6.cell? ⟨g9, 0, none⟩ = some (.int .i64 c) := (blk_cell (Hb6.out).blk 0).trans rfl; have f_grid_0 := blk_frozen (Hb6.out).blk 0; have c_grid_1 : wb6.cell? ⟨g9, 1, none⟩ = some (.int .i64 r) := (blk_cell (Hb6.out).blk 1).trans rfl; have f_grid_1 := blk_frozen (Hb6.out).blk 1; have c_grid_2 : wb6.cell? ⟨g9, 2, none⟩ = some (.int .i64 p) := (blk_cell (Hb6.out).blk 2).trans rfl; have f_grid_2 := blk_frozen (Hb6.out).blk 2; have c_grid_3 : wb6.cell? ⟨g9, 3, none⟩ = some (.int .i64 wi) := (blk_cell (Hb6.out).blk 3).trans rfl; have f_grid_3 := blk_frozen (Hb6.out).blk 3; have c_grid_4 : wb6.cell? ⟨g9, 4, none⟩ = some (.int .u64 s) := (blk_cell (Hb6.out).blk 4).trans rfl; have f_grid_4 := blk_frozen (Hb6.out).blk 4) | ((go_at_call 9); (with_reducible refine (joustlaw17_awake.calls 100 true wb6 awake_eq).mono ?_); rintro e_ wb7 ⟨rfl, hb_⟩; have h_new := Hb6.out.step hb_; clear hb_; have Hb7 := Aside0.mk h_new; clear h_new Hb6; clear c_cfg_0 f_cfg_0 c_cfg_1 f_cfg_1 c_cfg_2 f_cfg_2 c_cfg_3 f_cfg_3 c_cfg_4 f_cfg_4 c_grid_0 f_grid_0 c_grid_1 f_grid_1 c_grid_2 f_grid_2 c_grid_3 f_grid_3 c_grid_4 f_grid_4; have c_cfg_0 : wb7.cell? ⟨g4, 0, none⟩ = some (.int .i64 c) := (blk_cell (Hb7.out.sw).blk 0).trans rfl; have f_cfg_0 := blk_frozen (Hb7.out.sw).blk 0; have c_cfg_1 : wb7.cell? ⟨g4, 1, none⟩ = some (.int .i64 r) := (blk_cell (Hb7.out.sw).blk 1).trans rfl; have f_cfg_1 := blk_frozen (Hb7.out.sw).blk 1; have c_cfg_2 : wb7.cell? ⟨g4, 2, none⟩ = some (.int .i64 p) := (blk_cell (Hb7.out.sw).blk 2).trans rfl; have f_cfg_2 := blk_frozen (Hb7.out.sw).blk 2; have c_cfg_3 : wb7.cell? ⟨g4, 3, none⟩ = some (.int .i64 wi) := (blk_cell (Hb7.out.sw).blk 3).trans rfl; have f_cfg_3 := blk_frozen (Hb7.out.sw).blk 3; have c_cfg_4 : wb7.cell? ⟨g4, 4, none⟩ = some (.int .u64 s) := (blk_cell (Hb7.out.sw).blk 4).trans rfl; have f_cfg_4 := blk_frozen (Hb7.out.sw).blk 4; have c_grid_0 : wb7.cell? ⟨g9, 0, none⟩ = some (.int .i64 c) := (blk_cell (Hb7.out).blk 0).trans rfl; have f_grid_0 := blk_frozen (Hb7.out).blk 0; have c_grid_1 : wb7.cell? ⟨g9, 1, none⟩ = some (.int .i64 r) := (blk_cell (Hb7.out).blk 1).trans rfl; have f_grid_1 := blk_frozen (Hb7.out).blk 1; have c_grid_2 : wb7.cell? ⟨g9, 2, none⟩ = some (.int .i64 p) := (blk_cell (Hb7.out).blk 2).trans rfl; have f_grid_2 := blk_frozen (Hb7.out).blk 2; have c_grid_3 : wb7.cell? ⟨g9, 3, none⟩ = some (.int .i64 wi) := (blk_cell (Hb7.out).blk 3).trans rfl; have f_grid_3 := blk_frozen (Hb7.out).blk 3; have c_grid_4 : wb7.cell? ⟨g9, 4, none⟩ = some (.int .u64 s) := (blk_cell (Hb7.out).blk 4).trans rfl; have f_grid_4 := blk_frozen (Hb7.out).blk 4) | ((go_at_call 8); (with_reducible refine (FEW ((Hb7.out)).below).mono ?_); rintro e_ wb8 ⟨rfl, hb_⟩; have h_new := Hb7.out.step hb_; clear hb_; have Hb8 := Aside0.mk h_new; clear h_new Hb7; clear c_cfg_0 f_cfg_0 c_cfg_1 f_cfg_1 c_cfg_2 f_cfg_2 c_cfg_3 f_cfg_3 c_cfg_4 f_cfg_4 c_grid_0 f_grid_0 c_grid_1 f_grid_1 c_grid_2 f_grid_2 c_grid_3 f_grid_3 c_grid_4 f_grid_4; have c_cfg_0 : wb8.cell? ⟨g4, 0, none⟩ = some (.int .i64 c) := (blk_cell (Hb8.out.sw).blk 0).trans rfl; have f_cfg_0 := blk_frozen (Hb8.out.sw).blk 0; have c_cfg_1 : wb8.cell? ⟨g4, 1, none⟩ = some (.int .i64 r) := (blk_cell (Hb8.out.sw).blk 1).trans rfl; have f_cfg_1 := blk_frozen (Hb8.out.sw).blk 1; have c_cfg_2 : wb8.cell? ⟨g4, 2, none⟩ = some (.int .i64 p) := (blk_cell (Hb8.out.sw).blk 2).trans rfl; have f_cfg_2 := blk_frozen (Hb8.out.sw).blk 2; have c_cfg_3 : wb8.cell? ⟨g4, 3, none⟩ = some (.int .i64 wi) := (blk_cell (Hb8.out.sw).blk 3).trans rfl; have f_cfg_3 := blk_frozen (Hb8.out.sw).blk 3; have c_cfg_4 : wb8.cell? ⟨g4, 4, none⟩ = some (.int .u64 s) := (blk_cell (Hb8.out.sw).blk 4).trans rfl; have f_cfg_4 := blk_frozen (Hb8.out.sw).blk 4; have c_grid_0 : wb8.cell? ⟨g9, 0, none⟩ = some (.int .i64 c) := (blk_cell (Hb8.out).blk 0).trans rfl; have f_grid_0 := blk_frozen (Hb8.out).blk 0; have c_grid_1 : wb8.cell? ⟨g9, 1, none⟩ = some (.int .i64 r) := (blk_cell (Hb8.out).blk 1).trans rfl; have f_grid_1 := blk_frozen (Hb8.out).blk 1; have c_grid_2 : wb8.cell? ⟨g9, 2, none⟩ = some (.int .i64 p) := (blk_cell (Hb8.out).blk 2).trans rfl; have f_grid_2 := blk_frozen (Hb8.out).blk 2; have c_grid_3 : wb8.cell? ⟨g9, 3, none⟩ = some (.int .i64 wi) := (blk_cell (Hb8.out).blk 3).trans rfl; have f_grid_3 := blk_frozen (Hb8.out).blk 3; have c_grid_4 : wb8.cell? ⟨g9, 4, none⟩ = some (.int .u64 s) := (blk_cell (Hb8.out).blk 4).trans rfl; have f_grid_4 := blk_frozen (Hb8.out).blk 4) | ((go_at_call 14); (with_reducible refine (FIT ((Hb8.out))).mono ?_); rintro e_ wb9 ⟨Aa, ca, rfl, h_new⟩; have Hb9 := Aside0.mk h_new; clear h_new Hb8; clear c_cfg_0 f_cfg_0 c_cfg_1 f_cfg_1 c_cfg_2 f_cfg_2 c_cfg_3 f_cfg_3 c_cfg_4 f_cfg_4 c_grid_0 f_grid_0 c_grid_1 f_grid_1 c_grid_2 f_grid_2 c_grid_3 f_grid_3 c_grid_4 f_grid_4; have c_cfg_0 : wb9.cell? ⟨g4, 0, none⟩ = some (.int .i64 c) := (blk_cell (Hb9.out.up2).blk 0).trans rfl; have f_cfg_0 := blk_frozen (Hb9.out.up2).blk 0; have c_cfg_1 : wb9.cell? ⟨g4, 1, none⟩ = some (.int .i64 r) := (blk_cell (Hb9.out.up2).blk 1).trans rfl; have f_cfg_1 := blk_frozen (Hb9.out.up2).blk 1; have c_cfg_2 : wb9.cell? ⟨g4, 2, none⟩ = some (.int .i64 p) := (blk_cell (Hb9.out.up2).blk 2).trans rfl; have f_cfg_2 := blk_frozen (Hb9.out.up2).blk 2; have c_cfg_3 : wb9.cell? ⟨g4, 3, none⟩ = some (.int .i64 wi) := (blk_cell (Hb9.out.up2).blk 3).trans rfl; have f_cfg_3 := blk_frozen (Hb9.out.up2).blk 3; have c_cfg_4 : wb9.cell? ⟨g4, 4, none⟩ = some (.int .u64 s) := (blk_cell (Hb9.out.up2).blk 4).trans rfl; have f_cfg_4 := blk_frozen (Hb9.out.up2).blk 4; have c_grid_0 : wb9.cell? ⟨g9, 0, none⟩ = some (.int .i64 c) := (blk_cell (Hb9.out.sw).blk 0).trans rfl; have f_grid_0 := blk_frozen (Hb9.out.sw).blk 0; have c_grid_1 : wb9.cell? ⟨g9, 1, none⟩ = some (.int .i64 r) := (blk_cell (Hb9.out.sw).blk 1).trans rfl; have f_grid_1 := blk_frozen (Hb9.out.sw).blk 1; have c_grid_2 : wb9.cell? ⟨g9, 2, none⟩ = some (.int .i64 p) := (blk_cell (Hb9.out.sw).blk 2).trans rfl; have f_grid_2 := blk_frozen (Hb9.out.sw).blk 2; have c_grid_3 : wb9.cell? ⟨g9, 3, none⟩ = some (.int .i64 wi) := (blk_cell (Hb9.out.sw).blk 3).trans rfl; have f_grid_3 := blk_frozen (Hb9.out.sw).blk 3; have c_grid_4 : wb9.cell? ⟨g9, 4, none⟩ = some (.int .u64 s) := (blk_cell (Hb9.out.sw).blk 4).trans rfl; have f_grid_4 := blk_frozen (Hb9.out.sw).blk 4) | ((go_at_call 11); (with_reducible refine (of_nil c r p wi s HRR.out wb9).mono ?_); rintro e_ wb10 ⟨v_, rfl, hR_, hb_⟩; have h_new := Has.newRow Hb9.out hb_ hR_; clear hb_ hR_; obtain ⟨A_bf, c_bf, ev_⟩ := h_new.rowIs; rw [show (([] : List Int)).length = 0 from by rfl] at ev_; subst ev_; have hc_bf := h_new.rowN.2.1; have Hb10 := Aside0.mk h_new; clear h_new Hb9; clear c_cfg_0 f_cfg_0 c_cfg_1 f_cfg_1 c_cfg_2 f_cfg_2 c_cfg_3 f_cfg_3 c_cfg_4 f_cfg_4 c_grid_0 f_grid_0 c_grid_1 f_grid_1 c_grid_2 f_grid_2 c_grid_3 f_grid_3 c_grid_4 f_grid_4; have c_cfg_0 : wb10.cell? ⟨g4, 0, none⟩ = some (.int .i64 c) := (blk_cell (Hb10.out.up3).blk 0).trans rfl; have f_cfg_0 := blk_frozen (Hb10.out.up3).blk 0; have c_cfg_1 : wb10.cell? ⟨g4, 1, none⟩ = some (.int .i64 r) := (blk_cell (Hb10.out.up3).blk 1).trans rfl; have f_cfg_1 := blk_frozen (Hb10.out.up3).blk 1; have c_cfg_2 : wb10.cell? ⟨g4, 2, none⟩ = some (.int .i64 p) := (blk_cell (Hb10.out.up3).blk 2).trans rfl; have f_cfg_2 := blk_frozen (Hb10.out.up3).blk 2; have c_cfg_3 : wb10.cell? ⟨g4, 3, none⟩ = some (.int .i64 wi) := (blk_cell (Hb10.out.up3).blk 3).trans rfl; have f_cfg_3 := blk_frozen (Hb10.out.up3).blk 3; have c_cfg_4 : wb10.cell? ⟨g4, 4, none⟩ = some (.int .u64 s) := (blk_cell (Hb10.out.up3).blk 4).trans rfl; have f_cfg_4 := blk_frozen (Hb10.out.up3).blk 4; have c_grid_0 : wb10.cell? ⟨g9, 0, none⟩ = some (.int .i64 c) := (blk_cell (Hb10.out.up2).blk 0).trans rfl; have f_grid_0 := blk_frozen (Hb10.out.up2).blk 0; have c_grid_1 : wb10.cell? ⟨g9, 1, none⟩ = some (.int .i64 r) := (blk_cell (Hb10.out.up2).blk 1).trans rfl; have f_grid_1 := blk_frozen (Hb10.out.up2).blk 1; have c_grid_2 : wb10.cell? ⟨g9, 2, none⟩ = some (.int .i64 p) := (blk_cell (Hb10.out.up2).blk 2).trans rfl; have f_grid_2 := blk_frozen (Hb10.out.up2).blk 2; have c_grid_3 : wb10.cell? ⟨g9, 3, none⟩ = some (.int .i64 wi) := (blk_cell (Hb10.out.up2).blk 3).trans rfl; have f_grid_3 := blk_frozen (Hb10.out.up2).blk 3; have c_grid_4 : wb10.cell? ⟨g9, 4, none⟩ = some (.int .u64 s) := (blk_cell (Hb10.out.up2).blk 4).trans rfl; have f_grid_4 := blk_frozen (Hb10.out.up2).blk 4))
      go_ret
      exact ⟨rfl, Hb10.out.below⟩
    · have z1 : decide ((l.length : Int) = 0) = false := decide_eq_false (by omega)
      have z2 : ((l.length : Int) == 0) = false := by simpa using z1
      have z3 : decide (l.length = 0) = false := decide_eq_false hz
      obtain ⟨n, hn⟩ : ∃ n, l.length = n := ⟨_, rfl⟩
      have hFL : (fitL c r p wi s l).length = n := by rw [← hn]; simp [fitL]
      have hwf := fitL_wf s HRR.out l
      obtain ⟨Y, hY⟩ : ∃ Y, fitL c r p wi s l = Y := ⟨_, rfl⟩
      rw [hY] at hFL hwf
      have hn0 : 0 < n := by omega
      have hn20 : n ≤ 20 := by omega
      -- which line
      have hua : 0 ≤ IntKind.u64.wrap x2 := by rw [IntKind.wrap_u64]; omega
      have hun : IntKind.u64.wrap (n : Int) = n := by rw [IntKind.wrap_u64]; omega
      obtain ⟨j, hj⟩ : ∃ j : Nat, (j : Int) = Int.tmod (IntKind.u64.wrap x2) (n : Int) := by
        rw [Int.tmod_eq_emod_of_nonneg hua]
        have := Int.emod_nonneg (IntKind.u64.wrap x2) (show (n : Int) ≠ 0 by omega)
        exact ⟨((IntKind.u64.wrap x2) % (n : Int)).toNat, by omega⟩
      have hjn : j < n := by
        rw [Int.tmod_eq_emod_of_nonneg hua] at hj
        have := Int.emod_lt_of_pos (IntKind.u64.wrap x2) (show (0 : Int) < (n : Int) by omega)
        omega
      have hj2 := hj.symm
      have vj : IntKind.i64.wrap (j : Int) = j := by rw [IntKind.wrap_i64]; omega
      obtain ⟨Y1, y, Y2, hYY, hY1⟩ : ∃ Y1 y Y2, Y = Y1 ++ y :: Y2 ∧ Y1.length = j := ⟨Y.take j, Y[j]'(by omega), Y.drop (j + 1), by rw [← List.drop_eq_getElem_cons, List.take_append_drop], by rw [List.length_take]; omega⟩
      have hyw := hwf y (by rw [hYY]; simp)
      obtain ⟨hyw1, hy20, hy3⟩ := hyw
      obtain ⟨nn, hnn⟩ : ∃ nn, (nearG c r p wi s y.f0).length = nn := ⟨_, rfl⟩
      have hne := GridP.near_ne s HRR.out hyw1.rg
      have hnn9 : nn ≤ 9 := by rw [← hnn]; exact hne.2.2
      have hnn1 : 1 ≤ nn := by
        rcases Nat.eq_zero_or_pos nn with h9 | h9
        · rw [h9] at hnn
          exact absurd (List.eq_nil_of_length_eq_zero hnn) hne.1
        · exact h9
      have HNL : Aside0 (joustref03_Near.f 100 c r p wi s y.f0 = some (nearG c r p wi s y.f0)) := ⟨rnear s HRR.out _ (by omega)⟩
      have HNN := Aside0.mk hnn
      have HYW := Aside0.mk hyw1
      have HWF : Aside0 (∀ z ∈ Y, WfS c r p wi s z) := ⟨fun z hz => (hwf z hz).1⟩
      have HYY := Aside0.mk hYY
      have HY1 := Aside0.mk hY1
      have HYL := Aside0.mk hFL
      have HFIT : Aside0 (fitL c r p wi s l = Y) := ⟨hY⟩
      have HN := Aside0.mk hn
      obtain ⟨r1, hr1⟩ : ∃ r1, ofG c r p wi s (Y.map toL) = some r1 ∧ r1.length = n := by
        obtain ⟨q1, q2, e1, e2, e3, _⟩ := more (zs := Y) HRR.out (by omega) rfl HWF.out HWF.out (fun i a b ha hb => by rw [ha] at hb; rw [Option.some.inj hb]; exact MoX.refl _)
        exact ⟨q1, e1, by rw [e3, hFL]⟩
      have HO1 := Aside0.mk hr1.1
      have HL1 := Aside0.mk hr1.2
      have hu2 : IntKind.u64.wrap (y.f2.length : Int) = y.f2.length := by rw [IntKind.wrap_u64]; omega
      have hy3' := Aside0.mk hy3
      rw [hn] at z1 z2 z3 hl20
      have FEW : ∀ {w1 : World}, Below w.heap.size w w1 → Calls Try.prog 8 #[.slice A1 n c1] w1 fun e w' => e = .returned (.bool true) ∧ Below w1.heap.size w1 w' := fun hb => by rw [← HN.out]; exact few_b hb HR1.out HC1.out HFV.out
      have FIT : ∀ {w1 : World} {F : List Asr}, Has w w.heap.size w1 F → Calls Try.prog 14 #[.agg #[.int .i64 c, .int .i64 r, .int .i64 p, .int .i64 wi, .int .u64 s], .slice A1 n c1] w1 fun e w' => ∃ (A : Option Addr) (c' : Nat), e = .returned (.slice A n c') ∧ Has w w.heap.size w' (linesP (.slice A n c') Y :: F) := fun h => by rw [← HN.out, ← HFIT.out]; exact fit.L s h (Nat.le_refl _) A1 c1 l HR1.out HRR.out (by rw [HN.out]; exact hl20) HF60.out
      rw [hn]
      clear hn hFL hwf hY hz hua hj hYY hY1 hyw1 hy3 hnn hne hr1
      go_enter Try.func4, Try.ntmps4
      go_wp2_with (first | ((with_reducible refine gate_dst (N := 5) rfl ?_); refine box_event ?hg (N := 5) ?hd (cs := #[.int .i64 c0, .int .i64 r0, .int .i64 p0, .int .i64 wi0, .int .u64 s]) (t := 24) ?hr ?_; (case hd => rfl); (case hg => rfl); (case hr => first | (go_simp; done) | (go_simp; rfl)); intro g4 hgb_ wd1 hbox_ hb5_; have h_new := Has.ownNew H0.out hgb_ hb5_ hbox_; clear hgb_ hb5_ hbox_; have Hd1 := Aside0.mk h_new; clear h_new H0; have c_cfg_0 : wd1.cell? ⟨g4, 0, none⟩ = some (.int .i64 c0) := (blk_cell (Hd1.out).blk 0).trans rfl; have f_cfg_0 := blk_frozen (Hd1.out).blk 0; have c_cfg_1 : wd1.cell? ⟨g4, 1, none⟩ = some (.int .i64 r0) := (blk_cell (Hd1.out).blk 1).trans rfl; have f_cfg_1 := blk_frozen (Hd1.out).blk 1; have c_cfg_2 : wd1.cell? ⟨g4, 2, none⟩ = some (.int .i64 p0) := (blk_cell (Hd1.out).blk 2).trans rfl; have f_cfg_2 := blk_frozen (Hd1.out).blk 2; have c_cfg_3 : wd1.cell? ⟨g4, 3, none⟩ = some (.int .i64 wi0) := (blk_cell (Hd1.out).blk 3).trans rfl; have f_cfg_3 := blk_frozen (Hd1.out).blk 3; have c_cfg_4 : wd1.cell? ⟨g4, 4, none⟩ = some (.int .u64 s) := (blk_cell (Hd1.out).blk 4).trans rfl; have f_cfg_4 := blk_frozen (Hd1.out).blk 4) | ((go_at_call 13); (with_reducible refine (joustplay_Config.calls c0 r0 p0 wi0 s c r p wi s wd1 HCFG.out).mono ?_); rintro e_ wd2 ⟨rfl, hb_⟩; have h_new := Hd1.out.step hb_; clear hb_; have Hd2 := Aside0.mk h_new; clear h_new Hd1; clear c_cfg_0 f_cfg_0 c_cfg_1 f_cfg_1 c_cfg_2 f_cfg_2 c_cfg_3 f_cfg_3 c_cfg_4 f_cfg_4; have c_cfg_0 : wd2.cell? ⟨g4, 0, none⟩ = some (.int .i64 c0) := (blk_cell (Hd2.out).blk 0).trans rfl; have f_cfg_0 := blk_frozen (Hd2.out).blk 0; have c_cfg_1 : wd2.cell? ⟨g4, 1, none⟩ = some (.int .i64 r0) := (blk_cell (Hd2.out).blk 1).trans rfl; have f_cfg_1 := blk_frozen (Hd2.out).blk 1; have c_cfg_2 : wd2.cell? ⟨g4, 2, none⟩ = some (.int .i64 p0) := (blk_cell (Hd2.out).blk 2).trans rfl; have f_cfg_2 := blk_frozen (Hd2.out).blk 2; have c_cfg_3 : wd2.cell? ⟨g4, 3, none⟩ = some (.int .i64 wi0) := (blk_cell (Hd2.out).blk 3).trans rfl; have f_cfg_3 := blk_frozen (Hd2.out).blk 3; have c_cfg_4 : wd2.cell? ⟨g4, 4, none⟩ = some (.int .u64 s) := (blk_cell (Hd2.out).blk 4).trans rfl; have f_cfg_4 := blk_frozen (Hd2.out).blk 4) | ((with_reducible refine gate_store (t := 24) (p := 5) rfl ?_); refine wp_storeB rfl rfl 24 _ _ rfl (g := g4) (j := 0) (u := (.agg #[.int .i64 c, .int .i64 r, .int .i64 p, .int .i64 wi, .int .u64 s])) (cs2 := #[.int .i64 c, .int .i64 r, .int .i64 p, .int .i64 wi, .int .u64 s]) [.int .i64 c, .int .i64 r, .int .i64 p, .int .i64 wi, .int .u64 s] rfl rfl rfl ?sI (by simp [Value.oneCell']) rfl (Hd2.out) (by simp) ?_; (case sI => first | rfl | kernel_rfl); intro wd3 h_new; have Hd3 := Aside0.mk h_new; clear h_new Hd2; clear c_cfg_0 f_cfg_0 c_cfg_1 f_cfg_1 c_cfg_2 f_cfg_2 c_cfg_3 f_cfg_3 c_cfg_4 f_cfg_4; have c_cfg_0 : wd3.cell? ⟨g4, 0, none⟩ = some (.int .i64 c) := (blk_cell (Hd3.out).blk 0).trans rfl; have f_cfg_0 := blk_frozen (Hd3.out).blk 0; have c_cfg_1 : wd3.cell? ⟨g4, 1, none⟩ = some (.int .i64 r) := (blk_cell (Hd3.out).blk 1).trans rfl; have f_cfg_1 := blk_frozen (Hd3.out).blk 1; have c_cfg_2 : wd3.cell? ⟨g4, 2, none⟩ = some (.int .i64 p) := (blk_cell (Hd3.out).blk 2).trans rfl; have f_cfg_2 := blk_frozen (Hd3.out).blk 2; have c_cfg_3 : wd3.cell? ⟨g4, 3, none⟩ = some (.int .i64 wi) := (blk_cell (Hd3.out).blk 3).trans rfl; have f_cfg_3 := blk_frozen (Hd3.out).blk 3; have c_cfg_4 : wd3.cell? ⟨g4, 4, none⟩ = some (.int .u64 s) := (blk_cell (Hd3.out).blk 4).trans rfl; have f_cfg_4 := blk_frozen (Hd3.out).blk 4) | ((go_at_call 7); (with_reducible refine (grid_New.calls c r p wi s c r p wi s 0 wd3 HNEW.out).mono ?_); rintro e_ wd4 ⟨rfl, hb_⟩; have h_new := Hd3.out.step hb_; clear hb_; have Hd4 := Aside0.mk h_new; clear h_new Hd3; clear c_cfg_0 f_cfg_0 c_cfg_1 f_cfg_1 c_cfg_2 f_cfg_2 c_cfg_3 f_cfg_3 c_cfg_4 f_cfg_4; have c_cfg_0 : wd4.cell? ⟨g4, 0, none⟩ = some (.int .i64 c) := (blk_cell (Hd4.out).blk 0).trans rfl; have f_cfg_0 := blk_frozen (Hd4.out).blk 0; have c_cfg_1 : wd4.cell? ⟨g4, 1, none⟩ = some (.int .i64 r) := (blk_cell (Hd4.out).blk 1).trans rfl; have f_cfg_1 := blk_frozen (Hd4.out).blk 1; have c_cfg_2 : wd4.cell? ⟨g4, 2, none⟩ = some (.int .i64 p) := (blk_cell (Hd4.out).blk 2).trans rfl; have f_cfg_2 := blk_frozen (Hd4.out).blk 2; have c_cfg_3 : wd4.cell? ⟨g4, 3, none⟩ = some (.int .i64 wi) := (blk_cell (Hd4.out).blk 3).trans rfl; have f_cfg_3 := blk_frozen (Hd4.out).blk 3; have c_cfg_4 : wd4.cell? ⟨g4, 4, none⟩ = some (.int .u64 s) := (blk_cell (Hd4.out).blk 4).trans rfl; have f_cfg_4 := blk_frozen (Hd4.out).blk 4) | ((with_reducible refine gate_dst (N := 11) rfl ?_); refine box_event ?hg (N := 11) ?hd (cs := #[.int .i64 0, .int .i64 0, .int .i64 0, .int .i64 0, .int .u64 0]) (t := 27) ?hr ?_; (case hd => rfl); (case hg => rfl); (case hr => first | (go_simp; done) | (go_simp; rfl)); intro g9 hgb_ wd5 hbox_ hb5_; have h_new := Has.ownNew Hd4.out hgb_ hb5_ hbox_; clear hgb_ hb5_ hbox_; have Hd5 := Aside0.mk h_new; clear h_new Hd4; clear c_cfg_0 f_cfg_0 c_cfg_1 f_cfg_1 c_cfg_2 f_cfg_2 c_cfg_3 f_cfg_3 c_cfg_4 f_cfg_4; have c_cfg_0 : wd5.cell? ⟨g4, 0, none⟩ = some (.int .i64 c) := (blk_cell (Hd5.out.sw).blk 0).trans rfl; have f_cfg_0 := blk_frozen (Hd5.out.sw).blk 0; have c_cfg_1 : wd5.cell? ⟨g4, 1, none⟩ = some (.int .i64 r) := (blk_cell (Hd5.out.sw).blk 1).trans rfl; have f_cfg_1 := blk_frozen (Hd5.out.sw).blk 1; have c_cfg_2 : wd5.cell? ⟨g4, 2, none⟩ = some (.int .i64 p) := (blk_cell (Hd5.out.sw).blk 2).trans rfl; have f_cfg_2 := blk_frozen (Hd5.out.sw).blk 2; have c_cfg_3 : wd5.cell? ⟨g4, 3, none⟩ = some (.int .i64 wi) := (blk_cell (Hd5.out.sw).blk 3).trans rfl; have f_cfg_3 := blk_frozen (Hd5.out.sw).blk 3; have c_cfg_4 : wd5.cell? ⟨g4, 4, none⟩ = some (.int .u64 s) := (blk_cell (Hd5.out.sw).blk 4).trans rfl; have f_cfg_4 := blk_frozen (Hd5.out.sw).blk 4) | ((with_reducible refine gate_store (t := 27) (p := 11) rfl ?_); refine wp_storeB rfl rfl 27 _ _ rfl (g := g9) (j := 0) (u := (.agg #[.int .i64 c, .int .i64 r, .int .i64 p, .int .i64 wi, .int .u64 s])) (cs2 := #[.int .i64 c, .int .i64 r, .int .i64 p, .int .i64 wi, .int .u64 s]) [.int .i64 c, .int .i64 r, .int .i64 p, .int .i64 wi, .int .u64 s] rfl rfl rfl ?sI (by simp [Value.oneCell']) rfl (Hd5.out) (by simp) ?_; (case sI => first | rfl | kernel_rfl); intro wd6 h_new; have Hd6 := Aside0.mk h_new; clear h_new Hd5; clear c_cfg_0 f_cfg_0 c_cfg_1 f_cfg_1 c_cfg_2 f_cfg_2 c_cfg_3 f_cfg_3 c_cfg_4 f_cfg_4; have c_cfg_0 : wd6.cell? ⟨g4, 0, none⟩ = some (.int .i64 c) := (blk_cell (Hd6.out.sw).blk 0).trans rfl; have f_cfg_0 := blk_frozen (Hd6.out.sw).blk 0; have c_cfg_1 : wd6.cell? ⟨g4, 1, none⟩ = some (.int .i64 r) := (blk_cell (Hd6.out.sw).blk 1).trans rfl; have f_cfg_1 := blk_frozen (Hd6.out.sw).blk 1; have c_cfg_2 : wd6.cell? ⟨g4, 2, none⟩ = some (.int .i64 p) := (blk_cell (Hd6.out.sw).blk 2).trans rfl; have f_cfg_2 := blk_frozen (Hd6.out.sw).blk 2; have c_cfg_3 : wd6.cell? ⟨g4, 3, none⟩ = some (.int .i64 wi) := (blk_cell (Hd6.out.sw).blk 3).trans rfl; have f_cfg_3 := blk_frozen (Hd6.out.sw).blk 3; have c_cfg_4 : wd6.cell? ⟨g4, 4, none⟩ = some (.int .u64 s) := (blk_cell (Hd6.out.sw).blk 4).trans rfl; have f_cfg_4 := blk_frozen (Hd6.out.sw).blk 4; have c_grid_0 : wd6.cell? ⟨g9, 0, none⟩ = some (.int .i64 c) := (blk_cell (Hd6.out).blk 0).trans rfl; have f_grid_0 := blk_frozen (Hd6.out).blk 0; have c_grid_1 : wd6.cell? ⟨g9, 1, none⟩ = some (.int .i64 r) := (blk_cell (Hd6.out).blk 1).trans rfl; have f_grid_1 := blk_frozen (Hd6.out).blk 1; have c_grid_2 : wd6.cell? ⟨g9, 2, none⟩ = some (.int .i64 p) := (blk_cell (Hd6.out).blk 2).trans rfl; have f_grid_2 := blk_frozen (Hd6.out).blk 2; have c_grid_3 : wd6.cell? ⟨g9, 3, none⟩ = some (.int .i64 wi) := (blk_cell (Hd6.out).blk 3).trans rfl; have f_grid_3 := blk_frozen (Hd6.out).blk 3; have c_grid_4 : wd6.cell? ⟨g9, 4, none⟩ = some (.int .u64 s) := (blk_cell (Hd6.out).blk 4).trans rfl; have f_grid_4 := blk_frozen (Hd6.out).blk 4) | ((go_at_call 9); (with_reducible refine (joustlaw17_awake.calls 100 true wd6 awake_eq).mono ?_); rintro e_ wd7 ⟨rfl, hb_⟩; have h_new := Hd6.out.step hb_; clear hb_; have Hd7 := Aside0.mk h_new; clear h_new Hd6; clear c_cfg_0 f_cfg_0 c_cfg_1 f_cfg_1 c_cfg_2 f_cfg_2 c_cfg_3 f_cfg_3 c_cfg_4 f_cfg_4 c_grid_0 f_grid_0 c_grid_1 f_grid_1 c_grid_2 f_grid_2 c_grid_3 f_grid_3 c_grid_4 f_grid_4; have c_cfg_0 : wd7.cell? ⟨g4, 0, none⟩ = some (.int .i64 c) := (blk_cell (Hd7.out.sw).blk 0).trans rfl; have f_cfg_0 := blk_frozen (Hd7.out.sw).blk 0; have c_cfg_1 : wd7.cell? ⟨g4, 1, none⟩ = some (.int .i64 r) := (blk_cell (Hd7.out.sw).blk 1).trans rfl; have f_cfg_1 := blk_frozen (Hd7.out.sw).blk 1; have c_cfg_2 : wd7.cell? ⟨g4, 2, none⟩ = some (.int .i64 p) := (blk_cell (Hd7.out.sw).blk 2).trans rfl; have f_cfg_2 := blk_frozen (Hd7.out.sw).blk 2; have c_cfg_3 : wd7.cell? ⟨g4, 3, none⟩ = some (.int .i64 wi) := (blk_cell (Hd7.out.sw).blk 3).trans rfl; have f_cfg_3 := blk_frozen (Hd7.out.sw).blk 3; have c_cfg_4 : wd7.cell? ⟨g4, 4, none⟩ = some (.int .u64 s) := (blk_cell (Hd7.out.sw).blk 4).trans rfl; have f_cfg_4 := blk_frozen (Hd7.out.sw).blk 4; have c_grid_0 : wd7.cell? ⟨g9, 0, none⟩ = some (.int .i64 c) := (blk_cell (Hd7.out).blk 0).trans rfl; have f_grid_0 := blk_frozen (Hd7.out).blk 0; have c_grid_1 : wd7.cell? ⟨g9, 1, none⟩ = some (.int .i64 r) := (blk_cell (Hd7.out).blk 1).trans rfl; have f_grid_1 := blk_frozen (Hd7.out).blk 1; have c_grid_2 : wd7.cell? ⟨g9, 2, none⟩ = some (.int .i64 p) := (blk_cell (Hd7.out).blk 2).trans rfl; have f_grid_2 := blk_frozen (Hd7.out).blk 2; have c_grid_3 : wd7.cell? ⟨g9, 3, none⟩ = some (.int .i64 wi) := (blk_cell (Hd7.out).blk 3).trans rfl; have f_grid_3 := blk_frozen (Hd7.out).blk 3; have c_grid_4 : wd7.cell? ⟨g9, 4, none⟩ = some (.int .u64 s) := (blk_cell (Hd7.out).blk 4).trans rfl; have f_grid_4 := blk_frozen (Hd7.out).blk 4) | ((go_at_call 8); (with_reducible refine (FEW ((Hd7.out)).below).mono ?_); rintro e_ wd8 ⟨rfl, hb_⟩; have h_new := Hd7.out.step hb_; clear hb_; have Hd8 := Aside0.mk h_new; clear h_new Hd7; clear c_cfg_0 f_cfg_0 c_cfg_1 f_cfg_1 c_cfg_2 f_cfg_2 c_cfg_3 f_cfg_3 c_cfg_4 f_cfg_4 c_grid_0 f_grid_0 c_grid_1 f_grid_1 c_grid_2 f_grid_2 c_grid_3 f_grid_3 c_grid_4 f_grid_4; have c_cfg_0 : wd8.cell? ⟨g4, 0, none⟩ = some (.int .i64 c) := (blk_cell (Hd8.out.sw).blk 0).trans rfl; have f_cfg_0 := blk_frozen (Hd8.out.sw).blk 0; have c_cfg_1 : wd8.cell? ⟨g4, 1, none⟩ = some (.int .i64 r) := (blk_cell (Hd8.out.sw).blk 1).trans rfl; have f_cfg_1 := blk_frozen (Hd8.out.sw).blk 1; have c_cfg_2 : wd8.cell? ⟨g4, 2, none⟩ = some (.int .i64 p) := (blk_cell (Hd8.out.sw).blk 2).trans rfl; have f_cfg_2 := blk_frozen (Hd8.out.sw).blk 2; have c_cfg_3 : wd8.cell? ⟨g4, 3, none⟩ = some (.int .i64 wi) := (blk_cell (Hd8.out.sw).blk 3).trans rfl; have f_cfg_3 := blk_frozen (Hd8.out.sw).blk 3; have c_cfg_4 : wd8.cell? ⟨g4, 4, none⟩ = some (.int .u64 s) := (blk_cell (Hd8.out.sw).blk 4).trans rfl; have f_cfg_4 := blk_frozen (Hd8.out.sw).blk 4; have c_grid_0 : wd8.cell? ⟨g9, 0, none⟩ = some (.int .i64 c) := (blk_cell (Hd8.out).blk 0).trans rfl; have f_grid_0 := blk_frozen (Hd8.out).blk 0; have c_grid_1 : wd8.cell? ⟨g9, 1, none⟩ = some (.int .i64 r) := (blk_cell (Hd8.out).blk 1).trans rfl; have f_grid_1 := blk_frozen (Hd8.out).blk 1; have c_grid_2 : wd8.cell? ⟨g9, 2, none⟩ = some (.int .i64 p) := (blk_cell (Hd8.out).blk 2).trans rfl; have f_grid_2 := blk_frozen (Hd8.out).blk 2; have c_grid_3 : wd8.cell? ⟨g9, 3, none⟩ = some (.int .i64 wi) := (blk_cell (Hd8.out).blk 3).trans rfl; have f_grid_3 := blk_frozen (Hd8.out).blk 3; have c_grid_4 : wd8.cell? ⟨g9, 4, none⟩ = some (.int .u64 s) := (blk_cell (Hd8.out).blk 4).trans rfl; have f_grid_4 := blk_frozen (Hd8.out).blk 4) | ((go_at_call 14); (with_reducible refine (FIT ((Hd8.out))).mono ?_); rintro e_ wd9 ⟨Aa, ca, rfl, h_new⟩; have Hd9 := Aside0.mk h_new; clear h_new Hd8; clear c_cfg_0 f_cfg_0 c_cfg_1 f_cfg_1 c_cfg_2 f_cfg_2 c_cfg_3 f_cfg_3 c_cfg_4 f_cfg_4 c_grid_0 f_grid_0 c_grid_1 f_grid_1 c_grid_2 f_grid_2 c_grid_3 f_grid_3 c_grid_4 f_grid_4; have c_cfg_0 : wd9.cell? ⟨g4, 0, none⟩ = some (.int .i64 c) := (blk_cell (Hd9.out.up2).blk 0).trans rfl; have f_cfg_0 := blk_frozen (Hd9.out.up2).blk 0; have c_cfg_1 : wd9.cell? ⟨g4, 1, none⟩ = some (.int .i64 r) := (blk_cell (Hd9.out.up2).blk 1).trans rfl; have f_cfg_1 := blk_frozen (Hd9.out.up2).blk 1; have c_cfg_2 : wd9.cell? ⟨g4, 2, none⟩ = some (.int .i64 p) := (blk_cell (Hd9.out.up2).blk 2).trans rfl; have f_cfg_2 := blk_frozen (Hd9.out.up2).blk 2; have c_cfg_3 : wd9.cell? ⟨g4, 3, none⟩ = some (.int .i64 wi) := (blk_cell (Hd9.out.up2).blk 3).trans rfl; have f_cfg_3 := blk_frozen (Hd9.out.up2).blk 3; have c_cfg_4 : wd9.cell? ⟨g4, 4, none⟩ = some (.int .u64 s) := (blk_cell (Hd9.out.up2).blk 4).trans rfl; have f_cfg_4 := blk_frozen (Hd9.out.up2).blk 4; have c_grid_0 : wd9.cell? ⟨g9, 0, none⟩ = some (.int .i64 c) := (blk_cell (Hd9.out.sw).blk 0).trans rfl; have f_grid_0 := blk_frozen (Hd9.out.sw).blk 0; have c_grid_1 : wd9.cell? ⟨g9, 1, none⟩ = some (.int .i64 r) := (blk_cell (Hd9.out.sw).blk 1).trans rfl; have f_grid_1 := blk_frozen (Hd9.out.sw).blk 1; have c_grid_2 : wd9.cell? ⟨g9, 2, none⟩ = some (.int .i64 p) := (blk_cell (Hd9.out.sw).blk 2).trans rfl; have f_grid_2 := blk_frozen (Hd9.out.sw).blk 2; have c_grid_3 : wd9.cell? ⟨g9, 3, none⟩ = some (.int .i64 wi) := (blk_cell (Hd9.out.sw).blk 3).trans rfl; have f_grid_3 := blk_frozen (Hd9.out.sw).blk 3; have c_grid_4 : wd9.cell? ⟨g9, 4, none⟩ = some (.int .u64 s) := (blk_cell (Hd9.out.sw).blk 4).trans rfl; have f_grid_4 := blk_frozen (Hd9.out.sw).blk 4) | ((go_at_call 11); (with_reducible refine (of_lines c r p wi s (linesP_N (Hd9.out)) HO1.out).mono ?_); rintro e_ wd10 ⟨v_, rfl, hR_, hb_⟩; have h_new := Has.newRow Hd9.out hb_ hR_; clear hb_ hR_; obtain ⟨A_bf, c_bf, ev_⟩ := h_new.rowIs; rw [show (r1).length = n from by exact HL1.out] at ev_; subst ev_; have hc_bf := h_new.rowN.2.1; have Hd10 := Aside0.mk h_new; clear h_new Hd9; clear c_cfg_0 f_cfg_0 c_cfg_1 f_cfg_1 c_cfg_2 f_cfg_2 c_cfg_3 f_cfg_3 c_cfg_4 f_cfg_4 c_grid_0 f_grid_0 c_grid_1 f_grid_1 c_grid_2 f_grid_2 c_grid_3 f_grid_3 c_grid_4 f_grid_4; have c_cfg_0 : wd10.cell? ⟨g4, 0, none⟩ = some (.int .i64 c) := (blk_cell (Hd10.out.up3).blk 0).trans rfl; have f_cfg_0 := blk_frozen (Hd10.out.up3).blk 0; have c_cfg_1 : wd10.cell? ⟨g4, 1, none⟩ = some (.int .i64 r) := (blk_cell (Hd10.out.up3).blk 1).trans rfl; have f_cfg_1 := blk_frozen (Hd10.out.up3).blk 1; have c_cfg_2 : wd10.cell? ⟨g4, 2, none⟩ = some (.int .i64 p) := (blk_cell (Hd10.out.up3).blk 2).trans rfl; have f_cfg_2 := blk_frozen (Hd10.out.up3).blk 2; have c_cfg_3 : wd10.cell? ⟨g4, 3, none⟩ = some (.int .i64 wi) := (blk_cell (Hd10.out.up3).blk 3).trans rfl; have f_cfg_3 := blk_frozen (Hd10.out.up3).blk 3; have c_cfg_4 : wd10.cell? ⟨g4, 4, none⟩ = some (.int .u64 s) := (blk_cell (Hd10.out.up3).blk 4).trans rfl; have f_cfg_4 := blk_frozen (Hd10.out.up3).blk 4; have c_grid_0 : wd10.cell? ⟨g9, 0, none⟩ = some (.int .i64 c) := (blk_cell (Hd10.out.up2).blk 0).trans rfl; have f_grid_0 := blk_frozen (Hd10.out.up2).blk 0; have c_grid_1 : wd10.cell? ⟨g9, 1, none⟩ = some (.int .i64 r) := (blk_cell (Hd10.out.up2).blk 1).trans rfl; have f_grid_1 := blk_frozen (Hd10.out.up2).blk 1; have c_grid_2 : wd10.cell? ⟨g9, 2, none⟩ = some (.int .i64 p) := (blk_cell (Hd10.out.up2).blk 2).trans rfl; have f_grid_2 := blk_frozen (Hd10.out.up2).blk 2; have c_grid_3 : wd10.cell? ⟨g9, 3, none⟩ = some (.int .i64 wi) := (blk_cell (Hd10.out.up2).blk 3).trans rfl; have f_grid_3 := blk_frozen (Hd10.out.up2).blk 3; have c_grid_4 : wd10.cell? ⟨g9, 4, none⟩ = some (.int .u64 s) := (blk_cell (Hd10.out.up2).blk 4).trans rfl; have f_grid_4 := blk_frozen (Hd10.out.up2).blk 4))
      (go_at_call 14)
      refine (FIT Hd10.out).mono ?_
      rintro e_ wq ⟨Ab, cb, rfl, h2⟩
      clear Hd10
      have HLA := Aside0.mk HYY.out
      rw [HYY.out] at h2
      obtain ⟨R1, R2, v2, v3, O, lr1, lr2, h3, CLOSE⟩ := linesP_zoom h2
      clear h2
      obtain ⟨gb, rfl⟩ := h3.rowAt hn0
      obtain ⟨A2, c2, rfl⟩ := h3.sw.rowIs
      obtain ⟨A3, c3, rfl⟩ : ∃ A3 c3, v3 = .slice A3 y.f3.length c3 := by
        obtain ⟨S, hS, _⟩ := h3.up2.first
        obtain ⟨A3, c3, e3, _⟩ := sepRows_P hS
        exact ⟨A3, c3, e3⟩
      have HRJ : Aside0 (R1.length = j) := ⟨by rw [lr1, HY1.out]⟩
      have HCLOSE := Aside0.mk CLOSE
      have H3 := Aside0.mk h3
      clear h3 CLOSE lr1 lr2
      rw [hy3'.out] at H3
      by_cases hs0 : y.f2.length = 0
      · have s1 : decide ((0 : Int) < (y.f2.length : Int)) = false := decide_eq_false (by omega)
        have s2 : decide (0 < y.f2.length) = false := decide_eq_false (by omega)
        have HF3 : Aside0 (y.f3.length = y.f2.length) := ⟨hy3'.out⟩
        have HMO : Aside0 (MoX (toL y) (toL (addY nn y y.f2 y.f3))) := ⟨mo_none y⟩
        have HWN : Aside0 (WfS c r p wi s (addY nn y y.f2 y.f3)) := ⟨wf_none HYW.out hy20 hy3'.out HNN.out⟩
        have h6 := H3.out.up2
        obtain ⟨F2, hF2⟩ : ∃ F2, y.f2 = F2 := ⟨_, rfl⟩
        obtain ⟨F3, hF3⟩ : ∃ F3, y.f3 = F3 := ⟨_, rfl⟩
        rw [hF2, hF3] at HMO HWN
        rw [hF2] at h6
        rw [show F2.length = y.f2.length from by rw [hF2]] at h6
        rw [hF3] at h6 HF3
        have HF2 : Aside0 (F2.length = y.f2.length) := ⟨by rw [hF2]⟩
        clear hF2 hF3 H3 hs0
        obtain ⟨vs, O3, lvs, h7, CLOSE3⟩ := sepRows_all h6
        clear h6
        have HCLOSE3 := Aside0.mk CLOSE3
        have HVS : Aside0 ((raw1 vs).length = y.f2.length) := ⟨by rw [raw1_len, lvs, HF3.out]⟩
        have H7 := Aside0.mk h7
        clear h7 CLOSE3 lvs
        have c_cfg_0 : wq.cell? ⟨g4, 0, none⟩ = some (.int .i64 c) := (blk_cell (H7.out.up8).blk 0).trans rfl
        have f_cfg_0 := blk_frozen (H7.out.up8).blk 0
        have c_cfg_1 : wq.cell? ⟨g4, 1, none⟩ = some (.int .i64 r) := (blk_cell (H7.out.up8).blk 1).trans rfl
        have f_cfg_1 := blk_frozen (H7.out.up8).blk 1
        have c_cfg_2 : wq.cell? ⟨g4, 2, none⟩ = some (.int .i64 p) := (blk_cell (H7.out.up8).blk 2).trans rfl
        have f_cfg_2 := blk_frozen (H7.out.up8).blk 2
        have c_cfg_3 : wq.cell? ⟨g4, 3, none⟩ = some (.int .i64 wi) := (blk_cell (H7.out.up8).blk 3).trans rfl
        have f_cfg_3 := blk_frozen (H7.out.up8).blk 3
        have c_cfg_4 : wq.cell? ⟨g4, 4, none⟩ = some (.int .u64 s) := (blk_cell (H7.out.up8).blk 4).trans rfl
        have f_cfg_4 := blk_frozen (H7.out.up8).blk 4
        have b0 : wq.cell? ⟨gb, j * 4, none⟩ = some (.int .i64 y.f0) := Has.rawCell (f := 0) (H7.out.up2) (at_mid HRJ.out) rfl
        have b2 : wq.cell? ⟨gb, j * 4 + 2, none⟩ = some (.slice A2 y.f2.length c2) := Has.rawCell (H7.out.up2) (at_mid HRJ.out) rfl
        have b3 : wq.cell? ⟨gb, j * 4 + 3, none⟩ = some (.slice A3 y.f2.length c3) := Has.rawCell (H7.out.up2) (at_mid HRJ.out) rfl
        go_wp2_with (first | ((with_reducible refine gate_dst (N := 116) rfl ?_); refine wp_litF Kd.bool 4 rfl (N := 116) rfl (xs := [true]) (inner := [.bool true]) (n := 1) ?lR ?lP rfl (by decide) (H7.out) ?_; (case lR => first | (go_simp; done) | (go_simp; rfl)); (case lP => exact reps_one rfl rfl); intro gl1 c_l1 wf1 h_new hc_l1; have Hf1 := Aside0.mk h_new; clear h_new H7; clear c_cfg_0 f_cfg_0 c_cfg_1 f_cfg_1 c_cfg_2 f_cfg_2 c_cfg_3 f_cfg_3 c_cfg_4 f_cfg_4 b0 b2 b3; have c_cfg_0 : wf1.cell? ⟨g4, 0, none⟩ = some (.int .i64 c) := (blk_cell (Hf1.out.up9).blk 0).trans rfl; have f_cfg_0 := blk_frozen (Hf1.out.up9).blk 0; have c_cfg_1 : wf1.cell? ⟨g4, 1, none⟩ = some (.int .i64 r) := (blk_cell (Hf1.out.up9).blk 1).trans rfl; have f_cfg_1 := blk_frozen (Hf1.out.up9).blk 1; have c_cfg_2 : wf1.cell? ⟨g4, 2, none⟩ = some (.int .i64 p) := (blk_cell (Hf1.out.up9).blk 2).trans rfl; have f_cfg_2 := blk_frozen (Hf1.out.up9).blk 2; have c_cfg_3 : wf1.cell? ⟨g4, 3, none⟩ = some (.int .i64 wi) := (blk_cell (Hf1.out.up9).blk 3).trans rfl; have f_cfg_3 := blk_frozen (Hf1.out.up9).blk 3; have c_cfg_4 : wf1.cell? ⟨g4, 4, none⟩ = some (.int .u64 s) := (blk_cell (Hf1.out.up9).blk 4).trans rfl; have f_cfg_4 := blk_frozen (Hf1.out.up9).blk 4; have b0 : wf1.cell? ⟨gb, j * 4, none⟩ = some (.int .i64 y.f0) := Has.rawCell (f := 0) (Hf1.out.up3) (at_mid HRJ.out) rfl; have b2 : wf1.cell? ⟨gb, j * 4 + 2, none⟩ = some (.slice A2 y.f2.length c2) := Has.rawCell (Hf1.out.up3) (at_mid HRJ.out) rfl; have b3 : wf1.cell? ⟨gb, j * 4 + 3, none⟩ = some (.slice A3 y.f2.length c3) := Has.rawCell (Hf1.out.up3) (at_mid HRJ.out) rfl) | ((with_reducible refine gate_dst (N := 117) rfl ?_); at_builtin; refine wp_appR Kd.bool rfl (.tmp 115) (.tmp 116) 41 4 (.bool false) 1 rfl Try.underlying41 infoB rfl (by decide) (by decide) (n := y.f2.length) (m := 1) (F2) ([true]) rfl rfl (Hf1.out.up4) (HF2.out) ?aL ?_; (case aL => rw [HF2.out]; omega); intro A_s2 c_s2 wf2 h_new hc_s2; have Hf2 := Aside0.mk h_new; clear h_new Hf1; clear c_cfg_0 f_cfg_0 c_cfg_1 f_cfg_1 c_cfg_2 f_cfg_2 c_cfg_3 f_cfg_3 c_cfg_4 f_cfg_4 b0 b2 b3; have c_cfg_0 : wf2.cell? ⟨g4, 0, none⟩ = some (.int .i64 c) := (blk_cell (Hf2.out.up8).blk 0).trans rfl; have f_cfg_0 := blk_frozen (Hf2.out.up8).blk 0; have c_cfg_1 : wf2.cell? ⟨g4, 1, none⟩ = some (.int .i64 r) := (blk_cell (Hf2.out.up8).blk 1).trans rfl; have f_cfg_1 := blk_frozen (Hf2.out.up8).blk 1; have c_cfg_2 : wf2.cell? ⟨g4, 2, none⟩ = some (.int .i64 p) := (blk_cell (Hf2.out.up8).blk 2).trans rfl; have f_cfg_2 := blk_frozen (Hf2.out.up8).blk 2; have c_cfg_3 : wf2.cell? ⟨g4, 3, none⟩ = some (.int .i64 wi) := (blk_cell (Hf2.out.up8).blk 3).trans rfl; have f_cfg_3 := blk_frozen (Hf2.out.up8).blk 3; have c_cfg_4 : wf2.cell? ⟨g4, 4, none⟩ = some (.int .u64 s) := (blk_cell (Hf2.out.up8).blk 4).trans rfl; have f_cfg_4 := blk_frozen (Hf2.out.up8).blk 4; have b0 : wf2.cell? ⟨gb, j * 4, none⟩ = some (.int .i64 y.f0) := Has.rawCell (f := 0) (Hf2.out.up3) (at_mid HRJ.out) rfl; have b2 : wf2.cell? ⟨gb, j * 4 + 2, none⟩ = some (.slice A2 y.f2.length c2) := Has.rawCell (Hf2.out.up3) (at_mid HRJ.out) rfl; have b3 : wf2.cell? ⟨gb, j * 4 + 3, none⟩ = some (.slice A3 y.f2.length c3) := Has.rawCell (Hf2.out.up3) (at_mid HRJ.out) rfl) | ((with_reducible refine gate_store (t := 41) (p := 119) rfl ?_); refine wp_storeF 4 rfl rfl 41 _ _ rfl (g := gb) (j := j) (f := 2) (u := (.slice A_s2 (y.f2.length + 1) c_s2)) ?sA rfl rfl rfl ?sI rfl (at_mid HRJ.out) (by decide) (rfl) (Hf2.out.up3) ?_; (case sI => first | rfl | kernel_rfl); (case sA => first | rfl | (go_simp; done) | (go_simp; rfl)); intro wf3 h_new; rw [set_mid HRJ.out] at h_new; have Hf3 := Aside0.mk h_new; clear h_new Hf2; clear c_cfg_0 f_cfg_0 c_cfg_1 f_cfg_1 c_cfg_2 f_cfg_2 c_cfg_3 f_cfg_3 c_cfg_4 f_cfg_4 b0 b2 b3; have c_cfg_0 : wf3.cell? ⟨g4, 0, none⟩ = some (.int .i64 c) := (blk_cell (Hf3.out.up8).blk 0).trans rfl; have f_cfg_0 := blk_frozen (Hf3.out.up8).blk 0; have c_cfg_1 : wf3.cell? ⟨g4, 1, none⟩ = some (.int .i64 r) := (blk_cell (Hf3.out.up8).blk 1).trans rfl; have f_cfg_1 := blk_frozen (Hf3.out.up8).blk 1; have c_cfg_2 : wf3.cell? ⟨g4, 2, none⟩ = some (.int .i64 p) := (blk_cell (Hf3.out.up8).blk 2).trans rfl; have f_cfg_2 := blk_frozen (Hf3.out.up8).blk 2; have c_cfg_3 : wf3.cell? ⟨g4, 3, none⟩ = some (.int .i64 wi) := (blk_cell (Hf3.out.up8).blk 3).trans rfl; have f_cfg_3 := blk_frozen (Hf3.out.up8).blk 3; have c_cfg_4 : wf3.cell? ⟨g4, 4, none⟩ = some (.int .u64 s) := (blk_cell (Hf3.out.up8).blk 4).trans rfl; have f_cfg_4 := blk_frozen (Hf3.out.up8).blk 4; have b0 : wf3.cell? ⟨gb, j * 4, none⟩ = some (.int .i64 y.f0) := Has.rawCell (f := 0) (Hf3.out) (at_mid HRJ.out) rfl; have b2 : wf3.cell? ⟨gb, j * 4 + 2, none⟩ = some (.slice A_s2 (y.f2.length + 1) c_s2) := Has.rawCell (Hf3.out) (at_mid HRJ.out) rfl; have b3 : wf3.cell? ⟨gb, j * 4 + 3, none⟩ = some (.slice A3 y.f2.length c3) := Has.rawCell (Hf3.out) (at_mid HRJ.out) rfl))
        have Hf24 := Aside0.mk Hf3.out.drew
        clear c_cfg_0 f_cfg_0 c_cfg_1 f_cfg_1 c_cfg_2 f_cfg_2 c_cfg_3 f_cfg_3 c_cfg_4 f_cfg_4 b0 b2 b3
        have c_cfg_0 : (wf3).drew.cell? ⟨g4, 0, none⟩ = some (.int .i64 c) := (blk_cell (Hf24.out.up8).blk 0).trans rfl
        have f_cfg_0 := blk_frozen (Hf24.out.up8).blk 0
        have c_cfg_1 : (wf3).drew.cell? ⟨g4, 1, none⟩ = some (.int .i64 r) := (blk_cell (Hf24.out.up8).blk 1).trans rfl
        have f_cfg_1 := blk_frozen (Hf24.out.up8).blk 1
        have c_cfg_2 : (wf3).drew.cell? ⟨g4, 2, none⟩ = some (.int .i64 p) := (blk_cell (Hf24.out.up8).blk 2).trans rfl
        have f_cfg_2 := blk_frozen (Hf24.out.up8).blk 2
        have c_cfg_3 : (wf3).drew.cell? ⟨g4, 3, none⟩ = some (.int .i64 wi) := (blk_cell (Hf24.out.up8).blk 3).trans rfl
        have f_cfg_3 := blk_frozen (Hf24.out.up8).blk 3
        have c_cfg_4 : (wf3).drew.cell? ⟨g4, 4, none⟩ = some (.int .u64 s) := (blk_cell (Hf24.out.up8).blk 4).trans rfl
        have f_cfg_4 := blk_frozen (Hf24.out.up8).blk 4
        have b0 : (wf3).drew.cell? ⟨gb, j * 4, none⟩ = some (.int .i64 y.f0) := Has.rawCell (f := 0) (Hf24.out) (at_mid HRJ.out) rfl
        have b2 : (wf3).drew.cell? ⟨gb, j * 4 + 2, none⟩ = some (.slice A_s2 (y.f2.length + 1) c_s2) := Has.rawCell (Hf24.out) (at_mid HRJ.out) rfl
        have b3 : (wf3).drew.cell? ⟨gb, j * 4 + 3, none⟩ = some (.slice A3 y.f2.length c3) := Has.rawCell (Hf24.out) (at_mid HRJ.out) rfl
        refine wp_regionK (T := (fun w' => w'.cell? ⟨g4, 0, none⟩ = some (.int .i64 c) ∧ w'.cell? ⟨g4, 1, none⟩ = some (.int .i64 r) ∧ w'.cell? ⟨g4, 2, none⟩ = some (.int .i64 p) ∧ w'.cell? ⟨g4, 3, none⟩ = some (.int .i64 wi) ∧ w'.cell? ⟨g4, 4, none⟩ = some (.int .u64 s) ∧ w'.cell? ⟨gb, j * 4, none⟩ = some (.int .i64 y.f0) ∧ w'.cell? ⟨gb, j * 4 + 2, none⟩ = some (.slice A_s2 (y.f2.length + 1) c_s2) ∧ w'.cell? ⟨gb, j * 4 + 3, none⟩ = some (.slice A3 y.f2.length c3))) 17 (by kernel_rfl) ?_ (fun hHeld => ?_)
        · exact ⟨c_cfg_0, c_cfg_1, c_cfg_2, c_cfg_3, c_cfg_4, b0, b2, b3⟩
        refine takeWK (i := 0) (v := ?_) rfl rfl (by kernel_rfl) (by kernel_rfl) (by kernel_rfl) (by kernel_rfl) (by rfl) (by rfl) (by kernel_rfl) (fun _ _ _ h => h) (by rfl) ?_ hHeld ?_
        rotate_left 1
        · (intro w hSw; (try dsimp only at hSw); go_simp <;> (try with_reducible rfl))
        (try simp only [Act.put, List.setIfInBounds_toArray, List.set_cons_zero, List.set_cons_succ])
        refine takeWK (i := 1) (v := ?_) rfl rfl (by kernel_rfl) (by kernel_rfl) (by kernel_rfl) (by kernel_rfl) (by rfl) (by rfl) (by kernel_rfl) (fun _ _ _ h => h) (by rfl) ?_ hHeld ?_
        rotate_left 1
        · (intro w hSw; (try dsimp only at hSw); go_simp <;> (try with_reducible rfl))
        (try simp only [Act.put, List.setIfInBounds_toArray, List.set_cons_zero, List.set_cons_succ])
        refine takeWK (i := 2) (v := ?_) rfl rfl (by kernel_rfl) (by kernel_rfl) (by kernel_rfl) (by kernel_rfl) (by rfl) (by rfl) (by kernel_rfl) (fun _ _ _ h => h) (by rfl) ?_ hHeld ?_
        rotate_left 1
        · (intro w hSw; (try dsimp only at hSw); go_simp <;> (try with_reducible rfl))
        (try simp only [Act.put, List.setIfInBounds_toArray, List.set_cons_zero, List.set_cons_succ])
        refine takeWK (i := 3) (v := ?_) rfl rfl (by kernel_rfl) (by kernel_rfl) (by kernel_rfl) (by kernel_rfl) (by rfl) (by rfl) (by kernel_rfl) (fun _ _ _ h => h) (by rfl) ?_ hHeld ?_
        rotate_left 1
        · (intro w hSw; (try dsimp only at hSw); go_simp <;> (try with_reducible rfl))
        (try simp only [Act.put, List.setIfInBounds_toArray, List.set_cons_zero, List.set_cons_succ])
        refine takeWK (i := 4) (v := ?_) rfl rfl (by kernel_rfl) (by kernel_rfl) (by kernel_rfl) (by kernel_rfl) (by rfl) (by rfl) (by kernel_rfl) (fun _ _ _ h => h) (by rfl) ?_ hHeld ?_
        rotate_left 1
        · (intro w hSw; (try dsimp only at hSw); go_simp <;> (try with_reducible rfl))
        (try simp only [Act.put, List.setIfInBounds_toArray, List.set_cons_zero, List.set_cons_succ])
        refine takeWK (i := 5) (v := ?_) rfl rfl (by kernel_rfl) (by kernel_rfl) (by kernel_rfl) (by kernel_rfl) (by rfl) (by rfl) (by kernel_rfl) (fun _ _ _ h => h) (by rfl) ?_ hHeld ?_
        rotate_left 1
        · (intro w hSw; (try dsimp only at hSw); go_simp <;> (try with_reducible rfl))
        (try simp only [Act.put, List.setIfInBounds_toArray, List.set_cons_zero, List.set_cons_succ])
        refine takeWK (i := 6) (v := ?_) rfl rfl (by kernel_rfl) (by kernel_rfl) (by kernel_rfl) (by kernel_rfl) (by rfl) (by rfl) (by kernel_rfl) (fun _ _ _ h => h) (by rfl) ?_ hHeld ?_
        rotate_left 1
        · (intro w hSw; (try dsimp only at hSw); go_simp <;> (try with_reducible rfl))
        (try simp only [Act.put, List.setIfInBounds_toArray, List.set_cons_zero, List.set_cons_succ])
        refine takeWK (i := 7) (v := ?_) rfl rfl (by kernel_rfl) (by kernel_rfl) (by kernel_rfl) (by kernel_rfl) (by rfl) (by rfl) (by kernel_rfl) (fun _ _ _ h => h) (by rfl) ?_ hHeld ?_
        rotate_left 1
        · (intro w hSw; (try dsimp only at hSw); go_simp <;> (try with_reducible rfl))
        (try simp only [Act.put, List.setIfInBounds_toArray, List.set_cons_zero, List.set_cons_succ])
        refine takeWK (i := 8) (v := ?_) rfl rfl (by kernel_rfl) (by kernel_rfl) (by kernel_rfl) (by kernel_rfl) (by rfl) (by rfl) (by kernel_rfl) (fun _ _ _ h => h) (by rfl) ?_ hHeld ?_
        rotate_left 1
        · (intro w hSw; (try dsimp only at hSw); go_simp <;> (try with_reducible rfl))
        (try simp only [Act.put, List.setIfInBounds_toArray, List.set_cons_zero, List.set_cons_succ])
        refine takeWK (i := 9) (v := ?_) rfl rfl (by kernel_rfl) (by kernel_rfl) (by kernel_rfl) (by kernel_rfl) (by rfl) (by rfl) (by kernel_rfl) (fun _ _ _ h => h) (by rfl) ?_ hHeld ?_
        rotate_left 1
        · (intro w hSw; (try dsimp only at hSw); go_simp <;> (try with_reducible rfl))
        (try simp only [Act.put, List.setIfInBounds_toArray, List.set_cons_zero, List.set_cons_succ])
        refine readyK (rs := [10]) (by kernel_rfl) (by simp) (AllK.cons (i := 10) rfl (by rfl) (fun K hK => ?_) AllK.nil)
        clear hHeld
        (refine wp_of_list (ops := #[]) (by rfl) ?_; go_wp2_with (first | ((go_at_call 15); (with_reducible refine (joustref03_Near.calls 100 c r p wi s y.f0 (nearG c r p wi s y.f0) (wf3).drew HNL.out).mono ?_); rintro e_ wf25 ⟨v_, rfl, hR_, hb_⟩; have h_new := Has.newRow Hf24.out hb_ hR_; clear hb_ hR_; obtain ⟨A_ne, c_ne, ev_⟩ := h_new.rowIs; rw [show ((nearG c r p wi s y.f0)).length = nn from by exact HNN.out] at ev_; subst ev_; have hc_ne := h_new.rowN.2.1; have Hf25 := Aside0.mk h_new; clear h_new Hf24; clear c_cfg_0 f_cfg_0 c_cfg_1 f_cfg_1 c_cfg_2 f_cfg_2 c_cfg_3 f_cfg_3 c_cfg_4 f_cfg_4 b0 b2 b3; have c_cfg_0 : wf25.cell? ⟨g4, 0, none⟩ = some (.int .i64 c) := (blk_cell (Hf25.out.up9).blk 0).trans rfl; have f_cfg_0 := blk_frozen (Hf25.out.up9).blk 0; have c_cfg_1 : wf25.cell? ⟨g4, 1, none⟩ = some (.int .i64 r) := (blk_cell (Hf25.out.up9).blk 1).trans rfl; have f_cfg_1 := blk_frozen (Hf25.out.up9).blk 1; have c_cfg_2 : wf25.cell? ⟨g4, 2, none⟩ = some (.int .i64 p) := (blk_cell (Hf25.out.up9).blk 2).trans rfl; have f_cfg_2 := blk_frozen (Hf25.out.up9).blk 2; have c_cfg_3 : wf25.cell? ⟨g4, 3, none⟩ = some (.int .i64 wi) := (blk_cell (Hf25.out.up9).blk 3).trans rfl; have f_cfg_3 := blk_frozen (Hf25.out.up9).blk 3; have c_cfg_4 : wf25.cell? ⟨g4, 4, none⟩ = some (.int .u64 s) := (blk_cell (Hf25.out.up9).blk 4).trans rfl; have f_cfg_4 := blk_frozen (Hf25.out.up9).blk 4; have b0 : wf25.cell? ⟨gb, j * 4, none⟩ = some (.int .i64 y.f0) := Has.rawCell (f := 0) (Hf25.out.sw) (at_mid HRJ.out) rfl; have b2 : wf25.cell? ⟨gb, j * 4 + 2, none⟩ = some (.slice A_s2 (y.f2.length + 1) c_s2) := Has.rawCell (Hf25.out.sw) (at_mid HRJ.out) rfl; have b3 : wf25.cell? ⟨gb, j * 4 + 3, none⟩ = some (.slice A3 y.f2.length c3) := Has.rawCell (Hf25.out.sw) (at_mid HRJ.out) rfl)); change K _ _)
        refine hK.out _ _ ?_ (fun hHeld => ?_)
        · exact fun _ => ⟨c_cfg_0, c_cfg_1, c_cfg_2, c_cfg_3, c_cfg_4, b0, b2, b3⟩
        replace hHeld := hHeld (by rfl)
        clear hK K
        (try simp only [Act.put, List.setIfInBounds_toArray, List.set_cons_zero, List.set_cons_succ])
        refine takeWK (i := 11) (v := ?_) rfl rfl (by kernel_rfl) (by kernel_rfl) (by kernel_rfl) (by kernel_rfl) (by rfl) (by rfl) (by kernel_rfl) (fun _ _ _ h => h) (by rfl) ?_ hHeld ?_
        rotate_left 1
        · (intro w hSw; (try dsimp only at hSw); go_simp <;> (try with_reducible rfl))
        (try simp only [Act.put, List.setIfInBounds_toArray, List.set_cons_zero, List.set_cons_succ])
        refine readyK (rs := [12]) (by kernel_rfl) (by simp) (AllK.cons (i := 12) rfl (by rfl) (fun K hK => ?_) AllK.nil)
        clear hHeld
        (refine wp_of_list (ops := #[]) (by rfl) ?_; (with_reducible refine gate_dst (N := 132) rfl ?_); refine wp_make Kd.bool 4 rfl (N := 132) rfl 41 _ _ rfl ((nn : Int)) (nn) ?mX ?mY (rfl) Try.underlying41 (.bool false) 1 infoB rfl (by decide) (by decide) (false) ?mZ (by omega) (Hf25.out) ?_; (case mX => first | rfl | (go_simp; done)); (case mY => first | rfl | (go_simp; done)); (case mZ => exact rfl); intro grw c_rw wf26 h_new hc_rw; have Hf26 := Aside0.mk h_new; clear h_new Hf25; clear c_cfg_0 f_cfg_0 c_cfg_1 f_cfg_1 c_cfg_2 f_cfg_2 c_cfg_3 f_cfg_3 c_cfg_4 f_cfg_4 b0 b2 b3; have c_cfg_0 : wf26.cell? ⟨g4, 0, none⟩ = some (.int .i64 c) := (blk_cell (Hf26.out.up10).blk 0).trans rfl; have f_cfg_0 := blk_frozen (Hf26.out.up10).blk 0; have c_cfg_1 : wf26.cell? ⟨g4, 1, none⟩ = some (.int .i64 r) := (blk_cell (Hf26.out.up10).blk 1).trans rfl; have f_cfg_1 := blk_frozen (Hf26.out.up10).blk 1; have c_cfg_2 : wf26.cell? ⟨g4, 2, none⟩ = some (.int .i64 p) := (blk_cell (Hf26.out.up10).blk 2).trans rfl; have f_cfg_2 := blk_frozen (Hf26.out.up10).blk 2; have c_cfg_3 : wf26.cell? ⟨g4, 3, none⟩ = some (.int .i64 wi) := (blk_cell (Hf26.out.up10).blk 3).trans rfl; have f_cfg_3 := blk_frozen (Hf26.out.up10).blk 3; have c_cfg_4 : wf26.cell? ⟨g4, 4, none⟩ = some (.int .u64 s) := (blk_cell (Hf26.out.up10).blk 4).trans rfl; have f_cfg_4 := blk_frozen (Hf26.out.up10).blk 4; have b0 : wf26.cell? ⟨gb, j * 4, none⟩ = some (.int .i64 y.f0) := Has.rawCell (f := 0) (Hf26.out.up2) (at_mid HRJ.out) rfl; have b2 : wf26.cell? ⟨gb, j * 4 + 2, none⟩ = some (.slice A_s2 (y.f2.length + 1) c_s2) := Has.rawCell (Hf26.out.up2) (at_mid HRJ.out) rfl; have b3 : wf26.cell? ⟨gb, j * 4 + 3, none⟩ = some (.slice A3 y.f2.length c3) := Has.rawCell (Hf26.out.up2) (at_mid HRJ.out) rfl; change K _ _)
        refine hK.out _ _ ?_ (fun hHeld => ?_)
        · exact fun _ => ⟨c_cfg_0, c_cfg_1, c_cfg_2, c_cfg_3, c_cfg_4, b0, b2, b3⟩
        replace hHeld := hHeld (by rfl)
        clear hK K
        (try simp only [Act.put, List.setIfInBounds_toArray, List.set_cons_zero, List.set_cons_succ])
        refine readyK (rs := [13]) (by kernel_rfl) (by simp) (AllK.cons (i := 13) rfl (by rfl) (fun K hK => ?_) AllK.nil)
        clear hHeld
        (refine wp_of_list (ops := #[]) (by rfl) ?_; (with_reducible refine gate_dst (N := 133) rfl ?_); refine wp_litF (kcells 1) 41 rfl (N := 133) rfl (xs := [[.slice (some ⟨grw, 0, none⟩) nn c_rw]]) (inner := [.slice (some ⟨grw, 0, none⟩) nn c_rw]) (n := 1) ?lR ?lP rfl (by decide) (Hf26.out) ?_; (case lR => first | (go_simp; done) | (go_simp; rfl)); (case lP => exact reps_one (cells_ok rfl (by simp [Value.oneCell'])) rfl); intro gl2 c_l2 wf27 h_new hc_l2; have Hf27 := Aside0.mk h_new; clear h_new Hf26; clear c_cfg_0 f_cfg_0 c_cfg_1 f_cfg_1 c_cfg_2 f_cfg_2 c_cfg_3 f_cfg_3 c_cfg_4 f_cfg_4 b0 b2 b3; have c_cfg_0 : wf27.cell? ⟨g4, 0, none⟩ = some (.int .i64 c) := (blk_cell (Hf27.out.up11).blk 0).trans rfl; have f_cfg_0 := blk_frozen (Hf27.out.up11).blk 0; have c_cfg_1 : wf27.cell? ⟨g4, 1, none⟩ = some (.int .i64 r) := (blk_cell (Hf27.out.up11).blk 1).trans rfl; have f_cfg_1 := blk_frozen (Hf27.out.up11).blk 1; have c_cfg_2 : wf27.cell? ⟨g4, 2, none⟩ = some (.int .i64 p) := (blk_cell (Hf27.out.up11).blk 2).trans rfl; have f_cfg_2 := blk_frozen (Hf27.out.up11).blk 2; have c_cfg_3 : wf27.cell? ⟨g4, 3, none⟩ = some (.int .i64 wi) := (blk_cell (Hf27.out.up11).blk 3).trans rfl; have f_cfg_3 := blk_frozen (Hf27.out.up11).blk 3; have c_cfg_4 : wf27.cell? ⟨g4, 4, none⟩ = some (.int .u64 s) := (blk_cell (Hf27.out.up11).blk 4).trans rfl; have f_cfg_4 := blk_frozen (Hf27.out.up11).blk 4; have b0 : wf27.cell? ⟨gb, j * 4, none⟩ = some (.int .i64 y.f0) := Has.rawCell (f := 0) (Hf27.out.up3) (at_mid HRJ.out) rfl; have b2 : wf27.cell? ⟨gb, j * 4 + 2, none⟩ = some (.slice A_s2 (y.f2.length + 1) c_s2) := Has.rawCell (Hf27.out.up3) (at_mid HRJ.out) rfl; have b3 : wf27.cell? ⟨gb, j * 4 + 3, none⟩ = some (.slice A3 y.f2.length c3) := Has.rawCell (Hf27.out.up3) (at_mid HRJ.out) rfl; change K _ _)
        refine hK.out _ _ ?_ (fun hHeld => ?_)
        · exact fun _ => ⟨c_cfg_0, c_cfg_1, c_cfg_2, c_cfg_3, c_cfg_4, b0, b2, b3⟩
        replace hHeld := hHeld (by rfl)
        clear hK K
        (try simp only [Act.put, List.setIfInBounds_toArray, List.set_cons_zero, List.set_cons_succ])
        refine readyK (rs := [14]) (by kernel_rfl) (by simp) (AllK.cons (i := 14) rfl (by rfl) (fun K hK => ?_) AllK.nil)
        clear hHeld
        (refine wp_of_list (ops := #[]) (by rfl) ?_; (with_reducible refine gate_dst (N := 134) rfl ?_); at_builtin; refine wp_appR (kcells 1) rfl (.tmp 124) (.tmp 133) 42 41 (.slice none 0 0) 24 rfl Try.underlying42 infoR rfl (by decide) (by decide) (n := y.f2.length) (m := 1) ((raw1 vs)) ([[.slice (some ⟨grw, 0, none⟩) nn c_rw]]) rfl rfl (Hf27.out.up5) (HVS.out) ?aL ?_; (case aL => rw [HVS.out]; omega); intro A_s3 c_s3 wf28 h_new hc_s3; rw [show ((raw1 vs)) ++ ([[.slice (some ⟨grw, 0, none⟩) nn c_rw]]) = (raw1 (vs ++ [.slice (some ⟨grw, 0, none⟩) nn c_rw])) from raw1_snoc _ _] at h_new; have Hf28 := Aside0.mk h_new; clear h_new Hf27; clear c_cfg_0 f_cfg_0 c_cfg_1 f_cfg_1 c_cfg_2 f_cfg_2 c_cfg_3 f_cfg_3 c_cfg_4 f_cfg_4 b0 b2 b3; have c_cfg_0 : wf28.cell? ⟨g4, 0, none⟩ = some (.int .i64 c) := (blk_cell (Hf28.out.up10).blk 0).trans rfl; have f_cfg_0 := blk_frozen (Hf28.out.up10).blk 0; have c_cfg_1 : wf28.cell? ⟨g4, 1, none⟩ = some (.int .i64 r) := (blk_cell (Hf28.out.up10).blk 1).trans rfl; have f_cfg_1 := blk_frozen (Hf28.out.up10).blk 1; have c_cfg_2 : wf28.cell? ⟨g4, 2, none⟩ = some (.int .i64 p) := (blk_cell (Hf28.out.up10).blk 2).trans rfl; have f_cfg_2 := blk_frozen (Hf28.out.up10).blk 2; have c_cfg_3 : wf28.cell? ⟨g4, 3, none⟩ = some (.int .i64 wi) := (blk_cell (Hf28.out.up10).blk 3).trans rfl; have f_cfg_3 := blk_frozen (Hf28.out.up10).blk 3; have c_cfg_4 : wf28.cell? ⟨g4, 4, none⟩ = some (.int .u64 s) := (blk_cell (Hf28.out.up10).blk 4).trans rfl; have f_cfg_4 := blk_frozen (Hf28.out.up10).blk 4; have b0 : wf28.cell? ⟨gb, j * 4, none⟩ = some (.int .i64 y.f0) := Has.rawCell (f := 0) (Hf28.out.up3) (at_mid HRJ.out) rfl; have b2 : wf28.cell? ⟨gb, j * 4 + 2, none⟩ = some (.slice A_s2 (y.f2.length + 1) c_s2) := Has.rawCell (Hf28.out.up3) (at_mid HRJ.out) rfl; have b3 : wf28.cell? ⟨gb, j * 4 + 3, none⟩ = some (.slice A3 y.f2.length c3) := Has.rawCell (Hf28.out.up3) (at_mid HRJ.out) rfl; change K _ _)
        refine hK.out _ _ ?_ (fun hHeld => ?_)
        · exact fun _ => ⟨c_cfg_0, c_cfg_1, c_cfg_2, c_cfg_3, c_cfg_4, b0, b2, b3⟩
        replace hHeld := hHeld (by rfl)
        clear hK K
        (try simp only [Act.put, List.setIfInBounds_toArray, List.set_cons_zero, List.set_cons_succ])
        refine takeWK (i := 15) (v := ?_) rfl rfl (by kernel_rfl) (by kernel_rfl) (by kernel_rfl) (by kernel_rfl) (by rfl) (by rfl) (by kernel_rfl) (fun _ _ _ h => h) (by rfl) ?_ hHeld ?_
        rotate_left 1
        · (intro w hSw; (try dsimp only at hSw); go_simp <;> (try with_reducible rfl))
        (try simp only [Act.put, List.setIfInBounds_toArray, List.set_cons_zero, List.set_cons_succ])
        refine takeWK (i := 16) (v := ?_) rfl rfl (by kernel_rfl) (by kernel_rfl) (by kernel_rfl) (by kernel_rfl) (by rfl) (by rfl) (by kernel_rfl) (fun _ _ _ h => h) (by rfl) ?_ hHeld ?_
        rotate_left 1
        · (intro w hSw; (try dsimp only at hSw); go_simp <;> (try with_reducible rfl))
        (try simp only [Act.put, List.setIfInBounds_toArray, List.set_cons_zero, List.set_cons_succ])
        refine readyK (rs := [17]) (by kernel_rfl) (by simp) (AllK.cons (i := 17) rfl (by rfl) (fun K hK => ?_) AllK.nil)
        clear hHeld
        (refine wp_of_list (ops := #[]) (by rfl) ?_; (with_reducible refine gate_store (t := 42) (p := 136) rfl ?_); refine wp_storeF 4 rfl rfl 42 _ _ rfl (g := gb) (j := j) (f := 3) (u := (.slice A_s3 (y.f2.length + 1) c_s3)) ?sA rfl rfl rfl ?sI rfl (at_mid HRJ.out) (by decide) (rfl) (Hf28.out.up3) ?_; (case sI => first | rfl | kernel_rfl); (case sA => first | rfl | (go_simp; done) | (go_simp; rfl)); intro wf29 h_new; rw [set_mid HRJ.out] at h_new; have Hf29 := Aside0.mk h_new; clear h_new Hf28; clear c_cfg_0 f_cfg_0 c_cfg_1 f_cfg_1 c_cfg_2 f_cfg_2 c_cfg_3 f_cfg_3 c_cfg_4 f_cfg_4 b0 b2 b3; have c_cfg_0 : wf29.cell? ⟨g4, 0, none⟩ = some (.int .i64 c) := (blk_cell (Hf29.out.up10).blk 0).trans rfl; have f_cfg_0 := blk_frozen (Hf29.out.up10).blk 0; have c_cfg_1 : wf29.cell? ⟨g4, 1, none⟩ = some (.int .i64 r) := (blk_cell (Hf29.out.up10).blk 1).trans rfl; have f_cfg_1 := blk_frozen (Hf29.out.up10).blk 1; have c_cfg_2 : wf29.cell? ⟨g4, 2, none⟩ = some (.int .i64 p) := (blk_cell (Hf29.out.up10).blk 2).trans rfl; have f_cfg_2 := blk_frozen (Hf29.out.up10).blk 2; have c_cfg_3 : wf29.cell? ⟨g4, 3, none⟩ = some (.int .i64 wi) := (blk_cell (Hf29.out.up10).blk 3).trans rfl; have f_cfg_3 := blk_frozen (Hf29.out.up10).blk 3; have c_cfg_4 : wf29.cell? ⟨g4, 4, none⟩ = some (.int .u64 s) := (blk_cell (Hf29.out.up10).blk 4).trans rfl; have f_cfg_4 := blk_frozen (Hf29.out.up10).blk 4; change K _ _)
        refine hK.out _ _ ?_ (fun hHeld => ?_)
        · exact fun h => absurd (show (true = false) from h) (by decide)
        clear hHeld
        clear hK K
        (try simp only [Act.put, List.setIfInBounds_toArray, List.set_cons_zero, List.set_cons_succ])
        refine doneK (by kernel_rfl) ?_ _
        have h8 := HCLOSE3.out _ _ _ _ _ (Hf29.out.up3.drop.up9.up9.up9.up9.up9.up8.up6.up9.up9.up9)
        have h9 := HCLOSE.out _ _ _ (addY nn y F2 F3) _ h8.dn2
        obtain ⟨r2, hr2, hl2, hmore⟩ := more_one (s := s) HRR.out (Y1 := Y1) (Y2 := Y2) (y := y) (y' := addY nn y F2 F3) (by rw [← HYY.out, HYL.out]; exact hn20) (by rw [← HYY.out]; exact HWF.out) HWN.out HMO.out (by rw [← HYY.out]; exact HO1.out)
        have HO2 := Aside0.mk hr2
        have HL2 : Aside0 (r2.length = n) := ⟨by rw [hl2, ← HYY.out, HYL.out]⟩
        have HMORE := Aside0.mk hmore
        have H9 := Aside0.mk h9
        clear h8 h9 hr2 hl2 hmore Hf29
        have c_grid_0 : wf29.cell? ⟨g9, 0, none⟩ = some (.int .i64 c) := (blk_cell (H9.out.up3).blk 0).trans rfl
        have f_grid_0 := blk_frozen (H9.out.up3).blk 0
        have c_grid_1 : wf29.cell? ⟨g9, 1, none⟩ = some (.int .i64 r) := (blk_cell (H9.out.up3).blk 1).trans rfl
        have f_grid_1 := blk_frozen (H9.out.up3).blk 1
        have c_grid_2 : wf29.cell? ⟨g9, 2, none⟩ = some (.int .i64 p) := (blk_cell (H9.out.up3).blk 2).trans rfl
        have f_grid_2 := blk_frozen (H9.out.up3).blk 2
        have c_grid_3 : wf29.cell? ⟨g9, 3, none⟩ = some (.int .i64 wi) := (blk_cell (H9.out.up3).blk 3).trans rfl
        have f_grid_3 := blk_frozen (H9.out.up3).blk 3
        have c_grid_4 : wf29.cell? ⟨g9, 4, none⟩ = some (.int .u64 s) := (blk_cell (H9.out.up3).blk 4).trans rfl
        have f_grid_4 := blk_frozen (H9.out.up3).blk 4
        go_wp2_with (first | ((go_at_call 11); (with_reducible refine (of_lines c r p wi s (linesP_N (H9.out)) HO2.out).mono ?_); rintro e_ wg1 ⟨v_, rfl, hR_, hb_⟩; have h_new := Has.newRow H9.out hb_ hR_; clear hb_ hR_; obtain ⟨A_bh, c_bh, ev_⟩ := h_new.rowIs; rw [show (r2).length = n from by exact HL2.out] at ev_; subst ev_; have hc_bh := h_new.rowN.2.1; have Hg1 := Aside0.mk h_new; clear h_new H9; clear c_grid_0 f_grid_0 c_grid_1 f_grid_1 c_grid_2 f_grid_2 c_grid_3 f_grid_3 c_grid_4 f_grid_4; have c_grid_0 : wg1.cell? ⟨g9, 0, none⟩ = some (.int .i64 c) := (blk_cell (Hg1.out.up4).blk 0).trans rfl; have f_grid_0 := blk_frozen (Hg1.out.up4).blk 0; have c_grid_1 : wg1.cell? ⟨g9, 1, none⟩ = some (.int .i64 r) := (blk_cell (Hg1.out.up4).blk 1).trans rfl; have f_grid_1 := blk_frozen (Hg1.out.up4).blk 1; have c_grid_2 : wg1.cell? ⟨g9, 2, none⟩ = some (.int .i64 p) := (blk_cell (Hg1.out.up4).blk 2).trans rfl; have f_grid_2 := blk_frozen (Hg1.out.up4).blk 2; have c_grid_3 : wg1.cell? ⟨g9, 3, none⟩ = some (.int .i64 wi) := (blk_cell (Hg1.out.up4).blk 3).trans rfl; have f_grid_3 := blk_frozen (Hg1.out.up4).blk 3; have c_grid_4 : wg1.cell? ⟨g9, 4, none⟩ = some (.int .u64 s) := (blk_cell (Hg1.out.up4).blk 4).trans rfl; have f_grid_4 := blk_frozen (Hg1.out.up4).blk 4))
        obtain ⟨R, O9, hRL, hRA, hLA, _⟩ := lines_open (Hg1.out.sw.drop.up3.drop.up3.drop.sw.sw.up2)
        have HLB := Aside0.mk hLA.up3.up3
        have HRA := Aside0.mk hRA
        clear hRA hLA Hg1
        go_loopg [19] (n + 1) (fun kq v19 w' => ∃ i : Nat, v19 = .int .i64 (i : Int) ∧ Aside0 (i + kq = n + 1) ∧ Aside0 (i ≤ n) ∧ Aside0 (Has w w.heap.size w' [row (Kd.int .i64) 3 (.slice A_bh n c_bh) r2, row (Kd.int .i64) 3 (.slice A_bf n c_bf) r1, row (kcells 4) 44 (.slice Aa n ca) R, O9]))
        case atStart => exact ⟨0, rfl, ⟨by omega⟩, ⟨by omega⟩, HLB⟩
        case round =>
          clear HLB
          obtain ⟨i, rfl, HK, HI, HW⟩ := hrel
          have hii := HI.out
          by_cases hil : i < n
          · have f1 : decide ((i : Int) < (n : Int)) = true := decide_eq_true (by omega)
            have f2 : decide (i < n) = true := decide_eq_true (by omega)
            have i0 : (0 : Int) ≤ (i : Int) := by omega
            have iL : (i : Int) < (n : Int) := by omega
            obtain ⟨z, hz⟩ : ∃ z, Y[i]? = some z := ⟨Y[i]'(by rw [HYL.out]; exact hil), List.getElem?_eq_getElem _⟩
            obtain ⟨u, hu⟩ : ∃ u, r1[i]? = some u := ⟨r1[i]'(by rw [HL1.out]; exact hil), List.getElem?_eq_getElem _⟩
            obtain ⟨v, hv⟩ : ∃ v, r2[i]? = some v := ⟨r2[i]'(by rw [HL2.out]; exact hil), List.getElem?_eq_getElem _⟩
            obtain ⟨q1, q2, q3⟩ := HMORE.out i z u v (by rw [← HYY.out]; exact hz) hu hv
            have hz2 := HWF.out z (List.mem_of_getElem? hz)
            have hzb := hz2.bs
            have hzl := hz2.l2
            have vz : IntKind.i64.wrap (z.f1 + (z.f2.length : Int)) = z.f1 + (z.f2.length : Int) := by rw [IntKind.wrap_i64]; omega
            have t1 : decide (v < u) = false := decide_eq_false (by omega)
            have t2 : decide (u < z.f1) = false := decide_eq_false (by omega)
            have t3 : decide (z.f1 + (z.f2.length : Int) < u) = false := decide_eq_false (by omega)
            have HU1 := Aside0.mk hu
            have HU2 := Aside0.mk hv
            obtain ⟨v2', v3', hRi, _, _, S2, c2', rfl⟩ := HRA.out i z (by rw [← HYY.out]; exact hz)
            have HRI := Aside0.mk hRi
            obtain ⟨gh, rfl⟩ := HW.out.rowAt (by omega)
            obtain ⟨gf, rfl⟩ := HW.out.sw.rowAt (by omega)
            obtain ⟨gl, rfl⟩ := HW.out.up2.rowAt (by omega)
            clear q1 q2 q3 hz hu hv hz2 hzb hzl hRi
            cases gk with
            | zero => exact absurd HK.out (by omega)
            | succ k1 =>
              have x1 : wr.cell? ⟨gh, i, none⟩ = some (.int .i64 v) := rowInt HW.out HU2.out
              have x2 : wr.cell? ⟨gf, i, none⟩ = some (.int .i64 u) := rowInt HW.out.sw HU1.out
              have x3 : wr.cell? ⟨gl, i * 4 + 1, none⟩ = some (.int .i64 z.f1) := Has.rawCell (f := 1) HW.out.up2 HRI.out rfl
              have x4 : wr.cell? ⟨gl, i * 4 + 2, none⟩ = some (.slice S2 z.f2.length c2') := Has.rawCell (f := 2) HW.out.up2 HRI.out rfl
              clear hu24 hu27 HRI HU1 HU2 HMORE HO1 HO2 HL1 HL2 HRA HWF HNL HNN HYW HYY HYL HFIT HN FEW FIT HNEW HCFG HR1 HC1 HFV HF60 HWN HMO HF2 HF3 HVS HCLOSE HCLOSE3
              go_wp2
              go_quiet (fail)
              go_wp2
              go_roundg k1
              case measure => have := HK.out; omega
              case rel => exact ⟨i + 1, rfl, ⟨by have := HK.out; omega⟩, ⟨by omega⟩, ⟨HW.out.drewN _⟩⟩
          · have f1 : decide ((i : Int) < (n : Int)) = false := decide_eq_false (by omega)
            have f2 : decide (i < n) = false := decide_eq_false (by omega)
            go_wp2
            go_ret
            exact ⟨rfl, HW.out.below⟩
      · have s1 : decide ((0 : Int) < (y.f2.length : Int)) = true := decide_eq_true (by omega)
        have s2 : decide (0 < y.f2.length) = true := decide_eq_true (by omega)
        have hus : 0 ≤ IntKind.u64.wrap x3 := by rw [IntKind.wrap_u64]; omega
        obtain ⟨k, hk⟩ : ∃ k : Nat, (k : Int) = Int.tmod (IntKind.u64.wrap x3) (y.f2.length : Int) := by
          rw [Int.tmod_eq_emod_of_nonneg hus]
          have := Int.emod_nonneg (IntKind.u64.wrap x3) (show (y.f2.length : Int) ≠ 0 by omega)
          exact ⟨((IntKind.u64.wrap x3) % (y.f2.length : Int)).toNat, by omega⟩
        have hkn : k < y.f2.length := by
          rw [Int.tmod_eq_emod_of_nonneg hus] at hk
          have := Int.emod_lt_of_pos (IntKind.u64.wrap x3) (show (0 : Int) < (y.f2.length : Int) by omega)
          omega
        have hk2 := hk.symm
        have vk : IntKind.i64.wrap (k : Int) = k := by rw [IntKind.wrap_i64]; omega
        obtain ⟨K1, kr, K2, hK, hK1⟩ : ∃ K1 kr K2, y.f3 = K1 ++ kr :: K2 ∧ K1.length = k := ⟨y.f3.take k, y.f3[k]'(by rw [hy3'.out]; exact hkn), y.f3.drop (k + 1), by rw [← List.drop_eq_getElem_cons, List.take_append_drop], by rw [List.length_take, hy3'.out]; omega⟩
        have hkr : kr.length = nn := by rw [HYW.out.row kr (by rw [hK]; simp), HNN.out]
        have hum : 0 ≤ IntKind.u64.wrap x4 := by rw [IntKind.wrap_u64]; omega
        obtain ⟨m, hm⟩ : ∃ m : Nat, (m : Int) = Int.tmod (IntKind.u64.wrap x4) (nn : Int) := by
          rw [Int.tmod_eq_emod_of_nonneg hum]
          have := Int.emod_nonneg (IntKind.u64.wrap x4) (show (nn : Int) ≠ 0 by omega)
          exact ⟨((IntKind.u64.wrap x4) % (nn : Int)).toNat, by omega⟩
        have hmn : m < nn := by
          rw [Int.tmod_eq_emod_of_nonneg hum] at hm
          have := Int.emod_lt_of_pos (IntKind.u64.wrap x4) (show (0 : Int) < (nn : Int) by omega)
          omega
        have hm2 := hm.symm
        have hnn0 : ¬ nn = 0 := by omega
        have vm : IntKind.i64.wrap (m : Int) = m := by rw [IntKind.wrap_i64]; omega
        have hunn : IntKind.u64.wrap (nn : Int) = nn := by rw [IntKind.wrap_u64]; omega
        have HMO : Aside0 (MoX (toL y) (toL (addY nn y (y.f2.set k true) (K1 ++ kr.set m true :: K2)))) := ⟨mo_some y k m hK⟩
        have HWN : Aside0 (WfS c r p wi s (addY nn y (y.f2.set k true) (K1 ++ kr.set m true :: K2))) := ⟨wf_some k m HYW.out hy20 hy3'.out HNN.out hK⟩
        have HF3 : Aside0 ((K1 ++ kr.set m true :: K2).length = y.f2.length) := ⟨by rw [← hy3'.out, hK]; simp⟩
        have h4 := H3.out.up2
        rw [hK] at h4
        obtain ⟨V1, V2, u, O2, l1, l2, h5, CLOSE2⟩ := sepRows_zoom h4
        have hls : 0 < y.f2.length := by omega
        obtain ⟨g3, rfl⟩ := h5.rowAt hls
        obtain ⟨A4, c4, rfl⟩ := h5.sw.rowIs
        rw [hkr] at h5 CLOSE2
        obtain ⟨g4', rfl⟩ := h5.sw.rowAt (by omega)
        obtain ⟨g2', rfl⟩ := h5.up4.rowAt hls
        have HV1 : Aside0 ((raw1 (V1 ++ .slice (some ⟨g4', 0, none⟩) nn c4 :: V2))[k]? = some [.slice (some ⟨g4', 0, none⟩) nn c4]) := ⟨raw1_at (at_mid (by rw [l1, hK1]))⟩
        have H5 := Aside0.mk h5
        have HCLOSE2 := Aside0.mk CLOSE2
        clear h4 h5 CLOSE2 l1 l2 hK hK1 hkr hus hum hk hm H3
        have b2 : wq.cell? ⟨gb, j * 4 + 2, none⟩ = some (.slice (some ⟨g2', 0, none⟩) y.f2.length c2) := Has.rawCell (H5.out.up3) (at_mid HRJ.out) rfl
        have b3 : wq.cell? ⟨gb, j * 4 + 3, none⟩ = some (.slice (some ⟨g3, 0, none⟩) y.f2.length c3) := Has.rawCell (H5.out.up3) (at_mid HRJ.out) rfl
        have r3 : wq.cell? ⟨g3, k, none⟩ = some (.slice (some ⟨g4', 0, none⟩) nn c4) := raw1Cell (H5.out) HV1.out
        go_wp2_with (first | ((with_reducible refine gate_store (t := 4) (p := 89) rfl ?_); refine wp_storeR rfl rfl 4 _ _ rfl (g := g2') (j := k) (true) ?sA rfl rfl ?sI (H5.out.up4) (hkn) ?_; (case sI => first | rfl | kernel_rfl); (case sA => first | rfl | exact congrArg (fun x => Value.pointer (some x)) (add0 _ _) | (go_simp; done) | (go_simp; rfl) | (go_simp; exact add0 _ _)); intro we1 h_new; have He1 := Aside0.mk h_new; clear h_new H5; clear b2 b3 r3; have b2 : we1.cell? ⟨gb, j * 4 + 2, none⟩ = some (.slice (some ⟨g2', 0, none⟩) y.f2.length c2) := Has.rawCell (He1.out.up4) (at_mid HRJ.out) rfl; have b3 : we1.cell? ⟨gb, j * 4 + 3, none⟩ = some (.slice (some ⟨g3, 0, none⟩) y.f2.length c3) := Has.rawCell (He1.out.up4) (at_mid HRJ.out) rfl; have r3 : we1.cell? ⟨g3, k, none⟩ = some (.slice (some ⟨g4', 0, none⟩) nn c4) := raw1Cell (He1.out.sw) HV1.out))
        have He22 := Aside0.mk He1.out.drew
        clear b2 b3 r3
        have b2 : (we1).drew.cell? ⟨gb, j * 4 + 2, none⟩ = some (.slice (some ⟨g2', 0, none⟩) y.f2.length c2) := Has.rawCell (He22.out.up4) (at_mid HRJ.out) rfl
        have b3 : (we1).drew.cell? ⟨gb, j * 4 + 3, none⟩ = some (.slice (some ⟨g3, 0, none⟩) y.f2.length c3) := Has.rawCell (He22.out.up4) (at_mid HRJ.out) rfl
        have r3 : (we1).drew.cell? ⟨g3, k, none⟩ = some (.slice (some ⟨g4', 0, none⟩) nn c4) := raw1Cell (He22.out.sw) HV1.out
        refine wp_regionK (T := (fun w' => w'.cell? ⟨gb, j * 4 + 2, none⟩ = some (.slice (some ⟨g2', 0, none⟩) y.f2.length c2) ∧ w'.cell? ⟨gb, j * 4 + 3, none⟩ = some (.slice (some ⟨g3, 0, none⟩) y.f2.length c3) ∧ w'.cell? ⟨g3, k, none⟩ = some (.slice (some ⟨g4', 0, none⟩) nn c4))) 21 (by kernel_rfl) ?_ (fun hHeld => ?_)
        · exact ⟨b2, b3, r3⟩
        refine takeWK (i := 0) (v := ?_) rfl rfl (by kernel_rfl) (by kernel_rfl) (by kernel_rfl) (by kernel_rfl) (by rfl) (by rfl) (by kernel_rfl) (fun _ _ _ h => h) (by rfl) ?_ hHeld ?_
        rotate_left 1
        · (intro w hSw; (try dsimp only at hSw); go_simp <;> (try with_reducible rfl))
        (try simp only [Act.put, List.setIfInBounds_toArray, List.set_cons_zero, List.set_cons_succ])
        refine takeWK (i := 1) (v := ?_) rfl rfl (by kernel_rfl) (by kernel_rfl) (by kernel_rfl) (by kernel_rfl) (by rfl) (by rfl) (by kernel_rfl) (fun _ _ _ h => h) (by rfl) ?_ hHeld ?_
        rotate_left 1
        · (intro w hSw; (try dsimp only at hSw); go_simp <;> (try with_reducible rfl))
        (try simp only [Act.put, List.setIfInBounds_toArray, List.set_cons_zero, List.set_cons_succ])
        refine takeWK (i := 2) (v := ?_) rfl rfl (by kernel_rfl) (by kernel_rfl) (by kernel_rfl) (by kernel_rfl) (by rfl) (by rfl) (by kernel_rfl) (fun _ _ _ h => h) (by rfl) ?_ hHeld ?_
        rotate_left 1
        · (intro w hSw; (try dsimp only at hSw); go_simp <;> (try with_reducible rfl))
        (try simp only [Act.put, List.setIfInBounds_toArray, List.set_cons_zero, List.set_cons_succ])
        refine takeWK (i := 3) (v := ?_) rfl rfl (by kernel_rfl) (by kernel_rfl) (by kernel_rfl) (by kernel_rfl) (by rfl) (by rfl) (by kernel_rfl) (fun _ _ _ h => h) (by rfl) ?_ hHeld ?_
        rotate_left 1
        · (intro w hSw; (try dsimp only at hSw); go_simp <;> (try with_reducible rfl))
        (try simp only [Act.put, List.setIfInBounds_toArray, List.set_cons_zero, List.set_cons_succ])
        refine takeWK (i := 4) (v := ?_) rfl rfl (by kernel_rfl) (by kernel_rfl) (by kernel_rfl) (by kernel_rfl) (by rfl) (by rfl) (by kernel_rfl) (fun _ _ _ h => h) (by rfl) ?_ hHeld ?_
        rotate_left 1
        · (intro w hSw; (try dsimp only at hSw); go_simp <;> (try with_reducible rfl))
        (try simp only [Act.put, List.setIfInBounds_toArray, List.set_cons_zero, List.set_cons_succ])
        refine takeWK (i := 5) (v := ?_) rfl rfl (by kernel_rfl) (by kernel_rfl) (by kernel_rfl) (by kernel_rfl) (by rfl) (by rfl) (by kernel_rfl) (fun _ _ _ h => h) (by rfl) ?_ hHeld ?_
        rotate_left 1
        · (intro w hSw; (try dsimp only at hSw); go_simp <;> (try with_reducible rfl))
        (try simp only [Act.put, List.setIfInBounds_toArray, List.set_cons_zero, List.set_cons_succ])
        refine takeWK (i := 6) (v := ?_) rfl rfl (by kernel_rfl) (by kernel_rfl) (by kernel_rfl) (by kernel_rfl) (by rfl) (by rfl) (by kernel_rfl) (fun _ _ _ h => h) (by rfl) ?_ hHeld ?_
        rotate_left 1
        · (intro w hSw; (try dsimp only at hSw); go_simp <;> (try with_reducible rfl))
        (try simp only [Act.put, List.setIfInBounds_toArray, List.set_cons_zero, List.set_cons_succ])
        refine takeWK (i := 7) (v := ?_) rfl rfl (by kernel_rfl) (by kernel_rfl) (by kernel_rfl) (by kernel_rfl) (by rfl) (by rfl) (by kernel_rfl) (fun _ _ _ h => h) (by rfl) ?_ hHeld ?_
        rotate_left 1
        · (intro w hSw; (try dsimp only at hSw); go_simp <;> (try with_reducible rfl))
        (try simp only [Act.put, List.setIfInBounds_toArray, List.set_cons_zero, List.set_cons_succ])
        refine takeWK (i := 8) (v := ?_) rfl rfl (by kernel_rfl) (by kernel_rfl) (by kernel_rfl) (by kernel_rfl) (by rfl) (by rfl) (by kernel_rfl) (fun _ _ _ h => h) (by rfl) ?_ hHeld ?_
        rotate_left 1
        · (intro w hSw; (try dsimp only at hSw); go_simp <;> (try with_reducible rfl))
        (try simp only [Act.put, List.setIfInBounds_toArray, List.set_cons_zero, List.set_cons_succ])
        refine takeWK (i := 9) (v := ?_) rfl rfl (by kernel_rfl) (by kernel_rfl) (by kernel_rfl) (by kernel_rfl) (by rfl) (by rfl) (by kernel_rfl) (fun _ _ _ h => h) (by rfl) ?_ hHeld ?_
        rotate_left 1
        · (intro w hSw; (try dsimp only at hSw); go_simp <;> (try with_reducible rfl))
        (try simp only [Act.put, List.setIfInBounds_toArray, List.set_cons_zero, List.set_cons_succ])
        refine takeWK (i := 10) (v := ?_) rfl rfl (by kernel_rfl) (by kernel_rfl) (by kernel_rfl) (by kernel_rfl) (by rfl) (by rfl) (by kernel_rfl) (fun _ _ _ h => h) (by rfl) ?_ hHeld ?_
        rotate_left 1
        · (intro w hSw; (try dsimp only at hSw); go_simp <;> (try with_reducible rfl))
        (try simp only [Act.put, List.setIfInBounds_toArray, List.set_cons_zero, List.set_cons_succ])
        refine takeWK (i := 11) (v := ?_) rfl rfl (by kernel_rfl) (by kernel_rfl) (by kernel_rfl) (by kernel_rfl) (by rfl) (by rfl) (by kernel_rfl) (fun _ _ _ h => h) (by rfl) ?_ hHeld ?_
        rotate_left 1
        · (intro w hSw; (try dsimp only at hSw); go_simp <;> (try with_reducible rfl))
        (try simp only [Act.put, List.setIfInBounds_toArray, List.set_cons_zero, List.set_cons_succ])
        refine takeWK (i := 12) (v := ?_) rfl rfl (by kernel_rfl) (by kernel_rfl) (by kernel_rfl) (by kernel_rfl) (by rfl) (by rfl) (by kernel_rfl) (fun _ _ _ h => h) (by rfl) ?_ hHeld ?_
        rotate_left 1
        · (intro w hSw; (try dsimp only at hSw); go_simp <;> (try with_reducible rfl))
        (try simp only [Act.put, List.setIfInBounds_toArray, List.set_cons_zero, List.set_cons_succ])
        refine takeWK (i := 13) (v := ?_) rfl rfl (by kernel_rfl) (by kernel_rfl) (by kernel_rfl) (by kernel_rfl) (by rfl) (by rfl) (by kernel_rfl) (fun _ _ _ h => h) (by rfl) ?_ hHeld ?_
        rotate_left 1
        · (intro w hSw; (try dsimp only at hSw); go_simp <;> (try with_reducible rfl))
        (try simp only [Act.put, List.setIfInBounds_toArray, List.set_cons_zero, List.set_cons_succ])
        refine takeWK (i := 14) (v := ?_) rfl rfl (by kernel_rfl) (by kernel_rfl) (by kernel_rfl) (by kernel_rfl) (by rfl) (by rfl) (by kernel_rfl) (fun _ _ _ h => h) (by rfl) ?_ hHeld ?_
        rotate_left 1
        · (intro w hSw; (try dsimp only at hSw); go_simp <;> (try with_reducible rfl))
        (try simp only [Act.put, List.setIfInBounds_toArray, List.set_cons_zero, List.set_cons_succ])
        refine takeWK (i := 15) (v := ?_) rfl rfl (by kernel_rfl) (by kernel_rfl) (by kernel_rfl) (by kernel_rfl) (by rfl) (by rfl) (by kernel_rfl) (fun _ _ _ h => h) (by rfl) ?_ hHeld ?_
        rotate_left 1
        · (intro w hSw; (try dsimp only at hSw); go_simp <;> (try with_reducible rfl))
        (try simp only [Act.put, List.setIfInBounds_toArray, List.set_cons_zero, List.set_cons_succ])
        refine takeWK (i := 16) (v := ?_) rfl rfl (by kernel_rfl) (by kernel_rfl) (by kernel_rfl) (by kernel_rfl) (by rfl) (by rfl) (by kernel_rfl) (fun _ _ _ h => h) (by rfl) ?_ hHeld ?_
        rotate_left 1
        · (intro w hSw; (try dsimp only at hSw); go_simp <;> (try with_reducible rfl))
        (try simp only [Act.put, List.setIfInBounds_toArray, List.set_cons_zero, List.set_cons_succ])
        refine takeWK (i := 17) (v := ?_) rfl rfl (by kernel_rfl) (by kernel_rfl) (by kernel_rfl) (by kernel_rfl) (by rfl) (by rfl) (by kernel_rfl) (fun _ _ _ h => h) (by rfl) ?_ hHeld ?_
        rotate_left 1
        · (intro w hSw; (try dsimp only at hSw); go_simp <;> (try with_reducible rfl))
        (try simp only [Act.put, List.setIfInBounds_toArray, List.set_cons_zero, List.set_cons_succ])
        refine takeWK (i := 18) (v := ?_) rfl rfl (by kernel_rfl) (by kernel_rfl) (by kernel_rfl) (by kernel_rfl) (by rfl) (by rfl) (by kernel_rfl) (fun _ _ _ h => h) (by rfl) ?_ hHeld ?_
        rotate_left 1
        · (intro w hSw; (try dsimp only at hSw); go_simp <;> (try with_reducible rfl))
        (try simp only [Act.put, List.setIfInBounds_toArray, List.set_cons_zero, List.set_cons_succ])
        refine takeWK (i := 19) (v := ?_) rfl rfl (by kernel_rfl) (by kernel_rfl) (by kernel_rfl) (by kernel_rfl) (by rfl) (by rfl) (by kernel_rfl) (fun _ _ _ h => h) (by rfl) ?_ hHeld ?_
        rotate_left 1
        · (intro w hSw; (try dsimp only at hSw); go_simp <;> (try with_reducible rfl))
        (try simp only [Act.put, List.setIfInBounds_toArray, List.set_cons_zero, List.set_cons_succ])
        refine takeWK (i := 20) (v := ?_) rfl rfl (by kernel_rfl) (by kernel_rfl) (by kernel_rfl) (by kernel_rfl) (by rfl) (by rfl) (by kernel_rfl) (fun _ _ _ h => h) (by rfl) ?_ hHeld ?_
        rotate_left 1
        · (intro w hSw; (try dsimp only at hSw); go_simp <;> (try with_reducible rfl))
        (try simp only [Act.put, List.setIfInBounds_toArray, List.set_cons_zero, List.set_cons_succ])
        refine readyK (rs := [21]) (by kernel_rfl) (by simp) (AllK.cons (i := 21) rfl (by rfl) (fun K hK => ?_) AllK.nil)
        clear hHeld
        (refine wp_of_list (ops := #[]) (by rfl) ?_; (with_reducible refine gate_store (t := 4) (p := 110) rfl ?_); refine wp_storeR rfl rfl 4 _ _ rfl (g := g4') (j := m) (true) ?sA rfl rfl ?sI (He22.out.up2) (hmn) ?_; (case sI => first | rfl | kernel_rfl); (case sA => first | rfl | exact congrArg (fun x => Value.pointer (some x)) (add0 _ _) | (go_simp; done) | (go_simp; rfl) | (go_simp; exact add0 _ _)); intro we23 h_new; have He23 := Aside0.mk h_new; clear h_new He22; clear b2 b3 r3; have b2 : we23.cell? ⟨gb, j * 4 + 2, none⟩ = some (.slice (some ⟨g2', 0, none⟩) y.f2.length c2) := Has.rawCell (He23.out.up4) (at_mid HRJ.out) rfl; have b3 : we23.cell? ⟨gb, j * 4 + 3, none⟩ = some (.slice (some ⟨g3, 0, none⟩) y.f2.length c3) := Has.rawCell (He23.out.up4) (at_mid HRJ.out) rfl; have r3 : we23.cell? ⟨g3, k, none⟩ = some (.slice (some ⟨g4', 0, none⟩) nn c4) := raw1Cell (He23.out.up2) HV1.out; change K _ _)
        refine hK.out _ _ ?_ (fun hHeld => ?_)
        · exact fun h => absurd (show (true = false) from h) (by decide)
        clear hHeld
        clear hK K
        (try simp only [Act.put, List.setIfInBounds_toArray, List.set_cons_zero, List.set_cons_succ])
        refine doneK (by kernel_rfl) ?_ _
        have h6 := HCLOSE2.out _ _ _ (He23.out.up9.up9.up9.up9.up9.up6.up9.up9.up8.up9)
        obtain ⟨F2, hF2⟩ : ∃ F2, y.f2.set k true = F2 := ⟨_, rfl⟩
        obtain ⟨F3, hF3⟩ : ∃ F3, K1 ++ kr.set m true :: K2 = F3 := ⟨_, rfl⟩
        rw [hF2, hF3] at HMO HWN
        rw [hF2, hF3] at h6
        rw [hF3] at HF3
        have HF2 : Aside0 (F2.length = y.f2.length) := ⟨by rw [← hF2, List.length_set]⟩
        clear hF2 hF3 He23
        obtain ⟨vs, O3, lvs, h7, CLOSE3⟩ := sepRows_all h6
        clear h6
        have HCLOSE3 := Aside0.mk CLOSE3
        have HVS : Aside0 ((raw1 vs).length = y.f2.length) := ⟨by rw [raw1_len, lvs, HF3.out]⟩
        have H7 := Aside0.mk h7
        clear h7 CLOSE3 lvs
        have c_cfg_0 : we23.cell? ⟨g4, 0, none⟩ = some (.int .i64 c) := (blk_cell (H7.out.up8).blk 0).trans rfl
        have f_cfg_0 := blk_frozen (H7.out.up8).blk 0
        have c_cfg_1 : we23.cell? ⟨g4, 1, none⟩ = some (.int .i64 r) := (blk_cell (H7.out.up8).blk 1).trans rfl
        have f_cfg_1 := blk_frozen (H7.out.up8).blk 1
        have c_cfg_2 : we23.cell? ⟨g4, 2, none⟩ = some (.int .i64 p) := (blk_cell (H7.out.up8).blk 2).trans rfl
        have f_cfg_2 := blk_frozen (H7.out.up8).blk 2
        have c_cfg_3 : we23.cell? ⟨g4, 3, none⟩ = some (.int .i64 wi) := (blk_cell (H7.out.up8).blk 3).trans rfl
        have f_cfg_3 := blk_frozen (H7.out.up8).blk 3
        have c_cfg_4 : we23.cell? ⟨g4, 4, none⟩ = some (.int .u64 s) := (blk_cell (H7.out.up8).blk 4).trans rfl
        have f_cfg_4 := blk_frozen (H7.out.up8).blk 4
        have b0 : we23.cell? ⟨gb, j * 4, none⟩ = some (.int .i64 y.f0) := Has.rawCell (f := 0) (H7.out.up2) (at_mid HRJ.out) rfl
        have b2 : we23.cell? ⟨gb, j * 4 + 2, none⟩ = some (.slice (some ⟨g2', 0, none⟩) y.f2.length c2) := Has.rawCell (H7.out.up2) (at_mid HRJ.out) rfl
        have b3 : we23.cell? ⟨gb, j * 4 + 3, none⟩ = some (.slice (some ⟨g3, 0, none⟩) y.f2.length c3) := Has.rawCell (H7.out.up2) (at_mid HRJ.out) rfl
        go_wp2_with (first | ((with_reducible refine gate_dst (N := 116) rfl ?_); refine wp_litF Kd.bool 4 rfl (N := 116) rfl (xs := [true]) (inner := [.bool true]) (n := 1) ?lR ?lP rfl (by decide) (H7.out) ?_; (case lR => first | (go_simp; done) | (go_simp; rfl)); (case lP => exact reps_one rfl rfl); intro gl1 c_l1 wf4 h_new hc_l1; have Hf4 := Aside0.mk h_new; clear h_new H7; clear c_cfg_0 f_cfg_0 c_cfg_1 f_cfg_1 c_cfg_2 f_cfg_2 c_cfg_3 f_cfg_3 c_cfg_4 f_cfg_4 b0 b2 b3; have c_cfg_0 : wf4.cell? ⟨g4, 0, none⟩ = some (.int .i64 c) := (blk_cell (Hf4.out.up9).blk 0).trans rfl; have f_cfg_0 := blk_frozen (Hf4.out.up9).blk 0; have c_cfg_1 : wf4.cell? ⟨g4, 1, none⟩ = some (.int .i64 r) := (blk_cell (Hf4.out.up9).blk 1).trans rfl; have f_cfg_1 := blk_frozen (Hf4.out.up9).blk 1; have c_cfg_2 : wf4.cell? ⟨g4, 2, none⟩ = some (.int .i64 p) := (blk_cell (Hf4.out.up9).blk 2).trans rfl; have f_cfg_2 := blk_frozen (Hf4.out.up9).blk 2; have c_cfg_3 : wf4.cell? ⟨g4, 3, none⟩ = some (.int .i64 wi) := (blk_cell (Hf4.out.up9).blk 3).trans rfl; have f_cfg_3 := blk_frozen (Hf4.out.up9).blk 3; have c_cfg_4 : wf4.cell? ⟨g4, 4, none⟩ = some (.int .u64 s) := (blk_cell (Hf4.out.up9).blk 4).trans rfl; have f_cfg_4 := blk_frozen (Hf4.out.up9).blk 4; have b0 : wf4.cell? ⟨gb, j * 4, none⟩ = some (.int .i64 y.f0) := Has.rawCell (f := 0) (Hf4.out.up3) (at_mid HRJ.out) rfl; have b2 : wf4.cell? ⟨gb, j * 4 + 2, none⟩ = some (.slice (some ⟨g2', 0, none⟩) y.f2.length c2) := Has.rawCell (Hf4.out.up3) (at_mid HRJ.out) rfl; have b3 : wf4.cell? ⟨gb, j * 4 + 3, none⟩ = some (.slice (some ⟨g3, 0, none⟩) y.f2.length c3) := Has.rawCell (Hf4.out.up3) (at_mid HRJ.out) rfl) | ((with_reducible refine gate_dst (N := 117) rfl ?_); at_builtin; refine wp_appR Kd.bool rfl (.tmp 115) (.tmp 116) 41 4 (.bool false) 1 rfl Try.underlying41 infoB rfl (by decide) (by decide) (n := y.f2.length) (m := 1) (F2) ([true]) rfl rfl (Hf4.out.up4) (HF2.out) ?aL ?_; (case aL => rw [HF2.out]; omega); intro A_s2 c_s2 wf5 h_new hc_s2; have Hf5 := Aside0.mk h_new; clear h_new Hf4; clear c_cfg_0 f_cfg_0 c_cfg_1 f_cfg_1 c_cfg_2 f_cfg_2 c_cfg_3 f_cfg_3 c_cfg_4 f_cfg_4 b0 b2 b3; have c_cfg_0 : wf5.cell? ⟨g4, 0, none⟩ = some (.int .i64 c) := (blk_cell (Hf5.out.up8).blk 0).trans rfl; have f_cfg_0 := blk_frozen (Hf5.out.up8).blk 0; have c_cfg_1 : wf5.cell? ⟨g4, 1, none⟩ = some (.int .i64 r) := (blk_cell (Hf5.out.up8).blk 1).trans rfl; have f_cfg_1 := blk_frozen (Hf5.out.up8).blk 1; have c_cfg_2 : wf5.cell? ⟨g4, 2, none⟩ = some (.int .i64 p) := (blk_cell (Hf5.out.up8).blk 2).trans rfl; have f_cfg_2 := blk_frozen (Hf5.out.up8).blk 2; have c_cfg_3 : wf5.cell? ⟨g4, 3, none⟩ = some (.int .i64 wi) := (blk_cell (Hf5.out.up8).blk 3).trans rfl; have f_cfg_3 := blk_frozen (Hf5.out.up8).blk 3; have c_cfg_4 : wf5.cell? ⟨g4, 4, none⟩ = some (.int .u64 s) := (blk_cell (Hf5.out.up8).blk 4).trans rfl; have f_cfg_4 := blk_frozen (Hf5.out.up8).blk 4; have b0 : wf5.cell? ⟨gb, j * 4, none⟩ = some (.int .i64 y.f0) := Has.rawCell (f := 0) (Hf5.out.up3) (at_mid HRJ.out) rfl; have b2 : wf5.cell? ⟨gb, j * 4 + 2, none⟩ = some (.slice (some ⟨g2', 0, none⟩) y.f2.length c2) := Has.rawCell (Hf5.out.up3) (at_mid HRJ.out) rfl; have b3 : wf5.cell? ⟨gb, j * 4 + 3, none⟩ = some (.slice (some ⟨g3, 0, none⟩) y.f2.length c3) := Has.rawCell (Hf5.out.up3) (at_mid HRJ.out) rfl) | ((with_reducible refine gate_store (t := 41) (p := 119) rfl ?_); refine wp_storeF 4 rfl rfl 41 _ _ rfl (g := gb) (j := j) (f := 2) (u := (.slice A_s2 (y.f2.length + 1) c_s2)) ?sA rfl rfl rfl ?sI rfl (at_mid HRJ.out) (by decide) (rfl) (Hf5.out.up3) ?_; (case sI => first | rfl | kernel_rfl); (case sA => first | rfl | (go_simp; done) | (go_simp; rfl)); intro wf6 h_new; rw [set_mid HRJ.out] at h_new; have Hf6 := Aside0.mk h_new; clear h_new Hf5; clear c_cfg_0 f_cfg_0 c_cfg_1 f_cfg_1 c_cfg_2 f_cfg_2 c_cfg_3 f_cfg_3 c_cfg_4 f_cfg_4 b0 b2 b3; have c_cfg_0 : wf6.cell? ⟨g4, 0, none⟩ = some (.int .i64 c) := (blk_cell (Hf6.out.up8).blk 0).trans rfl; have f_cfg_0 := blk_frozen (Hf6.out.up8).blk 0; have c_cfg_1 : wf6.cell? ⟨g4, 1, none⟩ = some (.int .i64 r) := (blk_cell (Hf6.out.up8).blk 1).trans rfl; have f_cfg_1 := blk_frozen (Hf6.out.up8).blk 1; have c_cfg_2 : wf6.cell? ⟨g4, 2, none⟩ = some (.int .i64 p) := (blk_cell (Hf6.out.up8).blk 2).trans rfl; have f_cfg_2 := blk_frozen (Hf6.out.up8).blk 2; have c_cfg_3 : wf6.cell? ⟨g4, 3, none⟩ = some (.int .i64 wi) := (blk_cell (Hf6.out.up8).blk 3).trans rfl; have f_cfg_3 := blk_frozen (Hf6.out.up8).blk 3; have c_cfg_4 : wf6.cell? ⟨g4, 4, none⟩ = some (.int .u64 s) := (blk_cell (Hf6.out.up8).blk 4).trans rfl; have f_cfg_4 := blk_frozen (Hf6.out.up8).blk 4; have b0 : wf6.cell? ⟨gb, j * 4, none⟩ = some (.int .i64 y.f0) := Has.rawCell (f := 0) (Hf6.out) (at_mid HRJ.out) rfl; have b2 : wf6.cell? ⟨gb, j * 4 + 2, none⟩ = some (.slice A_s2 (y.f2.length + 1) c_s2) := Has.rawCell (Hf6.out) (at_mid HRJ.out) rfl; have b3 : wf6.cell? ⟨gb, j * 4 + 3, none⟩ = some (.slice (some ⟨g3, 0, none⟩) y.f2.length c3) := Has.rawCell (Hf6.out) (at_mid HRJ.out) rfl))
        have Hf27 := Aside0.mk Hf6.out.drew
        clear c_cfg_0 f_cfg_0 c_cfg_1 f_cfg_1 c_cfg_2 f_cfg_2 c_cfg_3 f_cfg_3 c_cfg_4 f_cfg_4 b0 b2 b3
        have c_cfg_0 : (wf6).drew.cell? ⟨g4, 0, none⟩ = some (.int .i64 c) := (blk_cell (Hf27.out.up8).blk 0).trans rfl
        have f_cfg_0 := blk_frozen (Hf27.out.up8).blk 0
        have c_cfg_1 : (wf6).drew.cell? ⟨g4, 1, none⟩ = some (.int .i64 r) := (blk_cell (Hf27.out.up8).blk 1).trans rfl
        have f_cfg_1 := blk_frozen (Hf27.out.up8).blk 1
        have c_cfg_2 : (wf6).drew.cell? ⟨g4, 2, none⟩ = some (.int .i64 p) := (blk_cell (Hf27.out.up8).blk 2).trans rfl
        have f_cfg_2 := blk_frozen (Hf27.out.up8).blk 2
        have c_cfg_3 : (wf6).drew.cell? ⟨g4, 3, none⟩ = some (.int .i64 wi) := (blk_cell (Hf27.out.up8).blk 3).trans rfl
        have f_cfg_3 := blk_frozen (Hf27.out.up8).blk 3
        have c_cfg_4 : (wf6).drew.cell? ⟨g4, 4, none⟩ = some (.int .u64 s) := (blk_cell (Hf27.out.up8).blk 4).trans rfl
        have f_cfg_4 := blk_frozen (Hf27.out.up8).blk 4
        have b0 : (wf6).drew.cell? ⟨gb, j * 4, none⟩ = some (.int .i64 y.f0) := Has.rawCell (f := 0) (Hf27.out) (at_mid HRJ.out) rfl
        have b2 : (wf6).drew.cell? ⟨gb, j * 4 + 2, none⟩ = some (.slice A_s2 (y.f2.length + 1) c_s2) := Has.rawCell (Hf27.out) (at_mid HRJ.out) rfl
        have b3 : (wf6).drew.cell? ⟨gb, j * 4 + 3, none⟩ = some (.slice (some ⟨g3, 0, none⟩) y.f2.length c3) := Has.rawCell (Hf27.out) (at_mid HRJ.out) rfl
        refine wp_regionK (T := (fun w' => w'.cell? ⟨g4, 0, none⟩ = some (.int .i64 c) ∧ w'.cell? ⟨g4, 1, none⟩ = some (.int .i64 r) ∧ w'.cell? ⟨g4, 2, none⟩ = some (.int .i64 p) ∧ w'.cell? ⟨g4, 3, none⟩ = some (.int .i64 wi) ∧ w'.cell? ⟨g4, 4, none⟩ = some (.int .u64 s) ∧ w'.cell? ⟨gb, j * 4, none⟩ = some (.int .i64 y.f0) ∧ w'.cell? ⟨gb, j * 4 + 2, none⟩ = some (.slice A_s2 (y.f2.length + 1) c_s2) ∧ w'.cell? ⟨gb, j * 4 + 3, none⟩ = some (.slice (some ⟨g3, 0, none⟩) y.f2.length c3))) 17 (by kernel_rfl) ?_ (fun hHeld => ?_)
        · exact ⟨c_cfg_0, c_cfg_1, c_cfg_2, c_cfg_3, c_cfg_4, b0, b2, b3⟩
        refine takeWK (i := 0) (v := ?_) rfl rfl (by kernel_rfl) (by kernel_rfl) (by kernel_rfl) (by kernel_rfl) (by rfl) (by rfl) (by kernel_rfl) (fun _ _ _ h => h) (by rfl) ?_ hHeld ?_
        rotate_left 1
        · (intro w hSw; (try dsimp only at hSw); go_simp <;> (try with_reducible rfl))
        (try simp only [Act.put, List.setIfInBounds_toArray, List.set_cons_zero, List.set_cons_succ])
        refine takeWK (i := 1) (v := ?_) rfl rfl (by kernel_rfl) (by kernel_rfl) (by kernel_rfl) (by kernel_rfl) (by rfl) (by rfl) (by kernel_rfl) (fun _ _ _ h => h) (by rfl) ?_ hHeld ?_
        rotate_left 1
        · (intro w hSw; (try dsimp only at hSw); go_simp <;> (try with_reducible rfl))
        (try simp only [Act.put, List.setIfInBounds_toArray, List.set_cons_zero, List.set_cons_succ])
        refine takeWK (i := 2) (v := ?_) rfl rfl (by kernel_rfl) (by kernel_rfl) (by kernel_rfl) (by kernel_rfl) (by rfl) (by rfl) (by kernel_rfl) (fun _ _ _ h => h) (by rfl) ?_ hHeld ?_
        rotate_left 1
        · (intro w hSw; (try dsimp only at hSw); go_simp <;> (try with_reducible rfl))
        (try simp only [Act.put, List.setIfInBounds_toArray, List.set_cons_zero, List.set_cons_succ])
        refine takeWK (i := 3) (v := ?_) rfl rfl (by kernel_rfl) (by kernel_rfl) (by kernel_rfl) (by kernel_rfl) (by rfl) (by rfl) (by kernel_rfl) (fun _ _ _ h => h) (by rfl) ?_ hHeld ?_
        rotate_left 1
        · (intro w hSw; (try dsimp only at hSw); go_simp <;> (try with_reducible rfl))
        (try simp only [Act.put, List.setIfInBounds_toArray, List.set_cons_zero, List.set_cons_succ])
        refine takeWK (i := 4) (v := ?_) rfl rfl (by kernel_rfl) (by kernel_rfl) (by kernel_rfl) (by kernel_rfl) (by rfl) (by rfl) (by kernel_rfl) (fun _ _ _ h => h) (by rfl) ?_ hHeld ?_
        rotate_left 1
        · (intro w hSw; (try dsimp only at hSw); go_simp <;> (try with_reducible rfl))
        (try simp only [Act.put, List.setIfInBounds_toArray, List.set_cons_zero, List.set_cons_succ])
        refine takeWK (i := 5) (v := ?_) rfl rfl (by kernel_rfl) (by kernel_rfl) (by kernel_rfl) (by kernel_rfl) (by rfl) (by rfl) (by kernel_rfl) (fun _ _ _ h => h) (by rfl) ?_ hHeld ?_
        rotate_left 1
        · (intro w hSw; (try dsimp only at hSw); go_simp <;> (try with_reducible rfl))
        (try simp only [Act.put, List.setIfInBounds_toArray, List.set_cons_zero, List.set_cons_succ])
        refine takeWK (i := 6) (v := ?_) rfl rfl (by kernel_rfl) (by kernel_rfl) (by kernel_rfl) (by kernel_rfl) (by rfl) (by rfl) (by kernel_rfl) (fun _ _ _ h => h) (by rfl) ?_ hHeld ?_
        rotate_left 1
        · (intro w hSw; (try dsimp only at hSw); go_simp <;> (try with_reducible rfl))
        (try simp only [Act.put, List.setIfInBounds_toArray, List.set_cons_zero, List.set_cons_succ])
        refine takeWK (i := 7) (v := ?_) rfl rfl (by kernel_rfl) (by kernel_rfl) (by kernel_rfl) (by kernel_rfl) (by rfl) (by rfl) (by kernel_rfl) (fun _ _ _ h => h) (by rfl) ?_ hHeld ?_
        rotate_left 1
        · (intro w hSw; (try dsimp only at hSw); go_simp <;> (try with_reducible rfl))
        (try simp only [Act.put, List.setIfInBounds_toArray, List.set_cons_zero, List.set_cons_succ])
        refine takeWK (i := 8) (v := ?_) rfl rfl (by kernel_rfl) (by kernel_rfl) (by kernel_rfl) (by kernel_rfl) (by rfl) (by rfl) (by kernel_rfl) (fun _ _ _ h => h) (by rfl) ?_ hHeld ?_
        rotate_left 1
        · (intro w hSw; (try dsimp only at hSw); go_simp <;> (try with_reducible rfl))
        (try simp only [Act.put, List.setIfInBounds_toArray, List.set_cons_zero, List.set_cons_succ])
        refine takeWK (i := 9) (v := ?_) rfl rfl (by kernel_rfl) (by kernel_rfl) (by kernel_rfl) (by kernel_rfl) (by rfl) (by rfl) (by kernel_rfl) (fun _ _ _ h => h) (by rfl) ?_ hHeld ?_
        rotate_left 1
        · (intro w hSw; (try dsimp only at hSw); go_simp <;> (try with_reducible rfl))
        (try simp only [Act.put, List.setIfInBounds_toArray, List.set_cons_zero, List.set_cons_succ])
        refine readyK (rs := [10]) (by kernel_rfl) (by simp) (AllK.cons (i := 10) rfl (by rfl) (fun K hK => ?_) AllK.nil)
        clear hHeld
        (refine wp_of_list (ops := #[]) (by rfl) ?_; go_wp2_with (first | ((go_at_call 15); (with_reducible refine (joustref03_Near.calls 100 c r p wi s y.f0 (nearG c r p wi s y.f0) (wf6).drew HNL.out).mono ?_); rintro e_ wf28 ⟨v_, rfl, hR_, hb_⟩; have h_new := Has.newRow Hf27.out hb_ hR_; clear hb_ hR_; obtain ⟨A_ne, c_ne, ev_⟩ := h_new.rowIs; rw [show ((nearG c r p wi s y.f0)).length = nn from by exact HNN.out] at ev_; subst ev_; have hc_ne := h_new.rowN.2.1; have Hf28 := Aside0.mk h_new; clear h_new Hf27; clear c_cfg_0 f_cfg_0 c_cfg_1 f_cfg_1 c_cfg_2 f_cfg_2 c_cfg_3 f_cfg_3 c_cfg_4 f_cfg_4 b0 b2 b3; have c_cfg_0 : wf28.cell? ⟨g4, 0, none⟩ = some (.int .i64 c) := (blk_cell (Hf28.out.up9).blk 0).trans rfl; have f_cfg_0 := blk_frozen (Hf28.out.up9).blk 0; have c_cfg_1 : wf28.cell? ⟨g4, 1, none⟩ = some (.int .i64 r) := (blk_cell (Hf28.out.up9).blk 1).trans rfl; have f_cfg_1 := blk_frozen (Hf28.out.up9).blk 1; have c_cfg_2 : wf28.cell? ⟨g4, 2, none⟩ = some (.int .i64 p) := (blk_cell (Hf28.out.up9).blk 2).trans rfl; have f_cfg_2 := blk_frozen (Hf28.out.up9).blk 2; have c_cfg_3 : wf28.cell? ⟨g4, 3, none⟩ = some (.int .i64 wi) := (blk_cell (Hf28.out.up9).blk 3).trans rfl; have f_cfg_3 := blk_frozen (Hf28.out.up9).blk 3; have c_cfg_4 : wf28.cell? ⟨g4, 4, none⟩ = some (.int .u64 s) := (blk_cell (Hf28.out.up9).blk 4).trans rfl; have f_cfg_4 := blk_frozen (Hf28.out.up9).blk 4; have b0 : wf28.cell? ⟨gb, j * 4, none⟩ = some (.int .i64 y.f0) := Has.rawCell (f := 0) (Hf28.out.sw) (at_mid HRJ.out) rfl; have b2 : wf28.cell? ⟨gb, j * 4 + 2, none⟩ = some (.slice A_s2 (y.f2.length + 1) c_s2) := Has.rawCell (Hf28.out.sw) (at_mid HRJ.out) rfl; have b3 : wf28.cell? ⟨gb, j * 4 + 3, none⟩ = some (.slice (some ⟨g3, 0, none⟩) y.f2.length c3) := Has.rawCell (Hf28.out.sw) (at_mid HRJ.out) rfl)); change K _ _)
        refine hK.out _ _ ?_ (fun hHeld => ?_)
        · exact fun _ => ⟨c_cfg_0, c_cfg_1, c_cfg_2, c_cfg_3, c_cfg_4, b0, b2, b3⟩
        replace hHeld := hHeld (by rfl)
        clear hK K
        (try simp only [Act.put, List.setIfInBounds_toArray, List.set_cons_zero, List.set_cons_succ])
        refine takeWK (i := 11) (v := ?_) rfl rfl (by kernel_rfl) (by kernel_rfl) (by kernel_rfl) (by kernel_rfl) (by rfl) (by rfl) (by kernel_rfl) (fun _ _ _ h => h) (by rfl) ?_ hHeld ?_
        rotate_left 1
        · (intro w hSw; (try dsimp only at hSw); go_simp <;> (try with_reducible rfl))
        (try simp only [Act.put, List.setIfInBounds_toArray, List.set_cons_zero, List.set_cons_succ])
        refine readyK (rs := [12]) (by kernel_rfl) (by simp) (AllK.cons (i := 12) rfl (by rfl) (fun K hK => ?_) AllK.nil)
        clear hHeld
        (refine wp_of_list (ops := #[]) (by rfl) ?_; (with_reducible refine gate_dst (N := 132) rfl ?_); refine wp_make Kd.bool 4 rfl (N := 132) rfl 41 _ _ rfl ((nn : Int)) (nn) ?mX ?mY (rfl) Try.underlying41 (.bool false) 1 infoB rfl (by decide) (by decide) (false) ?mZ (by omega) (Hf28.out) ?_; (case mX => first | rfl | (go_simp; done)); (case mY => first | rfl | (go_simp; done)); (case mZ => exact rfl); intro grw c_rw wf29 h_new hc_rw; have Hf29 := Aside0.mk h_new; clear h_new Hf28; clear c_cfg_0 f_cfg_0 c_cfg_1 f_cfg_1 c_cfg_2 f_cfg_2 c_cfg_3 f_cfg_3 c_cfg_4 f_cfg_4 b0 b2 b3; have c_cfg_0 : wf29.cell? ⟨g4, 0, none⟩ = some (.int .i64 c) := (blk_cell (Hf29.out.up10).blk 0).trans rfl; have f_cfg_0 := blk_frozen (Hf29.out.up10).blk 0; have c_cfg_1 : wf29.cell? ⟨g4, 1, none⟩ = some (.int .i64 r) := (blk_cell (Hf29.out.up10).blk 1).trans rfl; have f_cfg_1 := blk_frozen (Hf29.out.up10).blk 1; have c_cfg_2 : wf29.cell? ⟨g4, 2, none⟩ = some (.int .i64 p) := (blk_cell (Hf29.out.up10).blk 2).trans rfl; have f_cfg_2 := blk_frozen (Hf29.out.up10).blk 2; have c_cfg_3 : wf29.cell? ⟨g4, 3, none⟩ = some (.int .i64 wi) := (blk_cell (Hf29.out.up10).blk 3).trans rfl; have f_cfg_3 := blk_frozen (Hf29.out.up10).blk 3; have c_cfg_4 : wf29.cell? ⟨g4, 4, none⟩ = some (.int .u64 s) := (blk_cell (Hf29.out.up10).blk 4).trans rfl; have f_cfg_4 := blk_frozen (Hf29.out.up10).blk 4; have b0 : wf29.cell? ⟨gb, j * 4, none⟩ = some (.int .i64 y.f0) := Has.rawCell (f := 0) (Hf29.out.up2) (at_mid HRJ.out) rfl; have b2 : wf29.cell? ⟨gb, j * 4 + 2, none⟩ = some (.slice A_s2 (y.f2.length + 1) c_s2) := Has.rawCell (Hf29.out.up2) (at_mid HRJ.out) rfl; have b3 : wf29.cell? ⟨gb, j * 4 + 3, none⟩ = some (.slice (some ⟨g3, 0, none⟩) y.f2.length c3) := Has.rawCell (Hf29.out.up2) (at_mid HRJ.out) rfl; change K _ _)
        refine hK.out _ _ ?_ (fun hHeld => ?_)
        · exact fun _ => ⟨c_cfg_0, c_cfg_1, c_cfg_2, c_cfg_3, c_cfg_4, b0, b2, b3⟩
        replace hHeld := hHeld (by rfl)
        clear hK K
        (try simp only [Act.put, List.setIfInBounds_toArray, List.set_cons_zero, List.set_cons_succ])
        refine readyK (rs := [13]) (by kernel_rfl) (by simp) (AllK.cons (i := 13) rfl (by rfl) (fun K hK => ?_) AllK.nil)
        clear hHeld
        (refine wp_of_list (ops := #[]) (by rfl) ?_; (with_reducible refine gate_dst (N := 133) rfl ?_); refine wp_litF (kcells 1) 41 rfl (N := 133) rfl (xs := [[.slice (some ⟨grw, 0, none⟩) nn c_rw]]) (inner := [.slice (some ⟨grw, 0, none⟩) nn c_rw]) (n := 1) ?lR ?lP rfl (by decide) (Hf29.out) ?_; (case lR => first | (go_simp; done) | (go_simp; rfl)); (case lP => exact reps_one (cells_ok rfl (by simp [Value.oneCell'])) rfl); intro gl2 c_l2 wf210 h_new hc_l2; have Hf210 := Aside0.mk h_new; clear h_new Hf29; clear c_cfg_0 f_cfg_0 c_cfg_1 f_cfg_1 c_cfg_2 f_cfg_2 c_cfg_3 f_cfg_3 c_cfg_4 f_cfg_4 b0 b2 b3; have c_cfg_0 : wf210.cell? ⟨g4, 0, none⟩ = some (.int .i64 c) := (blk_cell (Hf210.out.up11).blk 0).trans rfl; have f_cfg_0 := blk_frozen (Hf210.out.up11).blk 0; have c_cfg_1 : wf210.cell? ⟨g4, 1, none⟩ = some (.int .i64 r) := (blk_cell (Hf210.out.up11).blk 1).trans rfl; have f_cfg_1 := blk_frozen (Hf210.out.up11).blk 1; have c_cfg_2 : wf210.cell? ⟨g4, 2, none⟩ = some (.int .i64 p) := (blk_cell (Hf210.out.up11).blk 2).trans rfl; have f_cfg_2 := blk_frozen (Hf210.out.up11).blk 2; have c_cfg_3 : wf210.cell? ⟨g4, 3, none⟩ = some (.int .i64 wi) := (blk_cell (Hf210.out.up11).blk 3).trans rfl; have f_cfg_3 := blk_frozen (Hf210.out.up11).blk 3; have c_cfg_4 : wf210.cell? ⟨g4, 4, none⟩ = some (.int .u64 s) := (blk_cell (Hf210.out.up11).blk 4).trans rfl; have f_cfg_4 := blk_frozen (Hf210.out.up11).blk 4; have b0 : wf210.cell? ⟨gb, j * 4, none⟩ = some (.int .i64 y.f0) := Has.rawCell (f := 0) (Hf210.out.up3) (at_mid HRJ.out) rfl; have b2 : wf210.cell? ⟨gb, j * 4 + 2, none⟩ = some (.slice A_s2 (y.f2.length + 1) c_s2) := Has.rawCell (Hf210.out.up3) (at_mid HRJ.out) rfl; have b3 : wf210.cell? ⟨gb, j * 4 + 3, none⟩ = some (.slice (some ⟨g3, 0, none⟩) y.f2.length c3) := Has.rawCell (Hf210.out.up3) (at_mid HRJ.out) rfl; change K _ _)
        refine hK.out _ _ ?_ (fun hHeld => ?_)
        · exact fun _ => ⟨c_cfg_0, c_cfg_1, c_cfg_2, c_cfg_3, c_cfg_4, b0, b2, b3⟩
        replace hHeld := hHeld (by rfl)
        clear hK K
        (try simp only [Act.put, List.setIfInBounds_toArray, List.set_cons_zero, List.set_cons_succ])
        refine readyK (rs := [14]) (by kernel_rfl) (by simp) (AllK.cons (i := 14) rfl (by rfl) (fun K hK => ?_) AllK.nil)
        clear hHeld
        (refine wp_of_list (ops := #[]) (by rfl) ?_; (with_reducible refine gate_dst (N := 134) rfl ?_); at_builtin; refine wp_appR (kcells 1) rfl (.tmp 124) (.tmp 133) 42 41 (.slice none 0 0) 24 rfl Try.underlying42 infoR rfl (by decide) (by decide) (n := y.f2.length) (m := 1) ((raw1 vs)) ([[.slice (some ⟨grw, 0, none⟩) nn c_rw]]) rfl rfl (Hf210.out.up5) (HVS.out) ?aL ?_; (case aL => rw [HVS.out]; omega); intro A_s3 c_s3 wf211 h_new hc_s3; rw [show ((raw1 vs)) ++ ([[.slice (some ⟨grw, 0, none⟩) nn c_rw]]) = (raw1 (vs ++ [.slice (some ⟨grw, 0, none⟩) nn c_rw])) from raw1_snoc _ _] at h_new; have Hf211 := Aside0.mk h_new; clear h_new Hf210; clear c_cfg_0 f_cfg_0 c_cfg_1 f_cfg_1 c_cfg_2 f_cfg_2 c_cfg_3 f_cfg_3 c_cfg_4 f_cfg_4 b0 b2 b3; have c_cfg_0 : wf211.cell? ⟨g4, 0, none⟩ = some (.int .i64 c) := (blk_cell (Hf211.out.up10).blk 0).trans rfl; have f_cfg_0 := blk_frozen (Hf211.out.up10).blk 0; have c_cfg_1 : wf211.cell? ⟨g4, 1, none⟩ = some (.int .i64 r) := (blk_cell (Hf211.out.up10).blk 1).trans rfl; have f_cfg_1 := blk_frozen (Hf211.out.up10).blk 1; have c_cfg_2 : wf211.cell? ⟨g4, 2, none⟩ = some (.int .i64 p) := (blk_cell (Hf211.out.up10).blk 2).trans rfl; have f_cfg_2 := blk_frozen (Hf211.out.up10).blk 2; have c_cfg_3 : wf211.cell? ⟨g4, 3, none⟩ = some (.int .i64 wi) := (blk_cell (Hf211.out.up10).blk 3).trans rfl; have f_cfg_3 := blk_frozen (Hf211.out.up10).blk 3; have c_cfg_4 : wf211.cell? ⟨g4, 4, none⟩ = some (.int .u64 s) := (blk_cell (Hf211.out.up10).blk 4).trans rfl; have f_cfg_4 := blk_frozen (Hf211.out.up10).blk 4; have b0 : wf211.cell? ⟨gb, j * 4, none⟩ = some (.int .i64 y.f0) := Has.rawCell (f := 0) (Hf211.out.up3) (at_mid HRJ.out) rfl; have b2 : wf211.cell? ⟨gb, j * 4 + 2, none⟩ = some (.slice A_s2 (y.f2.length + 1) c_s2) := Has.rawCell (Hf211.out.up3) (at_mid HRJ.out) rfl; have b3 : wf211.cell? ⟨gb, j * 4 + 3, none⟩ = some (.slice (some ⟨g3, 0, none⟩) y.f2.length c3) := Has.rawCell (Hf211.out.up3) (at_mid HRJ.out) rfl; change K _ _)
        refine hK.out _ _ ?_ (fun hHeld => ?_)
        · exact fun _ => ⟨c_cfg_0, c_cfg_1, c_cfg_2, c_cfg_3, c_cfg_4, b0, b2, b3⟩
        replace hHeld := hHeld (by rfl)
        clear hK K
        (try simp only [Act.put, List.setIfInBounds_toArray, List.set_cons_zero, List.set_cons_succ])
        refine takeWK (i := 15) (v := ?_) rfl rfl (by kernel_rfl) (by kernel_rfl) (by kernel_rfl) (by kernel_rfl) (by rfl) (by rfl) (by kernel_rfl) (fun _ _ _ h => h) (by rfl) ?_ hHeld ?_
        rotate_left 1
        · (intro w hSw; (try dsimp only at hSw); go_simp <;> (try with_reducible rfl))
        (try simp only [Act.put, List.setIfInBounds_toArray, List.set_cons_zero, List.set_cons_succ])
        refine takeWK (i := 16) (v := ?_) rfl rfl (by kernel_rfl) (by kernel_rfl) (by kernel_rfl) (by kernel_rfl) (by rfl) (by rfl) (by kernel_rfl) (fun _ _ _ h => h) (by rfl) ?_ hHeld ?_
        rotate_left 1
        · (intro w hSw; (try dsimp only at hSw); go_simp <;> (try with_reducible rfl))
        (try simp only [Act.put, List.setIfInBounds_toArray, List.set_cons_zero, List.set_cons_succ])
        refine readyK (rs := [17]) (by kernel_rfl) (by simp) (AllK.cons (i := 17) rfl (by rfl) (fun K hK => ?_) AllK.nil)
        clear hHeld
        (refine wp_of_list (ops := #[]) (by rfl) ?_; (with_reducible refine gate_store (t := 42) (p := 136) rfl ?_); refine wp_storeF 4 rfl rfl 42 _ _ rfl (g := gb) (j := j) (f := 3) (u := (.slice A_s3 (y.f2.length + 1) c_s3)) ?sA rfl rfl rfl ?sI rfl (at_mid HRJ.out) (by decide) (rfl) (Hf211.out.up3) ?_; (case sI => first | rfl | kernel_rfl); (case sA => first | rfl | (go_simp; done) | (go_simp; rfl)); intro wf212 h_new; rw [set_mid HRJ.out] at h_new; have Hf212 := Aside0.mk h_new; clear h_new Hf211; clear c_cfg_0 f_cfg_0 c_cfg_1 f_cfg_1 c_cfg_2 f_cfg_2 c_cfg_3 f_cfg_3 c_cfg_4 f_cfg_4 b0 b2 b3; have c_cfg_0 : wf212.cell? ⟨g4, 0, none⟩ = some (.int .i64 c) := (blk_cell (Hf212.out.up10).blk 0).trans rfl; have f_cfg_0 := blk_frozen (Hf212.out.up10).blk 0; have c_cfg_1 : wf212.cell? ⟨g4, 1, none⟩ = some (.int .i64 r) := (blk_cell (Hf212.out.up10).blk 1).trans rfl; have f_cfg_1 := blk_frozen (Hf212.out.up10).blk 1; have c_cfg_2 : wf212.cell? ⟨g4, 2, none⟩ = some (.int .i64 p) := (blk_cell (Hf212.out.up10).blk 2).trans rfl; have f_cfg_2 := blk_frozen (Hf212.out.up10).blk 2; have c_cfg_3 : wf212.cell? ⟨g4, 3, none⟩ = some (.int .i64 wi) := (blk_cell (Hf212.out.up10).blk 3).trans rfl; have f_cfg_3 := blk_frozen (Hf212.out.up10).blk 3; have c_cfg_4 : wf212.cell? ⟨g4, 4, none⟩ = some (.int .u64 s) := (blk_cell (Hf212.out.up10).blk 4).trans rfl; have f_cfg_4 := blk_frozen (Hf212.out.up10).blk 4; change K _ _)
        refine hK.out _ _ ?_ (fun hHeld => ?_)
        · exact fun h => absurd (show (true = false) from h) (by decide)
        clear hHeld
        clear hK K
        (try simp only [Act.put, List.setIfInBounds_toArray, List.set_cons_zero, List.set_cons_succ])
        refine doneK (by kernel_rfl) ?_ _
        have h8 := HCLOSE3.out _ _ _ _ _ (Hf212.out.up3.drop.up9.up9.up9.up9.up9.up8.up6.up9.up9.up9)
        have h9 := HCLOSE.out _ _ _ (addY nn y F2 F3) _ h8.dn2
        obtain ⟨r2, hr2, hl2, hmore⟩ := more_one (s := s) HRR.out (Y1 := Y1) (Y2 := Y2) (y := y) (y' := addY nn y F2 F3) (by rw [← HYY.out, HYL.out]; exact hn20) (by rw [← HYY.out]; exact HWF.out) HWN.out HMO.out (by rw [← HYY.out]; exact HO1.out)
        have HO2 := Aside0.mk hr2
        have HL2 : Aside0 (r2.length = n) := ⟨by rw [hl2, ← HYY.out, HYL.out]⟩
        have HMORE := Aside0.mk hmore
        have H9 := Aside0.mk h9
        clear h8 h9 hr2 hl2 hmore Hf212
        have c_grid_0 : wf212.cell? ⟨g9, 0, none⟩ = some (.int .i64 c) := (blk_cell (H9.out.up3).blk 0).trans rfl
        have f_grid_0 := blk_frozen (H9.out.up3).blk 0
        have c_grid_1 : wf212.cell? ⟨g9, 1, none⟩ = some (.int .i64 r) := (blk_cell (H9.out.up3).blk 1).trans rfl
        have f_grid_1 := blk_frozen (H9.out.up3).blk 1
        have c_grid_2 : wf212.cell? ⟨g9, 2, none⟩ = some (.int .i64 p) := (blk_cell (H9.out.up3).blk 2).trans rfl
        have f_grid_2 := blk_frozen (H9.out.up3).blk 2
        have c_grid_3 : wf212.cell? ⟨g9, 3, none⟩ = some (.int .i64 wi) := (blk_cell (H9.out.up3).blk 3).trans rfl
        have f_grid_3 := blk_frozen (H9.out.up3).blk 3
        have c_grid_4 : wf212.cell? ⟨g9, 4, none⟩ = some (.int .u64 s) := (blk_cell (H9.out.up3).blk 4).trans rfl
        have f_grid_4 := blk_frozen (H9.out.up3).blk 4
        go_wp2_with (first | ((go_at_call 11); (with_reducible refine (of_lines c r p wi s (linesP_N (H9.out)) HO2.out).mono ?_); rintro e_ wg2 ⟨v_, rfl, hR_, hb_⟩; have h_new := Has.newRow H9.out hb_ hR_; clear hb_ hR_; obtain ⟨A_bh, c_bh, ev_⟩ := h_new.rowIs; rw [show (r2).length = n from by exact HL2.out] at ev_; subst ev_; have hc_bh := h_new.rowN.2.1; have Hg2 := Aside0.mk h_new; clear h_new H9; clear c_grid_0 f_grid_0 c_grid_1 f_grid_1 c_grid_2 f_grid_2 c_grid_3 f_grid_3 c_grid_4 f_grid_4; have c_grid_0 : wg2.cell? ⟨g9, 0, none⟩ = some (.int .i64 c) := (blk_cell (Hg2.out.up4).blk 0).trans rfl; have f_grid_0 := blk_frozen (Hg2.out.up4).blk 0; have c_grid_1 : wg2.cell? ⟨g9, 1, none⟩ = some (.int .i64 r) := (blk_cell (Hg2.out.up4).blk 1).trans rfl; have f_grid_1 := blk_frozen (Hg2.out.up4).blk 1; have c_grid_2 : wg2.cell? ⟨g9, 2, none⟩ = some (.int .i64 p) := (blk_cell (Hg2.out.up4).blk 2).trans rfl; have f_grid_2 := blk_frozen (Hg2.out.up4).blk 2; have c_grid_3 : wg2.cell? ⟨g9, 3, none⟩ = some (.int .i64 wi) := (blk_cell (Hg2.out.up4).blk 3).trans rfl; have f_grid_3 := blk_frozen (Hg2.out.up4).blk 3; have c_grid_4 : wg2.cell? ⟨g9, 4, none⟩ = some (.int .u64 s) := (blk_cell (Hg2.out.up4).blk 4).trans rfl; have f_grid_4 := blk_frozen (Hg2.out.up4).blk 4))
        obtain ⟨R, O9, hRL, hRA, hLA, _⟩ := lines_open (Hg2.out.sw.drop.up3.drop.up3.drop.sw.sw.up2)
        have HLB := Aside0.mk hLA.up3.up3
        have HRA := Aside0.mk hRA
        clear hRA hLA Hg2
        go_loopg [19] (n + 1) (fun kq v19 w' => ∃ i : Nat, v19 = .int .i64 (i : Int) ∧ Aside0 (i + kq = n + 1) ∧ Aside0 (i ≤ n) ∧ Aside0 (Has w w.heap.size w' [row (Kd.int .i64) 3 (.slice A_bh n c_bh) r2, row (Kd.int .i64) 3 (.slice A_bf n c_bf) r1, row (kcells 4) 44 (.slice Aa n ca) R, O9]))
        case atStart => exact ⟨0, rfl, ⟨by omega⟩, ⟨by omega⟩, HLB⟩
        case round =>
          clear HLB
          obtain ⟨i, rfl, HK, HI, HW⟩ := hrel
          have hii := HI.out
          by_cases hil : i < n
          · have f1 : decide ((i : Int) < (n : Int)) = true := decide_eq_true (by omega)
            have f2 : decide (i < n) = true := decide_eq_true (by omega)
            have i0 : (0 : Int) ≤ (i : Int) := by omega
            have iL : (i : Int) < (n : Int) := by omega
            obtain ⟨z, hz⟩ : ∃ z, Y[i]? = some z := ⟨Y[i]'(by rw [HYL.out]; exact hil), List.getElem?_eq_getElem _⟩
            obtain ⟨u, hu⟩ : ∃ u, r1[i]? = some u := ⟨r1[i]'(by rw [HL1.out]; exact hil), List.getElem?_eq_getElem _⟩
            obtain ⟨v, hv⟩ : ∃ v, r2[i]? = some v := ⟨r2[i]'(by rw [HL2.out]; exact hil), List.getElem?_eq_getElem _⟩
            obtain ⟨q1, q2, q3⟩ := HMORE.out i z u v (by rw [← HYY.out]; exact hz) hu hv
            have hz2 := HWF.out z (List.mem_of_getElem? hz)
            have hzb := hz2.bs
            have hzl := hz2.l2
            have vz : IntKind.i64.wrap (z.f1 + (z.f2.length : Int)) = z.f1 + (z.f2.length : Int) := by rw [IntKind.wrap_i64]; omega
            have t1 : decide (v < u) = false := decide_eq_false (by omega)
            have t2 : decide (u < z.f1) = false := decide_eq_false (by omega)
            have t3 : decide (z.f1 + (z.f2.length : Int) < u) = false := decide_eq_false (by omega)
            have HU1 := Aside0.mk hu
            have HU2 := Aside0.mk hv
            obtain ⟨v2', v3', hRi, _, _, S2, c2', rfl⟩ := HRA.out i z (by rw [← HYY.out]; exact hz)
            have HRI := Aside0.mk hRi
            obtain ⟨gh, rfl⟩ := HW.out.rowAt (by omega)
            obtain ⟨gf, rfl⟩ := HW.out.sw.rowAt (by omega)
            obtain ⟨gl, rfl⟩ := HW.out.up2.rowAt (by omega)
            clear q1 q2 q3 hz hu hv hz2 hzb hzl hRi
            cases gk with
            | zero => exact absurd HK.out (by omega)
            | succ k1 =>
              have x1 : wr.cell? ⟨gh, i, none⟩ = some (.int .i64 v) := rowInt HW.out HU2.out
              have x2 : wr.cell? ⟨gf, i, none⟩ = some (.int .i64 u) := rowInt HW.out.sw HU1.out
              have x3 : wr.cell? ⟨gl, i * 4 + 1, none⟩ = some (.int .i64 z.f1) := Has.rawCell (f := 1) HW.out.up2 HRI.out rfl
              have x4 : wr.cell? ⟨gl, i * 4 + 2, none⟩ = some (.slice S2 z.f2.length c2') := Has.rawCell (f := 2) HW.out.up2 HRI.out rfl
              clear hu24 hu27 HRI HU1 HU2 HMORE HO1 HO2 HL1 HL2 HRA HWF HNL HNN HYW HYY HYL HFIT HN FEW FIT HNEW HCFG HR1 HC1 HFV HF60 HWN HMO HF2 HF3 HVS HCLOSE HCLOSE3
              go_wp2
              go_quiet (fail)
              go_wp2
              go_roundg k1
              case measure => have := HK.out; omega
              case rel => exact ⟨i + 1, rfl, ⟨by have := HK.out; omega⟩, ⟨by omega⟩, ⟨HW.out.drewN _⟩⟩
          · have f1 : decide ((i : Int) < (n : Int)) = false := decide_eq_false (by omega)
            have f2 : decide (i < n) = false := decide_eq_false (by omega)
            go_wp2
            go_ret
            exact ⟨rfl, HW.out.below⟩
def toS (x : MarkW.Line) : S44 := ⟨x.1, x.2.1, x.2.2.1, x.2.2.2⟩
theorem C_toS {w : World} {A : Option Addr} {n : Nat} {l : List MarkW.Line} (h : Kd.C kline w A n l) : Kd.C k44 w A n (l.map toS) := by
  obtain ⟨h1, h2, h3⟩ := h
  refine ⟨by rw [List.length_map]; exact h1, h2, fun hn => ?_⟩
  obtain ⟨ad, e, hr⟩ := h3 hn
  refine ⟨ad, e, fun j p hj => ?_⟩
  rw [List.getElem?_map] at hj
  cases hx : l[j]? with
  | none => rw [hx] at hj; cases hj
  | some x =>
    rw [hx] at hj
    obtain rfl := Option.some.inj hj
    exact hr j x hx
def joustlaw17_MarkMore.f (a0_0 : Int) (a0_1 : Int) (a0_2 : Int) (a0_3 : Int) (a0_4 : Int) (l1 : List MarkW.Line) (a2 : Int) (a3 : Int) (a4 : Int) : Option Bool := if l1.length < 4611686018427387904 ∧ (∀ x ∈ l1, x.2.2.1.length < 4611686018427387904 ∧ x.2.2.2.length < 4611686018427387904) then some true else none
theorem joustlaw17_MarkMore.calls (a0_0 : Int) (a0_1 : Int) (a0_2 : Int) (a0_3 : Int) (a0_4 : Int) (A1 : Option Addr) (c1 : Nat) (l1 : List MarkW.Line) (a2 : Int) (a3 : Int) (a4 : Int) (r : Bool) (w : World) (hr_ : Aside0 (r = true)) (hr1 : Kd.C kline w A1 l1.length l1) (hc1 : l1.length ≤ c1) (h : joustlaw17_MarkMore.f a0_0 a0_1 a0_2 a0_3 a0_4 l1 a2 a3 a4 = some r) :
    Calls Try.prog 4 #[.agg #[.int .i64 a0_0, .int .i64 a0_1, .int .i64 a0_2, .int .i64 a0_3, .int .u64 a0_4], .slice A1 l1.length c1, .int .i64 a2, .int .i64 a3, .int .i64 a4] w fun e w' => e = .returned (.bool r) ∧ Below w.heap.size w w' := by
  obtain rfl := hr_.out
  unfold joustlaw17_MarkMore.f at h
  by_cases hc : l1.length < 4611686018427387904 ∧ (∀ x ∈ l1, x.2.2.1.length < 4611686018427387904 ∧ x.2.2.2.length < 4611686018427387904)
  · have hl : (l1.map toS).length = l1.length := by rw [List.length_map]
    rw [← hl] at hr1 hc1 ⊢
    rw [hl] at hr1
    have h1 := C_toS hr1
    refine law.calls a0_0 a0_1 a0_2 a0_3 a0_4 A1 c1 (l1.map toS) a2 a3 a4 w (by rw [hl]; exact h1) hc1 (by rw [hl]; exact hc.1) ?_
    intro x hx
    obtain ⟨y, hy, rfl⟩ := List.mem_map.1 hx
    exact hc.2 y hy
  · rw [if_neg hc] at h
    cases h
end Go.Proofs.Ytmgdpkmmcmglfaa.PMarkMore
