/- Two rows of inputs held against each other; The laws' copies with room behind: Own and Kept, of inputs; The two tables answer alike. Conditions: as told at each. -/
import Derived.Test.YtkgjokidfbpnbaaMb
import Derived.Test.YtkgjokidfbpnbaaPInputsOrderz2
import Derived.Test.YtkgjokidfbpnbaaMd
import Derived.Test.YtkgjokidfbpnbaaRules3
namespace Go.Proofs.Ytkgjokidfbpnbaa.InW
open Go.RowKit Go.Proofs.YtkgjokidfbpnbaaW.PrintWords Go.Proofs.YtkgjokidfbpnbaaW.PrintLast Go.Proofs.YtkgjokidfbpnbaaW.PrintMore Go.Proofs.Ytkgjokidfbpnbaa.Sep
set_option linter.unusedVariables false
def toS (x : In) : PInputsOrder.S24 := ⟨x.1, x.2.1, x.2.2⟩
theorem C_S {w : World} {A : Option Addr} {n : Nat} {l : List In} (h : Kd.C kin w A n l) : Kd.C PInputsOrder.k24 w A n (l.map toS) := by
  refine C_iso ?_
  rw [List.map_map]
  have e : ((fun x : PInputsOrder.S24 => (x.f0, x.f1, x.f2)) ∘ toS) = id := rfl
  rw [e, List.map_id]
  exact h
theorem wr_ {x : Int} (h0 : -9223372036854775808 ≤ x) (h1 : x ≤ 9223372036854775807) : wrap64 x = x := by unfold wrap64; omega
theorem same_loop (xs ys : List In) (hl : xs.length = ys.length) (hb : xs.length ≤ 10000) : ∀ (d k i : Nat), i + d = xs.length → d < k → PInputsOrder.api_Input_34.l0 k (xs.map toS) (ys.map toS) (i : Int) = some (decide (xs.drop i = ys.drop i)) := by
  intro d
  induction d with
  | zero =>
    intro k i hi hk
    obtain ⟨k, rfl⟩ : ∃ m, k = m + 1 := ⟨k - 1, by omega⟩
    simp only [PInputsOrder.api_Input_34.l0, List.length_map]
    rw [if_neg (by omega), List.drop_of_length_le (by omega), List.drop_of_length_le (by omega), decide_eq_true rfl]
  | succ d ih =>
    intro k i hi hk
    obtain ⟨k, rfl⟩ : ∃ m, k = m + 1 := ⟨k - 1, by omega⟩
    simp only [PInputsOrder.api_Input_34.l0, List.length_map]
    have h1 : i < xs.length := by omega
    have h2 : i < ys.length := by omega
    rw [if_pos (by omega), if_pos (by omega), if_pos (by omega), wr_ (by omega) (by omega)]
    have e1 : PInputsOrder.rd_T24 (xs.map toS) (i : Int) = toS xs[i] := by simp [PInputsOrder.rd_T24, List.getD_eq_getElem?_getD, h1]
    have e2 : PInputsOrder.rd_T24 (ys.map toS) (i : Int) = toS ys[i] := by simp [PInputsOrder.rd_T24, List.getD_eq_getElem?_getD, h2]
    have hi' := ih k (i + 1) (by omega) (by omega)
    unfold PInputsOrder.api_Input_1.f
    rw [Option.bind_some, e1, e2, List.drop_eq_getElem_cons h1, List.drop_eq_getElem_cons h2]
    have hd : (((toS xs[i]).f0 == (toS ys[i]).f0 && ((toS xs[i]).f1 == (toS ys[i]).f1 && ((toS xs[i]).f2 == (toS ys[i]).f2))) = true) ↔ xs[i] = ys[i] := by
      rw [Bool.and_eq_true, Bool.and_eq_true, beq_iff_eq, beq_iff_eq, beq_iff_eq]
      constructor
      · rintro ⟨a, b, c⟩
        exact Prod.ext a (Prod.ext b c)
      · intro e
        rw [e]
        exact ⟨rfl, rfl, rfl⟩
    by_cases e : xs[i] = ys[i]
    · rw [if_pos (hd.2 e)]
      have : ((i : Int) + 1) = ((i + 1 : Nat) : Int) := rfl
      rw [this, hi']
      congr 1
      rw [decide_eq_decide, List.cons.injEq]
      exact ⟨fun h => ⟨e, h⟩, fun h => h.2⟩
    · rw [if_neg (fun h => e (hd.1 h)), decide_eq_false (fun h => e (List.cons.inj h).1)]
theorem plain_eq (xs ys : List In) (hb : xs.length ≤ 10000) : PInputsOrder.api_Input_17.f 10001 (xs.map toS) (ys.map toS) = some (decide (xs = ys)) := by
  unfold PInputsOrder.api_Input_17.f PInputsOrder.api_Input_34.f
  rw [List.length_map, List.length_map]
  by_cases hl : xs.length = ys.length
  · rw [if_pos (by omega), show (0 : Int) = ((0 : Nat) : Int) from rfl, same_loop xs ys hl hb xs.length 10001 0 (by omega) (by omega)]
    rfl
  · rw [if_neg (by omega), Option.bind_some, decide_eq_false (fun e => hl (by rw [e]))]
theorem plain.calls (A0 A1 : Option Addr) (n0 c0 n1 c1 : Nat) (xs ys : List In) (w : World) (h0 : Kd.C kin w A0 n0 xs) (hc0 : n0 ≤ c0) (h1 : Kd.C kin w A1 n1 ys) (hc1 : n1 ≤ c1) (hb : xs.length ≤ 10000) :
    Calls Try.prog 17 #[.slice A0 n0 c0, .slice A1 n1 c1] w fun e w' => e = .returned (.bool (decide (xs = ys))) ∧ Below w.heap.size w w' := by
  have e0 : n0 = (xs.map toS).length := by rw [List.length_map]; exact (Kd.C_len h0).symm
  have e1 : n1 = (ys.map toS).length := by rw [List.length_map]; exact (Kd.C_len h1).symm
  subst e0 e1
  exact PInputsOrder.api_Input_17.calls 10001 A0 c0 (xs.map toS) A1 c1 (ys.map toS) _ w (C_S h0) hc0 (C_S h1) hc1 (plain_eq xs ys hb)
end Go.Proofs.Ytkgjokidfbpnbaa.InW
namespace Go.Proofs.Ytkgjokidfbpnbaa.InW
open Go Go.RowKit Go.Proofs.YtkgjokidfbpnbaaW.PrintWords Go.Proofs.YtkgjokidfbpnbaaW.PrintLast Go.Proofs.YtkgjokidfbpnbaaW.PrintMore Go.Proofs.Ytkgjokidfbpnbaa.Sep
attribute [local go_sem] max2_int min2_int max_two min_two max_three min_three max_four min_four   -- for this text's walks alone
set_option linter.unusedVariables false
set_option linter.unusedSimpArgs false
theorem kin_flat (w w' : World) (b : Nat) (ok : Nat → Prop) (x : In) (cs : List Value) (h : kin.K w x cs) : kin.M w' b ok x cs := by
  rw [kin_K h]
  exact kin_mkM _ _ _ x
theorem own_len {n : Nat} (z : In) : (List.replicate (n + 3) z).drop n = List.replicate 3 z := by rw [List.drop_replicate]; congr 1; omega
theorem own_set {l : List In} {k : Nat} {f z : In} (hk : k < 3) : (l ++ (List.replicate k f ++ List.replicate (3 - k) z)).set (l.length + k) f = l ++ (List.replicate (k + 1) f ++ List.replicate (3 - (k + 1)) z) := by
  rw [List.set_append_right _ _ (by omega), Nat.add_sub_cancel_left]
  congr 1
  have : k = 0 ∨ k = 1 ∨ k = 2 := by omega
  rcases this with rfl | rfl | rfl <;> rfl
set_option maxHeartbeats 4000000 in
set_option maxRecDepth 100000 in
theorem own.H {w0 w : World} {base : Nat} {F : List Asr} (h : Has w0 base w F) (A : Option Addr) (c : Nat) (l : List In) (f : In) (hl : l.length ≤ 1000000) (hC : ∀ W : World, Has w0 base W F → Kd.C kin W A l.length l) :
    Calls Try.prog 22 #[.slice A l.length c, .agg #[.int .i64 f.1, .int .i64 f.2.1, .bool f.2.2]] w fun e w' => ∃ g, e = .returned (.slice (some ⟨g, 0, none⟩) l.length (l.length + 3)) ∧ Has w0 base w' (row kin 24 (.slice (some ⟨g, 0, none⟩) (l.length + 3) (l.length + 3)) (l ++ [f, f, f]) :: F) := by
  have hu24 := Try.underlying24
  have H := Aside0.mk h
  have HC := Aside0.mk hC
  clear h hC
  have n1 : IntKind.i64.wrap ((l.length : Int) + 3) = (l.length : Int) + 3 := by rw [IntKind.wrap_i64]; omega
  have hcut := fun (W : World) (g : Nat) => run_cut (P := Try.prog) 22 24 Try.underlying22 info24_ W (some ⟨g, 0, none⟩) l.length (l.length + 3) ((l.length : Int) + 3) (by omega) (by omega)
  rw [show ((l.length : Int) + 3).toNat = l.length + 3 from by omega] at hcut
  go_enter Try.func22, Try.ntmps22
  go_wp2_with (first | ((with_reducible refine gate_dst (N := 3) rfl ?_); refine box_event ?hg (N := 3) ?hd (cs := #[.int .i64 f.1, .int .i64 f.2.1, .bool f.2.2]) (t := 24) ?hr ?_; (case hd => rfl); (case hg => rfl); (case hr => first | (go_simp; done) | (go_simp; rfl)); intro gf hgb_ wa1 hbox_ hb5_; have h_new := Has.ownNew H.out hgb_ hb5_ hbox_; clear hgb_ hb5_ hbox_; have Ha1 := Aside0.mk h_new; clear h_new H) | (((with_reducible refine gate_dst (N := 11) rfl ?_); refine wp_makeRoom kin 24 rfl (N := 11) rfl 22 _ _ rfl ((l.length : Int) + 3) (l.length + 3) rfl ?mY rfl Try.underlying22 (.agg #[.int .i64 0, .int .i64 0, .bool false]) 24 info24_ rfl (by decide) (by decide) (0, 0, false) (kin_mkM _ _ _ _) (by omega) Ha1.out ?_; (case mY => first | rfl | (go_simp; done)); intro g w5 h5; have H5 := Aside0.mk h5; clear h5)) | (((with_reducible refine gate_dst (N := 14) rfl ?_); at_builtin; refine wp_appRoom kin rfl (.tmp 12) (.tmp 13) 22 24 (.agg #[.int .i64 0, .int .i64 0, .bool false]) 24 rfl Try.underlying22 info24_ (by decide) l (List.replicate (l.length + 3) (0, 0, false)) rfl rfl H5.out (HC.out _ H5.out.drop.drop) kin_flat (by omega) ?_; intro w6 h6; rw [own_len] at h6; have H6 := Aside0.mk h6; clear h6 H5)))
  go_loopg [7] 4 (fun kq v7 w' => ∃ k : Nat, v7 = .int .i64 ((l.length + k : Nat) : Int) ∧ Aside0 (k + kq = 4) ∧ Aside0 (k ≤ 3) ∧ Aside0 (Has w0 base w' (row kin 24 (.slice (some ⟨g, 0, none⟩) (l.length + 3) (l.length + 3)) (l ++ (List.replicate k f ++ List.replicate (3 - k) (0, 0, false))) :: blk gf (.cells #[.int .i64 f.1, .int .i64 f.2.1, .bool f.2.2] 24 (0, 0)) :: F)))
  case atStart => exact ⟨0, rfl, ⟨by omega⟩, ⟨by omega⟩, H6⟩
  case round =>
    clear H6
    obtain ⟨k, rfl, HK, HI, HW⟩ := hrel
    have hkk := HI.out
    by_cases hk3 : k < 3
    · have e1 : decide (((l.length + k : Nat) : Int) < (l.length : Int) + 3) = true := decide_eq_true (by omega)
      have e2 : decide (l.length + k < l.length + 3) = true := decide_eq_true (by omega)
      have e3 : ((l.length + k : Nat) : Int) < (l.length : Int) + 3 := by omega
      have e4 : (0 : Int) ≤ ((l.length + k : Nat) : Int) := by omega
      have e5 : l.length + k < l.length + 3 := by omega
      cases gk with
      | zero => exact absurd HK.out (by omega)
      | succ k1 =>
        have c_fl_0 : wr.cell? ⟨gf, 0, none⟩ = some (.int .i64 f.1) := (blk_cell (HW.out.sw).blk 0).trans rfl
        have c_fl_1 : wr.cell? ⟨gf, 1, none⟩ = some (.int .i64 f.2.1) := (blk_cell (HW.out.sw).blk 1).trans rfl
        have c_fl_2 : wr.cell? ⟨gf, 2, none⟩ = some (.bool f.2.2) := (blk_cell (HW.out.sw).blk 2).trans rfl
        go_wp2_with (first | (((with_reducible refine gate_store (t := 24) (p := 31) rfl ?_); refine wp_storeE kin rfl rfl 24 _ _ rfl (g := g) (j := l.length + k) f (u := .agg #[.int .i64 f.1, .int .i64 f.2.1, .bool f.2.2]) [.int .i64 f.1, .int .i64 f.2.1, .bool f.2.2] ?sA rfl rfl rfl rfl ?sI (by simp [Value.oneCell']) (fun _ _ _ => kin_mkM _ _ _ f) HW.out (by omega) ?_; (case sI => first | rfl | kernel_rfl); (case sA => first | rfl | exact congrArg (fun x => Value.pointer (some x)) (add0 _ _) | (go_simp; done) | (go_simp; exact add0 _ _)); intro w7 h7; rw [own_set hk3] at h7; have H7 := Aside0.mk h7; clear h7)))
        go_roundg k1
        case measure => have := HK.out; omega
        case rel => exact ⟨k + 1, rfl, ⟨by have := HK.out; omega⟩, ⟨by omega⟩, H7⟩
    · have e1 : decide (((l.length + k : Nat) : Int) < (l.length : Int) + 3) = false := decide_eq_false (by omega)
      have e2 : decide (l.length + k < l.length + 3) = false := decide_eq_false (by omega)
      obtain rfl : k = 3 := by omega
      go_wp2
      go_ret
      exact ⟨g, rfl, HW.out.drop2⟩
theorem row_pre {w0 w : World} {base : Nat} {F : List Asr} {A : Option Addr} {n m c : Nat} {l r : List In} (h : Has w0 base w (row kin 24 (.slice A m c) (l ++ r) :: F)) (hn : l.length = n) : Kd.C kin w A n l := by
  obtain ⟨e, _, hC⟩ := h.rowN
  rw [e] at hC
  have := Kd.C_take (m := n) hC (by rw [List.length_append]; omega)
  rw [List.take_left' hn] at this
  rw [← hn]
  exact this
set_option maxHeartbeats 4000000 in
set_option maxRecDepth 100000 in
theorem kept.H {w0 w : World} {base g : Nat} {F : List Asr} (l : List In) (f : In) (h : Has w0 base w (row kin 24 (.slice (some ⟨g, 0, none⟩) (l.length + 3) (l.length + 3)) (l ++ [f, f, f]) :: F)) (A : Option Addr) (c : Nat) (hc : l.length ≤ c) (hl : l.length ≤ 10000) (hC : ∀ W : World, Has w0 base W F → Kd.C kin W A l.length l) :
    Calls Try.prog 24 #[.slice (some ⟨g, 0, none⟩) l.length (l.length + 3), .slice A l.length c, .agg #[.int .i64 f.1, .int .i64 f.2.1, .bool f.2.2]] w fun e w' => e = .returned (.bool true) ∧ Has w0 base w' (row kin 24 (.slice (some ⟨g, 0, none⟩) (l.length + 3) (l.length + 3)) (l ++ [f, f, f]) :: F) := by
  have hu24 := Try.underlying24
  have H := Aside0.mk h
  have HC := Aside0.mk hC
  clear h hC
  have n1 : IntKind.i64.wrap ((l.length : Int) + 3) = (l.length : Int) + 3 := by rw [IntKind.wrap_i64]; omega
  have hcut := fun (W : World) => run_cut (P := Try.prog) 22 24 Try.underlying22 info24_ W (some ⟨g, 0, none⟩) l.length (l.length + 3) ((l.length : Int) + 3) (by omega) (by omega)
  rw [show ((l.length : Int) + 3).toNat = l.length + 3 from by omega] at hcut
  obtain ⟨f0, f1, f2⟩ := f
  go_enter Try.func24, Try.ntmps24
  go_wp2_with (first | ((with_reducible refine gate_dst (N := 5) rfl ?_); refine box_event ?hg (N := 5) ?hd (cs := #[.int .i64 f0, .int .i64 f1, .bool f2]) (t := 24) ?hr ?_; (case hd => rfl); (case hg => rfl); (case hr => first | (go_simp; done) | (go_simp; rfl)); intro gf hgb_ wa2 hbox_ hb5_; have h_new := Has.ownNew H.out hgb_ hb5_ hbox_; clear hgb_ hb5_ hbox_; have Ha2 := Aside0.mk h_new; clear h_new H) | ((go_at_call 17); (with_reducible refine (plain.calls (some ⟨g, 0, none⟩) A l.length (l.length + 3) l.length c l l _ (row_pre (Ha2.out.sw) rfl) (by omega) (HC.out _ ((Ha2.out).drop.drop)) hc hl).mono ?_); rintro e_ wa3 ⟨rfl, hb_⟩; have h_new := Ha2.out.step hb_; clear hb_; have Ha3 := Aside0.mk h_new; clear h_new Ha2; rw [decide_eq_true (rfl : l = l)]))
  go_loopg [8] 4 (fun kq v8 w' => ∃ (m k : Nat), v8 = .int .i64 (m : Int) ∧ Aside0 (m = l.length + k) ∧ Aside0 (k + kq = 4) ∧ Aside0 (k ≤ 3) ∧ Aside0 (Has w0 base w' (blk gf (.cells #[.int .i64 f0, .int .i64 f1, .bool f2] 24 (0, 0)) :: row kin 24 (.slice (some ⟨g, 0, none⟩) (l.length + 3) (l.length + 3)) (l ++ [(f0, f1, f2), (f0, f1, f2), (f0, f1, f2)]) :: F)))
  case atStart => exact ⟨l.length, 0, rfl, ⟨rfl⟩, ⟨by omega⟩, ⟨by omega⟩, Ha3⟩
  case round =>
    clear Ha3
    obtain ⟨m, k, rfl, HM, HK, HI, HW⟩ := hrel
    have hm1 : l.length ≤ m ∧ m ≤ l.length + 3 := by have := HM.out; have := HI.out; omega
    have hkk := HI.out
    by_cases hk3 : m < l.length + 3
    · have e1 : decide ((m : Int) < (l.length : Int) + 3) = true := decide_eq_true (by omega)
      have e2 : decide (m < l.length + 3) = true := decide_eq_true (by omega)
      have e3 : (m : Int) < (l.length : Int) + 3 := by omega
      have e4 : (0 : Int) ≤ (m : Int) := by omega
      have hk9 : k < 3 := by have := HM.out; omega
      have hrd : Aside0 (rdI (l ++ [(f0, f1, f2), (f0, f1, f2), (f0, f1, f2)]) (m : Int) = (f0, f1, f2)) := ⟨by
        unfold rdI
        rw [Int.toNat_natCast, HM.out, List.getD_eq_getElem?_getD, List.getElem?_append_right (by omega), Nat.add_sub_cancel_left]
        have : k = 0 ∨ k = 1 ∨ k = 2 := by omega
        rcases this with rfl | rfl | rfl <;> rfl⟩
      obtain ⟨er, -, hCr⟩ := HW.out.sw.rowN
      obtain ⟨ad, ea, y0, y1, y2⟩ := at_inI hCr (m : Int) (by omega) (by omega)
      obtain rfl := Option.some.inj ea
      rw [hrd.out, Int.toNat_natCast, Sep.add0] at y0 y1 y2
      clear er hCr ea
      have Y0 := Aside0.mk y0
      have Y1 := Aside0.mk y1
      have Y2 := Aside0.mk y2
      cases gk with
      | zero => exact absurd HK.out (by omega)
      | succ k1 =>
        have c_fl_0 : wr.cell? ⟨gf, 0, none⟩ = some (.int .i64 f0) := (blk_cell (HW.out).blk 0).trans rfl
        have c_fl_1 : wr.cell? ⟨gf, 1, none⟩ = some (.int .i64 f1) := (blk_cell (HW.out).blk 1).trans rfl
        have c_fl_2 : wr.cell? ⟨gf, 2, none⟩ = some (.bool f2) := (blk_cell (HW.out).blk 2).trans rfl
        go_wp2
        have Hb21 := Aside0.mk HW.out.drew
        clear c_fl_0 c_fl_1 c_fl_2
        have c_fl_0 : (wr).drew.cell? ⟨gf, 0, none⟩ = some (.int .i64 f0) := (blk_cell (Hb21.out).blk 0).trans rfl
        have c_fl_1 : (wr).drew.cell? ⟨gf, 1, none⟩ = some (.int .i64 f1) := (blk_cell (Hb21.out).blk 1).trans rfl
        have c_fl_2 : (wr).drew.cell? ⟨gf, 2, none⟩ = some (.bool f2) := (blk_cell (Hb21.out).blk 2).trans rfl
        refine wp_regionK (T := (fun w' => w'.cell? ⟨gf, 0, none⟩ = some (.int .i64 f0) ∧ w'.cell? ⟨gf, 1, none⟩ = some (.int .i64 f1) ∧ w'.cell? ⟨gf, 2, none⟩ = some (.bool f2) ∧ w'.cell? ⟨g, m * 3, none⟩ = some (.int .i64 f0) ∧ w'.cell? ⟨g, m * 3 + 1, none⟩ = some (.int .i64 f1) ∧ w'.cell? ⟨g, m * 3 + 2, none⟩ = some (.bool f2))) 6 (by kernel_rfl) ?_ (fun hHeld => ?_)
        · exact ⟨c_fl_0, c_fl_1, c_fl_2, Y0.out, Y1.out, Y2.out⟩
        refine takeWK (i := 0) (v := ?_) rfl rfl (by kernel_rfl) (by kernel_rfl) (by kernel_rfl) (by kernel_rfl) (by rfl) (by rfl) (by kernel_rfl) (fun _ _ _ h => h) (by rfl) ?_ hHeld ?_
        rotate_left 1
        · (intro w hSw; (try dsimp only at hSw); go_simp <;> (try with_reducible rfl))
        (try simp only [Act.put, List.setIfInBounds_toArray, List.set_cons_zero, List.set_cons_succ])
        refine takeWK (i := 1) (v := ?_) rfl rfl (by kernel_rfl) (by kernel_rfl) (by kernel_rfl) (by kernel_rfl) (by rfl) (by rfl) (by kernel_rfl) (fun _ _ _ h => h) (by rfl) ?_ hHeld ?_
        rotate_left 1
        · (intro w hSw; (try dsimp only at hSw); go_simp <;> (try with_reducible rfl))
        (try simp only [Act.put, List.setIfInBounds_toArray, List.set_cons_zero, List.set_cons_succ])
        refine takeWK (i := 2) (v := ?_) rfl rfl (by kernel_rfl) (by kernel_rfl) (by kernel_rfl) (by kernel_rfl) (by rfl) (by rfl) (by kernel_rfl) (fun _ _ _ h => h) (by rfl) ?_ hHeld ?_
        rotate_left 1
        · (intro w hSw; (try dsimp only at hSw); go_simp <;> (try with_reducible rfl))
        (try simp only [Act.put, List.setIfInBounds_toArray, List.set_cons_zero, List.set_cons_succ])
        refine takeWK (i := 3) (v := ?_) rfl rfl (by kernel_rfl) (by kernel_rfl) (by kernel_rfl) (by kernel_rfl) (by rfl) (by rfl) (by kernel_rfl) (fun _ _ _ h => h) (by rfl) ?_ hHeld ?_
        rotate_left 1
        · (intro w hSw; (try dsimp only at hSw); go_simp <;> (try with_reducible rfl))
        (try simp only [Act.put, List.setIfInBounds_toArray, List.set_cons_zero, List.set_cons_succ])
        refine takeWK (i := 4) (v := ?_) rfl rfl (by kernel_rfl) (by kernel_rfl) (by kernel_rfl) (by kernel_rfl) (by rfl) (by rfl) (by kernel_rfl) (fun _ _ _ h => h) (by rfl) ?_ hHeld ?_
        rotate_left 1
        · (intro w hSw; (try dsimp only at hSw); go_simp <;> (try with_reducible rfl))
        (try simp only [Act.put, List.setIfInBounds_toArray, List.set_cons_zero, List.set_cons_succ])
        refine takeWK (i := 5) (v := ?_) rfl rfl (by kernel_rfl) (by kernel_rfl) (by kernel_rfl) (by kernel_rfl) (by rfl) (by rfl) (by kernel_rfl) (fun _ _ _ h => h) (by rfl) ?_ hHeld ?_
        rotate_left 1
        · (intro w hSw; (try dsimp only at hSw); go_simp <;> (try with_reducible rfl))
        (try simp only [Act.put, List.setIfInBounds_toArray, List.set_cons_zero, List.set_cons_succ])
        refine doneK (by kernel_rfl) ?_ _
        go_wp2
        go_roundg k1
        case measure => have := HK.out; omega
        case rel => exact ⟨m + 1, k + 1, rfl, ⟨by rw [HM.out]; rfl⟩, ⟨by have := HK.out; omega⟩, ⟨by omega⟩, ⟨(Hb21.out)⟩⟩
    · have e1 : decide ((m : Int) < (l.length : Int) + 3) = false := decide_eq_false (by omega)
      have e2 : decide (m < l.length + 3) = false := decide_eq_false (by omega)
      go_wp2
      go_ret
      exact ⟨rfl, HW.out.drop⟩
end Go.Proofs.Ytkgjokidfbpnbaa.InW
namespace Go.Proofs.Ytkgjokidfbpnbaa.InW
open Go Go.RowKit Go.Proofs.YtkgjokidfbpnbaaW.PrintWords Go.Proofs.YtkgjokidfbpnbaaW.PrintLast Go.Proofs.YtkgjokidfbpnbaaW.PrintMore Go.Proofs.Ytkgjokidfbpnbaa.Sep
set_option linter.unusedVariables false
set_option linter.unusedSimpArgs false
def rc (c : Col) : Rc := ⟨c.l, if c.d = true then c.e else -1⟩
structure okT (cs : List Col) : Prop where
  wf : wfT cs
  pos : 0 < cs.length
  len : cs.length ≤ 900000
  e : ∀ c ∈ cs, c.d = true → 0 ≤ c.e
theorem rAt_map {cs : List Col} {p : Int} (h : isP cs p) : rAt (cs.map rc) p = rc (cAt cs p) := by
  have hj : p.toNat - 1 < cs.length := by unfold isP at h; omega
  rw [rAt_get (by simpa using hj), cAt_get hj, List.getElem_map]
theorem is_map {cs : List Col} {p : Int} : (1 ≤ p ∧ p ≤ ((cs.map rc).length : Int)) ↔ isP cs p := by rw [List.length_map]; exact Iff.rfl
theorem map_set (cs : List Col) (j : Nat) (c : Col) : (cs.set j c).map rc = (cs.map rc).set j (rc c) := List.map_set ..
theorem okT.at {cs : List Col} (h : okT cs) {p : Int} (hp : isP cs p) (hd : (cAt cs p).d = true) : 0 ≤ (cAt cs p).e := by
  have hj : p.toNat - 1 < cs.length := by unfold isP at hp; omega
  rw [cAt_get hj] at hd ⊢
  exact h.e _ (List.getElem_mem hj) hd
theorem rend_eq {cs : List Col} (h : okT cs) (p n : Int) : rEnd (cs.map rc) p n = ((end_ cs p n).1, (end_ cs p n).2.map rc) := by
  unfold rEnd end_
  by_cases hp : isP cs p
  · rw [rAt_map hp]
    have hi := is_map.2 hp
    have h1 : ((rc (cAt cs p)).e < 0) ↔ (cAt cs p).d = false := by
      unfold rc
      cases hd : (cAt cs p).d with
      | true => have := h.at hp hd; simp; omega
      | false => simp
    by_cases hq : (cAt cs p).d = false ∧ ((cAt cs p).l.length : Int) ≤ n ∧ n ≤ 10000
    · rw [if_pos ⟨hi, h1.2 hq.1, hq.2⟩, if_pos ⟨hp, hq⟩, map_set]
      rfl
    · rw [if_neg (fun x => hq ⟨h1.1 x.2.1, x.2.2⟩), if_neg (fun x => hq x.2)]
  · rw [if_neg (fun x => hp (is_map.1 x.1)), if_neg (fun x => hp x.1)]
theorem rhave_eq (cs : List Col) (p : Int) : rHave (cs.map rc) p = have_ cs p := by
  unfold rHave have_
  by_cases hp : isP cs p
  · rw [if_pos (is_map.2 hp), if_pos hp, rAt_map hp]; rfl
  · rw [if_neg (fun x => hp (is_map.1 x)), if_neg hp]
theorem rended_eq {cs : List Col} (h : okT cs) (p : Int) : rEnded (cs.map rc) p = ended_ cs p := by
  unfold rEnded ended_
  by_cases hp : isP cs p
  · rw [rAt_map hp]
    cases hd : (cAt cs p).d with
    | true =>
      have h1 := h.at hp hd
      have h2 : (rc (cAt cs p)).e = (cAt cs p).e := by unfold rc; rw [hd]; rfl
      rw [if_pos ⟨is_map.2 hp, by rw [h2]; exact h1⟩, if_pos ⟨hp, rfl⟩, h2]
    | false =>
      have h2 : (rc (cAt cs p)).e = -1 := by unfold rc; rw [hd]; rfl
      rw [if_neg (fun x => by have := x.2; rw [h2] at this; omega), if_neg (fun x => by cases x.2)]
  · rw [if_neg (fun x => hp (is_map.1 x.1)), if_neg (fun x => hp x.1)]
theorem rat_eq {cs : List Col} (h : okT cs) (p f : Int) : rAtf (cs.map rc) p f = at_ cs p f := by
  unfold rAtf at_
  by_cases hp : isP cs p ∧ 0 ≤ f
  · rw [if_pos ⟨is_map.2 hp.1, hp.2⟩, if_pos hp, rAt_map hp.1]
    have hel : (rc (cAt cs p)).l = (cAt cs p).l := rfl
    rw [hel]
    by_cases h1 : f < ((cAt cs p).l.length : Int)
    · rw [if_pos h1, if_pos h1]
    · rw [if_neg h1, if_neg h1]
      have he : (0 ≤ (rc (cAt cs p)).e ∧ (rc (cAt cs p)).e ≤ f) ↔ ((cAt cs p).d = true ∧ (cAt cs p).e ≤ f) := by
        unfold rc
        cases hd : (cAt cs p).d with
        | true => have := h.at hp.1 hd; simp; omega
        | false => simp
      by_cases h2 : (cAt cs p).d = true ∧ (cAt cs p).e ≤ f
      · rw [if_pos (he.2 h2), if_pos h2]
      · rw [if_neg (fun x => h2 (he.1 x)), if_neg h2]
        by_cases h3 : (cAt cs p).l.length = 0
        · rw [if_pos h3, if_pos h3]; rfl
        · rw [if_neg h3, if_neg h3]
  · rw [if_neg (fun x => hp ⟨is_map.1 x.1, x.2⟩), if_neg hp]
theorem rgo_eq {fr : Int} (hfr : 0 ≤ fr) : ∀ (xs : List In) (c : Col) (i : Nat) (n : Int), (c.d = true → 0 ≤ c.e) → rGo fr (rc c).e c.l i xs n = ((addGo c fr i xs n).1.l, (addGo c fr i xs n).2) ∧ (addGo c fr i xs n).1.e = c.e ∧ (addGo c fr i xs n).1.d = c.d := by
  intro xs
  induction xs with
  | nil => intro c i n _; exact ⟨rfl, rfl, rfl⟩
  | cons x xs ih =>
    intro c i n hd
    rw [rGo, addGo]
    by_cases h1 : rightI x = false
    · rw [if_pos h1, if_pos (.inl h1)]; exact ⟨rfl, rfl, rfl⟩
    · rw [if_neg h1]
      by_cases h2 : (i : Int) < (c.l.length : Int) - fr
      · rw [if_pos h2, if_neg (by rintro (x | x | x) <;> first | exact h1 x | omega), if_pos h2]
        exact ih c (i + 1) n hd
      · rw [if_neg h2]
        have he : (0 ≤ (rc c).e ∧ (rc c).e ≤ (c.l.length : Int)) ↔ (c.d = true ∧ c.e ≤ (c.l.length : Int)) := by
          unfold rc
          cases hdd : c.d with
          | true => have := hd hdd; simp; omega
          | false => simp
        by_cases h3 : (i : Int) = (c.l.length : Int) - fr
        · have n3 : ¬ (rightI x = false ∨ (c.l.length : Int) < fr ∨ (c.l.length : Int) - fr < i) := by rintro (x | x | x) <;> first | exact h1 x | omega
          rw [if_neg n3]
          rw [if_neg h2]
          by_cases h4 : (c.d = true ∧ c.e ≤ (c.l.length : Int)) ∨ 10000 ≤ (c.l.length : Int)
          · rw [if_pos (.inr (h4.imp he.2 id)), if_pos h4]; exact ⟨rfl, rfl, rfl⟩
          · rw [if_neg (by rintro (x | x | x); exact x h3; exact h4 (.inl (he.1 x)); exact h4 (.inr x)), if_neg h4]
            exact ih ⟨c.l ++ [x], c.e, c.d⟩ (i + 1) (n + 1) hd
        · rw [if_pos (.inl h3), if_pos (.inr (by omega))]
          exact ⟨rfl, rfl, rfl⟩
theorem radd_eq {cs : List Col} (h : okT cs) (p fr : Int) (xs : List In) : rAdd (cs.map rc) p fr xs = ((add_ cs p fr xs).1, (add_ cs p fr xs).2.map rc) := by
  unfold rAdd add_
  by_cases hp : isP cs p ∧ 0 ≤ fr
  · rw [if_pos ⟨is_map.2 hp.1, hp.2⟩, if_pos hp, rAt_map hp.1]
    obtain ⟨h1, h2, h3⟩ := rgo_eq hp.2 xs (cAt cs p) 0 0 (h.at hp.1)
    have e1 : (rc (cAt cs p)).l = (cAt cs p).l := rfl
    rw [e1, h1, map_set]
    congr 2
    unfold rc
    rw [h2, h3]
  · rw [if_neg (fun x => hp ⟨is_map.1 x.1, x.2⟩), if_neg hp]
theorem rstream_eq (cs : List Col) (p fr mo : Int) : rStream (cs.map rc) p fr mo = stream_ cs p fr mo := by
  unfold rStream stream_
  by_cases hp : isP cs p
  · have e1 : (rAt (cs.map rc) p).l = (cAt cs p).l := by rw [rAt_map hp]; rfl
    rw [e1]
    by_cases hq : 0 ≤ fr ∧ fr < ((cAt cs p).l.length : Int) ∧ 1 ≤ mo
    · rw [if_pos ⟨is_map.2 hp, hq⟩, if_pos ⟨hp, hq⟩]
    · rw [if_neg (fun x => hq x.2), if_neg (fun x => hq x.2)]
  · rw [if_neg (fun x => hp (is_map.1 x.1)), if_neg (fun x => hp x.1)]
theorem okT.end_ {cs : List Col} (h : okT cs) (p n : Int) (hn : I64 n) : okT (end_ cs p n).2 := by
  have hw := h.wf.end_ p n hn
  unfold InW.end_ at hw ⊢
  split
  · rename_i hq
    rw [if_pos hq] at hw
    refine ⟨hw, by rw [List.length_set]; exact h.pos, by rw [List.length_set]; exact h.len, fun c hc hd => ?_⟩
    rcases List.mem_or_eq_of_mem_set hc with hc | rfl
    · exact h.e c hc hd
    · have := hq.2.2.1; show 0 ≤ n; omega
  · exact h
theorem okT.add_ {cs : List Col} (h : okT cs) (p fr : Int) (xs : List In) : okT (add_ cs p fr xs).2 := by
  have hw := h.wf.add_ p fr xs
  unfold InW.add_ at hw ⊢
  split
  · rename_i hq
    rw [if_pos hq] at hw
    refine ⟨hw, by rw [List.length_set]; exact h.pos, by rw [List.length_set]; exact h.len, fun c hc hd => ?_⟩
    rcases List.mem_or_eq_of_mem_set hc with hc | rfl
    · exact h.e c hc hd
    · obtain ⟨h1, h2, h3⟩ := rgo_eq hq.2 xs (cAt cs p) 0 0 (h.at hq.1)
      rw [h3] at hd
      rw [h2]
      exact h.at hq.1 hd
  · exact h
theorem okT.new (n : Int) : okT (List.replicate (clampP n) col0) := by
  have h6 : 1 ≤ clampP n ∧ clampP n ≤ 6 := by unfold clampP; omega
  refine ⟨wfT.new _ (by omega), by rw [List.length_replicate]; omega, by rw [List.length_replicate]; omega, fun c hc hd => ?_⟩
  rw [(List.mem_replicate.1 hc).2] at hd
  cases hd
theorem new_map (n : Int) : List.replicate (clampP n) (⟨[], -1⟩ : Rc) = (List.replicate (clampP n) col0).map rc := by rw [List.map_replicate]; rfl
section
variable {w0 w : World} {base g : Nat} {cs cs' : List Col} {F : List Asr}
theorem okT.rl (h : okT cs) : ∀ c ∈ cs.map rc, c.l.length ≤ 10000 ∧ I64 c.e := by
  intro c hc
  obtain ⟨d, hd, rfl⟩ := List.mem_map.1 hc
  have := h.wf.2 d hd
  refine ⟨this.1, ?_⟩
  unfold rc
  show I64 (if d.d = true then d.e else -1)
  split
  · exact this.2
  · omega
theorem okT.rn (h : okT cs) : (cs.map rc).length ≤ 1000000 := by rw [List.length_map]; have := h.len; omega
theorem endS (h : Has w0 base w (tab g cs :: F)) (ok : okT cs) (p n : Int) (hp : I64 p) (hn : I64 n) {b : Bool} (he : end_ cs p n = (b, cs')) :
    Calls Try.prog 15 #[.pointer (some ⟨g, 0, none⟩), .int .i64 p, .int .i64 n] w fun e w' => e = .returned (.bool b) ∧ Has w0 base w' (tab g cs' :: F) := by
  have := end.H h ok.wf p n hp hn
  rw [he] at this
  exact this
theorem rendS (h : Has w0 base w (refT g (cs.map rc) :: F)) (ok : okT cs) (p n : Int) (hp : I64 p) (hn : I64 n) {b : Bool} (he : end_ cs p n = (b, cs')) :
    Calls Try.prog 20 #[.pointer (some ⟨g, 0, none⟩), .int .i64 p, .int .i64 n] w fun e w' => e = .returned (.bool b) ∧ Has w0 base w' (refT g (cs'.map rc) :: F) := by
  have := rend.H h ok.rn p n hp hn
  rw [rend_eq ok, he] at this
  exact this
theorem haveS (h : Has w0 base w (tab g cs :: F)) (ok : okT cs) (p : Int) (hp : I64 p) {m : Int} (he : have_ cs p = m) :
    Calls Try.prog 14 #[.pointer (some ⟨g, 0, none⟩), .int .i64 p] w fun e w' => e = .returned (.int .i64 m) ∧ Has w0 base w' (tab g cs :: F) := by
  have := have.H h ok.wf p hp
  rw [he] at this
  exact this
theorem rhaveS (h : Has w0 base w (refT g (cs.map rc) :: F)) (ok : okT cs) (p : Int) (hp : I64 p) {m : Int} (he : have_ cs p = m) :
    Calls Try.prog 25 #[.pointer (some ⟨g, 0, none⟩), .int .i64 p] w fun e w' => e = .returned (.int .i64 m) ∧ Has w0 base w' (refT g (cs.map rc) :: F) := by
  have := rhave.H h ok.rn p hp
  rw [rhave_eq, he] at this
  exact this
theorem endedS (h : Has w0 base w (tab g cs :: F)) (ok : okT cs) (p : Int) (hp : I64 p) {m : Int} {b : Bool} (he : ended_ cs p = (m, b)) :
    Calls Try.prog 16 #[.pointer (some ⟨g, 0, none⟩), .int .i64 p] w fun e w' => e = .returned (.tuple #[.int .i64 m, .bool b]) ∧ Has w0 base w' (tab g cs :: F) := by
  have := ended.H h ok.wf p hp
  rw [he] at this
  exact this
theorem rendedS (h : Has w0 base w (refT g (cs.map rc) :: F)) (ok : okT cs) (p : Int) (hp : I64 p) {m : Int} {b : Bool} (he : ended_ cs p = (m, b)) :
    Calls Try.prog 27 #[.pointer (some ⟨g, 0, none⟩), .int .i64 p] w fun e w' => e = .returned (.tuple #[.int .i64 m, .bool b]) ∧ Has w0 base w' (refT g (cs.map rc) :: F) := by
  have := rended.H h ok.rn p hp
  rw [rended_eq ok, he] at this
  exact this
theorem atS (h : Has w0 base w (tab g cs :: F)) (ok : okT cs) (p f : Int) (hp : I64 p) (hf : I64 f) {x : In} {b : Bool} (he : at_ cs p f = (x, b)) :
    Calls Try.prog 13 #[.pointer (some ⟨g, 0, none⟩), .int .i64 p, .int .i64 f] w fun e w' => e = .returned (.tuple #[.agg #[.int .i64 x.1, .int .i64 x.2.1, .bool x.2.2], .bool b]) ∧ Has w0 base w' (tab g cs :: F) := by
  have := at.H h ok.wf p f hp hf
  rw [he] at this
  exact this
theorem ratS (h : Has w0 base w (refT g (cs.map rc) :: F)) (ok : okT cs) (p f : Int) (hp : I64 p) (hf : I64 f) {x : In} {b : Bool} (he : at_ cs p f = (x, b)) :
    Calls Try.prog 26 #[.pointer (some ⟨g, 0, none⟩), .int .i64 p, .int .i64 f] w fun e w' => e = .returned (.tuple #[.agg #[.int .i64 x.1, .int .i64 x.2.1, .bool x.2.2], .bool b]) ∧ Has w0 base w' (refT g (cs.map rc) :: F) := by
  have := rat.H h ok.rn (fun c hc => ⟨by have := (ok.rl c hc).1; omega, (ok.rl c hc).2⟩) p f hp hf
  rw [rat_eq ok, he] at this
  exact this
theorem addS (h : Has w0 base w (tab g cs :: F)) (ok : okT cs) (p fr : Int) (hp : I64 p) (hfr : I64 fr) (A : Option Addr) (cx : Nat) (xs : List In) (hx : xs.length ≤ 1000000) (hxs : ∀ W : World, Has w0 base W F → Kd.C kin W A xs.length xs) {m : Int} (he : add_ cs p fr xs = (m, cs')) :
    Calls Try.prog 12 #[.pointer (some ⟨g, 0, none⟩), .int .i64 p, .int .i64 fr, .slice A xs.length cx] w fun e w' => e = .returned (.int .i64 m) ∧ Has w0 base w' (tab g cs' :: F) := by
  have := add.H h ok.wf p fr hp hfr A cx xs hx (fun W cs' hW => hxs W hW.drop)
  rw [he] at this
  exact this
theorem raddS (h : Has w0 base w (refT g (cs.map rc) :: F)) (hb0 : w0.heap.size ≤ base) (ok : okT cs) (p fr : Int) (hp : I64 p) (hfr : I64 fr) (A : Option Addr) (cx : Nat) (xs : List In) (hx : xs.length ≤ 1000000) (hC : Kd.C kin w0 A xs.length xs) {m : Int} (he : add_ cs p fr xs = (m, cs')) :
    Calls Try.prog 23 #[.pointer (some ⟨g, 0, none⟩), .int .i64 p, .int .i64 fr, .slice A xs.length cx] w fun e w' => e = .returned (.int .i64 m) ∧ Has w0 base w' (refT g (cs'.map rc) :: F) := by
  have := radd.H h hb0 ok.rn ok.rl p fr hp hfr A cx xs hx hC
  rw [radd_eq ok, he] at this
  exact this
end
end Go.Proofs.Ytkgjokidfbpnbaa.InW
