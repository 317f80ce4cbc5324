/- Lines in memory as one part; a line, and a row of a line, laid open and shut again. No condition. -/
import Derived.Test.YtmgdpkmmcmglfaaMarkFit
import Derived.Test.YtmgdpkmmcmglfaaRules3
namespace Go.Proofs.Ytmgdpkmmcmglfaa.PMarkOrder
open Go Go.RowKit Go.Proofs.YtmgdpkmmcmglfaaW.PrintWords Go.Proofs.YtmgdpkmmcmglfaaW.PrintLast Go.Proofs.YtmgdpkmmcmglfaaW.PrintMore Go.Proofs.Ytmgdpkmmcmglfaa.Sep
open Go.Proofs.Ytmgdpkmmcmglfaa.MarkW (nearG kline)
set_option linter.unusedVariables false
set_option linter.unusedSimpArgs false
/-- lines: the row and all that it leads to -/
def linesP (v : Value) (ys : List S44) : Asr where
  P w S := ∃ xs : List (Value × Value), xs.length = ys.length ∧ (stars (row (kcells 4) 44 v (rawLs xs ys) :: linesA xs ys)).P w S
  loc := by
    rintro w w' S ⟨xs, h1, h⟩ hz hs
    exact ⟨xs, h1, (stars _).loc h hz hs⟩
  lt := fun ⟨xs, h1, h⟩ => (stars _).lt h
theorem linesP_shut {w0 w : World} {base : Nat} {v : Value} {xs : List (Value × Value)} {ys : List S44} {F : List Asr} (hl : xs.length = ys.length) (h : Has w0 base w (row (kcells 4) 44 v (rawLs xs ys) :: (linesA xs ys ++ F))) : Has w0 base w (linesP v ys :: F) :=
  (Has.sht (L := row (kcells 4) 44 v (rawLs xs ys) :: linesA xs ys) h).imp (fun hP => ⟨xs, hl, hP⟩)
theorem linesP_open {w0 w : World} {base : Nat} {v : Value} {ys : List S44} {F : List Asr} (h : Has w0 base w (linesP v ys :: F)) : ∃ xs : List (Value × Value), xs.length = ys.length ∧ Has w0 base w (row (kcells 4) 44 v (rawLs xs ys) :: (linesA xs ys ++ F)) := by
  obtain ⟨h1, h2, S, ⟨S1, S2, e, d, ⟨xs, hl, hA⟩, hF⟩, hb⟩ := h
  exact ⟨xs, hl, Has.opn (L := row (kcells 4) 44 v (rawLs xs ys) :: linesA xs ys) ⟨h1, h2, S, ⟨S1, S2, e, d, hA, hF⟩, hb⟩⟩
/-! #### reading -/
theorem rowsB_at {w : World} : ∀ (vs : List Value) (ys : List (List Bool)) {S : Nat → Prop}, vs.length = ys.length → (stars (rowsB vs ys)).P w S → ∀ (j : Nat) (y : List Bool), ys[j]? = some y → ∃ A c, vs[j]? = some (.slice A y.length c) ∧ y.length ≤ c ∧ Kd.C Kd.bool w A y.length y := by
  intro vs
  induction vs with
  | nil => intro ys S hl _ j y hj; cases ys with
    | nil => cases hj
    | cons _ _ => simp at hl
  | cons v vs ih => intro ys S hl hP j y hj; cases ys with
    | nil => simp at hl
    | cons z ys =>
      obtain ⟨S1, S2, e, d, hA, hB⟩ := hP
      cases j with
      | zero =>
        obtain rfl : z = y := by simpa using hj
        obtain ⟨A, c, e1, h2, h3⟩ := Kd.R_reads hA.1
        exact ⟨A, c, by rw [e1]; rfl, h2, h3⟩
      | succ j => exact ih ys (by simpa using hl) hB j y (by simpa using hj)
theorem raw1_at {vs : List Value} {j : Nat} {v : Value} (h : vs[j]? = some v) : (raw1 vs)[j]? = some [v] := by unfold raw1; rw [List.getElem?_map, h]; rfl
theorem raw1_len (vs : List Value) : (raw1 vs).length = vs.length := by simp [raw1]
theorem sepRows_P {w : World} {v : Value} {ys : List (List Bool)} {S : Nat → Prop} (h : (sepRows v ys).P w S) : ∃ A c, v = .slice A ys.length c ∧ ys.length ≤ c ∧ Kd.C (Kd.slice 4 Kd.bool) w A ys.length ys := by
  obtain ⟨vs, hl, S1, S2, e, d, hA, hB⟩ := h
  obtain ⟨A, c, e1, h2, h3⟩ := Kd.R_reads hA.1
  rw [raw1_len, hl] at e1 h2 h3
  refine ⟨A, c, e1, h2, rfl, h3.2.1, fun hn => ?_⟩
  obtain ⟨ad, ea, hc⟩ := h3.2.2 hn
  refine ⟨ad, ea, fun j y hj => ?_⟩
  obtain ⟨B, cb, e2, l2, c2⟩ := rowsB_at vs ys hl hB j y hj
  obtain ⟨cs, hcl, hK, hcc⟩ := hc j _ (raw1_at e2)
  obtain rfl : cs = _ := hK.1
  exact ⟨_, rfl, ⟨B, cb, rfl, l2, c2⟩, hcc⟩
theorem linesA_at {w : World} : ∀ (xs : List (Value × Value)) (ys : List S44) {S : Nat → Prop}, xs.length = ys.length → (stars (linesA xs ys)).P w S → ∀ (j : Nat) (y : S44), ys[j]? = some y → ∃ cs, (rawLs xs ys)[j]? = some cs ∧ k44.K w y cs := by
  intro xs
  induction xs with
  | nil => intro ys S hl _ j y hj; cases ys with
    | nil => cases hj
    | cons _ _ => simp at hl
  | cons x xs ih => intro ys S hl hP j y hj; cases ys with
    | nil => simp at hl
    | cons z ys =>
      obtain ⟨S1, S2, e, d, hA, hB⟩ := hP
      cases j with
      | zero =>
        obtain rfl : z = y := by simpa using hj
        obtain ⟨S3, S4, _, _, hA1, hA2⟩ := hA
        obtain ⟨A, c, e1, h2, h3⟩ := Kd.R_reads hA1.1
        obtain ⟨A3, c3, e3, h4, h5⟩ := sepRows_P hA2
        refine ⟨_, rfl, ?_⟩
        show k44.K w z [.int .i64 z.f0, .int .i64 z.f1, x.1, x.2]
        rw [e1, e3]
        exact k44_mk w z h2 h3 h4 h5
      | succ j => exact ih ys (by simpa using hl) hB j y (by simpa using hj)
theorem linesP_P {w : World} {v : Value} {ys : List S44} {S : Nat → Prop} (h : (linesP v ys).P w S) : ∃ A c, v = .slice A ys.length c ∧ ys.length ≤ c ∧ Kd.C k44 w A ys.length ys := by
  obtain ⟨xs, hl, S1, S2, e, d, hA, hB⟩ := h
  obtain ⟨A, c, e1, h2, h3⟩ := Kd.R_reads hA.1
  rw [rawLs_len _ _ hl] at e1 h2 h3
  refine ⟨A, c, e1, h2, rfl, h3.2.1, fun hn => ?_⟩
  obtain ⟨ad, ea, hc⟩ := h3.2.2 hn
  refine ⟨ad, ea, fun j y hj => ?_⟩
  obtain ⟨cs', e2, hK2⟩ := linesA_at xs ys hl hB j y hj
  obtain ⟨cs, hcl, hK, hcc⟩ := hc j _ e2
  obtain rfl : cs = _ := hK.1
  exact ⟨_, hcl, hK2, hcc⟩
theorem linesP_N {w0 w : World} {base : Nat} {A : Option Addr} {n c : Nat} {ys : List S44} {F : List Asr} (h : Has w0 base w (linesP (.slice A n c) ys :: F)) : n = ys.length ∧ n ≤ c ∧ Kd.C k44 w A n ys := by
  obtain ⟨S, h1, _⟩ := h.first
  obtain ⟨A', c', e, h2, h3⟩ := linesP_P h1
  injection e with e1 e2 e3
  subst e1 e2 e3
  exact ⟨rfl, h2, h3⟩
theorem fit.L {w0 w : World} {base : Nat} {F : List Asr} {c r p wi : Int} (s : Int) (h : Has w0 base w F) (hb0 : w0.heap.size ≤ base) (A1 : Option Addr) (c1 : Nat) (l : List S44) (hr1 : Kd.C k44 w0 A1 l.length l) (hR : R c r p wi) (hl : l.length ≤ 20) (hf : ∀ x ∈ l, x.f2.length ≤ 60 ∧ x.f3.length ≤ 60) :
    Calls Try.prog 14 #[.agg #[.int .i64 c, .int .i64 r, .int .i64 p, .int .i64 wi, .int .u64 s], .slice A1 l.length c1] w fun e w' => ∃ (A : Option Addr) (c' : Nat), e = .returned (.slice A l.length c') ∧ Has w0 base w' (linesP (.slice A l.length c') (fitL c r p wi s l) :: F) := by
  refine (fit.H s h hb0 A1 c1 l hr1 hR hl hf).mono ?_
  rintro e w' ⟨A, c', xs, e1, hx, h'⟩
  exact ⟨A, c', e1, linesP_shut (by rw [hx]; simp [fitL]) h'⟩
/-! #### a line laid open -/
theorem rawLs_cut : ∀ (X1 : List (Value × Value)) (Y1 : List S44) (x : Value × Value) (y : S44) (X2 : List (Value × Value)) (Y2 : List S44), X1.length = Y1.length → rawLs (X1 ++ x :: X2) (Y1 ++ y :: Y2) = rawLs X1 Y1 ++ rawL x y :: rawLs X2 Y2 := by
  intro X1
  induction X1 with
  | nil => intro Y1 x y X2 Y2 h; cases Y1 with
    | nil => rfl
    | cons _ _ => simp at h
  | cons u X1 ih => intro Y1 x y X2 Y2 h; cases Y1 with
    | nil => simp at h
    | cons z Y1 => show _ :: rawLs (X1 ++ x :: X2) (Y1 ++ y :: Y2) = _; rw [ih _ _ _ _ _ (by simpa using h)]; rfl
theorem linesA_cut : ∀ (X1 : List (Value × Value)) (Y1 : List S44) (x : Value × Value) (y : S44) (X2 : List (Value × Value)) (Y2 : List S44), X1.length = Y1.length → linesA (X1 ++ x :: X2) (Y1 ++ y :: Y2) = linesA X1 Y1 ++ sepLine x y :: linesA X2 Y2 := by
  intro X1
  induction X1 with
  | nil => intro Y1 x y X2 Y2 h; cases Y1 with
    | nil => rfl
    | cons _ _ => simp at h
  | cons u X1 ih => intro Y1 x y X2 Y2 h; cases Y1 with
    | nil => simp at h
    | cons z Y1 => show _ :: linesA (X1 ++ x :: X2) (Y1 ++ y :: Y2) = _; rw [ih _ _ _ _ _ (by simpa using h)]; rfl
theorem rowsB_cut : ∀ (X1 : List Value) (Y1 : List (List Bool)) (x : Value) (y : List Bool) (X2 : List Value) (Y2 : List (List Bool)), X1.length = Y1.length → rowsB (X1 ++ x :: X2) (Y1 ++ y :: Y2) = rowsB X1 Y1 ++ row Kd.bool 4 x y :: rowsB X2 Y2 := by
  intro X1
  induction X1 with
  | nil => intro Y1 x y X2 Y2 h; cases Y1 with
    | nil => rfl
    | cons _ _ => simp at h
  | cons u X1 ih => intro Y1 x y X2 Y2 h; cases Y1 with
    | nil => simp at h
    | cons z Y1 => show _ :: rowsB (X1 ++ x :: X2) (Y1 ++ y :: Y2) = _; rw [ih _ _ _ _ _ (by simpa using h)]; rfl
theorem cut_len {α β : Type} {xs : List α} {Y1 Y2 : List β} {y : β} (h : xs.length = (Y1 ++ y :: Y2).length) : ∃ X1 x X2, xs = X1 ++ x :: X2 ∧ X1.length = Y1.length ∧ X2.length = Y2.length := by
  rw [List.length_append, List.length_cons] at h
  refine ⟨xs.take Y1.length, xs[Y1.length]'(by omega), xs.drop (Y1.length + 1), ?_, by rw [List.length_take]; omega, by rw [List.length_drop]; omega⟩
  rw [← List.drop_eq_getElem_cons, List.take_append_drop]
theorem perm_lens (R A : Asr) (L1 L2 F : List Asr) : (R :: (L1 ++ A :: L2 ++ F)).Perm (R :: A :: (L1 ++ L2 ++ F)) := by
  refine List.Perm.cons R ?_
  simp
/-- a line and the others -/
theorem linesP_zoom {w0 w : World} {base : Nat} {v : Value} {Y1 : List S44} {y : S44} {Y2 : List S44} {F : List Asr} (h : Has w0 base w (linesP v (Y1 ++ y :: Y2) :: F)) : ∃ (R1 R2 : List (List Value)) (v2 v3 : Value) (O : Asr), R1.length = Y1.length ∧ R2.length = Y2.length ∧ Has w0 base w (row (kcells 4) 44 v (R1 ++ [.int .i64 y.f0, .int .i64 y.f1, v2, v3] :: R2) :: row Kd.bool 4 v2 y.f2 :: sepRows v3 y.f3 :: O :: F) ∧
    ∀ (w' : World) (v2' v3' : Value) (y' : S44) (F' : List Asr), Has w0 base w' (row (kcells 4) 44 v (R1 ++ [.int .i64 y'.f0, .int .i64 y'.f1, v2', v3'] :: R2) :: row Kd.bool 4 v2' y'.f2 :: sepRows v3' y'.f3 :: O :: F') → Has w0 base w' (linesP v (Y1 ++ y' :: Y2) :: F') := by
  obtain ⟨xs, hl, h1⟩ := linesP_open h
  obtain ⟨X1, ⟨v2, v3⟩, X2, rfl, l1, l2⟩ := cut_len hl
  rw [rawLs_cut _ _ _ _ _ _ l1, linesA_cut _ _ _ _ _ _ l1] at h1
  refine ⟨rawLs X1 Y1, rawLs X2 Y2, v2, v3, stars (linesA X1 Y1 ++ linesA X2 Y2), rawLs_len _ _ l1, rawLs_len _ _ l2, ?_, ?_⟩
  · have h2 := (h1.perm (perm_lens _ _ _ _ _)).sw
    have h3 := (sepLine_open h2).dn2
    have h5 : Has w0 base w ((linesA X1 Y1 ++ linesA X2 Y2) ++ (row (kcells 4) 44 v (rawLs X1 Y1 ++ rawL (v2, v3) y :: rawLs X2 Y2) :: row Kd.bool 4 v2 y.f2 :: sepRows v3 y.f3 :: F)) := by
      refine h3.perm ?_
      have q : ((sepRows v3 y.f3 :: row (kcells 4) 44 v (rawLs X1 Y1 ++ rawL (v2, v3) y :: rawLs X2 Y2) :: row Kd.bool 4 v2 y.f2 :: []) ++ (linesA X1 Y1 ++ linesA X2 Y2)).Perm ((linesA X1 Y1 ++ linesA X2 Y2) ++ (row (kcells 4) 44 v (rawLs X1 Y1 ++ rawL (v2, v3) y :: rawLs X2 Y2) :: row Kd.bool 4 v2 y.f2 :: sepRows v3 y.f3 :: [])) := List.perm_append_comm.trans (List.Perm.append_left _ ((List.Perm.swap _ _ _).trans (.cons _ (.swap _ _ _))))
      simpa using q.append_right F
    exact (Has.sht h5).dn3
  · intro w' v2' v3' y' F' h2
    have h2 : Has w0 base w' (row (kcells 4) 44 v (rawLs X1 Y1 ++ rawL (v2', v3') y' :: rawLs X2 Y2) :: row Kd.bool 4 v2' y'.f2 :: sepRows v3' y'.f3 :: stars (linesA X1 Y1 ++ linesA X2 Y2) :: F') := h2
    have h3 := Has.opn h2.up3
    refine linesP_shut (xs := X1 ++ (v2', v3') :: X2) (by simp [l1, l2]) ?_
    rw [rawLs_cut _ _ _ _ _ _ l1, linesA_cut _ _ _ _ _ _ l1]
    have h4 : Has w0 base w' (row Kd.bool 4 v2' y'.f2 :: sepRows v3' y'.f3 :: row (kcells 4) 44 v (rawLs X1 Y1 ++ rawL (v2', v3') y' :: rawLs X2 Y2) :: (linesA X1 Y1 ++ linesA X2 Y2 ++ F')) := by
      refine h3.perm ?_
      have q : ((linesA X1 Y1 ++ linesA X2 Y2) ++ (row (kcells 4) 44 v (rawLs X1 Y1 ++ rawL (v2', v3') y' :: rawLs X2 Y2) :: row Kd.bool 4 v2' y'.f2 :: sepRows v3' y'.f3 :: [])).Perm ((row Kd.bool 4 v2' y'.f2 :: sepRows v3' y'.f3 :: row (kcells 4) 44 v (rawLs X1 Y1 ++ rawL (v2', v3') y' :: rawLs X2 Y2) :: []) ++ (linesA X1 Y1 ++ linesA X2 Y2)) := (List.Perm.append_left _ ((List.Perm.swap _ _ _).trans (.cons _ (.swap _ _ _)))).trans List.perm_append_comm
      simpa using q.append_right F'
    exact (sepLine_shut (x := (v2', v3')) h4).sw.perm (perm_lens _ _ _ _ _).symm
/-- a row of rows: one row and the others -/
theorem sepRows_zoom {w0 w : World} {base : Nat} {v : Value} {Y1 : List (List Bool)} {y : List Bool} {Y2 : List (List Bool)} {F : List Asr} (h : Has w0 base w (sepRows v (Y1 ++ y :: Y2) :: F)) : ∃ (V1 V2 : List Value) (u : Value) (O : Asr), V1.length = Y1.length ∧ V2.length = Y2.length ∧ Has w0 base w (row (kcells 1) 41 v (raw1 (V1 ++ u :: V2)) :: row Kd.bool 4 u y :: O :: F) ∧
    ∀ (w' : World) (y' : List Bool) (F' : List Asr), Has w0 base w' (row (kcells 1) 41 v (raw1 (V1 ++ u :: V2)) :: row Kd.bool 4 u y' :: O :: F') → Has w0 base w' (sepRows v (Y1 ++ y' :: Y2) :: F') := by
  obtain ⟨vs, hl, h1⟩ := sepRows_open h
  obtain ⟨V1, u, V2, rfl, l1, l2⟩ := cut_len hl
  rw [rowsB_cut _ _ _ _ _ _ l1] at h1
  refine ⟨V1, V2, u, stars (rowsB V1 Y1 ++ rowsB V2 Y2), l1, l2, ?_, ?_⟩
  · have h2 := h1.perm (perm_lens _ _ _ _ _)
    have h5 : Has w0 base w ((rowsB V1 Y1 ++ rowsB V2 Y2) ++ (row (kcells 1) 41 v (raw1 (V1 ++ u :: V2)) :: row Kd.bool 4 u y :: F)) := by
      refine h2.perm ?_
      have q : ((row (kcells 1) 41 v (raw1 (V1 ++ u :: V2)) :: row Kd.bool 4 u y :: []) ++ (rowsB V1 Y1 ++ rowsB V2 Y2)).Perm ((rowsB V1 Y1 ++ rowsB V2 Y2) ++ (row (kcells 1) 41 v (raw1 (V1 ++ u :: V2)) :: row Kd.bool 4 u y :: [])) := List.perm_append_comm
      simpa using q.append_right F
    exact (Has.sht h5).dn2
  · intro w' y' F' h2
    have h3 := Has.opn h2.up2
    refine sepRows_shut (vs := V1 ++ u :: V2) (by simp [l1, l2]) ?_
    rw [rowsB_cut _ _ _ _ _ _ l1]
    have h4 : Has w0 base w' (row (kcells 1) 41 v (raw1 (V1 ++ u :: V2)) :: row Kd.bool 4 u y' :: (rowsB V1 Y1 ++ rowsB V2 Y2 ++ F')) := by
      refine h3.perm ?_
      have q : ((rowsB V1 Y1 ++ rowsB V2 Y2) ++ (row (kcells 1) 41 v (raw1 (V1 ++ u :: V2)) :: row Kd.bool 4 u y' :: [])).Perm ((row (kcells 1) 41 v (raw1 (V1 ++ u :: V2)) :: row Kd.bool 4 u y' :: []) ++ (rowsB V1 Y1 ++ rowsB V2 Y2)) := List.perm_append_comm
      simpa using q.append_right F'
    exact h4.perm (perm_lens _ _ _ _ _).symm
/-- a row of rows: its own row, and the rest -/
theorem sepRows_all {w0 w : World} {base : Nat} {v : Value} {ys : List (List Bool)} {F : List Asr} (h : Has w0 base w (sepRows v ys :: F)) : ∃ (vs : List Value) (O : Asr), vs.length = ys.length ∧ Has w0 base w (row (kcells 1) 41 v (raw1 vs) :: O :: F) ∧
    ∀ (w' : World) (v' u : Value) (y : List Bool) (F' : List Asr), Has w0 base w' (row (kcells 1) 41 v' (raw1 (vs ++ [u])) :: row Kd.bool 4 u y :: O :: F') → Has w0 base w' (sepRows v' (ys ++ [y]) :: F') := by
  obtain ⟨vs, hl, h1⟩ := sepRows_open h
  refine ⟨vs, stars (rowsB vs ys), hl, ?_, ?_⟩
  · have h5 : Has w0 base w (rowsB vs ys ++ (row (kcells 1) 41 v (raw1 vs) :: F)) := h1.perm List.perm_middle.symm
    exact (Has.sht h5).sw
  · intro w' v' u y F' h2
    have h3 := Has.opn h2.up2
    refine sepRows_shut (vs := vs ++ [u]) (by simp [hl]) ?_
    rw [rowsB_snoc _ _ _ _ hl]
    refine h3.perm ?_
    simp
end Go.Proofs.Ytmgdpkmmcmglfaa.PMarkOrder
