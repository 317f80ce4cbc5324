/- Lines in memory, each one's rows its own: what is told of them. No condition. -/
import Derived.Test.YtmgdpkmmcmglfaaMarkQ
import Derived.Test.YtmgdpkmmcmglfaaRawRow
import Derived.Test.YtmgdpkmmcmglfaaRegK
import Derived.Test.YtmgdpkmmcmglfaaWGuard
namespace Go.Proofs.Ytmgdpkmmcmglfaa.PMarkOrder
open Go Go.RowKit Go.Proofs.YtmgdpkmmcmglfaaW.PrintWords Go.Proofs.YtmgdpkmmcmglfaaW.PrintLast Go.Proofs.YtmgdpkmmcmglfaaW.PrintMore Go.Proofs.Ytmgdpkmmcmglfaa.Sep
open Go.Proofs.Ytmgdpkmmcmglfaa.MarkW (nearG)
set_option linter.unusedVariables false
set_option linter.unusedSimpArgs false
/-- rows of bools, each a part -/
def rowsB : List Value → List (List Bool) → List Asr
  | v :: vs, y :: ys => row Kd.bool 4 v y :: rowsB vs ys
  | _, _ => []
theorem rowsB_snoc : ∀ (vs : List Value) (ys : List (List Bool)) (v : Value) (y : List Bool), vs.length = ys.length → rowsB (vs ++ [v]) (ys ++ [y]) = rowsB vs ys ++ [row Kd.bool 4 v y] := by
  intro vs
  induction vs with
  | nil => intro ys v y h; cases ys with
    | nil => rfl
    | cons _ _ => simp at h
  | cons u vs ih => intro ys v y h; cases ys with
    | nil => simp at h
    | cons z ys =>
      show _ :: rowsB (vs ++ [v]) (ys ++ [y]) = _ :: (rowsB vs ys ++ _)
      rw [ih ys v y (by simpa using h)]
def raw1 (vs : List Value) : List (List Value) := vs.map fun v => [v]
/-- a row of rows, apart -/
def sepRows (v : Value) (ys : List (List Bool)) : Asr where
  P w S := ∃ vs : List Value, vs.length = ys.length ∧ (stars (row (kcells 1) 41 v (raw1 vs) :: rowsB vs ys)).P w S
  loc := by
    rintro w w' S ⟨vs, h1, h⟩ hz hs
    exact ⟨vs, h1, (stars _).loc h hz hs⟩
  lt := fun ⟨vs, h1, h⟩ => (stars _).lt h
/-- what a line leads to -/
def sepLine (x : Value × Value) (y : S44) : Asr := both (row Kd.bool 4 x.1 y.f2) (sepRows x.2 y.f3)
def linesA : List (Value × Value) → List S44 → List Asr
  | x :: xs, y :: ys => sepLine x y :: linesA xs ys
  | _, _ => []
theorem linesA_snoc : ∀ (xs : List (Value × Value)) (ys : List S44) (x : Value × Value) (y : S44), xs.length = ys.length → linesA (xs ++ [x]) (ys ++ [y]) = linesA xs ys ++ [sepLine x y] := by
  intro xs
  induction xs with
  | nil => intro ys x y h; cases ys with
    | nil => rfl
    | cons _ _ => simp at h
  | cons u xs ih => intro ys x y h; cases ys with
    | nil => simp at h
    | cons z ys =>
      show _ :: linesA (xs ++ [x]) (ys ++ [y]) = _ :: (linesA xs ys ++ _)
      rw [ih ys x y (by simpa using h)]
def rawL (x : Value × Value) (y : S44) : List Value := [.int .i64 y.f0, .int .i64 y.f1, x.1, x.2]
def rawLs : List (Value × Value) → List S44 → List (List Value)
  | x :: xs, y :: ys => rawL x y :: rawLs xs ys
  | _, _ => []
theorem rawLs_snoc : ∀ (xs : List (Value × Value)) (ys : List S44) (x : Value × Value) (y : S44), xs.length = ys.length → rawLs (xs ++ [x]) (ys ++ [y]) = rawLs xs ys ++ [rawL x y] := by
  intro xs
  induction xs with
  | nil => intro ys x y h; cases ys with
    | nil => rfl
    | cons _ _ => simp at h
  | cons u xs ih => intro ys x y h; cases ys with
    | nil => simp at h
    | cons z ys =>
      show _ :: rawLs (xs ++ [x]) (ys ++ [y]) = _ :: (rawLs xs ys ++ _)
      rw [ih ys x y (by simpa using h)]
theorem rawLs_len : ∀ (xs : List (Value × Value)) (ys : List S44), xs.length = ys.length → (rawLs xs ys).length = ys.length := by
  intro xs
  induction xs with
  | nil => intro ys h; cases ys with
    | nil => rfl
    | cons _ _ => simp at h
  | cons u xs ih => intro ys h; cases ys with
    | nil => simp at h
    | cons z ys => show (rawLs xs ys).length + 1 = ys.length + 1; rw [ih ys (by simpa using h)]
theorem Has.opn {w0 w : World} {base : Nat} {L F : List Asr} (h : Has w0 base w (stars L :: F)) : Has w0 base w (L ++ F) := by
  obtain ⟨h1, h2, S, ⟨S1, S2, e, d, hA, hF⟩, hb⟩ := h
  refine ⟨h1, h2, S, ?_, hb⟩
  clear h1 h2 hb
  revert S S1 S2
  induction L with
  | nil =>
    intro S S1 S2 e d hA hF
    have hA' : ∀ k, ¬ S1 k := hA
    have : S = S2 := funext fun k => propext ((e k).trans ⟨fun x => x.resolve_left (hA' k), .inr⟩)
    rw [this]; exact hF
  | cons A L ih =>
    intro S S1 S2 e d hA hF
    obtain ⟨SA, SL, e1, d1, hA, hL⟩ := hA
    refine ⟨SA, fun k => SL k ∨ S2 k, fun k => ?_, fun k hk hx => ?_, hA, ih _ SL S2 (fun k => Iff.rfl) (fun k hk hx => d k ((e1 k).2 (.inr hk)) hx) hL hF⟩
    · rw [e k, e1 k]; exact or_assoc
    · rcases hx with hx | hx
      · exact d1 k hk hx
      · exact d k ((e1 k).2 (.inl hk)) hx
theorem Has.sht {w0 w : World} {base : Nat} {L F : List Asr} (h : Has w0 base w (L ++ F)) : Has w0 base w (stars L :: F) := by
  obtain ⟨h1, h2, S, hS, hb⟩ := h
  exact ⟨h1, h2, S, stars_cut L F hS, hb⟩
/-- a row's parts are one -/
theorem sepRows_shut {w0 w : World} {base : Nat} {v : Value} {vs : List Value} {ys : List (List Bool)} {F : List Asr} (hl : vs.length = ys.length) (h : Has w0 base w (row (kcells 1) 41 v (raw1 vs) :: (rowsB vs ys ++ F))) : Has w0 base w (sepRows v ys :: F) :=
  (Has.sht (L := row (kcells 1) 41 v (raw1 vs) :: rowsB vs ys) h).imp (fun hP => ⟨vs, hl, hP⟩)
theorem sepRows_open {w0 w : World} {base : Nat} {v : Value} {ys : List (List Bool)} {F : List Asr} (h : Has w0 base w (sepRows v ys :: F)) : ∃ vs : List Value, vs.length = ys.length ∧ Has w0 base w (row (kcells 1) 41 v (raw1 vs) :: (rowsB vs ys ++ F)) := by
  obtain ⟨h1, h2, S, ⟨S1, S2, e, d, ⟨vs, hl, hA⟩, hF⟩, hb⟩ := h
  exact ⟨vs, hl, Has.opn (L := row (kcells 1) 41 v (raw1 vs) :: rowsB vs ys) ⟨h1, h2, S, ⟨S1, S2, e, d, hA, hF⟩, hb⟩⟩
theorem sepLine_shut {w0 w : World} {base : Nat} {x : Value × Value} {y : S44} {F : List Asr} (h : Has w0 base w (row Kd.bool 4 x.1 y.f2 :: sepRows x.2 y.f3 :: F)) : Has w0 base w (sepLine x y :: F) :=
  h.merge (C := sepLine x y) (fun hd ha hb => ⟨_, _, fun _ => Iff.rfl, hd, ha, hb⟩)
theorem sepLine_open {w0 w : World} {base : Nat} {x : Value × Value} {y : S44} {F : List Asr} (h : Has w0 base w (sepLine x y :: F)) : Has w0 base w (row Kd.bool 4 x.1 y.f2 :: sepRows x.2 y.f3 :: F) := by
  obtain ⟨h1, h2, S, ⟨S1, S2, e, d, ⟨S3, S4, e2, d2, hA, hB⟩, hF⟩, hb⟩ := h
  refine ⟨h1, h2, S, ⟨S3, fun k => S4 k ∨ S2 k, fun k => ?_, ?_, hA, S4, S2, fun k => Iff.rfl, fun k hk => d k ((e2 k).2 (.inr hk)), hB, hF⟩, hb⟩
  · rw [e k, e2 k]; exact or_assoc
  · rintro k hk (h3 | h3)
    · exact d2 k hk h3
    · exact d k ((e2 k).2 (.inl hk)) h3
/-! #### what fit makes -/
def bit (known : List (List Bool)) (k q : Nat) : Bool := (known.getD k []).getD q false
def rowM (near : Nat) (known : List (List Bool)) (k m : Nat) : List Bool := (List.range near).map fun q => if q < m then bit known k q else false
def fitRow (near : Nat) (known : List (List Bool)) (k : Nat) : List Bool := (List.range near).map (bit known k)
theorem rowM_0 (near : Nat) (known : List (List Bool)) (k : Nat) : rowM near known k 0 = List.replicate near false := by
  unfold rowM
  apply List.ext_getElem
  · simp
  · intro i h1 h2; simp
theorem rowM_len (near : Nat) (known : List (List Bool)) (k m : Nat) : (rowM near known k m).length = near := by simp [rowM]
theorem rowM_set {near : Nat} {known : List (List Bool)} {k m : Nat} (hm : m < near) : (rowM near known k m).set m (bit known k m) = rowM near known k (m + 1) := by
  apply List.ext_getElem
  · simp [rowM]
  · intro i h1 h2
    rw [List.getElem_set]
    simp only [rowM, List.getElem_map, List.getElem_range]
    by_cases e : m = i
    · subst e; rw [if_pos rfl, if_pos (by omega)]
    · rw [if_neg e]
      by_cases h3 : i < m
      · rw [if_pos h3, if_pos (by omega)]
      · rw [if_neg h3, if_neg (by omega)]
theorem rowM_end {near : Nat} {known : List (List Bool)} {k m : Nat} (h : near ≤ m ∨ known.length ≤ k ∨ (known.getD k []).length ≤ m) : rowM near known k m = fitRow near known k := by
  unfold rowM fitRow
  apply List.map_congr_left
  intro q hq
  have hq2 := List.mem_range.1 hq
  by_cases h3 : q < m
  · rw [if_pos h3]
  · rw [if_neg h3]
    unfold bit
    rcases h with h | h | h
    · omega
    · rw [List.getD_eq_getElem?_getD (l := known), List.getElem?_eq_none h]; simp
    · rw [List.getD_eq_getElem?_getD (l := known.getD k []), List.getElem?_eq_none (by omega)]; rfl
def fitRg (c r x : Int) : Int := wrap64 (Int.tmod (IntKind.u64.wrap x) (c * r))
def fitBs (x : Int) : Int := wrap64 (Int.tmod (IntKind.u64.wrap x) 10)
def fitOne (c r p wi s : Int) (x : S44) : S44 := ⟨fitRg c r x.f0, fitBs x.f1, x.f2.take (min x.f2.length 20), (List.range (min x.f2.length 20)).map (fitRow (nearG c r p wi s (fitRg c r x.f0)).length x.f3)⟩
def fitL (c r p wi s : Int) (l : List S44) : List S44 := l.map (fitOne c r p wi s)
end Go.Proofs.Ytmgdpkmmcmglfaa.PMarkOrder
