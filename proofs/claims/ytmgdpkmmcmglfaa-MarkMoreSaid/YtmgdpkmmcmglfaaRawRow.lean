/- A row of structs that lead to rows, told by its raw cells: the cells lie in one block, what they lead to is a part that stays. No condition. -/
import Derived.Test.YtmgdpkmmcmglfaaRules2
namespace Go.Proofs.Ytmgdpkmmcmglfaa.Sep
open Go Go.RowKit Go.Proofs.YtmgdpkmmcmglfaaW.PrintWords Go.Proofs.YtmgdpkmmcmglfaaW.PrintLast Go.Proofs.YtmgdpkmmcmglfaaW.PrintMore
set_option linter.unusedVariables false
set_option linter.unusedSimpArgs false
/-- raw cells: as a row of lists of cells -/
def kcells (sz : Nat) : Kd (List Value) where
  sz := sz
  E := []
  K := fun _ x cs => cs = x ∧ cs.length = sz ∧ ∀ u ∈ cs, u.oneCell' = true
  M := fun _ _ _ x cs => cs = x ∧ cs.length = sz ∧ ∀ u ∈ cs, u.oneCell' = true
  K_len := by rintro w x cs ⟨rfl, h, _⟩; exact h
  K_one := by rintro w x cs ⟨_, _, h⟩ u hu; exact h u hu
  K_below := fun _ h => h
  K_of_M := fun h => h
  M_mono := fun _ h => h
  M_bound := fun h => h
  M_move := fun _ h => h
  M_lower := fun _ h => h
/-- what raw cells lead to -/
def leads {α : Type} (d : Kd α) (raws : List (List Value)) (xs : List α) : Asr where
  P w S := raws.length = xs.length ∧ (∀ w' : World, (∀ k, S k → w'.heap[k]? = w.heap[k]?) → ∀ i (h : i < raws.length) (h' : i < xs.length), d.K w' xs[i] raws[i]) ∧ ∀ k, S k → k < w.heap.size
  loc := by
    rintro w w' S ⟨h0, h1, h2⟩ hz hs
    exact ⟨h0, fun w2 hw2 => h1 w2 (fun k hk => (hw2 k hk).trans (hs k hk)), fun k hk => Nat.lt_of_lt_of_le (h2 k hk) hz⟩
  lt := fun h => h.2.2
section
variable {α : Type} {d : Kd α} {w0 w : World} {base e : Nat} {v : Value} {xs : List α} {F : List Asr}
/-- a row is told by its raw cells -/
theorem Has.raw (hs0 : 0 < d.sz) (h : Has w0 base w (row d e v xs :: F)) : ∃ raws : List (List Value), raws.length = xs.length ∧ Has w0 base w (row (kcells d.sz) e v raws :: leads d raws xs :: F) := by
  obtain ⟨h1, h2, S, ⟨S1, S2, hs, hd, ⟨⟨k1, inner, ho, hr⟩, k2⟩, hF⟩, hb⟩ := h
  let ok2 : Nat → Prop := fun k => S1 k ∧ some k ≠ v.ownBlock
  have hlen := hr.1
  let raws : List (List Value) := (List.range xs.length).map fun i => (inner.drop (i * d.sz)).take d.sz
  have hrl : raws.length = xs.length := by simp [raws]
  have hget : ∀ i (h : i < raws.length), raws[i] = (inner.drop (i * d.sz)).take d.sz := fun i h => by simp [raws]
  have hM : ∀ i (h' : i < xs.length), d.M w 0 ok2 xs[i] ((inner.drop (i * d.sz)).take d.sz) := fun i h' => hr.2 i _ (List.getElem?_eq_getElem h')
  refine ⟨raws, hrl, h1, h2, S, ⟨(fun k => S1 k ∧ v.ownBlock = some k), (fun k => ok2 k ∨ S2 k), fun k => ?_, ?_, ⟨⟨fun k hk => ⟨k1 k hk, hk⟩, inner, by rw [hrl]; exact ho, ?_⟩, fun k hk => k2 k hk.1⟩, ok2, S2, fun k => Iff.rfl, fun k hk => hd k hk.1, ⟨hrl, fun w' hw' i h h' => ?_, fun k hk => k2 k hk.1⟩, hF⟩, hb⟩
  · rw [hs k]
    constructor
    · rintro (hk | hk)
      · by_cases e : v.ownBlock = some k
        · exact .inl ⟨hk, e⟩
        · exact .inr (.inl ⟨hk, fun e2 => e e2.symm⟩)
      · exact .inr (.inr hk)
    · rintro (hk | hk | hk)
      · exact .inl hk.1
      · exact .inl hk.1
      · exact .inr hk
  · rintro k hk (h3 | h3)
    · exact h3.2 hk.2.symm
    · exact hd k hk.1 h3
  · refine ⟨by rw [hlen, hrl]; rfl, fun j p hj => ?_⟩
    obtain ⟨hjl, hp⟩ := List.getElem?_eq_some_iff.1 hj
    have hp2 : p = (inner.drop (j * d.sz)).take d.sz := by rw [← hp]; exact hget j hjl
    have hk := d.K_of_M (hM j (by omega))
    exact ⟨hp2.symm, d.K_len hk, fun u hu => d.K_one hk u hu⟩
  · rw [hget i h]
    exact d.K_of_M (d.M_move (fun k hk => hw' k hk) (hM i h'))
/-- a row of raw cells, each of which is one of those that lead, is read as a row -/
theorem Has.readRaw {raws ys : List (List Value)} {zs : List α} {A : Option Addr} {n c : Nat} (js : List Nat) (h : Has w0 base w (row (kcells d.sz) e (.slice A n c) ys :: leads d raws xs :: F)) (hy : ys = js.map fun j => raws.getD j []) (hz : ∀ i (hi : i < zs.length) (hj : i < js.length), xs[js[i]]? = some zs[i]) (hl : zs.length = js.length) : Kd.C d w A n zs := by
  obtain ⟨en, hnc, hC⟩ := h.rowN
  obtain ⟨S, hP, _⟩ := h.drop.first
  obtain ⟨hrl, hK, _⟩ := hP
  have hyl : ys.length = js.length := by rw [hy, List.length_map]
  refine ⟨by omega, hC.2.1, fun hn => ?_⟩
  obtain ⟨ad, ea, hc⟩ := hC.2.2 hn
  refine ⟨ad, ea, fun j p hj => ?_⟩
  obtain ⟨hjl, hp⟩ := List.getElem?_eq_some_iff.1 hj
  have hjj : j < js.length := by omega
  have hjy : j < ys.length := by omega
  obtain ⟨cs, hcl, hKc, hcc⟩ := hc j _ (List.getElem?_eq_getElem hjy)
  have hx := hz j hjl hjj
  obtain ⟨hxl, hx2⟩ := List.getElem?_eq_some_iff.1 hx
  have hrr : js[j] < raws.length := by omega
  have e1 : ys[j] = raws[js[j]] := by
    have : ys[j]? = some raws[js[j]] := by
      rw [hy, List.getElem?_map, List.getElem?_eq_getElem hjj]
      simp [List.getD_eq_getElem?_getD, hrr]
    exact (List.getElem?_eq_some_iff.1 this).2
  have e2 : cs = raws[js[j]] := by rw [← e1]; exact hKc.1
  subst e2
  refine ⟨raws[js[j]], hcl, ?_, hcc⟩
  have := hK w (fun _ _ => rfl) js[j] hrr hxl
  rw [hx2, hp] at this
  exact this
end
end Go.Proofs.Ytmgdpkmmcmglfaa.Sep
