/- A cell of an element of a row told by its raw cells: read, and written. No condition. -/
import Derived.Test.YtmgdpkmmcmglfaaRawRow
namespace Go.Proofs.Ytmgdpkmmcmglfaa.Sep
open Go Go.RowKit Go.Proofs.YtmgdpkmmcmglfaaW.PrintWords Go.Proofs.YtmgdpkmmcmglfaaW.PrintLast Go.Proofs.YtmgdpkmmcmglfaaW.PrintMore
set_option linter.unusedVariables false
set_option linter.unusedSimpArgs false
theorem add_g (g m : Nat) : (⟨g, 0, none⟩ : Addr).add m = ⟨g, m, none⟩ := by
  unfold Addr.add
  by_cases h0 : m = 0
  · rw [if_pos h0, h0]
  · rw [if_neg h0, Nat.zero_add]
/-- a cell of an element -/
theorem Has.rawCell {w0 w : World} {base sz g e n c : Nat} {raws : List (List Value)} {F : List Asr} (h : Has w0 base w (row (kcells sz) e (.slice (some ⟨g, 0, none⟩) n c) raws :: F)) {j f : Nat} {el : List Value} {u : Value} (hj : raws[j]? = some el) (hf : el[f]? = some u) : w.cell? ⟨g, j * sz + f, none⟩ = some u := by
  have hn := h.rowN.1
  have hC := h.rowN.2.2
  obtain ⟨hjl, _⟩ := List.getElem?_eq_some_iff.1 hj
  obtain ⟨ad, e1, hc⟩ := hC.2.2 (by omega)
  obtain rfl := Option.some.inj e1
  obtain ⟨cs, hcl, hK, hcc⟩ := hc j _ hj
  obtain rfl : cs = el := hK.1
  have := hcc f u hf
  rw [add_g] at this
  exact this
section
variable {P : Program} {ops : Array Oper} {rest : List Oper} {o : Oper} {a : Act} {Q : Exit → Act → World → Prop} {w0 W : World} {base : Nat} {F : List Asr}
/-- a field of an element is written -/
theorem wp_storeF (sz : Nat) (hgd : o.guard = none) (hN : o.dst = none) (t : TypeId) (p x : Operand) (ho : o.op = .store t p x) {g j f j' e n c : Nat} {raws : List (List Value)} {el el' : List Value} {u : Value}
    (haddr : a.eval p = .pointer (some ⟨g, j', none⟩)) (hj' : j' = j * sz + f) (hx : a.eval x = u) (hu : u.cells.toList = [u]) (ht : (P.info? t).map (·.size) = some 1) (h1 : u.oneCell' = true)
    (hel : raws[j]? = some el) (hf : f < sz) (hel' : el.set f u = el') (h : Has w0 base W (row (kcells sz) e (.slice (some ⟨g, 0, none⟩) n c) raws :: F))
    (hk : ∀ w1, Has w0 base w1 (row (kcells sz) e (.slice (some ⟨g, 0, none⟩) n c) (raws.set j el') :: F) → wpList P ops Q rest a w1) : wpList P ops Q (o :: rest) a W := by
  obtain ⟨S, ⟨hR, hlt⟩, hS, hout⟩ := h.out
  have hn := h.rowN.1
  have hC := h.rowN.2.2
  obtain ⟨hjl, _⟩ := List.getElem?_eq_some_iff.1 hel
  obtain ⟨ad, e1, hc⟩ := hC.2.2 (by omega)
  obtain rfl := Option.some.inj e1
  obtain ⟨cs, hcl, hK, hcc⟩ := hc j _ hel
  obtain rfl : cs = el := hK.1
  refine Kd.R_store (kcells sz) (w0 := W) 0 hN hgd t p x ho e (j : Int) f raws el' u [u] cs S (fun _ => False) haddr (by rw [hj', Int.toNat_natCast]; rfl) hx hu (by simpa using ht) (by simpa using h1) hR (by omega) (by omega) hcl (fun i v hi => by rw [Int.toNat_natCast, ← add_g]; exact hcc i v hi) (by show f + 1 ≤ sz; omega) ?_ (fun _ h => h.elim) (Below.refl _ _) ?_
  · have e2 : cs.take f ++ [u] ++ cs.drop (f + [u].length) = el' := by
      rw [← hel']
      have hfl : f < cs.length := by have := hK.2.1; omega
      rw [List.set_eq_take_append_cons_drop, if_pos hfl]
      simp
    rw [e2, ← hel']
    exact ⟨rfl, by rw [List.length_set]; exact hK.2.1, fun q hq => by
      rcases List.mem_or_eq_of_mem_set hq with hq | rfl
      · exact hK.2.2 q hq
      · exact h1⟩
  · intro w1 hR1 hb1 hg1
    have hSg : S g := hR.1 g rfl
    rw [Int.toNat_natCast] at hR1
    exact hk w1 (hout w1 _ S (Below.grown h.below hg1 h.le (fun k hk => by obtain rfl := Option.some.inj hk; exact hS _ hSg)) hg1.size ⟨hR1, fun k hk => Nat.lt_of_lt_of_le (hlt k hk) hg1.size⟩ (fun k hk => .inl hk) (fun k hk hn => hg1.block k hk (fun e => hn (by obtain rfl := Option.some.inj e; exact hSg))))
end
end Go.Proofs.Ytmgdpkmmcmglfaa.Sep
