/- Steps of a walk told by parts: one more at a row's end; rows of no elements; what a row reads. No condition. -/
import Derived.Test.YtmgdpkmmcmglfaaSep
namespace Go.Proofs.Ytmgdpkmmcmglfaa.Sep
open Go Go.RowKit Go.Proofs.YtmgdpkmmcmglfaaW.PrintWords Go.Proofs.YtmgdpkmmcmglfaaW.PrintLast Go.Proofs.YtmgdpkmmcmglfaaW.PrintMore
set_option linter.unusedVariables false
section
variable {w0 w : World} {base e n c : Nat} {A : Option Addr} {F : List Asr} {α : Type} {d : Kd α} {xs : List α} {v : Value}
theorem Has.rowNil (h : Has w0 base w F) (d : Kd α) (e : Nat) : Has w0 base w (row d e (.slice none 0 0) [] :: F) := Has.newRow (ok := fun _ => True) h (Below.refl _ _) (Kd.R_nil _ _ _ _ _)
/-- what a row reads, by its number of elements -/
theorem Has.rowN (h : Has w0 base w (row d e (.slice A n c) xs :: F)) : n = xs.length ∧ n ≤ c ∧ Kd.C d w A n xs := by
  obtain ⟨S, h1, h2⟩ := h.first
  obtain ⟨a, b, hC⟩ := Kd.R_reads' h1.1
  exact ⟨a, b, by rw [a]; exact hC⟩
theorem Has.rowIs (h : Has w0 base w (row d e v xs :: F)) : ∃ A c, v = .slice A xs.length c := by
  obtain ⟨S, h1, h2⟩ := h.first
  exact Kd.R_slice h1.1
end
section
variable {P : Program} {ops : Array Oper} {rest : List Oper} {o : Oper} {a : Act} {Q : Exit → Act → World → Prop} {α : Type}
/-- append(v, x), behind 'at_builtin': v is a row that is a part; x has no rows of its own -/
theorem wp_append1 (d : Kd α) {w0 W : World} {base n : Nat} {F : List Asr} (hgd : o.guard = none) (s x : Operand) (t e : TypeId) (z : Value) (bytes : Nat)
    (ho : o.op = .call { callee := .builtin .append, args := #[s, x], argTypes := #[t, t] })
    (ht : P.underlying t = some (.slice e)) (hinfo : (P.info? e).map (fun i => (i.zero, i.size, i.bytes)) = some (some z, d.sz, bytes)) (hz : z.cells.size = d.sz) (hs0 : 0 < d.sz) (hb0 : 0 < bytes)
    (v : Value) (xs : List α) (p : α) (cs : List Value) (hs : a.eval s = v) (hx : a.eval x = .slice (some ⟨W.heap.size, 0, none⟩) 1 1) (hp : d.M W 0 (fun _ => False) p cs)
    (h : Has w0 base W (row d e v xs :: F)) (hn : xs.length = n) (hl : (xs.length + 1) * bytes ≤ 140737488355328)
    (hk : ∀ A c w1, Has w0 base w1 (row d e (.slice A (n + 1) c) (xs ++ [p]) :: F) → n + 1 ≤ c → wpList P ops Q rest (a.put o.dst (.slice A (n + 1) c)) w1) :
    wpList P ops Q (o :: rest) a (W.alloc (.cells cs.toArray e)) := by
  obtain ⟨S1, hA, hS1, hout⟩ := h.out
  refine Kd.R_append d (w0 := w0) 0 hgd s x t e z bytes ho ht hinfo hz hs0 hb0 v xs p cs (fun k => S1 k ∨ W.heap.size ≤ k) (fun _ => False) hs hx hp (fun _ hk => hk.elim) (fun k hk => .inr hk) (Kd.R_mono hA.1 (fun k hk => .inl hk)) (h.below.mono (Nat.zero_le _)) (Nat.zero_le _) hl ?_
  intro v1 w1 hR1 hb1 hg1 hat1
  have hb : Below base w0 w1 := Below.grown h.below hg1 h.le (fun k hk => hS1 k (hA.1.1 k hk))
  have h1 := hout w1 (row d e v1 (xs ++ [p])) (fun k => (S1 k ∨ W.heap.size ≤ k) ∧ k < w1.heap.size) hb hg1.size ⟨Kd.R_mono (Kd.R_bound hR1) (fun k hk => ⟨hk.1, hk.2.2.1⟩), fun k hk => hk.2⟩ (fun k hk => hk.1) (fun k hk hn => hg1.block k hk (fun e => hn (hA.1.1 k e.symm)))
  obtain ⟨A, c, e1⟩ := Kd.R_slice hR1
  have hl1 : (xs ++ [p]).length = n + 1 := by rw [List.length_append, hn]; rfl
  rw [hl1] at e1
  subst e1
  exact hk A c w1 h1 h1.rowN.2.1
end
/-- the row is read by a call: another kind of the same cells -/
theorem C_iso {α β : Type} {d : Kd α} {f : β → α} {w : World} {A : Option Addr} {n : Nat} {ys : List β} (h : Kd.C d w A n (ys.map f)) : Kd.C (Kd.iso d f) w A n ys := by
  obtain ⟨h1, h2, h3⟩ := h
  refine ⟨by simpa using h1, h2, fun hn => ?_⟩
  obtain ⟨ad, e, hr⟩ := h3 hn
  exact ⟨ad, e, fun j p hj => hr j (f p) (by rw [List.getElem?_map, hj]; rfl)⟩
/-- the fifth one comes to the front; the first goes behind four -/
theorem Has.up4 {w0 w : World} {base : Nat} {A B C D E : Asr} {L : List Asr} (h : Has w0 base w (A :: B :: C :: D :: E :: L)) : Has w0 base w (E :: A :: B :: C :: D :: L) := h.perm ((List.perm_middle (l₁ := [A, B, C, D]) (a := E) (l₂ := L)))
theorem Has.dn4 {w0 w : World} {base : Nat} {A B C D E : Asr} {L : List Asr} (h : Has w0 base w (E :: A :: B :: C :: D :: L)) : Has w0 base w (A :: B :: C :: D :: E :: L) := h.perm ((List.perm_middle (l₁ := [A, B, C, D]) (a := E) (l₂ := L)).symm)
/-- two boxes, one behind the other -/
theorem Has.own2 {w0 w : World} {base : Nat} {L : List Asr} (h : Has w0 base w L) (cs1 : Array Value) (t1 : Nat) (cs2 : Array Value) (t2 : Nat) : Has w0 base ((w.alloc (.cells cs1 t1)).alloc (.cells cs2 t2)) (Sep.blk (w.heap.size + 1) (.cells cs2 t2 (0, 0)) :: Sep.blk w.heap.size (.cells cs1 t1 (0, 0)) :: L) := by
  have h2 := (h.own cs1 t1).own cs2 t2
  have e : (w.alloc (.cells cs1 t1)).heap.size = w.heap.size + 1 := by simp
  rw [e] at h2
  exact h2
/-- two parts are one -/
theorem Has.merge {w0 w : World} {base : Nat} {A B C : Asr} {F : List Asr} (h : Has w0 base w (A :: B :: F)) (f : ∀ {w : World} {S1 S2 : Nat → Prop}, (∀ k, S1 k → ¬ S2 k) → A.P w S1 → B.P w S2 → C.P w (fun k => S1 k ∨ S2 k)) : Has w0 base w (C :: F) := by
  obtain ⟨h1, h2, S, ⟨S1, S2, hs, hd, hA, S3, S4, hs2, hd2, hB, hL⟩, hb⟩ := h
  refine ⟨h1, h2, S, ⟨(fun k => S1 k ∨ S3 k), S4, fun k => ?_, ?_, f (fun k hk hk3 => hd k hk ((hs2 k).2 (.inl hk3))) hA hB, hL⟩, hb⟩
  · rw [hs k, hs2 k]
    constructor
    · rintro (h | h | h)
      · exact .inl (.inl h)
      · exact .inl (.inr h)
      · exact .inr h
    · rintro ((h | h) | h)
      · exact .inl h
      · exact .inr (.inl h)
      · exact .inr (.inr h)
  · rintro k (h | h)
    · exact fun h4 => hd k h ((hs2 k).2 (.inr h4))
    · exact hd2 k h
/-- append(v, x), behind 'at_builtin': v is a row that is a part; what x leads to is the next part, and comes along -/
theorem wp_append_own {P : Program} {ops : Array Oper} {rest : List Oper} {o : Oper} {a : Act} {Q : Exit → Act → World → Prop} {α : Type} (d : Kd α) {w0 W : World} {base n : Nat} {B : Asr} {F : List Asr} (hgd : o.guard = none) (s x : Operand) (t e : TypeId) (z : Value) (bytes : Nat)
    (ho : o.op = .call { callee := .builtin .append, args := #[s, x], argTypes := #[t, t] })
    (ht : P.underlying t = some (.slice e)) (hinfo : (P.info? e).map (fun i => (i.zero, i.size, i.bytes)) = some (some z, d.sz, bytes)) (hz : z.cells.size = d.sz) (hs0 : 0 < d.sz) (hb0 : 0 < bytes)
    (v : Value) (xs : List α) (p : α) (cs : List Value) (hs : a.eval s = v) (hx : a.eval x = .slice (some ⟨W.heap.size, 0, none⟩) 1 1) (hp : ∀ {w : World} {S : Nat → Prop}, B.P w S → d.M w 0 S p cs)
    (h : Has w0 base W (row d e v xs :: B :: F)) (hn : xs.length = n) (hl : (xs.length + 1) * bytes ≤ 140737488355328)
    (hk : ∀ A c w1, Has w0 base w1 (row d e (.slice A (n + 1) c) (xs ++ [p]) :: F) → n + 1 ≤ c → wpList P ops Q rest (a.put o.dst (.slice A (n + 1) c)) w1) :
    wpList P ops Q (o :: rest) a (W.alloc (.cells cs.toArray e)) := by
  have h2 : Has w0 base W (both (row d e v xs) B :: F) := h.merge (C := both (row d e v xs) B) (fun hd ha hb => ⟨_, _, fun _ => Iff.rfl, hd, ha, hb⟩)
  obtain ⟨S, ⟨S1, S2, hS12, hd, hA, hB2⟩, hS, hout⟩ := h2.out
  have hlt := B.lt hB2
  refine Kd.R_append d (w0 := w0) 0 hgd s x t e z bytes ho ht hinfo hz hs0 hb0 v xs p cs (fun k => S1 k ∨ S2 k ∨ W.heap.size ≤ k) S2 hs hx (hp hB2) (fun k hk => ⟨.inr (.inl hk), fun e1 => hd k (hA.1.1 k e1.symm) hk⟩) (fun k hk => .inr (.inr hk)) (Kd.R_mono hA.1 (fun k hk => .inl hk)) (h.below.mono (Nat.zero_le _)) (Nat.zero_le _) hl ?_
  intro v1 w1 hR1 hb1 hg1 hat1
  have hb : Below base w0 w1 := Below.grown h.below hg1 h.le (fun k hk => hS k ((hS12 k).2 (.inl (hA.1.1 k hk))))
  have h1 := hout w1 (row d e v1 (xs ++ [p])) (fun k => (S1 k ∨ S2 k ∨ W.heap.size ≤ k) ∧ k < w1.heap.size) hb hg1.size ⟨Kd.R_mono (Kd.R_bound hR1) (fun k hk => ⟨hk.1, hk.2.2.1⟩), fun k hk => hk.2⟩ (fun k hk => by
    rcases hk.1 with h | h | h
    · exact .inl ((hS12 k).2 (.inl h))
    · exact .inl ((hS12 k).2 (.inr h))
    · exact .inr h) (fun k hk hn => hg1.block k hk (fun e => hn ((hS12 k).2 (.inl (hA.1.1 k e.symm)))))
  obtain ⟨A, c, e1⟩ := Kd.R_slice hR1
  have hl1 : (xs ++ [p]).length = n + 1 := by rw [List.length_append, hn]; rfl
  rw [hl1] at e1
  subst e1
  exact hk A c w1 h1 h1.rowN.2.1
theorem rdInt {w : World} {k : IntKind} {A : Option Addr} {n : Nat} {l : List Int} (h : Kd.C (Kd.int k) w A n l) (j : Nat) (hj : j < l.length) : ∃ ad, A = some ad ∧ w.cell? (ad.add j) = some (.int k l[j]) := by
  obtain ⟨hl, _, hn⟩ := h
  obtain ⟨ad, rfl, hc⟩ := hn (by omega)
  obtain ⟨cs, hcs, hK, hcc⟩ := hc j l[j] (List.getElem?_eq_getElem hj)
  have e : cs = [.int k l[j]] := hK
  subst e
  have := hcc 0 _ rfl
  exact ⟨ad, rfl, by simpa [Kd.int, Kd.scalar] using this⟩
theorem rdBool {w : World} {A : Option Addr} {n : Nat} {l : List Bool} (h : Kd.C Kd.bool w A n l) (j : Nat) (hj : j < l.length) : ∃ ad, A = some ad ∧ w.cell? (ad.add j) = some (.bool l[j]) := by
  obtain ⟨hl, _, hn⟩ := h
  obtain ⟨ad, rfl, hc⟩ := hn (by omega)
  obtain ⟨cs, hcs, hK, hcc⟩ := hc j l[j] (List.getElem?_eq_getElem hj)
  have e : cs = [.bool l[j]] := hK
  subst e
  have := hcc 0 _ rfl
  exact ⟨ad, rfl, by simpa [Kd.bool, Kd.scalar] using this⟩
/-- a row of rows -/
theorem rdRow {α : Type} {d : Kd α} {e : Nat} {w : World} {A : Option Addr} {n : Nat} {l : List (List α)} (h : Kd.C (Kd.slice e d) w A n l) (j : Nat) (hj : j < l.length) : ∃ ad A2 c2, A = some ad ∧ w.cell? (ad.add j) = some (.slice A2 l[j].length c2) ∧ l[j].length ≤ c2 ∧ Kd.C d w A2 l[j].length l[j] := by
  obtain ⟨hl, _, hn⟩ := h
  obtain ⟨ad, rfl, hc⟩ := hn (by omega)
  obtain ⟨cs, hcs, ⟨A2, c2, rfl, h2, h3⟩, hcc⟩ := hc j l[j] (List.getElem?_eq_getElem hj)
  have := hcc 0 _ rfl
  exact ⟨ad, A2, c2, rfl, by simpa [Kd.slice] using this, h2, h3⟩
end Go.Proofs.Ytmgdpkmmcmglfaa.Sep
