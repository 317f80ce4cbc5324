/- More steps of a walk told by parts: stores into blocks, literals, make, append of one row to another. No condition. -/
import Derived.Test.YtmgdpkmmcmglfaaRules
namespace Go.Proofs.Ytmgdpkmmcmglfaa.Sep
open Go Go.RowKit Go.Proofs.YtmgdpkmmcmglfaaW.PrintWords Go.Proofs.YtmgdpkmmcmglfaaW.PrintLast Go.Proofs.YtmgdpkmmcmglfaaW.PrintMore
set_option linter.unusedVariables false
set_option linter.unusedSimpArgs false
section
variable {w0 w : World} {base : Nat} {A0 A1 A2 A3 A4 A5 A6 A7 A8 A9 A10 A11 A12 A13 A14 A15 A16 A17 : Asr} {L : List Asr}
theorem Has.up5 (h : Has w0 base w (A0 :: A1 :: A2 :: A3 :: A4 :: A5 :: L)) : Has w0 base w (A5 :: A0 :: A1 :: A2 :: A3 :: A4 :: L) := h.perm ((List.perm_middle (l₁ := [A0, A1, A2, A3, A4]) (a := A5) (l₂ := L)))
theorem Has.up6 (h : Has w0 base w (A0 :: A1 :: A2 :: A3 :: A4 :: A5 :: A6 :: L)) : Has w0 base w (A6 :: A0 :: A1 :: A2 :: A3 :: A4 :: A5 :: L) := h.perm ((List.perm_middle (l₁ := [A0, A1, A2, A3, A4, A5]) (a := A6) (l₂ := L)))
theorem Has.up7 (h : Has w0 base w (A0 :: A1 :: A2 :: A3 :: A4 :: A5 :: A6 :: A7 :: L)) : Has w0 base w (A7 :: A0 :: A1 :: A2 :: A3 :: A4 :: A5 :: A6 :: L) := h.perm ((List.perm_middle (l₁ := [A0, A1, A2, A3, A4, A5, A6]) (a := A7) (l₂ := L)))
theorem Has.up8 (h : Has w0 base w (A0 :: A1 :: A2 :: A3 :: A4 :: A5 :: A6 :: A7 :: A8 :: L)) : Has w0 base w (A8 :: A0 :: A1 :: A2 :: A3 :: A4 :: A5 :: A6 :: A7 :: L) := h.perm ((List.perm_middle (l₁ := [A0, A1, A2, A3, A4, A5, A6, A7]) (a := A8) (l₂ := L)))
theorem Has.up9 (h : Has w0 base w (A0 :: A1 :: A2 :: A3 :: A4 :: A5 :: A6 :: A7 :: A8 :: A9 :: L)) : Has w0 base w (A9 :: A0 :: A1 :: A2 :: A3 :: A4 :: A5 :: A6 :: A7 :: A8 :: L) := h.perm ((List.perm_middle (l₁ := [A0, A1, A2, A3, A4, A5, A6, A7, A8]) (a := A9) (l₂ := L)))
theorem Has.up10 (h : Has w0 base w (A0 :: A1 :: A2 :: A3 :: A4 :: A5 :: A6 :: A7 :: A8 :: A9 :: A10 :: L)) : Has w0 base w (A10 :: A0 :: A1 :: A2 :: A3 :: A4 :: A5 :: A6 :: A7 :: A8 :: A9 :: L) := h.perm ((List.perm_middle (l₁ := [A0, A1, A2, A3, A4, A5, A6, A7, A8, A9]) (a := A10) (l₂ := L)))
theorem Has.up11 (h : Has w0 base w (A0 :: A1 :: A2 :: A3 :: A4 :: A5 :: A6 :: A7 :: A8 :: A9 :: A10 :: A11 :: L)) : Has w0 base w (A11 :: A0 :: A1 :: A2 :: A3 :: A4 :: A5 :: A6 :: A7 :: A8 :: A9 :: A10 :: L) := h.perm ((List.perm_middle (l₁ := [A0, A1, A2, A3, A4, A5, A6, A7, A8, A9, A10]) (a := A11) (l₂ := L)))
theorem Has.up12 (h : Has w0 base w (A0 :: A1 :: A2 :: A3 :: A4 :: A5 :: A6 :: A7 :: A8 :: A9 :: A10 :: A11 :: A12 :: L)) : Has w0 base w (A12 :: A0 :: A1 :: A2 :: A3 :: A4 :: A5 :: A6 :: A7 :: A8 :: A9 :: A10 :: A11 :: L) := h.perm ((List.perm_middle (l₁ := [A0, A1, A2, A3, A4, A5, A6, A7, A8, A9, A10, A11]) (a := A12) (l₂ := L)))
theorem Has.up13 (h : Has w0 base w (A0 :: A1 :: A2 :: A3 :: A4 :: A5 :: A6 :: A7 :: A8 :: A9 :: A10 :: A11 :: A12 :: A13 :: L)) : Has w0 base w (A13 :: A0 :: A1 :: A2 :: A3 :: A4 :: A5 :: A6 :: A7 :: A8 :: A9 :: A10 :: A11 :: A12 :: L) := h.perm ((List.perm_middle (l₁ := [A0, A1, A2, A3, A4, A5, A6, A7, A8, A9, A10, A11, A12]) (a := A13) (l₂ := L)))
theorem Has.up14 (h : Has w0 base w (A0 :: A1 :: A2 :: A3 :: A4 :: A5 :: A6 :: A7 :: A8 :: A9 :: A10 :: A11 :: A12 :: A13 :: A14 :: L)) : Has w0 base w (A14 :: A0 :: A1 :: A2 :: A3 :: A4 :: A5 :: A6 :: A7 :: A8 :: A9 :: A10 :: A11 :: A12 :: A13 :: L) := h.perm ((List.perm_middle (l₁ := [A0, A1, A2, A3, A4, A5, A6, A7, A8, A9, A10, A11, A12, A13]) (a := A14) (l₂ := L)))
theorem Has.up15 (h : Has w0 base w (A0 :: A1 :: A2 :: A3 :: A4 :: A5 :: A6 :: A7 :: A8 :: A9 :: A10 :: A11 :: A12 :: A13 :: A14 :: A15 :: L)) : Has w0 base w (A15 :: A0 :: A1 :: A2 :: A3 :: A4 :: A5 :: A6 :: A7 :: A8 :: A9 :: A10 :: A11 :: A12 :: A13 :: A14 :: L) := h.perm ((List.perm_middle (l₁ := [A0, A1, A2, A3, A4, A5, A6, A7, A8, A9, A10, A11, A12, A13, A14]) (a := A15) (l₂ := L)))
theorem Has.up16 (h : Has w0 base w (A0 :: A1 :: A2 :: A3 :: A4 :: A5 :: A6 :: A7 :: A8 :: A9 :: A10 :: A11 :: A12 :: A13 :: A14 :: A15 :: A16 :: L)) : Has w0 base w (A16 :: A0 :: A1 :: A2 :: A3 :: A4 :: A5 :: A6 :: A7 :: A8 :: A9 :: A10 :: A11 :: A12 :: A13 :: A14 :: A15 :: L) := h.perm ((List.perm_middle (l₁ := [A0, A1, A2, A3, A4, A5, A6, A7, A8, A9, A10, A11, A12, A13, A14, A15]) (a := A16) (l₂ := L)))
end
/-- what was boxed is a part -/
theorem Has.ownNew {w0 w w5 : World} {base gb : Nat} {o : Obj} {L : List Asr} (h : Has w0 base w L) (hg : gb = w.heap.size) (hb : Below w.heap.size w w5) (hbox : w5.heap[gb]? = some o) : Has w0 base w5 (Sep.blk gb o :: L) :=
  h.new (S' := fun k => k = gb) hb ⟨hbox, rfl, fun k hk => by rw [hk]; exact (Array.getElem?_eq_some_iff.1 hbox).1⟩ (fun k hk => by rw [hk, hg]; exact Nat.le_refl _)
theorem stars_cut : ∀ (L F : List Asr) {w : World} {S : Nat → Prop}, (stars (L ++ F)).P w S → ∃ S1 S2 : Nat → Prop, (∀ k, S k ↔ S1 k ∨ S2 k) ∧ (∀ k, S1 k → ¬ S2 k) ∧ (stars L).P w S1 ∧ (stars F).P w S2 := by
  intro L F
  induction L with
  | nil => intro w S h; exact ⟨fun _ => False, S, fun k => by simp, fun k hk => hk.elim, fun k hk => hk, h⟩
  | cons A L ih =>
    intro w S h
    obtain ⟨SA, SR, e, d, hA, hR⟩ := h
    obtain ⟨T1, T2, e2, d2, h1, h2⟩ := ih hR
    refine ⟨fun k => SA k ∨ T1 k, T2, fun k => ?_, fun k hk h2' => ?_, ⟨SA, T1, fun k => Iff.rfl, fun k hk ht => d k hk ((e2 k).2 (.inl ht)), hA, h1⟩, h2⟩
    · rw [e k, e2 k]; exact or_assoc.symm
    · rcases hk with hk | hk
      · exact d k hk ((e2 k).2 (.inr h2'))
      · exact d2 k hk h2'
/-- the first n parts alone -/
theorem Has.dropAt {w0 w : World} {base : Nat} (n : Nat) {L : List Asr} (h : Has w0 base w L) : Has w0 base w (L.take n) := by
  have e : L = L.take n ++ L.drop n := (List.take_append_drop n L).symm
  rw [e] at h
  obtain ⟨h1, h2, S, hS, hb⟩ := h
  obtain ⟨S1, S2, hs, hd, hA, hB⟩ := stars_cut _ _ hS
  exact ⟨h1, h2, S1, hA, fun k hk => hb k ((hs k).2 (.inl hk))⟩
theorem reps_one {α : Type} {R : α → List Value → Prop} {n : Nat} {x : α} {cs : List Value} (hx : R x cs) (hn : cs.length = n) : Reps R n [x] cs := by
  subst hn
  refine ⟨by simp, fun j p hj => ?_⟩
  cases j with
  | zero =>
    obtain rfl : x = p := by simpa using hj
    simpa using hx
  | succ j => simp at hj
theorem add0 (g m : Nat) : (⟨g, 0, none⟩ : Addr).add m = ⟨g, m, none⟩ := by
  unfold Addr.add
  by_cases h0 : m = 0
  · rw [if_pos h0, h0]
  · rw [if_neg h0, Nat.zero_add]
/-- elements that are their cells -/
def kflat {α : Type} (sz : Nat) (enc : α → List Value) (hl : ∀ x, (enc x).length = sz) : Kd α where
  sz := sz
  E := []
  K := fun _ x cs => cs = enc x ∧ ∀ u ∈ cs, u.oneCell' = true
  M := fun _ _ _ x cs => cs = enc x ∧ ∀ u ∈ cs, u.oneCell' = true
  K_len := by rintro w x cs ⟨rfl, _⟩; exact hl x
  K_one := by rintro w x cs ⟨_, h⟩ u hu; exact h u hu
  K_below := fun _ h => h
  K_of_M := fun h => h
  M_mono := fun _ h => h
  M_bound := fun h => h
  M_move := fun _ h => h
  M_lower := fun _ h => h
theorem reps_flat {α : Type} {enc : α → List Value} {Rr : α → List Value → Prop} {sz : Nat} (h0 : 0 < sz) (hR : ∀ x cs, Rr x cs → cs = enc x) : ∀ (xs : List α) (cs : List Value), Reps Rr sz xs cs → cs = xs.flatMap enc := by
  intro xs
  induction xs with
  | nil => intro cs h; have := h.1; simp at this; subst this; rfl
  | cons x xs ih =>
    intro cs h
    have h1 := h.2 0 x rfl
    rw [Nat.zero_mul, List.drop_zero] at h1
    have e1 := hR _ _ h1
    have h2 : Reps Rr sz xs (cs.drop sz) := by
      refine ⟨by rw [List.length_drop, h.1, List.length_cons, Nat.add_mul]; omega, fun j p hj => ?_⟩
      have := h.2 (j + 1) p (by simpa using hj)
      rw [List.drop_drop, show sz + j * sz = (j + 1) * sz from by rw [Nat.add_mul]; omega]
      exact this
    rw [List.flatMap_cons, ← ih _ h2, ← e1, List.take_append_drop]
/-- a row of such elements is a block, and room behind -/
theorem Has.rowBlk {α : Type} {w0 w : World} {base sz e n c : Nat} {A : Option Addr} {enc : α → List Value} {hl : ∀ x, (enc x).length = sz} {xs : List α} {F : List Asr} (h0 : 0 < sz) (h : Has w0 base w (row (kflat sz enc hl) e (.slice A n c) xs :: F)) (hn : 0 < xs.length) : ∃ (g : Nat) (zs : List Value), A = some ⟨g, 0, none⟩ ∧ n = xs.length ∧ n ≤ c ∧ Has w0 base w (Sep.blk g (.cells (xs.flatMap enc ++ zs).toArray e (0, 0)) :: F) := by
  obtain ⟨S, ⟨⟨k1, inner, ho, hr⟩, k2⟩, hS, hout⟩ := h.out
  have hin := reps_flat h0 (fun x cs h => h.1) xs inner hr
  rcases ho.2 with ⟨_, h9⟩ | ⟨g, cap, cur, e1, _, e2, e3, _, _, e4⟩
  · omega
  · injection e1 with e1 e5 e6
    subst e1 e5 e6
    refine ⟨g, cur.toList.drop (xs.length * sz), rfl, rfl, e3, hout w _ (fun k => k = g) h.below (Nat.le_refl _) ⟨?_, rfl, fun k hk => by rw [hk]; exact k2 g (k1 g rfl)⟩ (fun k hk => .inl (by rw [hk]; exact k1 g rfl)) (fun k hk hn => rfl)⟩
    rw [e2]
    congr 2
    rw [← hin, ← e4]
    show cur = (cur.toList.take (xs.length * sz) ++ cur.toList.drop (xs.length * sz)).toArray
    rw [List.take_append_drop]
/-- cells from o on are written -/
def setSeg (cs : Array Value) (o : Nat) : List Value → Array Value
  | [] => cs
  | v :: r => setSeg (cs.setIfInBounds o v) (o + 1) r
section
variable {P : Program} {ops : Array Oper} {rest : List Oper} {o : Oper} {a : Act} {Q : Exit → Act → World → Prop} {α : Type} {w0 W : World} {base : Nat} {F : List Asr}
theorem Has.setSeg {w : World} {g t : Nat} : ∀ (seg : List Value) (cs : Array Value) (w : World) (j : Nat), Has w0 base w (Sep.blk g (.cells cs t (0, 0)) :: F) → Has w0 base (w.setCells g j seg) (Sep.blk g (.cells (Sep.setSeg cs j seg) t (0, 0)) :: F) := by
  intro seg
  induction seg with
  | nil => intro cs w j h; exact h
  | cons v r ih => intro cs w j h; exact ih _ _ (j + 1) (h.set j v rfl)
/-- a store into a block that is a part -/
theorem wp_storeB (hgd : o.guard = none) (hN : o.dst = none) (t : TypeId) (p x : Operand) (ho : o.op = .store t p x) {g j T : Nat} {u : Value} {cs cs2 : Array Value} (seg : List Value)
    (haddr : a.eval p = .pointer (some ⟨g, j, none⟩)) (hx : a.eval x = u) (hu : u.cells.toList = seg) (ht : (P.info? t).map (·.size) = some seg.length) (h1 : ∀ q ∈ seg, q.oneCell' = true) (hcs : Sep.setSeg cs j seg = cs2)
    (h : Has w0 base W (blk g (.cells cs T (0, 0)) :: F)) (hb : j + seg.length ≤ cs.size)
    (hk : ∀ w1, Has w0 base w1 (blk g (.cells cs2 T (0, 0)) :: F) → wpList P ops Q rest a w1) : wpList P ops Q (o :: rest) a W := by
  subst hcs
  refine wpList_plain hgd fun K hK => ?_
  have hrun : (Instr.storeAt t (.pointer (some ⟨g, j, none⟩)) u).run P W = .ok () (W.setCells g j seg) := run_store_run t u seg h.blk hu ht hb h1
  unfold Oper.wp execOp
  simp only [ho, haddr, hx, Sem.run_bind, Sem.run_pure, Result.andThen_ok, hrun]
  show K (a.put o.dst undef) _
  rw [hN]
  exact hK a _ (hk _ (Has.setSeg (w := W) seg cs W j h))
/-- the address of a row that has elements, or was made -/
theorem Has.rowAt {w : World} {d : Kd α} {e n c : Nat} {A : Option Addr} {xs : List α} (h : Has w0 base w (row d e (.slice A n c) xs :: F)) (hn : 0 < n) : ∃ g, A = some ⟨g, 0, none⟩ := by
  obtain ⟨S, h1, h2⟩ := h.first
  have e0 := (Kd.R_reads' h1.1).1
  obtain ⟨g, cap, e1, _⟩ := Kd.R_form h1.1 (by omega)
  injection e1 with e1
  exact ⟨g, e1⟩
theorem own_form {w : World} {d : Kd α} {e b0 : Nat} {ok : Nat → Prop} {v : Value} {xs : List α} (h : Kd.R d e w b0 ok v xs) {b : Nat} (hv : v.ownBlock = some b) : ∃ c, v = .slice (some ⟨b, 0, none⟩) xs.length c ∧ xs.length ≤ c := by
  obtain ⟨_, inner, ho, _⟩ := h
  rcases ho.2 with ⟨e1, _⟩ | ⟨g, cap, cur, e1, _, _, h3, _⟩
  · rw [e1] at hv
    cases hv
  · rw [e1] at hv
    obtain rfl := Option.some.inj hv
    exact ⟨cap, e1, h3⟩
/-- make([]T, n) -/
theorem wp_make (d : Kd α) (e : Nat) (hgd : o.guard = none) {N : Tmp} (hd : o.dst = some N) (t : TypeId) (x y : Operand) (ho : o.op = .makeSlice t x y) (n : Int) (m : Nat) (hx : a.eval x = .int .i64 n) (hy : a.eval y = .int .i64 n) (hm : n = m)
    (ht : P.underlying t = some (.slice e)) (z : Value) (bytes : Nat) (hinfo : (P.info? e).map (fun i => (i.zero, i.size, i.bytes)) = some (some z, d.sz, bytes)) (hz : z.cells.size = d.sz) (hs0 : 0 < d.sz) (hb0 : 0 < bytes)
    (z0 : α) (hzero : d.M W W.heap.size (fun _ => False) z0 z.cells.toList) (hl : m * bytes ≤ 281474976710656) (h : Has w0 base W F)
    (hk : ∀ g c w1, Has w0 base w1 (row d e (.slice (some ⟨g, 0, none⟩) m c) (List.replicate m z0) :: F) → m ≤ c → wpList P ops Q rest (a.put o.dst (.slice (some ⟨g, 0, none⟩) m c)) w1) : wpList P ops Q (o :: rest) a W := by
  subst hm
  refine Kd.R_make d (w0 := W) W.heap.size e hgd hd t x y ho (m : Int) hx hy ht z bytes hinfo hz hs0 hb0 z0 (ok := fun _ => True) (okp := fun _ => False) hzero (fun _ _ => trivial) trivial (by omega) (by simpa using hl) (Below.refl _ _) (Nat.le_refl _) ?_
  rintro v1 w1 hR hb hg ⟨b, hat, _⟩
  obtain ⟨c, e1, hc⟩ := own_form hR hat
  rw [List.length_replicate, Int.toNat_natCast] at e1 hc
  rw [Int.toNat_natCast] at hR
  subst e1
  exact hk b c w1 (Has.newRow h hb hR) hc
/-- a literal of elements that lead nowhere -/
theorem wp_litF (d : Kd α) (e : Nat) (hgd : o.guard = none) {N : Tmp} (hd : o.dst = some N) {xs : List α} {inner : List Value} {n : Nat}
    (hrun : (execOp a.eval o).run P W = .ok (.value (.slice (some ⟨W.heap.size, 0, none⟩) xs.length xs.length)) (W.alloc (.cells inner.toArray e)))
    (hrep : Reps (d.M W W.heap.size (fun _ => False)) d.sz xs inner) (hn : xs.length = n) (hm : n ≤ 1000000) (h : Has w0 base W F)
    (hk : ∀ g c w1, Has w0 base w1 (row d e (.slice (some ⟨g, 0, none⟩) n c) xs :: F) → n ≤ c → wpList P ops Q rest (a.put o.dst (.slice (some ⟨g, 0, none⟩) n c)) w1) : wpList P ops Q (o :: rest) a W := by
  subst hn
  refine Kd.R_lit d (w0 := W) W.heap.size e hgd hd (ok := fun _ => True) (okp := fun _ => False) hrun hrep (fun _ _ => trivial) trivial (Below.refl _ _) (Nat.le_refl _) (by omega) ?_
  rintro v1 w1 hR hb hg ⟨b, hat, _⟩
  obtain ⟨c, e1, hc⟩ := own_form hR hat
  subst e1
  exact hk b c w1 (Has.newRow h hb hR) hc
/-- a literal, as its cells are -/
theorem wp_litB (hgd : o.guard = none) {N : Tmp} (hd : o.dst = some N) {cs : Array Value} {e n : Nat}
    (hrun : (execOp a.eval o).run P W = .ok (.value (.slice (some ⟨W.heap.size, 0, none⟩) n n)) (W.alloc (.cells cs e (0, 0))))
    (h : Has w0 base W F) (hk : ∀ g w1, Has w0 base w1 (blk g (.cells cs e (0, 0)) :: F) → wpList P ops Q rest (a.put o.dst (.slice (some ⟨g, 0, none⟩) n n)) w1) : wpList P ops Q (o :: rest) a W :=
  Kd.event_run hgd hrun (hk _ _ (h.own cs e))
/-- a literal of one element; what it leads to is the first part, and comes along -/
theorem wp_lit1 (d : Kd α) (e : Nat) (hgd : o.guard = none) {N : Tmp} (hd : o.dst = some N) {B : Asr} {x : α} {inner : List Value}
    (hrun : (execOp a.eval o).run P W = .ok (.value (.slice (some ⟨W.heap.size, 0, none⟩) 1 1)) (W.alloc (.cells inner.toArray e)))
    (hp : ∀ {w : World} {S : Nat → Prop}, B.P w S → d.M w 0 S x inner) (h : Has w0 base W (B :: F))
    (hk : ∀ g c w1, Has w0 base w1 (row d e (.slice (some ⟨g, 0, none⟩) 1 c) [x] :: F) → 1 ≤ c → wpList P ops Q rest (a.put o.dst (.slice (some ⟨g, 0, none⟩) 1 c)) w1) : wpList P ops Q (o :: rest) a W := by
  obtain ⟨S, hB, hS, hout⟩ := h.out
  have hlt := B.lt hB
  have hlen : inner.length = d.sz := d.K_len (d.K_of_M (hp hB))
  have hrep : Reps (d.M W 0 S) d.sz [x] inner := by
    refine ⟨by simp [hlen], fun j p hj => ?_⟩
    cases j with
    | zero =>
      obtain rfl : x = p := by simpa using hj
      simp [List.take_of_length_le (Nat.le_of_eq hlen)]
      exact hp hB
    | succ j => simp at hj
  refine Kd.R_lit d (w0 := W) 0 e hgd hd (xs := [x]) (ok := fun k => S k ∨ W.heap.size ≤ k) (okp := S) hrun hrep (fun _ hk => .inl hk) (.inr (Nat.le_refl _)) (Below.refl _ _) (Nat.zero_le _) (by simp) ?_
  rintro v1 w1 hR hb hg ⟨b, hat, hbb⟩
  obtain ⟨c, e1, hc⟩ := own_form hR hat
  subst e1
  have hblk : ∀ k, k < W.heap.size → w1.heap[k]? = W.heap[k]? := fun k hk => hg.block k hk (fun h => by cases h)
  have hB2 : Below base w0 w1 := Below.grown h.below hg h.le (fun k hk => by cases hk)
  refine hk b c w1 (hout w1 _ (fun k => (S k ∨ W.heap.size ≤ k) ∧ k < w1.heap.size) hB2 hg.size ⟨Kd.R_mono (Kd.R_bound hR) (fun k hk => ⟨hk.1, hk.2.2.1⟩), fun k hk => hk.2⟩ (fun k hk => hk.1) (fun k hk _ => hblk k hk)) hc
/-- append(v, x..), both parts; what the second one's elements lead to comes along -/
theorem wp_appR (d : Kd α) (hgd : o.guard = none) (s x : Operand) (t e : TypeId) (z : Value) (bytes : Nat)
    (ho : o.op = .call { callee := .builtin .append, args := #[s, x], argTypes := #[t, t] })
    (ht : P.underlying t = some (.slice e)) (hinfo : (P.info? e).map (fun i => (i.zero, i.size, i.bytes)) = some (some z, d.sz, bytes)) (hz : z.cells.size = d.sz) (hs0 : 0 < d.sz) (hb0 : 0 < bytes)
    {v : Value} {A : Option Addr} {n m c : Nat} (xs ys : List α) (hs : a.eval s = v) (hx : a.eval x = .slice A m c)
    (h : Has w0 base W (row d e v xs :: row d e (.slice A m c) ys :: F)) (hn : xs.length = n) (hl : (xs.length + m) * bytes ≤ 140737488355328)
    (hk : ∀ A' c' w1, Has w0 base w1 (row d e (.slice A' (n + m) c') (xs ++ ys) :: F) → n + m ≤ c' → wpList P ops Q rest (a.put o.dst (.slice A' (n + m) c')) w1) : wpList P ops Q (o :: rest) a W := by
  have h2 : Has w0 base W (both (row d e v xs) (row d e (.slice A m c) ys) :: F) := h.merge (C := both (row d e v xs) (row d e (.slice A m c) ys)) (fun hd ha hb => ⟨_, _, fun _ => Iff.rfl, hd, ha, hb⟩)
  have hm := h.sw.rowN.1
  obtain ⟨S, ⟨S1, S2, hS12, hd, hA, hB⟩, hS, hout⟩ := h2.out
  have hreads : ReadsRow (d.M W 0 S2) d.sz W A m ys := by
    obtain ⟨A', c', e1, _, hr⟩ := OwnRow.reads hB.1.2
    injection e1 with e1 e2 _
    subst e1
    rw [e2]
    exact hr.imp_ (Below.refl _ _) (fun _ _ hp => d.M_mono (fun k hk => hk.1) hp)
  refine Kd.R_append_rows d (w0 := w0) 0 hgd s x t e z bytes ho ht hinfo hz hs0 hb0 v xs ys A m c (fun k => S1 k ∨ S2 k ∨ W.heap.size ≤ k) S2 hs hx (Kd.R_mono hA.1 (fun k hk => .inl hk)) hreads (fun _ _ h => h) (fun k hk => ⟨.inr (.inl hk), fun e1 => hd k (hA.1.1 k e1.symm) hk⟩) (fun k hk => .inr (.inr hk)) (h.below.mono (Nat.zero_le _)) (Nat.zero_le _) hl ?_
  intro v1 w1 hR1 hb1 hg1 hat1
  have hb : Below base w0 w1 := Below.grown h.below hg1 h.le (fun k hk => hS k ((hS12 k).2 (.inl (hA.1.1 k hk))))
  have h1 := hout w1 (row d e v1 (xs ++ ys)) (fun k => (S1 k ∨ S2 k ∨ W.heap.size ≤ k) ∧ k < w1.heap.size) hb hg1.size ⟨Kd.R_mono (Kd.R_bound hR1) (fun k hk => ⟨hk.1, hk.2.2.1⟩), fun k hk => hk.2⟩ (fun k hk => by
    rcases hk.1 with h | h | h
    · exact .inl ((hS12 k).2 (.inl h))
    · exact .inl ((hS12 k).2 (.inr h))
    · exact .inr h) (fun k hk hn => hg1.block k hk (fun e => hn ((hS12 k).2 (.inl (hA.1.1 k e.symm)))))
  obtain ⟨A', c', e1⟩ := Kd.R_slice hR1
  have hl1 : (xs ++ ys).length = n + m := by rw [List.length_append, hn, ← hm]
  rw [hl1] at e1
  subst e1
  exact hk A' c' w1 h1 h1.rowN.2.1
/-- append(nil, x..): x is only read, its elements lead nowhere -/
theorem wp_appNil (d : Kd α) (hgd : o.guard = none) (s x : Operand) (t e : TypeId) (z : Value) (bytes : Nat)
    (ho : o.op = .call { callee := .builtin .append, args := #[s, x], argTypes := #[t, t] })
    (ht : P.underlying t = some (.slice e)) (hinfo : (P.info? e).map (fun i => (i.zero, i.size, i.bytes)) = some (some z, d.sz, bytes)) (hz : z.cells.size = d.sz) (hs0 : 0 < d.sz) (hb0 : 0 < bytes)
    {A : Option Addr} {m c : Nat} (ys : List α) (hs : a.eval s = .slice none 0 0) (hx : a.eval x = .slice A m c) (h : Has w0 base W F) (hC : Kd.C d W A m ys) (hflat : ∀ x cs, d.K W x cs → d.M W W.heap.size (fun _ => False) x cs) (hl : m * bytes ≤ 140737488355328)
    (hk : ∀ A' c' w1, Has w0 base w1 (row d e (.slice A' m c') ys :: F) → m ≤ c' → wpList P ops Q rest (a.put o.dst (.slice A' m c')) w1) : wpList P ops Q (o :: rest) a W := by
  refine Kd.R_append_rows d (w0 := W) W.heap.size hgd s x t e z bytes ho ht hinfo hz hs0 hb0 (.slice none 0 0) [] ys A m c (fun _ => True) (fun _ => False) hs hx (Kd.R_nil _ _ _ _ _) hC hflat (fun _ h => h.elim) (fun _ _ => trivial) (Below.refl _ _) (Nat.le_refl _) (by simpa using hl) ?_
  intro v1 w1 hR1 hb1 hg1 hat1
  rw [List.nil_append] at hR1
  obtain ⟨A', c', e1⟩ := Kd.R_slice hR1
  have hm : ys.length = m := hC.1
  rw [hm] at e1
  subst e1
  have h1 := Has.newRow h hb1 hR1
  exact hk A' c' w1 h1 h1.rowN.2.1
/-- an element of a row of scalars is written -/
theorem wp_storeR {enc : α → Value} {h1 : ∀ x, (enc x).oneCell' = true} (hgd : o.guard = none) (hN : o.dst = none) (t : TypeId) (p x : Operand) (ho : o.op = .store t p x) {g j e n c : Nat} {xs : List α} (y : α)
    (haddr : a.eval p = .pointer (some ⟨g, j, none⟩)) (hx : a.eval x = enc y) (hu : (enc y).cells.toList = [enc y]) (ht : (P.info? t).map (·.size) = some 1)
    (h : Has w0 base W (row (Kd.scalar enc h1) e (.slice (some ⟨g, 0, none⟩) n c) xs :: F)) (hj : j < n)
    (hk : ∀ w1, Has w0 base w1 (row (Kd.scalar enc h1) e (.slice (some ⟨g, 0, none⟩) n c) (xs.set j y) :: F) → wpList P ops Q rest a w1) : wpList P ops Q (o :: rest) a W := by
  obtain ⟨S, ⟨hR, hlt⟩, hS, hout⟩ := h.out
  have hn := h.rowN.1
  refine Kd.R_store (Kd.scalar enc h1) (w0 := W) 0 hN hgd t p x ho e (j : Int) 0 xs y (enc y) [enc y] [enc (xs[j]'(by omega))] S (fun _ => False) haddr (by simp [Kd.scalar]) hx hu (by simpa using ht) (by simpa using h1 y) hR (by omega) (by omega) rfl ?_ (by simp [Kd.scalar]) ?_ (fun _ h => h.elim) (Below.refl _ _) ?_
  · intro i u hi
    have hi0 : i = 0 := by
      have := (List.getElem?_eq_some_iff.1 hi).1
      simpa using this
    subst hi0
    have hu2 : enc (xs[j]'(by omega)) = u := by simpa using hi
    subst hu2
    subst hn
    have hc := (Kd.R_cell (xs[j]'(by omega)) hR (j : Int) (by omega) (by omega)).1
    simpa [Kd.scalar, rdOf, List.getD_eq_getElem?_getD, hj] using hc
  · simp [Kd.scalar]
  · intro w1 hR1 hb1 hg1
    have hSg : S g := hR.1 g rfl
    rw [Int.toNat_natCast] at hR1
    exact hk w1 (hout w1 _ S (Below.grown h.below hg1 h.le (fun k hk => by obtain rfl := Option.some.inj hk; exact hS _ hSg)) hg1.size ⟨hR1, fun k hk => Nat.lt_of_lt_of_le (hlt k hk) hg1.size⟩ (fun k hk => .inl hk) (fun k hk hn => hg1.block k hk (fun e => hn (by obtain rfl := Option.some.inj e; exact hSg))))
/-- what a row of scalars reads -/
theorem Has.rowCell {w : World} {enc : α → Value} {h1 : ∀ x, (enc x).oneCell' = true} {g e n c : Nat} {xs : List α} (h : Has w0 base w (row (Kd.scalar enc h1) e (.slice (some ⟨g, 0, none⟩) n c) xs :: F)) (j : Nat) (hj : j < xs.length) : w.cell? ⟨g, j, none⟩ = some (enc xs[j]) ∧ w.frozen? ⟨g, j, none⟩ = false := by
  obtain ⟨S, ⟨hR, hlt⟩, hS⟩ := h.first
  obtain rfl := h.rowN.1
  have hc := Kd.R_cell xs[j] hR (j : Int) (by omega) (by omega)
  simpa [rdOf, List.getD_eq_getElem?_getD, hj] using hc
end
end Go.Proofs.Ytmgdpkmmcmglfaa.Sep
