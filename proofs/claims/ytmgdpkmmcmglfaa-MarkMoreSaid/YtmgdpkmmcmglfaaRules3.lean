/- Steps of a walk told by parts: make with room, append into room, an element written, cuts within the room. No condition. -/
import Derived.Test.YtmgdpkmmcmglfaaRules2
namespace Go.Proofs.Ytmgdpkmmcmglfaa.Sep
open Go Go.RowKit Go.Proofs.YtmgdpkmmcmglfaaW.PrintWords Go.Proofs.YtmgdpkmmcmglfaaW.PrintLast Go.Proofs.YtmgdpkmmcmglfaaW.PrintMore
set_option linter.unusedVariables false
set_option linter.unusedSimpArgs false
section
variable {P : Program} {ops : Array Oper} {rest : List Oper} {o : Oper} {a : Act} {Q : Exit → Act → World → Prop} {α : Type} {w0 W : World} {base : Nat} {F : List Asr}
/-- make([]T, 0, m): the room is a row of m -/
theorem wp_makeRoom (d : Kd α) (e : Nat) (hgd : o.guard = none) {N : Tmp} (hd : o.dst = some N) (t : TypeId) (x y : Operand) (ho : o.op = .makeSlice t x y) (n : Int) (m : Nat) (hx : a.eval x = .int .i64 0) (hy : a.eval y = .int .i64 n) (hm : n = m)
    (ht : P.underlying t = some (.slice e)) (z : Value) (bytes : Nat) (hinfo : (P.info? e).map (fun i => (i.zero, i.size, i.bytes)) = some (some z, d.sz, bytes)) (hz : z.cells.size = d.sz) (hs0 : 0 < d.sz) (hb0 : 0 < bytes)
    (z0 : α) (hzero : d.M W W.heap.size (fun _ => False) z0 z.cells.toList) (hl : m * bytes ≤ 281474976710656) (h : Has w0 base W F)
    (hk : ∀ g w1, Has w0 base w1 (row d e (.slice (some ⟨g, 0, none⟩) m m) (List.replicate m z0) :: F) → wpList P ops Q rest (a.put o.dst (.slice (some ⟨g, 0, none⟩) 0 m)) w1) : wpList P ops Q (o :: rest) a W := by
  subst hm
  obtain ⟨i, hi, hz1, hsz, hby⟩ := info_parts hinfo
  have hm9 : m ≤ 281474976710656 := Nat.le_trans (Nat.le_mul_of_pos_right _ hb0) hl
  have hrun := run_make (P := P) W t e i _ ht hi hz1 .i64 .i64 0 (m : Int) (by omega) (by omega) (by
      have h3 : ((bytes * m : Nat) : Int) ≤ 281474976710656 := by rw [Nat.mul_comm]; omega
      rw [hby]
      rwa [Int.natCast_mul] at h3) (by omega)
  simp only [Int.toNat_natCast] at hrun
  rw [hsz] at hrun
  have hrun2 : (execOp a.eval o).run P W = .ok (.value (.slice (some ⟨W.heap.size, 0, none⟩) 0 m)) (W.alloc (.cells (madeCells z.cells (m * d.sz)) e)) := by
    simp [execOp, ho, hx, hy, hrun]
  refine Kd.event_run hgd hrun2 (hk W.heap.size _ (Has.newRow (ok := fun _ => True) h (below_alloc (Below.refl _ _) _) ⟨fun _ _ => trivial, (madeCells z.cells (m * d.sz)).toList, ?_, ?_⟩))
  · rw [List.length_replicate]
    refine ⟨by simp [size_madeCells], .inr ⟨W.heap.size, m, madeCells z.cells (m * d.sz), rfl, Nat.le_refl _, heap_alloc_new W _, Nat.le_refl _, by unfold maxLen; omega, by simp [size_madeCells], List.take_of_length_le (by simp [size_madeCells])⟩⟩
  · exact Kd.reps_made hz hs0 (d.M_mono (fun _ h => h.elim) (Kd.M_below hzero (below_alloc (Below.refl _ _) _))) m
theorem cells_of {d : Kd α} {W : World} {A : Option Addr} {n : Nat} {ys : List α} (hC : Kd.C d W A n ys) (hs0 : 0 < d.sz) : ∃ news : List Value, news.length = n * d.sz ∧ (∀ ad, A = some ad → ∀ j u, news[j]? = some u → W.cell? (ad.add j) = some u) ∧ (∀ u ∈ news, u.oneCell' = true) ∧ Reps (d.K W) d.sz ys news := by
  have hyl : ys.length = n := hC.1
  rcases A with _ | ad
  · have h0 : n = 0 := by
      rcases Nat.eq_zero_or_pos n with h0 | h0
      · exact h0
      · obtain ⟨ad, h, _⟩ := hC.2.2 h0
        cases h
    subst h0
    obtain rfl : ys = [] := List.eq_nil_of_length_eq_zero hyl
    exact ⟨[], by simp, (fun ad h => nomatch h), (fun u hu => absurd hu List.not_mem_nil), Reps.none _ _⟩
  · obtain ⟨news, hr, hc⟩ := ReadsRow.inner_ hC
    refine ⟨news, by rw [hr.1, hyl], fun ad' e => by obtain rfl := Option.some.inj e; exact hc, fun u hu => ?_, hr⟩
    obtain ⟨q, hq, rfl⟩ := List.mem_iff_getElem.1 hu
    have hql : q / d.sz < ys.length := by
      rw [Nat.div_lt_iff_lt_mul hs0, ← hr.1]
      exact hq
    have hk := hr.2 (q / d.sz) _ (List.getElem?_eq_getElem hql)
    refine d.K_one hk _ ?_
    rw [List.mem_iff_getElem?]
    refine ⟨q % d.sz, ?_⟩
    rw [List.getElem?_take, if_pos (Nat.mod_lt _ hs0), List.getElem?_drop, Nat.mul_comm, Nat.div_add_mod, List.getElem?_eq_getElem hq]
/-- append(room[:0], x..): into the room -/
theorem wp_appRoom (d : Kd α) (hgd : o.guard = none) (s x : Operand) (t e : TypeId) (z : Value) (bytes : Nat)
    (ho : o.op = .call { callee := .builtin .append, args := #[s, x], argTypes := #[t, t] })
    (ht : P.underlying t = some (.slice e)) (hinfo : (P.info? e).map (fun i => (i.zero, i.size, i.bytes)) = some (some z, d.sz, bytes)) (hs0 : 0 < d.sz)
    {A : Option Addr} {g m n c : Nat} (ys zs : List α) (hs : a.eval s = .slice (some ⟨g, 0, none⟩) 0 m) (hx : a.eval x = .slice A n c) (h : Has w0 base W (row d e (.slice (some ⟨g, 0, none⟩) m m) zs :: F)) (hC : Kd.C d W A n ys) (hflat : ∀ (w w' : World) (b : Nat) (ok : Nat → Prop) x cs, d.K w x cs → d.M w' b ok x cs) (hn : n ≤ m)
    (hk : ∀ w1, Has w0 base w1 (row d e (.slice (some ⟨g, 0, none⟩) m m) (ys ++ zs.drop n) :: F) → wpList P ops Q rest (a.put o.dst (.slice (some ⟨g, 0, none⟩) n m)) w1) : wpList P ops Q (o :: rest) a W := by
  obtain ⟨i, hi, hz1, hsz, hby⟩ := info_parts hinfo
  have hzl := h.rowN.1
  obtain ⟨S, ⟨hR, hlt⟩, hS, hout⟩ := h.out
  obtain ⟨k1, inner, ho2, hr⟩ := hR
  have hyl : ys.length = n := hC.1
  rcases ho2.2 with ⟨h9, _⟩ | ⟨g', cap, cur, e1, _, e2, e3, e5, e6, e4⟩
  · cases h9
  injection e1 with e1 e7 e8
  injection e1 with e1
  injection e1 with e1
  subst e1 e8
  have hSg : S g := k1 g rfl
  have hcurl : cur.toList = inner := by rw [← e4, ← hzl]; exact (List.take_of_length_le (by simp; omega)).symm
  have hin : inner.length = m * d.sz := by rw [ho2.1, ← hzl]
  -- the cells of what comes
  obtain ⟨news, hnl, hnc, hn1, hnr⟩ : ∃ news : List Value, news.length = n * d.sz ∧ (∀ ad, A = some ad → ∀ j u, news[j]? = some u → W.cell? (ad.add j) = some u) ∧ (∀ u ∈ news, u.oneCell' = true) ∧ Reps (d.K W) d.sz ys news := cells_of hC hs0
  have hrun : ∃ W2, (Builtin.append_ #[t, t] o.type #[.slice (some ⟨g, 0, none⟩) 0 m, .slice A n c]).run P W = .ok (.slice (some ⟨g, 0, none⟩) n m) W2 ∧ W2.heap[g]? = some (.cells (news ++ cur.toList.drop (n * d.sz)).toArray e (0, 0)) ∧ W.grownBy W2 (some g) := by
    rcases Nat.eq_zero_or_pos n with h0 | h0
    · subst h0
      have hl : news = [] := List.eq_nil_of_length_eq_zero (by rw [hnl, Nat.zero_mul])
      subst hl
      refine ⟨W, ?_, ?_, ⟨rfl, rfl, rfl, Nat.le_refl _, fun _ _ _ => rfl⟩⟩
      · cases A <;> simp [Builtin.append_, run_underlying ht, sizeOf, typeInfo, hi, Builtin.lenOf, Builtin.firstCells, loadCells, loadCellsFrom, storeCells]
      · simpa using e2
    · obtain ⟨ad, rfl, _⟩ := hC.2.2 h0
      have hrun := run_append_room (P := P) W t o.type e i ht hi g 0 m cur e2 ad n c news (by rw [hnl, hsz]) (hnc ad rfl) hn1 (by omega) (by rw [hnl, Nat.zero_mul, Nat.zero_add, e6]; exact Nat.mul_le_mul_right _ hn)
      rw [Nat.zero_mul, Nat.zero_add, List.take_zero, List.nil_append, Nat.zero_add, hnl] at hrun
      exact ⟨_, hrun, setRow_heap W g cur _ e _ e2, ⟨rfl, rfl, rfl, by simp [World.setRow], fun k _ hk => setRow_other W g k _ (fun e => hk (by rw [e]))⟩⟩
  obtain ⟨W2, hrun, hg2, hgr⟩ := hrun
  refine wpList_plain hgd fun K hK => ?_
  have hnew : Has w0 base W2 (row d e (.slice (some ⟨g, 0, none⟩) m m) (ys ++ zs.drop n) :: F) := by
    refine hout W2 _ S (Below.grown h.below hgr h.le (fun k hk => by obtain rfl := Option.some.inj hk; exact hS _ hSg)) hgr.size ⟨⟨k1, news ++ cur.toList.drop (n * d.sz), ?_, ?_⟩, fun k hk => Nat.lt_of_lt_of_le (hlt k hk) hgr.size⟩ (fun k hk => .inl hk) (fun k hk hn => hgr.block k hk (fun e => hn (by obtain rfl := Option.some.inj e; exact hSg)))
    · have hl2 : (ys ++ zs.drop n).length = m := by rw [List.length_append, List.length_drop, hyl, ← hzl]; omega
      have hl3 : (news ++ cur.toList.drop (n * d.sz)).length = m * d.sz := by
        rw [List.length_append, hnl, List.length_drop, hcurl, hin, ← Nat.sub_mul, ← Nat.add_mul]
        congr 1
        omega
      rw [hl2]
      refine ⟨hl3, .inr ⟨g, m, _, rfl, Nat.zero_le _, hg2, Nat.le_refl _, e5, by simpa using hl3, ?_⟩⟩
      exact List.take_of_length_le (by rw [List.toList_toArray]; exact Nat.le_of_eq hl3)
    · have hr2 : Reps (d.M W2 0 (fun k => S k ∧ some k ≠ (Value.slice (some ⟨g, 0, none⟩) m m).ownBlock)) d.sz ys news := hnr.imp_ (fun p c hp => hflat _ _ _ _ _ _ hp)
      have hr3 : Reps (d.M W2 0 (fun k => S k ∧ some k ≠ (Value.slice (some ⟨g, 0, none⟩) m m).ownBlock)) d.sz (zs.drop n) (cur.toList.drop (n * d.sz)) := by
        rw [hcurl]
        refine ⟨by rw [List.length_drop, hin, List.length_drop, ← hzl, Nat.sub_mul], fun j p hj => ?_⟩
        rw [List.getElem?_drop] at hj
        have := hr.2 (n + j) p hj
        rw [List.drop_drop, ← Nat.add_mul]
        exact hflat _ _ _ _ _ _ (d.K_of_M this)
      exact Kd.reps_append hr2 hr3
  unfold Oper.wp execOp
  simp only [ho, resolve, invoke, builtin, Sem.run_bind, Sem.run_pure, Result.andThen_ok, List.map_toArray, List.map_cons, List.map_nil, hs, hx, hrun]
  exact hK _ _ (hk _ hnew)
/-- an element of a row is written whole -/
theorem wp_storeE (d : Kd α) (hgd : o.guard = none) (hN : o.dst = none) (t : TypeId) (p x : Operand) (ho : o.op = .store t p x) {g j j' e n c : Nat} {xs : List α} (y : α) {u : Value} (seg : List Value)
    (haddr : a.eval p = .pointer (some ⟨g, j', none⟩)) (hj' : j' = j * d.sz) (hx : a.eval x = u) (hu : u.cells.toList = seg) (hsg : seg.length = d.sz) (ht : (P.info? t).map (·.size) = some seg.length) (h1 : ∀ q ∈ seg, q.oneCell' = true)
    (hM : ∀ (w : World) (b : Nat) (ok : Nat → Prop), d.M w b ok y seg) (h : Has w0 base W (row d e (.slice (some ⟨g, 0, none⟩) n c) xs :: F)) (hj : j < n)
    (hk : ∀ w1, Has w0 base w1 (row d e (.slice (some ⟨g, 0, none⟩) n c) (xs.set j y) :: F) → wpList P ops Q rest a w1) : wpList P ops Q (o :: rest) a W := by
  obtain ⟨S, ⟨hR, hlt⟩, hS, hout⟩ := h.out
  have hn := h.rowN.1
  have hC := h.rowN.2.2
  obtain ⟨ad, e1, hc⟩ := hC.2.2 (by omega)
  obtain rfl := Option.some.inj e1
  obtain ⟨cs, hcl, hK, hcc⟩ := hc j _ (List.getElem?_eq_getElem (show j < xs.length by omega))
  have hadd : ∀ m, (⟨g, 0, none⟩ : Addr).add m = ⟨g, m, none⟩ := fun m => by
    unfold Addr.add
    by_cases h0 : m = 0
    · rw [if_pos h0, h0]
    · rw [if_neg h0, Nat.zero_add]
  refine Kd.R_store d (w0 := W) 0 hN hgd t p x ho e (j : Int) 0 xs y u seg cs S (fun _ => False) haddr (by rw [hj', Int.toNat_natCast, Nat.add_zero]) hx hu ht h1 hR (by omega) (by omega) hcl (fun i v hi => by rw [Int.toNat_natCast, ← hadd]; exact hcc i v hi) (by omega) ?_ (fun _ h => h.elim) (Below.refl _ _) ?_
  · rw [List.take_zero, List.nil_append, Nat.zero_add, List.drop_of_length_le (by omega), List.append_nil]
    exact hM _ _ _
  · intro w1 hR1 hb1 hg1
    have hSg : S g := hR.1 g rfl
    rw [Int.toNat_natCast] at hR1
    exact hk w1 (hout w1 _ S (Below.grown h.below hg1 h.le (fun k hk => by obtain rfl := Option.some.inj hk; exact hS _ hSg)) hg1.size ⟨hR1, fun k hk => Nat.lt_of_lt_of_le (hlt k hk) hg1.size⟩ (fun k hk => .inl hk) (fun k hk hn => hg1.block k hk (fun e => hn (by obtain rfl := Option.some.inj e; exact hSg))))
/-- xs[:j], j within the capacity -/
theorem run_cut (t e : TypeId) {z : Value} {size bytes : Nat} (ht : P.underlying t = some (.slice e)) (hinfo : (P.info? e).map (fun i => (i.zero, i.size, i.bytes)) = some (some z, size, bytes)) (W : World) (A : Option Addr) (n c : Nat) (j : Int) (h0 : 0 ≤ j) (hm : j ≤ c) : (Instr.slice t (.slice A n c) none (some (.int .i64 j)) none).run P W = .ok (.slice A j.toNat c) W := by
  obtain ⟨i, hi, hz, hsz, hby⟩ := info_parts hinfo
  have hel : P.elem t = e := by simp [Program.elem, ht]
  have hu : P.underlying t = some (.slice (P.elem t)) := by rw [hel]; exact ht
  have ha : (A.map fun x => x.add 0) = A := by cases A <;> simp [Addr.add]
  rw [run_slice_h W t A n c hu .i64 j h0 hm, hel]
  simp [sizeOf, typeInfo, hi, sliced, Result.andThen, ha]
end
end Go.Proofs.Ytmgdpkmmcmglfaa.Sep
