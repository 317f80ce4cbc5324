/- The writer and the reader of package bytes: bytes as a whole, all that was written, what is left, what is wrong. Condition: bytes are bytes, a million at most. -/
import Derived.Test.YtoibgnhfpcaejaaBytesK
namespace Go.Proofs.Ytoibgnhfpcaejaa.BytesW
open Go.RowKit Go.Proofs.YtoibgnhfpcaejaaW.PrintWords Go.Proofs.YtoibgnhfpcaejaaW.PrintLast Go.Proofs.YtoibgnhfpcaejaaW.PrintMore Go.Proofs.Ytoibgnhfpcaejaa.Sep
attribute [local go_sem] max2_int min2_int max_two min_two max_three min_three max_four min_four   -- for this text's walks alone
set_option linter.unusedVariables false
set_option linter.unusedSimpArgs false
theorem writer_put {w0 W w2 : World} {T g base : Nat} {b b2 : List Int} {F : List Asr} {S1 : Nat → Prop} {v v1 : Value} (h : (writer T g b).P W S1) (bk : W.heap[g]? = some (.cells #[v] T (0, 0))) (hg : base ≤ g)
    (hout : ∀ (w' : World) (B : Asr) (S' : Nat → Prop), Below base w0 w' → W.heap.size ≤ w'.heap.size → B.P w' S' → (∀ k, S' k → S1 k ∨ W.heap.size ≤ k) → (∀ k, k < W.heap.size → ¬ S1 k → w'.heap[k]? = W.heap[k]?) → Has w0 base w' (B :: F))
    (ho : Kd.R (Kd.int .u8) 5 w2 base (fun k => k ≠ g) v1 b2) (hb : Below base w0 w2) (hgr : W.grownBy w2 v.ownBlock) (hat : v1.ownBlock = v.ownBlock ∨ ∃ q, v1.ownBlock = some q ∧ W.heap.size ≤ q) :
    Has w0 base (w2.setCell ⟨g, 0, none⟩ v1) (writer T g b2 :: F) := by
  obtain ⟨h1, h2, v', h3, h4⟩ := h
  have hv : v' = v := by rw [h3] at bk; simpa using bk
  subst hv
  have hlt := Kd.R_lt ho
  have hz : (w2.setCell ⟨g, 0, none⟩ v1).heap.size = w2.heap.size := by simp [World.setCell]
  have hgv : some g ≠ v'.ownBlock := fun e => (h4.1 g e.symm).2 rfl
  have bk2 : w2.heap[g]? = some (.cells #[v'] T (0, 0)) := (hgr.block g (h1 g h2) hgv).trans h3
  refine hout _ (writer T g b2) (fun k => k = g ∨ v1.ownBlock = some k) (hb.setCell hg _) (by rw [hz]; exact hgr.size) ⟨?_, .inl rfl, v1, blk_put bk2 0 _ rfl, ?_⟩ ?_ ?_
  · rintro k (rfl | hk)
    · rw [hz]; exact (Array.getElem?_eq_some_iff.1 bk2).1
    · rw [hz]; exact hlt k hk
  · exact Kd.R_far (p := ⟨g, 0, none⟩) (Kd.R_mono (Kd.R_lower (Kd.R_tight2 rfl ho) (Nat.zero_le _)) (fun k hk => ⟨.inr hk.1.symm, hk.2⟩)) (fun k hk => hk.2) _
  · rintro k (rfl | hk)
    · exact .inl h2
    · rcases hat with e | ⟨q, e, hq⟩
      · exact .inl (h4.1 k (e ▸ hk)).1
      · rw [e] at hk
        exact .inr (by have := Option.some.inj hk; omega)
  · intro k hk hn
    have hkg : k ≠ g := fun e => hn (e ▸ h2)
    exact (Below.heap_setCell w2 ⟨g, 0, none⟩ v1 k hkg).trans (hgr.block k hk (fun e => hn (h4.1 k e.symm).1))
set_option maxHeartbeats 8000000 in
set_option maxRecDepth 100000 in
theorem wraw.calls (T g base : Nat) (b : List Int) (A : Option Addr) (c : Nat) (l : List Int) (F : List Asr) (w0 w : World) (hl : l.length ≤ 1000000) (hb : b.length ≤ 50000000)
    (hr : ∀ (w' : World) (b' : List Int), Has w0 base w' (writer T g b' :: F) → Kd.C (Kd.int .u8) w' A l.length l) (h : Has w0 base w (writer T g b :: F)) :
    Calls Try.prog 15 #[.pointer (some ⟨g, 0, none⟩), .slice A l.length c] w fun e w' => e = .returned (.tuple #[]) ∧ Has w0 base w' (writer T g (b ++ numB l.length ++ l) :: F) := by
  have HL := Aside0.mk (And.intro hl hb)
  have HR := Aside0.mk hr
  have HH := Aside0.mk h
  have hx : -9223372036854775808 ≤ (l.length : Int) ∧ (l.length : Int) ≤ 9223372036854775807 := by omega
  have hn9 : (b ++ numB l.length).length + l.length < 100000000 := by have := numB_len l.length; simp only [List.length_append]; omega
  obtain ⟨B, hBe⟩ : ∃ B, b ++ numB l.length = B := ⟨_, rfl⟩
  rw [hBe] at hn9 ⊢
  have HX := Aside0.mk (And.intro hx hn9)
  have HBE := Aside0.mk hBe
  clear hl hb hr h hx hn9 hBe
  go_enter Try.func15, Try.ntmps15
  go_wp2_with (first | (go_at_call 32; (refine (numberH.calls T g base b l.length F w0 _ HX.out.1 (by have := HL.out.2; omega) HH.out).mono ?_); rintro e w1 ⟨rfl, hw1⟩; rw [HBE.out] at hw1; have hC_ := HR.out _ _ hw1; have hB1 := hw1.below; have hle1 := hw1.le; obtain ⟨S1, hP1, hS1, hout1⟩ := hw1.out; have hP1' := hP1; obtain ⟨q1, q2, v, q3, q4⟩ := hP1'; have hg1 := hS1 g q2; have ho1 := Kd.R_mono (Rraise q4 (fun k hk => hS1 k hk.1)) (fun (k : Nat) (hk : (S1 k ∧ k ≠ g)) => hk.2); obtain ⟨A1, c1, e1_⟩ := Kd.R_slice ho1; subst e1_; have hc1 : w1.cell? ⟨g, 0, none⟩ = some (.slice A1 B.length c1) := (blk_cell q3 0).trans rfl; have hf1 := blk_frozen q3 0; have HC := Aside0.mk hC_; have HO := Aside0.mk ho1; have HB := Aside0.mk hB1; have HE := Aside0.mk hle1; have HG := Aside0.mk (q1 g q2); have HP := Aside0.mk hP1; have HQ := Aside0.mk q3; have HO1 := Aside0.mk hout1; clear hC_ ho1 hB1 hle1 hP1 q1 q2 q3 q4 hout1 hS1) | ((with_reducible refine gate_builtin (b := .append) (xs := #[.tmp 14, .tmp 15]) rfl ?_); at_builtin; refine Kd.R_append_rows (Kd.int .u8) (w0 := w0) base rfl (.tmp 14) (.tmp 15) 22 5 (.int .u8 0) 1 rfl Try.underlying22 info5 rfl (by decide) (by omega) (.slice A1 B.length c1) B l _ _ _ (fun k => k ≠ g) (fun _ => False) rfl rfl ?aO ?aR (fun _ _ h => h) (fun _ h => h.elim) ?aF ?aB ?aS ?aL ?_; (case aR => exact HC.out); (case aB => exact HB.out); (case aF => exact fun k hk => Nat.ne_of_gt (Nat.lt_of_lt_of_le HG.out hk)); (case aO => exact HO.out); (case aS => exact HE.out); (case aL => have := HX.out.2; omega); intro v2 w2 ho2 hb2 hg2 hat2; have bk2_ := blk_grown1 HQ.out HO.out hg2; have hc2 : w2.cell? ⟨g, 0, none⟩ = some (.slice A1 B.length c1) := (blk_cell bk2_ 0).trans rfl; have hf2 := blk_frozen bk2_ 0; obtain ⟨A2, c2, e2_⟩ := Kd.R_slice ho2; subst e2_; rw [List.length_append] at ho2 hat2; have HZ := Aside0.mk (writer_put HP.out HQ.out hg1 HO1.out ho2 hb2 hg2 hat2); clear ho2 hb2 hg2 hat2 bk2_))
  go_end0
  exact ⟨rfl, HZ.out⟩
set_option maxHeartbeats 8000000 in
set_option maxRecDepth 100000 in
theorem wbytesH.calls (T g base : Nat) (b : List Int) (F : List Asr) (w0 w : World) (hb : b.length ≤ 100000000) (h : Has w0 base w (writer T g b :: F)) :
    Calls Try.prog 14 #[.pointer (some ⟨g, 0, none⟩)] w fun e w' => ∃ v, e = .returned v ∧ Has w0 base w' (row (Kd.int .u8) 5 v b :: writer T g b :: F) := by
  obtain ⟨S1, ⟨h1, h2, v, h3, h4⟩, hS, hout⟩ := h.out
  refine (wbytes.calls g 0 v b w h3 (Kd.R_mono h4 (fun k hk => hk.2)) (by omega)).mono ?_
  rintro e w' ⟨v1, rfl, ho, hB⟩
  exact ⟨v1, rfl, h.newRow hB ho⟩
set_option maxHeartbeats 8000000 in
set_option maxRecDepth 100000 in
theorem readH.calls (A : Option Addr) (c : Nat) (l : List Int) (base : Nat) (L : List Asr) (w0 w : World) (hC : Kd.C (Kd.int .u8) w A l.length l) (hc : l.length ≤ c) (hl : l.length ≤ 1000000000) (hx : ∀ x ∈ l, 0 ≤ x ∧ x < 256) (h : Has w0 base w L) :
    Calls Try.prog 9 #[.slice A l.length c] w fun e w' => ∃ g, e = .returned (.pointer (some ⟨g, 0, none⟩)) ∧ Has w0 base w' (reader g l 0 :: L) := by
  refine (read.calls A c l w hC hc (by omega)).mono ?_
  rintro e w' ⟨g, A1, c1, rfl, hg, bk, ho, hB⟩
  have hlt := Kd.R_lt ho
  have hbs := Kd.R_base ho
  refine ⟨g, rfl, h.new (S' := fun k => k = g ∨ (Value.slice A1 l.length c1).ownBlock = some k) hB ⟨?_, .inl rfl, hl, hx, A1, c1, bk, (Kd.R_reads' ho).2.1, fun hp => ?_⟩ ?_⟩
  · rintro k (rfl | hk)
    · exact (Array.getElem?_eq_some_iff.1 bk).1
    · exact hlt k hk
  · obtain ⟨q, cc, e0, hqb, hql, cells, hcells⟩ := Kd.R_form ho hp
    have hq : A1 = some ⟨q, 0, none⟩ := by injection e0
    subst hq
    refine ⟨q, 0, rfl, .inr rfl, ho.1 q rfl, fun j hj => ?_⟩
    have x := (Kd.R_celln 0 ho (j : Int) (by omega) (by omega)).1
    rw [Int.toNat_natCast] at x
    rw [Nat.zero_add, x]
    simp [rdOf, List.getD_eq_getElem?_getD, hj]
  · rintro k (rfl | hk)
    · exact hg
    · exact hbs k hk
end Go.Proofs.Ytoibgnhfpcaejaa.BytesW
