/- A table as a part of memory: what each call does to it. Condition: numbers are within int; rows are no longer than 10000. -/
import Derived.Test.YtkgjokidfbpnbaaInF
namespace Go.Proofs.Ytkgjokidfbpnbaa.InW
open Go.RowKit Go.Proofs.YtkgjokidfbpnbaaW.PrintWords Go.Proofs.YtkgjokidfbpnbaaW.PrintLast Go.Proofs.YtkgjokidfbpnbaaW.PrintMore Go.Proofs.Ytkgjokidfbpnbaa.Sep
attribute [local go_sem] max2_int min2_int max_two min_two max_three min_three max_four min_four   -- for this text's walks alone
set_option linter.unusedVariables false
set_option linter.unusedSimpArgs false
/-- tables are so -/
def wfT (cs : List Col) : Prop := cs.length ≤ 1000000 ∧ ∀ c ∈ cs, c.l.length ≤ 10000 ∧ I64 c.e
theorem wfT.at {cs : List Col} (h : wfT cs) (p : Int) : (cAt cs p).l.length ≤ 10000 ∧ I64 (cAt cs p).e := by
  unfold cAt
  by_cases hj : p.toNat - 1 < cs.length
  · have e : cs.getD (p.toNat - 1) ⟨[], 0, false⟩ = cs[p.toNat - 1] := by simp [List.getD_eq_getElem?_getD, hj]
    rw [e]
    exact h.2 _ (List.getElem_mem hj)
  · have e : cs.getD (p.toNat - 1) ⟨[], 0, false⟩ = ⟨[], 0, false⟩ := by simp [List.getD_eq_getElem?_getD, List.getElem?_eq_none (Nat.le_of_not_lt hj)]
    rw [e]
    exact ⟨by simp, show I64 0 by omega⟩
theorem wfT.set {cs : List Col} (h : wfT cs) (j : Nat) (c : Col) (hc : c.l.length ≤ 10000 ∧ I64 c.e) : wfT (cs.set j c) := by
  refine ⟨by rw [List.length_set]; exact h.1, fun x hx => ?_⟩
  rcases List.mem_or_eq_of_mem_set hx with hx | rfl
  · exact h.2 x hx
  · exact hc
theorem wfT.new (n : Nat) (hn : n ≤ 1000000) : wfT (List.replicate n col0) := by
  refine ⟨by simpa using hn, fun c hc => ?_⟩
  rw [(List.mem_replicate.1 hc).2]
  exact ⟨by simp [col0], show I64 0 by omega⟩
theorem wfT.end_ {cs : List Col} (h : wfT cs) (p n : Int) (hn : I64 n) : wfT (end_ cs p n).2 := by
  unfold InW.end_
  split
  · exact h.set _ _ ⟨(h.at p).1, hn⟩
  · exact h
theorem addGo_len (fr : Int) : ∀ (xs : List In) (c : Col) (i : Nat) (n : Int), c.l.length ≤ 10000 ∧ I64 c.e → (addGo c fr i xs n).1.l.length ≤ 10000 ∧ I64 (addGo c fr i xs n).1.e := by
  intro xs
  induction xs with
  | nil => intro c i n h; exact h
  | cons x xs ih =>
    intro c i n h
    unfold addGo
    split
    · exact h
    · split
      · exact ih _ _ _ h
      · split
        · exact h
        · exact ih _ _ _ ⟨by simp; omega, h.2⟩
theorem wfT.add_ {cs : List Col} (h : wfT cs) (p fr : Int) (xs : List In) : wfT (add_ cs p fr xs).2 := by
  unfold InW.add_
  split
  · exact h.set _ _ (addGo_len fr xs _ 0 0 (h.at p))
  · exact h
section
variable {w0 w : World} {base g : Nat} {cs : List Col} {F : List Asr}
/-- a table laid open, and how it is shut again -/
theorem tab_open (h : Has w0 base w (tab g cs :: F)) : ∃ (ga : Nat) (Z : Nat → Prop), TabG w g ga Z cs ∧ (g < w.heap.size ∧ ga < w.heap.size) ∧ (∀ k, Z k → k < w.heap.size) ∧ base ≤ g ∧ base ≤ ga ∧
    ∀ (w' : World) (cs' : List Col) (Z' : Nat → Prop), Below base w0 w' → w.heap.size ≤ w'.heap.size → (∀ k, k < w.heap.size → k ≠ ga → w'.heap[k]? = w.heap[k]?) → (∀ k, Z' k → Z k ∨ w.heap.size ≤ k) → (∀ k, Z' k → k < w'.heap.size) → TabG w' g ga Z' cs' → Has w0 base w' (tab g cs' :: F) := by
  obtain ⟨S1, ⟨h1, h2, ga, h3, h4⟩, hS, hout⟩ := h.out
  refine ⟨ga, _, h4, ⟨h1 g h2, h1 ga h3⟩, fun k hk => h1 k hk.1, hS g h2, hS ga h3, fun w' cs' Z' hB hz hf hz1 hz2 hT => ?_⟩
  refine hout w' (tab g cs') (fun k => k = g ∨ k = ga ∨ Z' k) hB hz ⟨?_, .inl rfl, ga, .inr (.inl rfl), hT.weak (fun k hk => ⟨.inr (.inr hk), fun e => hT.ng (e ▸ hk), fun e => hT.na (e ▸ hk)⟩) (fun x => x.2.1 rfl) (fun x => x.2.2 rfl)⟩ ?_ (fun k hk hn => hf k hk (fun e => hn (e ▸ h3)))
  · rintro k (rfl | rfl | hk)
    · exact Nat.lt_of_lt_of_le (h1 _ h2) hz
    · exact Nat.lt_of_lt_of_le (h1 _ h3) hz
    · exact hz2 k hk
  · rintro k (rfl | rfl | hk)
    · exact .inl h2
    · exact .inl h3
    · rcases hz1 k hk with hk | hk
      · exact .inl hk.1
      · exact .inr hk
theorem have.H (h : Has w0 base w (tab g cs :: F)) (hw : wfT cs) (p : Int) (hp : I64 p) :
    Calls Try.prog 14 #[.pointer (some ⟨g, 0, none⟩), .int .i64 p] w fun e w' => e = .returned (.int .i64 (have_ cs p)) ∧ Has w0 base w' (tab g cs :: F) := by
  obtain ⟨ga, Z, hT, hl, hz, _⟩ := tab_open h
  refine (have.calls hT hl hz p hp hw.1).mono ?_
  rintro e w' ⟨rfl, hb⟩
  exact ⟨rfl, h.step hb⟩
theorem ended.H (h : Has w0 base w (tab g cs :: F)) (hw : wfT cs) (p : Int) (hp : I64 p) :
    Calls Try.prog 16 #[.pointer (some ⟨g, 0, none⟩), .int .i64 p] w fun e w' => e = .returned (.tuple #[.int .i64 (ended_ cs p).1, .bool (ended_ cs p).2]) ∧ Has w0 base w' (tab g cs :: F) := by
  obtain ⟨ga, Z, hT, hl, hz, _⟩ := tab_open h
  refine (ended.calls hT hl hz p hp hw.1).mono ?_
  rintro e w' ⟨rfl, hb⟩
  exact ⟨rfl, h.step hb⟩
theorem at.H (h : Has w0 base w (tab g cs :: F)) (hw : wfT cs) (p f : Int) (hp : I64 p) (hf : I64 f) :
    Calls Try.prog 13 #[.pointer (some ⟨g, 0, none⟩), .int .i64 p, .int .i64 f] w fun e w' => e = .returned (.tuple #[.agg #[.int .i64 (at_ cs p f).1.1, .int .i64 (at_ cs p f).1.2.1, .bool (at_ cs p f).1.2.2], .bool (at_ cs p f).2]) ∧ Has w0 base w' (tab g cs :: F) := by
  obtain ⟨ga, Z, hT, hl, hz, _⟩ := tab_open h
  refine (at.calls hT hl hz p f hp hf hw.1 (by have := (hw.at p).1; omega)).mono ?_
  rintro e w' ⟨rfl, hb⟩
  exact ⟨rfl, h.step hb⟩
theorem end.H (h : Has w0 base w (tab g cs :: F)) (hw : wfT cs) (p n : Int) (hp : I64 p) (hn : I64 n) :
    Calls Try.prog 15 #[.pointer (some ⟨g, 0, none⟩), .int .i64 p, .int .i64 n] w fun e w' => e = .returned (.bool (end_ cs p n).1) ∧ Has w0 base w' (tab g (end_ cs p n).2 :: F) := by
  obtain ⟨ga, Z, hT, hl, hz, _, hga, hout⟩ := tab_open h
  refine (end.calls hT h.below hga hl hz p n hp hn hw.1).mono ?_
  rintro e w' ⟨rfl, hb, hs, hf, hT'⟩
  exact ⟨rfl, hout w' _ Z hb hs hf (fun k hk => .inl hk) (fun k hk => Nat.lt_of_lt_of_le (hz k hk) hs) hT'⟩
theorem add.H (h : Has w0 base w (tab g cs :: F)) (hw : wfT cs) (p fr : Int) (hp : I64 p) (hfr : I64 fr) (A : Option Addr) (cx : Nat) (xs : List In) (hx : xs.length ≤ 1000000) (hxs : ∀ (W : World) (cs' : List Col), Has w0 base W (tab g cs' :: F) → Kd.C kin W A xs.length xs) :
    Calls Try.prog 12 #[.pointer (some ⟨g, 0, none⟩), .int .i64 p, .int .i64 fr, .slice A xs.length cx] w fun e w' => e = .returned (.int .i64 (add_ cs p fr xs).1) ∧ Has w0 base w' (tab g (add_ cs p fr xs).2 :: F) := by
  obtain ⟨ga, Z, hT, hl, hz, _, hga, hout⟩ := tab_open h
  refine (add.calls hT h.below hga hl hz p fr hp hfr hw.1 (hw.at p) A cx xs hx (fun W i n c hI => ?_)).mono ?_
  · obtain ⟨Z', z1, z2, z3, z4⟩ := hI.tab
    exact hxs W _ (hout W _ Z' hI.below hI.size hI.frame z2 z3 z4)
  · rintro e w' ⟨Z', rfl, hb, hs, hf, z1, z2, z3, hT'⟩
    exact ⟨rfl, hout w' _ Z' hb hs hf z2 z3 hT'⟩
end
end Go.Proofs.Ytkgjokidfbpnbaa.InW
