/- Memory told part by part: what is said of a part, and by which blocks; what a call does to one part leaves the others. No condition. -/
import Derived.Test.YtmgdpkmmcmglfaaProg
import Derived.Below
import Derived.Deep.Draws
import Derived.Deep.AppendLies
import Derived.Maps.AppendAt
import Derived.OwnWalk
import Derived.Laws.BytesArg
import Derived.Laws.MakeOwn
import Derived.Laws.OwnMore
import Derived.Deep.OwnRows
import Derived.Tactics
import Derived.Lib.ConvBytes
import Derived.Laws.Slices
import Derived.WalkKit
import Derived.KernelRfl
import Derived.RowKit3
import Derived.Deep.LoopGhost
import Derived.Deep.QuietTactic
import Derived.BigQuiet
import Derived.WideLaws
import Derived.Deep.DeepCutAuto
import Derived.Deep.CutBlock
import Derived.Deep.RegionHeld3
import Derived.Laws.Rows
import Derived.Lib.AppendStr
import Derived.ArgAppend
import Derived.Laws.IdiomCopy
import Derived.OrdersHeld
import Derived.Laws.BitsLemmas
import Derived.RowKit
import Derived.Test.YtmgdpkmmcmglfaaWWords
import Derived.Test.YtmgdpkmmcmglfaaWLast
import Derived.Test.YtmgdpkmmcmglfaaWTab
import Derived.Test.YtmgdpkmmcmglfaaWFour
import Derived.Test.YtmgdpkmmcmglfaaWQPut
import Derived.Test.YtmgdpkmmcmglfaaWApart
import Derived.Test.YtmgdpkmmcmglfaaWArr
import Derived.Test.YtmgdpkmmcmglfaaWZeros
import Derived.Test.YtmgdpkmmcmglfaaWFoot
import Derived.Test.YtmgdpkmmcmglfaaWKept
import Derived.Test.YtmgdpkmmcmglfaaWShare
import Derived.Test.YtmgdpkmmcmglfaaWN
import Derived.Test.YtmgdpkmmcmglfaaWFootNe
import Derived.Test.YtmgdpkmmcmglfaaWAt
import Derived.Test.YtmgdpkmmcmglfaaWEqStruct
import Derived.Test.YtmgdpkmmcmglfaaWRepsOne
import Derived.Test.YtmgdpkmmcmglfaaWInv
import Derived.Test.YtmgdpkmmcmglfaaWInvWords
import Derived.Test.YtmgdpkmmcmglfaaWGuard
import Derived.Test.YtmgdpkmmcmglfaaWNEv
import Derived.Test.YtmgdpkmmcmglfaaWMore
import Derived.Test.YtmgdpkmmcmglfaaFn
namespace Go.Proofs.Ytmgdpkmmcmglfaa.Sep
open Go Go.RowKit Go.Proofs.YtmgdpkmmcmglfaaW.PrintWords Go.Proofs.YtmgdpkmmcmglfaaW.PrintLast Go.Proofs.YtmgdpkmmcmglfaaW.PrintMore
set_option linter.unusedVariables false
set_option linter.unusedSimpArgs false
/-- what is said of a part of memory: by the blocks S alone -/
structure Asr where
  P : World → (Nat → Prop) → Prop
  loc : ∀ {w w' : World} {S : Nat → Prop}, P w S → w.heap.size ≤ w'.heap.size → (∀ k, S k → w'.heap[k]? = w.heap[k]?) → P w' S
  lt : ∀ {w : World} {S : Nat → Prop}, P w S → ∀ k, S k → k < w.heap.size
def emp : Asr := ⟨fun _ S => ∀ k, ¬ S k, fun h _ _ => h, fun h k hk => absurd hk (h k)⟩
def both (A B : Asr) : Asr where
  P w S := ∃ S1 S2 : Nat → Prop, (∀ k, S k ↔ S1 k ∨ S2 k) ∧ (∀ k, S1 k → ¬ S2 k) ∧ A.P w S1 ∧ B.P w S2
  loc := by
    rintro w w' S ⟨S1, S2, h, hd, h1, h2⟩ hz hs
    exact ⟨S1, S2, h, hd, A.loc h1 hz (fun k hk => hs k ((h k).2 (.inl hk))), B.loc h2 hz (fun k hk => hs k ((h k).2 (.inr hk)))⟩
  lt := by
    rintro w S ⟨S1, S2, h, hd, h1, h2⟩ k hk
    rcases (h k).1 hk with hk | hk
    · exact A.lt h1 k hk
    · exact B.lt h2 k hk
def stars : List Asr → Asr
  | [] => emp
  | A :: L => both A (stars L)
/-- from base on memory is the call's own, and its parts are L; below base it is as w0's -/
def Has (w0 : World) (base : Nat) (w : World) (L : List Asr) : Prop := Below base w0 w ∧ base ≤ w.heap.size ∧ ∃ S, (stars L).P w S ∧ ∀ k, S k → base ≤ k
section
variable {w0 w w' : World} {base : Nat} {A B C D : Asr} {L L' F : List Asr}
variable {α : Type} {d : Kd α} {e g t n : Nat} {o : Obj} {cs cs2 : Array Value} {v : Value} {xs : List α} {ok : Nat → Prop}
theorem Has.below (h : Has w0 base w L) : Below base w0 w := h.1
theorem Has.le (h : Has w0 base w L) : base ≤ w.heap.size := h.2.1
theorem Has.nil {w : World} {base : Nat} (hb : base ≤ w.heap.size) : Has w base w [] := ⟨Below.refl _ _, hb, fun _ => False, fun _ h => h, fun _ h => h.elim⟩
theorem Has.nil' (hb : Below base w0 w) (hl : base ≤ w.heap.size) : Has w0 base w [] := ⟨hb, hl, fun _ => False, fun _ h => h, fun _ h => h.elim⟩
theorem Has.drop (h : Has w0 base w (A :: L)) : Has w0 base w L := by
  obtain ⟨h1, h2, S, ⟨S1, S2, hs, hd, hA, hL⟩, hb⟩ := h
  exact ⟨h1, h2, S2, hL, fun k hk => hb k ((hs k).2 (.inr hk))⟩
theorem stars_perm (h : L.Perm L') : ∀ {w : World} {S : Nat → Prop}, (stars L).P w S → (stars L').P w S := by
  induction h with
  | nil => exact fun h => h
  | cons A _ ih =>
    rintro w S ⟨S1, S2, hs, hd, hA, hL⟩
    exact ⟨S1, S2, hs, hd, hA, ih hL⟩
  | swap A B L =>
    rintro w S ⟨S1, S2, hs, hd, hA, S3, S4, hs2, hd2, hB, hL⟩
    refine ⟨S3, (fun k => S1 k ∨ S4 k), fun k => ?_, fun k hk => ?_, hB, S1, S4, fun k => Iff.rfl, fun k hk hk4 => hd k hk ((hs2 k).2 (.inr hk4)), hA, hL⟩
    · constructor
      · intro hk
        rcases (hs k).1 hk with hk | hk
        · exact .inr (.inl hk)
        · rcases (hs2 k).1 hk with hk | hk
          · exact .inl hk
          · exact .inr (.inr hk)
      · rintro (hk | hk | hk)
        · exact (hs k).2 (.inr ((hs2 k).2 (.inl hk)))
        · exact (hs k).2 (.inl hk)
        · exact (hs k).2 (.inr ((hs2 k).2 (.inr hk)))
    · rintro (h | h)
      · exact hd k h ((hs2 k).2 (.inl hk))
      · exact hd2 k hk h
  | trans _ _ ih1 ih2 => exact fun h => ih2 (ih1 h)
theorem Has.perm (h : Has w0 base w L) (hp : L.Perm L') : Has w0 base w L' := by
  obtain ⟨h1, h2, S, hS, hb⟩ := h
  exact ⟨h1, h2, S, stars_perm hp hS, hb⟩
theorem Has.sw (h : Has w0 base w (A :: B :: L)) : Has w0 base w (B :: A :: L) := h.perm (.swap _ _ _)
/-- the third one comes to the front -/
theorem Has.up2 (h : Has w0 base w (A :: B :: C :: L)) : Has w0 base w (C :: A :: B :: L) := h.perm ((List.Perm.cons _ (.swap _ _ _)).trans (.swap _ _ _))
theorem Has.up3 (h : Has w0 base w (A :: B :: C :: D :: L)) : Has w0 base w (D :: A :: B :: C :: L) := h.perm ((List.Perm.cons _ ((List.Perm.cons _ (.swap _ _ _)).trans (.swap _ _ _))).trans (.swap _ _ _))
/-- the first one goes behind two -/
theorem Has.dn2 (h : Has w0 base w (A :: B :: C :: L)) : Has w0 base w (B :: C :: A :: L) := h.perm ((List.Perm.swap _ _ _).trans (.cons _ (.swap _ _ _)))
theorem Has.dn3 (h : Has w0 base w (A :: B :: C :: D :: L)) : Has w0 base w (B :: C :: D :: A :: L) := h.perm ((List.Perm.swap _ _ _).trans (.cons _ ((List.Perm.swap _ _ _).trans (.cons _ (.swap _ _ _)))))
theorem Has.drop2 (h : Has w0 base w (A :: B :: L)) : Has w0 base w (A :: L) := h.sw.drop
theorem Has.drop3 (h : Has w0 base w (A :: B :: C :: L)) : Has w0 base w (A :: B :: L) := h.up2.drop
theorem Has.drop4 (h : Has w0 base w (A :: B :: C :: D :: L)) : Has w0 base w (A :: B :: C :: L) := h.up3.drop
theorem Has.imp (h : Has w0 base w (A :: L)) (f : ∀ {w : World} {S : Nat → Prop}, A.P w S → B.P w S) : Has w0 base w (B :: L) := by
  obtain ⟨h1, h2, S, ⟨S1, S2, hs, hd, hA, hL⟩, hb⟩ := h
  exact ⟨h1, h2, S, ⟨S1, S2, hs, hd, f hA, hL⟩, hb⟩
/-- THE RULE: what is told of the first part, and what the others become when it turns into another -/
theorem Has.out (h : Has w0 base w (A :: F)) : ∃ S1 : Nat → Prop, A.P w S1 ∧ (∀ k, S1 k → base ≤ k) ∧
    ∀ (w' : World) (B : Asr) (S' : Nat → Prop), Below base w0 w' → w.heap.size ≤ w'.heap.size → B.P w' S' → (∀ k, S' k → S1 k ∨ w.heap.size ≤ k) → (∀ k, k < w.heap.size → ¬ S1 k → w'.heap[k]? = w.heap[k]?) → Has w0 base w' (B :: F) := by
  obtain ⟨h1, h2, S, ⟨S1, S2, hs, hd, hA, hL⟩, hb⟩ := h
  refine ⟨S1, hA, fun k hk => hb k ((hs k).2 (.inl hk)), fun w' B S' hB hz hP hS' hk => ?_⟩
  have hd2 : ∀ k, S2 k → w'.heap[k]? = w.heap[k]? := fun k h2 => hk k ((stars F).lt hL k h2) (fun h1 => hd k h1 h2)
  refine ⟨hB, Nat.le_trans h2 hz, (fun k => S' k ∨ S2 k), ⟨S', S2, fun k => Iff.rfl, fun k h1 h2 => ?_, hP, (stars F).loc hL hz hd2⟩, ?_⟩
  · rcases hS' k h1 with h3 | h3
    · exact hd k h3 h2
    · exact absurd ((stars F).lt hL k h2) (by omega)
  · rintro k (hk | hk)
    · rcases hS' k hk with h3 | h3
      · exact hb k ((hs k).2 (.inl h3))
      · exact Nat.le_trans h2 h3
    · exact hb k ((hs k).2 (.inr hk))
theorem Has.first (h : Has w0 base w (A :: F)) : ∃ S1 : Nat → Prop, A.P w S1 ∧ (∀ k, S1 k → base ≤ k) := by
  obtain ⟨S1, h1, h2, _⟩ := h.out
  exact ⟨S1, h1, h2⟩
/-- two parts at once -/
theorem Has.out2 (h : Has w0 base w (A :: B :: F)) : ∃ S1 S2 : Nat → Prop, A.P w S1 ∧ B.P w S2 ∧ (∀ k, S1 k → base ≤ k) ∧ (∀ k, S1 k → ¬ S2 k) ∧
    ∀ (w' : World) (C : Asr) (S' : Nat → Prop), Below base w0 w' → w.heap.size ≤ w'.heap.size → C.P w' S' → (∀ k, S' k → S1 k ∨ w.heap.size ≤ k) → (∀ k, k < w.heap.size → ¬ S1 k → w'.heap[k]? = w.heap[k]?) → Has w0 base w' (C :: B :: F) := by
  have hh := h
  obtain ⟨h1, h2, S, ⟨S1, S2, hs, hd, hA, S3, S4, hs2, hd2, hB, hL⟩, hb⟩ := h
  refine ⟨S1, S3, hA, hB, fun k hk => hb k ((hs k).2 (.inl hk)), fun k hk hk3 => hd k hk ((hs2 k).2 (.inl hk3)), fun w' C S' hB' hz hP hS' hk => ?_⟩
  have hd5 : ∀ k, S2 k → w'.heap[k]? = w.heap[k]? := fun k h5 => hk k ((stars (B :: F)).lt (S := S2) ⟨S3, S4, hs2, hd2, hB, hL⟩ k h5) (fun h1 => hd k h1 h5)
  refine ⟨hB', Nat.le_trans h2 hz, (fun k => S' k ∨ S2 k), ⟨S', S2, fun k => Iff.rfl, fun k h1 h5 => ?_, hP, (stars (B :: F)).loc (S := S2) ⟨S3, S4, hs2, hd2, hB, hL⟩ hz hd5⟩, ?_⟩
  · rcases hS' k h1 with h3 | h3
    · exact hd k h3 h5
    · exact absurd ((stars (B :: F)).lt (S := S2) ⟨S3, S4, hs2, hd2, hB, hL⟩ k h5) (by omega)
  · rintro k (hk | hk)
    · rcases hS' k hk with h3 | h3
      · exact hb k ((hs k).2 (.inl h3))
      · exact Nat.le_trans h2 h3
    · exact hb k ((hs k).2 (.inr hk))
theorem Has.step (h : Has w0 base w L) (hb : Below w.heap.size w w') : Has w0 base w' L := by
  obtain ⟨h1, h2, S, hS, hl⟩ := h
  exact ⟨h1.trans (hb.mono h2), Nat.le_trans h2 hb.size, S, (stars L).loc hS hb.size (fun k hk => hb.block k ((stars L).lt hS k hk)), hl⟩
theorem Has.alloc (h : Has w0 base w L) (o : Obj) : Has w0 base (w.alloc o) L := h.step (below_alloc (Below.refl _ _) o)
theorem Has.drewN (h : Has w0 base w L) (n : Nat) : Has w0 base (w.drewN n) L := h.step (pw_below_drewN (Below.refl _ _) n)
theorem Has.drew (h : Has w0 base w L) : Has w0 base w.drew L := h.step (Below.drew (Below.refl _ _))
/-- a new part, made of what is new -/
theorem Has.new (h : Has w0 base w L) (hb : Below w.heap.size w w') {S' : Nat → Prop} (hP : B.P w' S') (hn : ∀ k, S' k → w.heap.size ≤ k) : Has w0 base w' (B :: L) := by
  have h' := h
  obtain ⟨h1, h2, S, hS, hl⟩ := h
  have h3 := (stars L).lt hS
  refine ⟨h1.trans (hb.mono h2), Nat.le_trans h2 hb.size, (fun k => S' k ∨ S k), ⟨S', S, fun k => Iff.rfl, fun k hk hk2 => absurd (h3 k hk2) (by have := hn k hk; omega), hP, (stars L).loc hS hb.size (fun k hk => hb.block k (h3 k hk))⟩, ?_⟩
  rintro k (hk | hk)
  · exact Nat.le_trans h2 (hn k hk)
  · exact hl k hk
/-- one block, known whole -/
def blk (g : Nat) (o : Obj) : Asr := ⟨fun w S => w.heap[g]? = some o ∧ S g ∧ ∀ k, S k → k < w.heap.size, fun h hz hs => ⟨(hs g h.2.1).trans h.1, h.2.1, fun k hk => Nat.lt_of_lt_of_le (h.2.2 k hk) hz⟩, fun h => h.2.2⟩
theorem Has.blk (h : Has w0 base w (blk g o :: L)) : w.heap[g]? = some o := by
  obtain ⟨S, h1, h2⟩ := h.first
  exact h1.1
theorem Has.blk_ge (h : Has w0 base w (Sep.blk g o :: L)) : base ≤ g := by
  obtain ⟨S, h1, h2⟩ := h.first
  exact h2 g h1.2.1
theorem Has.own (h : Has w0 base w L) (cs : Array Value) (t : Nat) : Has w0 base (w.alloc (.cells cs t)) (Sep.blk w.heap.size (.cells cs t (0, 0)) :: L) :=
  h.new (S' := fun k => k = w.heap.size) (below_alloc (Below.refl _ _) _) ⟨heap_alloc_new w _, rfl, fun k hk => by rw [hk]; simp⟩ (fun k hk => by rw [hk]; exact Nat.le_refl _)
theorem Has.set (h : Has w0 base w (Sep.blk g (.cells cs t (0, 0)) :: L)) (i : Nat) (u : Value) (hu : (cs.setIfInBounds i u) = cs2) : Has w0 base (w.setCell ⟨g, i, none⟩ u) (Sep.blk g (.cells cs2 t (0, 0)) :: L) := by
  have hg := h.blk_ge
  have hB := h.below
  obtain ⟨S1, h1, h2, h3⟩ := h.out
  subst hu
  refine h3 _ _ S1 (hB.setCell hg u) (by simp [World.setCell]) ⟨?_, h1.2.1, fun k hk => by simpa [World.setCell] using h1.2.2 k hk⟩ (fun k hk => .inl hk) (fun k hk hn => Below.heap_setCell w ⟨g, i, none⟩ u k (fun e => hn (by rw [e]; exact h1.2.1)))
  exact blk_put h1.1 i u rfl
/-- a row of the call's own -/
def row {α : Type} (d : Kd α) (e : Nat) (v : Value) (xs : List α) : Asr := ⟨fun w S => Kd.R d e w 0 S v xs ∧ ∀ k, S k → k < w.heap.size, fun h hz hs => ⟨Kd.R_move h.1 hs, fun k hk => Nat.lt_of_lt_of_le (h.2 k hk) hz⟩, fun h => h.2⟩
/-- a row that is read -/
def rowA {α : Type} (d : Kd α) (A : Option Addr) (n : Nat) (xs : List α) : Asr := ⟨fun w S => (∀ w' : World, (∀ k, S k → w'.heap[k]? = w.heap[k]?) → Kd.C d w' A n xs) ∧ ∀ k, S k → k < w.heap.size, fun h hz hs => ⟨fun w' h' => h.1 w' (fun k hk => (h' k hk).trans (hs k hk)), fun k hk => Nat.lt_of_lt_of_le (h.2 k hk) hz⟩, fun h => h.2⟩
theorem Has.rowA {A : Option Addr} (h : Has w0 base w (Sep.rowA d A n xs :: L)) : Kd.C d w A n xs := by
  obtain ⟨S, h1, h2⟩ := h.first
  exact h1.1 w (fun _ _ => rfl)
theorem Has.row_reads (h : Has w0 base w (Sep.row d e v xs :: L)) : ∃ A c, v = .slice A xs.length c ∧ xs.length ≤ c ∧ Kd.C d w A xs.length xs := by
  obtain ⟨S, h1, h2⟩ := h.first
  exact Kd.R_reads h1.1
/-- a row that a call has made -/
theorem Has.newRow (h : Has w0 base w L) (hb : Below w.heap.size w w') (hR : Kd.R d e w' w.heap.size ok v xs) : Has w0 base w' (Sep.row d e v xs :: L) := by
  refine h.new (S' := fun k => (ok k ∧ w.heap.size ≤ k ∧ k < w'.heap.size ∧ ∃ q, q ∈ e :: d.E ∧ ∃ cells, w'.heap[k]? = some (.cells cells q (0, 0)))) hb ⟨Kd.R_lower (Kd.R_bound hR) (Nat.zero_le _), fun k hk => hk.2.2.1⟩ (fun k hk => hk.2.1)
theorem C_lit {W : World} {q t : Nat} {k : IntKind} {l : List Int} (hl : l.length ≤ 1000000) (h : W.heap[q]? = some (.cells (l.map (Value.int k)).toArray t (0, 0))) : Kd.C (Kd.int k) W (some ⟨q, 0, none⟩) l.length l := by
  refine ⟨rfl, by omega, fun _ => ⟨_, rfl, fun j p hj => ⟨[.int k p], rfl, rfl, fun i u hi => ?_⟩⟩⟩
  have hi0 : i = 0 := by
    have := (List.getElem?_eq_some_iff.1 hi).1
    simp at this
    exact this
  subst hi0
  have hadd : (⟨q, 0, none⟩ : Addr).add (j * 1 + 0) = ⟨q, j, none⟩ := by unfold Addr.add; split <;> simp_all
  have e : j * (Kd.int k).sz + 0 = j * 1 + 0 := rfl
  rw [e, hadd, cell_of_row W q j _ t (0, 0) h]
  have hu : u = .int k p := by simpa using hi.symm
  rw [hu]
  simp [hj]
/-- a literal of whole numbers -/
theorem Has.lit (h : Has w0 base w L) (k : IntKind) (t : Nat) (l : List Int) {cs : Array Value} (hcs : (l.map (Value.int k)).toArray = cs) (hl : l.length ≤ 1000000) : Has w0 base (w.alloc (.cells cs t)) (Sep.rowA (Kd.int k) (some ⟨w.heap.size, 0, none⟩) l.length l :: L) := by
  subst hcs
  exact (h.own _ t).imp (fun {w1 S} h1 => ⟨fun w' hw' => C_lit hl ((hw' _ h1.2.1).trans h1.1), h1.2.2⟩)
/-- what came in is as it was -/
theorem Has.came {A : Option Addr} (h : Has w0 base w L) (hb : w0.heap.size ≤ base) (hC : Kd.C d w0 A n xs) : Kd.C d w A n xs := Kd.C_below hC (h.below.mono hb)
/-- a row of the call's own is appended to -/
theorem row_put {W w2 : World} {S1 : Nat → Prop} {v1 : Value} {b2 : List α} (h : (Sep.row d e v xs).P W S1)
    (hout : ∀ (w' : World) (B : Asr) (S' : Nat → Prop), Below base w0 w' → W.heap.size ≤ w'.heap.size → B.P w' S' → (∀ k, S' k → S1 k ∨ W.heap.size ≤ k) → (∀ k, k < W.heap.size → ¬ S1 k → w'.heap[k]? = W.heap[k]?) → Has w0 base w' (B :: F))
    (ho : Kd.R d e w2 base (fun k => S1 k ∨ W.heap.size ≤ k) v1 b2) (hb : Below base w0 w2) (hgr : W.grownBy w2 v.ownBlock) : Has w0 base w2 (Sep.row d e v1 b2 :: F) := by
  refine hout w2 (Sep.row d e v1 b2) (fun k => (S1 k ∨ W.heap.size ≤ k) ∧ k < w2.heap.size) hb hgr.size ⟨Kd.R_mono (Kd.R_lower (Kd.R_bound ho) (Nat.zero_le _)) (fun k hk => ⟨hk.1, hk.2.2.1⟩), fun k hk => hk.2⟩ (fun k hk => hk.1) (fun k hk hn => hgr.block k hk (fun e => hn (h.1.1 k e.symm)))
end
end Go.Proofs.Ytmgdpkmmcmglfaa.Sep
