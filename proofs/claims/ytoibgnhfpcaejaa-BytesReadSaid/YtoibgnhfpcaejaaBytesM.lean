/- The reader of package bytes: counts, bytes as a whole, what is left, what is wrong. No condition. -/
import Derived.Test.YtoibgnhfpcaejaaBytesL
namespace Go.Proofs.Ytoibgnhfpcaejaa.BytesW
open Go.RowKit Go.Proofs.YtoibgnhfpcaejaaW.PrintWords Go.Proofs.YtoibgnhfpcaejaaW.PrintLast Go.Proofs.YtoibgnhfpcaejaaW.PrintMore Go.Proofs.Ytoibgnhfpcaejaa.Sep
attribute [local go_sem] max2_int min2_int max_two min_two max_three min_three max_four min_four   -- for this text's walks alone
set_option linter.unusedVariables false
set_option linter.unusedSimpArgs false
def countB (most : Int) (b : List Int) (e : Int) : Int × List Int × Int :=
  if (intB b e).2.2 = 0 ∧ ((intB b e).1 < 0 ∨ most < (intB b e).1) then (0, [], 4) else intB b e
def rawB (b : List Int) (e : Int) : List Int × List Int × Int :=
  if (intB b e).2.2 ≠ 0 then ([], (intB b e).2) else if (intB b e).1 < 0 then ([], [], 4) else if ((intB b e).2.1.length : Int) < (intB b e).1 then ([], [], 5) else ((intB b e).2.1.take (intB b e).1.toNat, (intB b e).2.1.drop (intB b e).1.toNat, 0)
theorem reader_cells {w0 w : World} {g base : Nat} {b : List Int} {e : Int} {F : List Asr} (h : Has w0 base w (reader g b e :: F)) : ∃ A c, w.heap[g]? = some (.cells #[.slice A b.length c, .int .i64 e] 56 (0, 0)) ∧ b.length ≤ c ∧ Kd.C (Kd.int .u8) w A b.length b ∧ (0 < b.length → ∃ q o, A = some ⟨q, o, none⟩) := by
  obtain ⟨S1, ⟨h1, h2, h3, h4, A, c, h5, h6, h7⟩, hS⟩ := h.first
  refine ⟨A, c, h5, h6, ⟨rfl, by omega, fun hp => ?_⟩, fun hp => ?_⟩
  · obtain ⟨q, o, rfl, _, _, hc⟩ := h7 hp
    refine ⟨_, rfl, fun j p hj => ⟨[.int .u8 p], rfl, rfl, fun i u hi => ?_⟩⟩
    obtain ⟨hjl, hjp⟩ := List.getElem?_eq_some_iff.1 hj
    have hi0 : i = 0 := by
      have := (List.getElem?_eq_some_iff.1 hi).1
      simp at this
      exact this
    subst hi0
    have hu : u = .int .u8 p := by simpa using hi.symm
    have hadd : (⟨q, o, none⟩ : Addr).add (j * (Kd.int .u8).sz + 0) = ⟨q, o + j, none⟩ := by
      have : (Kd.int .u8).sz = 1 := rfl
      rw [this]; simp [Addr.add]
    rw [hadd, hc j hjl, hu, hjp]
  · obtain ⟨q, o, e, _⟩ := h7 hp
    exact ⟨q, o, e⟩
theorem reader_len {w0 w : World} {g base : Nat} {b : List Int} {e : Int} {F : List Asr} (h : Has w0 base w (reader g b e :: F)) : b.length ≤ 1000000000 := by
  obtain ⟨S1, ⟨h1, h2, h3, _⟩, _⟩ := h.first
  exact h3
theorem cloneN.calls (A0 : Option Addr) (c0 : Nat) (l0 : List Int) (n : Nat) (w : World) (hn : l0.length = n) (hr0 : Kd.C (Kd.int .u8) w A0 l0.length l0) (hc0 : n ≤ c0) (hl : n < 140737488355328) :
    Calls Try.prog 27 #[.slice A0 n c0] w fun e w' => ∃ v0_ : Value, e = .returned (v0_) ∧ Kd.R (Kd.int .u8) 5 w' w.heap.size (fun _ => True) v0_ l0 ∧ Below w.heap.size w w' := by
  subst hn
  exact clone.calls A0 c0 l0 l0 w hr0 hc0 (clone_eq hl)
theorem reader_wrong {w0 w : World} {g base : Nat} {b : List Int} {e : Int} {F : List Asr} (h : Has w0 base w (reader g b e :: F)) (e2 : Int) : Has w0 base ((w.setCell ⟨g, 0, none⟩ (.slice none 0 0)).setCell ⟨g, 1, none⟩ (.int .i64 e2)) (reader g [] e2 :: F) := by
  have hB := h.below
  obtain ⟨S1, ⟨h1, h2, h3, h4, A, c, h5, h6, h7⟩, hS, hout⟩ := h.out
  have hgb := hS g h2
  refine hout _ _ S1 ((hB.setCell hgb _).setCell hgb _) (by simp [World.setCell]) ⟨fun k hk => by simpa [World.setCell] using h1 k hk, h2, by simp, by simp, none, 0, ?_, by simp, fun hp => by simp at hp⟩ (fun k hk => .inl hk) (fun k _ hn => ?_)
  · exact blk_put (blk_put h5 0 _ rfl) 1 _ rfl
  · have hk : k ≠ g := fun e => hn (e ▸ h2)
    exact (Below.heap_setCell _ ⟨g, 1, none⟩ _ k hk).trans (Below.heap_setCell _ ⟨g, 0, none⟩ _ k hk)
set_option maxHeartbeats 8000000 in
set_option maxRecDepth 100000 in
theorem errH.calls (g base : Nat) (b : List Int) (e : Int) (F : List Asr) (w0 w : World) (h : Has w0 base w (reader g b e :: F)) :
    Calls Try.prog 13 #[.pointer (some ⟨g, 0, none⟩)] w fun e' w' => e' = .returned (.int .i64 e) ∧ w' = w := by
  obtain ⟨A, c, bk, _⟩ := reader_cells h
  have hc1 : w.cell? ⟨g, 1, none⟩ = some (.int .i64 e) := (blk_cell bk 1).trans rfl
  have hf1 := blk_frozen bk 1
  clear h
  go_enter Try.func13, Try.ntmps13
  go_wp2
  go_ret
  exact ⟨rfl, rfl⟩
set_option maxHeartbeats 8000000 in
set_option maxRecDepth 100000 in
theorem count.calls (g base : Nat) (most : Int) (b : List Int) (e : Int) (F : List Asr) (w0 w : World) (h : Has w0 base w (reader g b e :: F)) :
    Calls Try.prog 23 #[.pointer (some ⟨g, 0, none⟩), .int .i64 most] w fun e' w' => e' = .returned (.int .i64 (countB most b e).1) ∧ Has w0 base w' (reader g (countB most b e).2.1 (countB most b e).2.2 :: F) := by
  obtain ⟨n, b2, e2, hI⟩ : ∃ n b2 e2, intB b e = (n, b2, e2) := ⟨_, _, _, rfl⟩
  have hcall := int.calls g base b e F w0 w h
  have hcb : countB most b e = if e2 = 0 ∧ (n < 0 ∨ most < n) then (0, [], 4) else (n, b2, e2) := by unfold countB; rw [hI]
  simp only [hI] at hcall
  rw [hcb]
  have HC := Aside0.mk hcall
  clear hcall hcb hI h
  have hways : e2 ≠ 0 ∨ e2 = 0 ∧ n < 0 ∨ e2 = 0 ∧ ¬ n < 0 ∧ most < n ∨ e2 = 0 ∧ ¬ n < 0 ∧ ¬ most < n := by omega
  rcases hways with he | ⟨he, hn⟩ | ⟨he, hn, hm⟩ | ⟨he, hn, hm⟩
  · rw [if_neg (fun h => he h.1)]
    have d1 : (e2 == 0) = false := by simpa using he
    clear he
    go_enter Try.func23, Try.ntmps23
    go_wp2_with (first | (go_at_call 10; (refine (HC.out).mono ?_); rintro e1 w1 ⟨rfl, hw1⟩; obtain ⟨A1, c1, bk1, _⟩ := reader_cells hw1; have hc1 : w1.cell? ⟨g, 1, none⟩ = some (.int .i64 e2) := (blk_cell bk1 1).trans rfl; have hf1 := blk_frozen bk1 1; have HW := Aside0.mk hw1; clear hw1 bk1) | (go_enter Try.func28, Try.ntmps28))
    go_ret
    exact ⟨rfl, HW.out⟩
  · subst he
    rw [if_pos ⟨rfl, .inl hn⟩]
    have d1 : decide (n < 0) = true := decide_eq_true hn
    clear hn
    go_enter Try.func23, Try.ntmps23
    go_wp2_with (first | (go_at_call 10; (refine (HC.out).mono ?_); rintro e1 w1 ⟨rfl, hw1⟩; obtain ⟨A1, c1, bk1, _⟩ := reader_cells hw1; have hc0 : w1.cell? ⟨g, 0, none⟩ = some (.slice A1 b2.length c1) := (blk_cell bk1 0).trans rfl; have hc1 : w1.cell? ⟨g, 1, none⟩ = some (.int .i64 0) := (blk_cell bk1 1).trans rfl; have hf0 := blk_frozen bk1 0; have hf1 := blk_frozen bk1 1; have HW := Aside0.mk hw1; clear hw1 bk1) | (go_enter Try.func28, Try.ntmps28) | (go_enter Try.func31, Try.ntmps31))
    go_end0
    go_wp2
    go_ret
    exact ⟨rfl, reader_wrong HW.out 4⟩
  · subst he
    rw [if_pos ⟨rfl, .inr hm⟩]
    have d1 : decide (n < 0) = false := decide_eq_false hn
    have d2 : decide (most < n) = true := decide_eq_true hm
    clear hn hm
    go_enter Try.func23, Try.ntmps23
    go_wp2_with (first | (go_at_call 10; (refine (HC.out).mono ?_); rintro e1 w1 ⟨rfl, hw1⟩; obtain ⟨A1, c1, bk1, _⟩ := reader_cells hw1; have hc0 : w1.cell? ⟨g, 0, none⟩ = some (.slice A1 b2.length c1) := (blk_cell bk1 0).trans rfl; have hc1 : w1.cell? ⟨g, 1, none⟩ = some (.int .i64 0) := (blk_cell bk1 1).trans rfl; have hf0 := blk_frozen bk1 0; have hf1 := blk_frozen bk1 1; have HW := Aside0.mk hw1; clear hw1 bk1) | (go_enter Try.func28, Try.ntmps28) | (go_enter Try.func31, Try.ntmps31))
    go_end0
    go_wp2
    go_ret
    exact ⟨rfl, reader_wrong HW.out 4⟩
  · subst he
    rw [if_neg (fun h => h.2.elim hn hm)]
    have d1 : decide (n < 0) = false := decide_eq_false hn
    have d2 : decide (most < n) = false := decide_eq_false hm
    clear hn hm
    go_enter Try.func23, Try.ntmps23
    go_wp2_with (first | (go_at_call 10; (refine (HC.out).mono ?_); rintro e1 w1 ⟨rfl, hw1⟩; obtain ⟨A1, c1, bk1, _⟩ := reader_cells hw1; have hc0 : w1.cell? ⟨g, 0, none⟩ = some (.slice A1 b2.length c1) := (blk_cell bk1 0).trans rfl; have hc1 : w1.cell? ⟨g, 1, none⟩ = some (.int .i64 0) := (blk_cell bk1 1).trans rfl; have hf0 := blk_frozen bk1 0; have hf1 := blk_frozen bk1 1; have HW := Aside0.mk hw1; clear hw1 bk1) | (go_enter Try.func28, Try.ntmps28) | (go_enter Try.func31, Try.ntmps31))
    go_ret
    exact ⟨rfl, HW.out⟩
set_option maxHeartbeats 8000000 in
set_option maxRecDepth 100000 in
theorem left.calls (g base : Nat) (b : List Int) (e : Int) (F : List Asr) (w0 w : World) (h : Has w0 base w (reader g b e :: F)) :
    Calls Try.prog 19 #[.pointer (some ⟨g, 0, none⟩)] w fun e' w' => e' = .returned (.int .i64 b.length) ∧ w' = w := by
  obtain ⟨A, c, bk, _⟩ := reader_cells h
  have hc0 : w.cell? ⟨g, 0, none⟩ = some (.slice A b.length c) := (blk_cell bk 0).trans rfl
  have hf0 := blk_frozen bk 0
  clear h
  go_enter Try.func19, Try.ntmps19
  go_wp2
  go_ret
  exact ⟨rfl, rfl⟩
/-- the reader's bytes are cut -/
theorem reader_cut {w0 w : World} {g base : Nat} {b : List Int} {e : Int} {F : List Asr} {A : Option Addr} {c : Nat} (h : Has w0 base w (reader g b e :: F)) (bk : w.heap[g]? = some (.cells #[.slice A b.length c, .int .i64 e] 56 (0, 0))) (n : Nat) (hn : n ≤ b.length) (A2 : Option Addr) (hA2 : ∀ q o, A = some ⟨q, o, none⟩ → n < b.length → A2 = some ⟨q, o + n, none⟩) :
    Has w0 base (w.setCell ⟨g, 0, none⟩ (.slice A2 (b.length - n) (c - n))) (reader g (b.drop n) e :: F) := by
  have hB := h.below
  obtain ⟨S1, ⟨h1, h2, h3, h4, A', c', h5, h6, h7⟩, hS, hout⟩ := h.out
  obtain ⟨rfl, rfl⟩ : A' = A ∧ c' = c := by
    rw [h5] at bk
    have := Option.some.inj bk
    simpa using this
  have hgb := hS g h2
  refine hout _ _ S1 (hB.setCell hgb _) (by simp [World.setCell]) ⟨fun k hk => by simpa [World.setCell] using h1 k hk, h2, by simp; omega, fun x hx => h4 x (List.mem_of_mem_drop hx), A2, c' - n, ?_, by simp; omega, fun hp => ?_⟩ (fun k hk => .inl hk) (fun k _ hn => Below.heap_setCell _ ⟨g, 0, none⟩ _ k (fun e => hn (e ▸ h2)))
  · rw [List.length_drop]
    exact blk_put h5 0 _ rfl
  · rw [List.length_drop] at hp
    have hp2 : 0 < b.length := by omega
    have hp3 : n < b.length := by omega
    obtain ⟨q, o, rfl, hq, hqg, hcell⟩ := h7 hp2
    refine ⟨q, o + n, hA2 q o rfl hp3, hq, hqg, fun j h => ?_⟩
    have h' : n + j < b.length := Nat.add_lt_of_lt_sub' (by rw [← List.length_drop]; exact h)
    have x := hcell (n + j) h'
    have hk := Below.heap_setCell w ⟨g, 0, none⟩ (.slice A2 (b.length - n) (c' - n)) q hqg
    rw [List.getElem_drop, ← x, show o + n + j = o + (n + j) from by omega]
    simp only [World.cell?, hk]
theorem drop_run0 (A : Option Addr) (m c n : Nat) (h1 : n ≤ m) (h2 : m ≤ c) : ∃ A2 : Option Addr, (∀ q o, A = some ⟨q, o, none⟩ → n < m → A2 = some ⟨q, o + n, none⟩) ∧ ∀ W : World, (Instr.slice 22 (.slice A m c) (some (.int .i64 (n : Int))) none none).run Try.prog W = .ok (.slice A2 (m - n) (c - n)) W := by
  obtain ⟨i, hi, hz, hsz, hby⟩ := info_parts info5
  have hel : Try.prog.elem 22 = 5 := by simp [Program.elem, Try.underlying22]
  have hu : Try.prog.underlying 22 = some (.slice (Try.prog.elem 22)) := by rw [hel]; exact Try.underlying22
  refine ⟨if c = n then A else A.map (·.add (n * 1)), ?_, fun W => ?_⟩
  · rintro q o rfl h
    rw [if_neg (by omega)]
    simp [Addr.add]
  · rw [run_slice_l W 22 _ m c hu .i64 (n : Int) (by omega) (by omega), hel]
    simp [sizeOf, typeInfo, hi, hsz, sliced, Result.andThen]
theorem take_run0 (A : Option Addr) (m c n : Nat) (h2 : n ≤ c) : ∀ W : World, (Instr.slice 22 (.slice A m c) none (some (.int .i64 (n : Int))) none).run Try.prog W = .ok (.slice A n c) W := by
  intro W
  obtain ⟨i, hi, hz, hsz, hby⟩ := info_parts info5
  have hel : Try.prog.elem 22 = 5 := by simp [Program.elem, Try.underlying22]
  have hu : Try.prog.underlying 22 = some (.slice (Try.prog.elem 22)) := by rw [hel]; exact Try.underlying22
  have ha : (A.map fun x => x.add 0) = A := by cases A <;> simp [Addr.add]
  rw [run_slice_h W 22 _ m c hu .i64 (n : Int) (by omega) (by omega), hel]
  simp [sizeOf, typeInfo, hi, sliced, Result.andThen, ha]
theorem C_take {w : World} {A : Option Addr} {b : List Int} (h : Kd.C (Kd.int .u8) w A b.length b) (n : Nat) (hn : n ≤ b.length) : Kd.C (Kd.int .u8) w A (b.take n).length (b.take n) := by
  refine ⟨rfl, by have := h.2.1; rw [List.length_take]; omega, fun hp => ?_⟩
  rw [List.length_take] at hp
  have hp2 : 0 < b.length := by omega
  obtain ⟨ad, rfl, hc⟩ := h.2.2 hp2
  refine ⟨ad, rfl, fun j p hj => hc j p ?_⟩
  rw [List.getElem?_take] at hj
  split at hj
  · exact hj
  · cases hj
set_option maxHeartbeats 8000000 in
set_option maxRecDepth 100000 in
theorem rawH.calls (g base : Nat) (b : List Int) (e : Int) (F : List Asr) (w0 w : World) (h : Has w0 base w (reader g b e :: F)) :
    Calls Try.prog 18 #[.pointer (some ⟨g, 0, none⟩)] w fun e' w' => ∃ v, e' = .returned v ∧ Has w0 base w' (row (Kd.int .u8) 5 v (rawB b e).1 :: reader g (rawB b e).2.1 (rawB b e).2.2 :: F) := by
  obtain ⟨n, b2, e2, hI⟩ : ∃ n b2 e2, intB b e = (n, b2, e2) := ⟨_, _, _, rfl⟩
  have hcall := int.calls g base b e F w0 w h
  have hcb : rawB b e = if e2 ≠ 0 then ([], b2, e2) else if n < 0 then ([], [], 4) else if (b2.length : Int) < n then ([], [], 5) else (b2.take n.toNat, b2.drop n.toNat, 0) := by unfold rawB; rw [hI]
  simp only [hI] at hcall
  rw [hcb]
  have HC := Aside0.mk hcall
  have hnil : ∀ {w1 : World} {L : List Asr}, Has w0 base w1 L → Has w0 base w1 (row (Kd.int .u8) 5 (.slice none 0 0) [] :: L) := fun h => h.newRow (Below.refl _ _) (ok := fun _ => True) (Kd.R_nil _ _ _ _ _)
  have HNIL := Aside0.mk @hnil
  clear hcall hcb hI h hnil
  have hways : e2 ≠ 0 ∨ e2 = 0 ∧ n < 0 ∨ e2 = 0 ∧ ¬ n < 0 ∧ (b2.length : Int) < n ∨ e2 = 0 ∧ ¬ n < 0 ∧ ¬ (b2.length : Int) < n := by omega
  rcases hways with he | ⟨he, hn⟩ | ⟨he, hn, hm⟩ | ⟨he, hn, hm⟩
  · rw [if_pos he]
    have d1 : (e2 == 0) = false := by simpa using he
    clear he
    go_enter Try.func18, Try.ntmps18
    go_wp2_with (first | (go_at_call 10; (refine (HC.out).mono ?_); rintro e1 w1 ⟨rfl, hw1⟩; obtain ⟨A1, c1, bk1, _⟩ := reader_cells hw1; have hc0 : w1.cell? ⟨g, 0, none⟩ = some (.slice A1 b2.length c1) := (blk_cell bk1 0).trans rfl; have hc1 : w1.cell? ⟨g, 1, none⟩ = some (.int .i64 e2) := (blk_cell bk1 1).trans rfl; have hf0 := blk_frozen bk1 0; have hf1 := blk_frozen bk1 1; have HW := Aside0.mk hw1; clear hw1 bk1) | (go_enter Try.func28, Try.ntmps28) | (go_enter Try.func31, Try.ntmps31))
    go_ret
    exact ⟨_, rfl, HNIL.out HW.out⟩
  · subst he
    rw [if_neg (by decide), if_pos hn]
    have d1 : decide (n < 0) = true := decide_eq_true hn
    clear hn
    go_enter Try.func18, Try.ntmps18
    go_wp2_with (first | (go_at_call 10; (refine (HC.out).mono ?_); rintro e1 w1 ⟨rfl, hw1⟩; obtain ⟨A1, c1, bk1, _⟩ := reader_cells hw1; have hc0 : w1.cell? ⟨g, 0, none⟩ = some (.slice A1 b2.length c1) := (blk_cell bk1 0).trans rfl; have hc1 : w1.cell? ⟨g, 1, none⟩ = some (.int .i64 0) := (blk_cell bk1 1).trans rfl; have hf0 := blk_frozen bk1 0; have hf1 := blk_frozen bk1 1; have HW := Aside0.mk hw1; clear hw1 bk1) | (go_enter Try.func28, Try.ntmps28) | (go_enter Try.func31, Try.ntmps31))
    go_end0
    go_wp2
    go_ret
    exact ⟨_, rfl, HNIL.out (reader_wrong HW.out 4)⟩
  · subst he
    rw [if_neg (by decide), if_neg hn, if_pos hm]
    have d1 : decide (n < 0) = false := decide_eq_false hn
    have d2 : decide ((b2.length : Int) < n) = true := decide_eq_true hm
    clear hn hm
    go_enter Try.func18, Try.ntmps18
    go_wp2_with (first | (go_at_call 10; (refine (HC.out).mono ?_); rintro e1 w1 ⟨rfl, hw1⟩; obtain ⟨A1, c1, bk1, _⟩ := reader_cells hw1; have hc0 : w1.cell? ⟨g, 0, none⟩ = some (.slice A1 b2.length c1) := (blk_cell bk1 0).trans rfl; have hc1 : w1.cell? ⟨g, 1, none⟩ = some (.int .i64 0) := (blk_cell bk1 1).trans rfl; have hf0 := blk_frozen bk1 0; have hf1 := blk_frozen bk1 1; have HW := Aside0.mk hw1; clear hw1 bk1) | (go_enter Try.func28, Try.ntmps28) | (go_enter Try.func31, Try.ntmps31))
    go_end0
    go_wp2
    go_ret
    exact ⟨_, rfl, HNIL.out (reader_wrong HW.out 5)⟩
  · subst he
    obtain ⟨m, rfl⟩ : ∃ m : Nat, n = (m : Int) := ⟨n.toNat, by omega⟩
    rw [if_neg (by decide), if_neg hn, if_neg hm, Int.toNat_natCast]
    have d1 : decide ((m : Int) < 0) = false := decide_eq_false hn
    have d2 : decide ((b2.length : Int) < (m : Int)) = false := decide_eq_false hm
    have d3 : decide (b2.length < m) = false := decide_eq_false (by omega)
    have HM := Aside0.mk (show m ≤ b2.length by omega)
    clear hn hm
    go_enter Try.func18, Try.ntmps18
    go_wp2_with (first | (go_at_call 10; (refine (HC.out).mono ?_); rintro e1 w1 ⟨rfl, hw1⟩; have hlen1 := Aside0.mk (reader_len hw1); obtain ⟨A1, c1, bk1_, hle1, hC1, hq1⟩ := reader_cells hw1; have bk1 := Aside0.mk bk1_; have hmc : m ≤ c1 := Nat.le_trans HM.out hle1; have htk := take_run0 A1 b2.length c1 m hmc; obtain ⟨A2, hA2_, hdr⟩ := drop_run0 A1 b2.length c1 m HM.out hle1; have hA2 := Aside0.mk hA2_; have hCm := Aside0.mk (C_take hC1 m HM.out); clear hC1 hq1 hA2_; have hc0 : w1.cell? ⟨g, 0, none⟩ = some (.slice A1 b2.length c1) := (blk_cell bk1_ 0).trans rfl; have hc1 : w1.cell? ⟨g, 1, none⟩ = some (.int .i64 0) := (blk_cell bk1_ 1).trans rfl; have hf0 := blk_frozen bk1_ 0; have hf1 := blk_frozen bk1_ 1; have HW := Aside0.mk hw1; clear hw1 bk1_) | (go_at_call 27; (refine (cloneN.calls A1 c1 (b2.take m) m w1 (by have := HM.out; rw [List.length_take]; omega) hCm.out hmc (by have := HM.out; have := hlen1.out; omega)).mono ?_); rintro e3 w2 ⟨v2, rfl, ho2, hb2⟩; have HW2 := Aside0.mk (HW.out.newRow hb2 ho2).sw; obtain ⟨A3, c3, bk3, _⟩ := reader_cells HW2.out; have e3_ : A3 = A1 ∧ c3 = c1 := (by have hh := (blk_below bk1.out hb2).symm.trans bk3; have := Option.some.inj hh; simpa using this.symm); obtain ⟨rfl, rfl⟩ := e3_; have hc3 : w2.cell? ⟨g, 0, none⟩ = some (.slice A3 b2.length c3) := (blk_cell bk3 0).trans rfl; have hf3 := blk_frozen bk3 0; have BK3 := Aside0.mk bk3; clear ho2 hb2 bk3) | (go_enter Try.func28, Try.ntmps28) | (go_enter Try.func31, Try.ntmps31))
    go_ret
    exact ⟨_, rfl, (reader_cut HW2.out BK3.out m HM.out A2 hA2.out).sw⟩
end Go.Proofs.Ytoibgnhfpcaejaa.BytesW
