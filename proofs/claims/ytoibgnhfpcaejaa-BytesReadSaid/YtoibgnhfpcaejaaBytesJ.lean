/- The reader of package bytes: its next number, of any bytes. Condition: it reads bytes, a thousand million at most. -/
import Derived.Test.YtoibgnhfpcaejaaBytesI
namespace Go.Proofs.Ytoibgnhfpcaejaa.BytesW
open Go.RowKit Go.Proofs.YtoibgnhfpcaejaaW.PrintWords Go.Proofs.YtoibgnhfpcaejaaW.PrintLast Go.Proofs.YtoibgnhfpcaejaaW.PrintMore Go.Proofs.Ytoibgnhfpcaejaa.Sep
attribute [local go_sem] max2_int min2_int max_two min_two max_three min_three max_four min_four   -- for this text's walks alone
set_option linter.unusedVariables false
set_option linter.unusedSimpArgs false
/-- a number out of its groups of seven bits -/
def valB : List Int → Nat
  | [] => 0
  | c :: b => c.toNat % 128 + 128 * valB b
def unzig (u : Nat) : Int := if u % 2 = 1 then -((u / 2 : Nat) : Int) - 1 else ((u / 2 : Nat) : Int)
/-- what a reader answers, and what is left: the number, the bytes, what is wrong -/
def intB (b : List Int) (e : Int) : Int × List Int × Int :=
  if e ≠ 0 then (0, b, e) else
  match endAt b with
  | none => (0, [], 5)
  | some n => if 9 ≤ n ∨ (0 < n ∧ b.getD n 0 = 0) then (0, [], 4) else (unzig (valB (b.take (n + 1))), b.drop (n + 1), 0)
def reader (g : Nat) (b : List Int) (e : Int) : Asr where
  P w S := (∀ k, S k → k < w.heap.size) ∧ S g ∧ b.length ≤ 1000000000 ∧ (∀ x ∈ b, 0 ≤ x ∧ x < 256) ∧ ∃ A c, w.heap[g]? = some (.cells #[.slice A b.length c, .int .i64 e] 56 (0, 0)) ∧ b.length ≤ c ∧ (0 < b.length → ∃ q o, A = some ⟨q, o, none⟩ ∧ S q ∧ q ≠ g ∧ ∀ j (h : j < b.length), w.cell? ⟨q, o + j, none⟩ = some (.int .u8 b[j]))
  loc := by
    rintro w w' S ⟨h1, h2, h3, h4, A, c, h5, h6, h7⟩ hz hs
    refine ⟨fun k hk => Nat.lt_of_lt_of_le (h1 k hk) hz, h2, h3, h4, A, c, (hs g h2).trans h5, h6, fun hp => ?_⟩
    obtain ⟨q, o, rfl, hq, hqg, hc⟩ := h7 hp
    exact ⟨q, o, rfl, hq, hqg, fun j h => by rw [← hc j h]; simp [World.cell?, hs q hq]⟩
  lt := fun h => h.1
theorem valB_snoc : ∀ (b : List Int) (c : Int), valB (b ++ [c]) = valB b + 128 ^ b.length * (c.toNat % 128) := by
  intro b
  induction b with
  | nil => intro c; simp [valB]
  | cons x b ih =>
    intro c
    simp only [List.cons_append, valB, ih, List.length_cons, Nat.pow_succ, Nat.mul_add]
    rw [Nat.mul_comm (128 ^ b.length) 128, Nat.mul_assoc]
    omega
theorem valB_lt : ∀ (b : List Int), valB b < 128 ^ b.length := by
  intro b
  induction b with
  | nil => simp [valB]
  | cons x b ih =>
    simp only [valB, List.length_cons, Nat.pow_succ]
    have : x.toNat % 128 < 128 := Nat.mod_lt _ (by decide)
    omega
theorem and127 {c : Int} (h0 : 0 ≤ c) (h1 : c < 256) : Go.bits .and .u8 c 127 = ((c.toNat % 128 : Nat) : Int) := by
  rw [Go.u8_and _ _ h0 h1 (by decide) (by decide)]
  congr 1
  exact Go.nat_mask7 _
theorem cut_run (W : World) (q o n c : Nat) (j : Int) (h0 : 0 ≤ j) (hm : j ≤ c) : (Instr.slice 22 (.slice (some ⟨q, o, none⟩) n c) none (some (.int .i64 j)) none).run Try.prog W = .ok (.slice (some ⟨q, o, none⟩) j.toNat c) W := by
  obtain ⟨i, hi, hz, hsz, hby⟩ := info_parts info5
  have hel : Try.prog.elem 22 = 5 := by simp [Program.elem, Try.underlying22]
  have hu : Try.prog.underlying 22 = some (.slice (Try.prog.elem 22)) := by rw [hel]; exact Try.underlying22
  rw [run_slice_h W 22 _ n c hu .i64 j h0 hm, hel]
  simp [sizeOf, typeInfo, hi, sliced, Result.andThen, Addr.add]
theorem drop_run (q o m c n : Nat) (h1 : n + 1 ≤ m) (h2 : m ≤ c) : ∃ A2 : Option Addr, (n + 1 < m → A2 = some ⟨q, o + (n + 1), none⟩) ∧ ∀ W : World, (Instr.slice 22 (.slice (some ⟨q, o, none⟩) m c) (some (.int .i64 ((n : Int) + 1))) none none).run Try.prog W = .ok (.slice A2 (m - (n + 1)) (c - (n + 1))) W := by
  obtain ⟨i, hi, hz, hsz, hby⟩ := info_parts info5
  have hel : Try.prog.elem 22 = 5 := by simp [Program.elem, Try.underlying22]
  have hu : Try.prog.underlying 22 = some (.slice (Try.prog.elem 22)) := by rw [hel]; exact Try.underlying22
  have e : ((n : Int) + 1).toNat = n + 1 := by omega
  refine ⟨if c = n + 1 then some ⟨q, o, none⟩ else some ⟨q, o + (n + 1), none⟩, fun h => by rw [if_neg (by omega)], fun W => ?_⟩
  rw [run_slice_l W 22 _ m c hu .i64 ((n : Int) + 1) (by omega) (by omega), hel]
  simp [sizeOf, typeInfo, hi, hsz, sliced, Result.andThen, Addr.add, e]
theorem step_bits (b : List Int) (i : Nat) (hi : i < b.length) (h8 : i ≤ 8) (t : Nat) (ht : b[i].toNat % 128 = t) : Go.bits .or .u64 ((valB (b.take i) : Nat) : Int) (IntKind.u64.wrap ((t : Int) * 2 ^ (7 * i))) = ((valB (b.take (i + 1)) : Nat) : Int) := by
  have h1 : valB (b.take (i + 1)) = valB (b.take i) + 128 ^ i * t := by
    rw [List.take_succ_eq_append_getElem hi, valB_snoc, ht, List.length_take, Nat.min_eq_left (by omega)]
  have h2 : valB (b.take i) < 2 ^ (7 * i) := by
    have := valB_lt (b.take i)
    rw [List.length_take, Nat.min_eq_left (by omega)] at this
    rw [Nat.pow_mul]
    exact this
  have ht2 : t < 128 := by rw [← ht]; exact Nat.mod_lt _ (by decide)
  have hp : 2 ^ (7 * i) ≤ 2 ^ 56 := Nat.pow_le_pow_right (by decide) (by omega)
  have h3 : t * 2 ^ (7 * i) < 18446744073709551616 := by
    have : t * 2 ^ (7 * i) ≤ 127 * 2 ^ 56 := Nat.mul_le_mul (by omega) hp
    omega
  have h4 : IntKind.u64.wrap ((t : Int) * 2 ^ (7 * i)) = ((t * 2 ^ (7 * i) : Nat) : Int) := by
    have e : ((t : Int) * 2 ^ (7 * i)) = ((t * 2 ^ (7 * i) : Nat) : Int) := by push_cast; rfl
    rw [e]
    simp only [IntKind.wrap, IntKind.signed, IntKind.bits]
    simp
    omega
  rw [h4, Go.u64_or_nat _ _ (by omega) h3]
  congr 1
  rw [h1, Nat.or_comm, Go.nat_join (7 * i) _ _ (by simp) h2, show (128 : Nat) = 2 ^ 7 from rfl, ← Nat.pow_mul, Nat.mul_comm t]
  omega
theorem unzig_odd (u : Nat) (h : ((u : Int) % 2 == 1) = true) : -((u : Int) / 2) - 1 = unzig u := by
  have h1 : (u : Int) % 2 = 1 := by simpa using h
  unfold unzig
  rw [if_pos (by omega)]
  omega
theorem unzig_even (u : Nat) (h : ((u : Int) % 2 == 1) = false) : (u : Int) / 2 = unzig u := by
  have h1 : ¬ (u : Int) % 2 = 1 := by simpa using h
  unfold unzig
  rw [if_neg (by omega)]
  omega
theorem unzig_u (u : Nat) (h : u < 128 ^ 9) : Go.bits .and .u64 (u : Int) 1 = ((u % 2 : Nat) : Int) ∧ u / 2 < 9223372036854775807 := by
  have h2 : (128 : Nat) ^ 9 = 9223372036854775808 := by decide
  rw [h2] at h
  exact ⟨by rw [show (1 : Int) = ((1 : Nat) : Int) from rfl, Go.u64_and_nat _ _ (by omega) (by decide), Go.nat_mask1], by omega⟩
theorem by_cell (A : Option Addr) (c : Nat) (b : List Int) (w : World) {S : Nat → Prop} {g : Nat} (h3 : b.length ≤ 1000000000) (h7 : 0 < b.length → ∃ q o, A = some ⟨q, o, none⟩ ∧ S q ∧ q ≠ g ∧ ∀ j (h : j < b.length), w.cell? ⟨q, o + j, none⟩ = some (.int .u8 b[j])) :
    Calls Try.prog 29 #[.slice A b.length c, .func (.func 30) #[] #[]] w fun e w' => e = .returned (.int .i64 (idxI b)) ∧ w' = w := by
  by_cases h0 : 0 < b.length
  · obtain ⟨q, o, rfl, _, _, hc⟩ := h7 h0
    exact idx.calls _ c q o b w h3 (fun _ => rfl) hc
  · exact idx.calls _ c 0 0 b w h3 (fun h => absurd h h0) (fun j h => absurd h (by omega))
set_option maxHeartbeats 8000000 in
set_option maxRecDepth 100000 in
theorem int.calls (g base : Nat) (b : List Int) (e : Int) (F : List Asr) (w0 w : World) (h : Has w0 base w (reader g b e :: F)) :
    Calls Try.prog 10 #[.pointer (some ⟨g, 0, none⟩)] w fun e' w' => e' = .returned (.int .i64 (intB b e).1) ∧ Has w0 base w' (reader g (intB b e).2.1 (intB b e).2.2 :: F) := by
  have hB := h.below
  obtain ⟨S1, ⟨h1, h2, h3, h4, A, c, h5, h6, h7⟩, hS, hout⟩ := h.out
  have hc0 : w.cell? ⟨g, 0, none⟩ = some (.slice A b.length c) := (blk_cell h5 0).trans rfl
  have hc1 : w.cell? ⟨g, 1, none⟩ = some (.int .i64 e) := (blk_cell h5 1).trans rfl
  have hf0 := blk_frozen h5 0
  have hf1 := blk_frozen h5 1
  have hgb := hS g h2
  -- what 'wrong' comes to
  have wrong : ∀ e2 : Int, Has w0 base ((w.setCell ⟨g, 0, none⟩ (.slice none 0 0)).setCell ⟨g, 1, none⟩ (.int .i64 e2)) (reader g [] e2 :: F) := by
    intro e2
    refine hout _ _ S1 ((hB.setCell hgb _).setCell hgb _) (by simp [World.setCell]) ⟨fun k hk => by simpa [World.setCell] using h1 k hk, h2, by simp, by simp, none, 0, ?_, by simp, fun hp => by simp at hp⟩ (fun k hk => .inl hk) (fun k _ hn => ?_)
    · exact blk_put (blk_put h5 0 _ rfl) 1 _ rfl
    · have hk : k ≠ g := fun e => hn (e ▸ h2)
      exact (Below.heap_setCell _ ⟨g, 1, none⟩ _ k hk).trans (Below.heap_setCell _ ⟨g, 0, none⟩ _ k hk)
  by_cases he : e = 0
  · subst he
    cases hE : endAt b with
    | none =>
      have hI : idxI b = -1 := by unfold idxI; rw [hE]
      have hr : intB b 0 = (0, [], 5) := by unfold intB; rw [if_neg (by decide), hE]
      have hIc := by_cell A c b w h3 h7
      simp only [hI] at hIc
      have HI := Aside0.mk hIc
      have HW := Aside0.mk (wrong 5)
      have HR := Aside0.mk hr
      clear hIc hE hr hI wrong hout h1 h3 h4 h7 h
      go_enter Try.func10, Try.ntmps10
      go_wp2_with (first | (go_at_call 29; (refine (HI.out).mono ?_); rintro e1 w1 ⟨rfl, ew_⟩; subst w1) | (go_enter Try.func28, Try.ntmps28) | (go_enter Try.func31, Try.ntmps31))
      go_end0
      go_wp2
      go_ret
      exact ⟨by rw [HR.out]; rfl, by rw [HR.out]; exact HW.out⟩
    | some n =>
      obtain ⟨hn, hn1, hn2⟩ := endAt_spec b n hE
      have hIc := by_cell A c b w h3 h7
      obtain ⟨q, o, rfl, hq, hqg, hcell⟩ := h7 (by omega)
      have hI : idxI b = (n : Int) := by unfold idxI; rw [hE]
      simp only [hI] at hIc
      have HI := Aside0.mk hIc
      clear hIc
      have xn := hcell n hn
      have hgd : b.getD n 0 = b[n] := by simp [List.getD_eq_getElem?_getD, hn]
      by_cases h9 : 9 ≤ n
      · have hr : intB b 0 = (0, [], 4) := by unfold intB; rw [if_neg (by decide), hE]; simp only; rw [if_pos (.inl h9)]
        have HW := Aside0.mk (wrong 4)
        have HR := Aside0.mk hr
        have d1 : decide ((9 : Int) ≤ (n : Int)) = true := decide_eq_true (by omega)
        have d2 : decide ((n : Int) < 0) = false := decide_eq_false (by omega)
        have h90 : 0 < n := by omega
        clear hE hr hI wrong hout h1 h3 h4 h7 h hcell hn2 hgd
        go_enter Try.func10, Try.ntmps10
        go_wp2_with (first | (go_at_call 29; (refine (HI.out).mono ?_); rintro e1 w1 ⟨rfl, ew_⟩; subst w1) | (go_enter Try.func28, Try.ntmps28) | (go_enter Try.func31, Try.ntmps31))
        all_goals go_end0
        all_goals go_wp2
        all_goals go_ret
        all_goals exact ⟨by rw [HR.out]; rfl, by rw [HR.out]; exact HW.out⟩
      · by_cases hz : 0 < n ∧ b[n] = 0
        · have hr : intB b 0 = (0, [], 4) := by unfold intB; rw [if_neg (by decide), hE]; simp only; rw [if_pos (.inr ⟨hz.1, hgd.trans hz.2⟩)]
          have HW := Aside0.mk (wrong 4)
          have HR := Aside0.mk hr
          have d1 : decide ((9 : Int) ≤ (n : Int)) = false := decide_eq_false (by omega)
          have d2 : decide ((n : Int) < 0) = false := decide_eq_false (by omega)
          have d3 : decide ((0 : Int) < (n : Int)) = true := decide_eq_true (by omega)
          rw [hz.2] at xn
          have h90 : 0 < n := hz.1
          clear hE hr hI wrong hout h1 h3 h4 h7 h hcell hn2 hgd hz
          go_enter Try.func10, Try.ntmps10
          go_wp2_with (first | (go_at_call 29; (refine (HI.out).mono ?_); rintro e1 w1 ⟨rfl, ew_⟩; subst w1) | (go_enter Try.func28, Try.ntmps28) | (go_enter Try.func31, Try.ntmps31))
          all_goals go_end0
          all_goals go_wp2
          all_goals go_ret
          all_goals exact ⟨by rw [HR.out]; rfl, by rw [HR.out]; exact HW.out⟩
        · have hr : intB b 0 = (unzig (valB (b.take (n + 1))), b.drop (n + 1), 0) := by
            unfold intB
            rw [if_neg (by decide), hE]
            simp only
            rw [if_neg (by rw [hgd]; omega)]
          obtain ⟨A2, hA2, hdrop⟩ := drop_run q o b.length c n (by omega) h6
          have hcut : ∀ W : World, (Instr.slice 22 (.slice (some ⟨q, o, none⟩) b.length c) none (some (.int .i64 ((n : Int) + 1))) none).run Try.prog W = .ok (.slice (some ⟨q, o, none⟩) (n + 1) c) W := by
            intro W
            rw [cut_run W q o b.length c ((n : Int) + 1) (by omega) (by omega)]
            rfl
          have HOUT : ∀ w2 : World, w2 = w.setCell ⟨g, 0, none⟩ (.slice A2 (b.length - (n + 1)) (c - (n + 1))) → Has w0 base w2 (reader g (b.drop (n + 1)) 0 :: F) := by
            intro w2 hw2
            subst hw2
            refine hout _ _ S1 (hB.setCell hgb _) (by simp [World.setCell]) ⟨fun k hk => by simpa [World.setCell] using h1 k hk, h2, by simp; omega, fun x hx => h4 x (List.mem_of_mem_drop hx), A2, c - (n + 1), ?_, by simp; omega, fun hp => ?_⟩ (fun k hk => .inl hk) (fun k _ hn => Below.heap_setCell _ ⟨g, 0, none⟩ _ k (fun e => hn (e ▸ h2)))
            · rw [List.length_drop]
              exact blk_put h5 0 _ rfl
            · rw [List.length_drop] at hp
              refine ⟨q, o + (n + 1), hA2 (by omega), hq, hqg, fun j h => ?_⟩
              have h' : n + 1 + j < b.length := by rw [List.length_drop] at h; omega
              have x := hcell (n + 1 + j) h'
              have hk := Below.heap_setCell w ⟨g, 0, none⟩ (.slice A2 (b.length - (n + 1)) (c - (n + 1))) q hqg
              rw [List.getElem_drop, ← x, show o + (n + 1) + j = o + (n + 1 + j) from by omega]
              simp only [World.cell?, hk]
          have HW := Aside0.mk HOUT
          have HR := Aside0.mk hr
          have HC := Aside0.mk hcell
          have H4 := Aside0.mk (show ∀ j (h : j < b.length), 0 ≤ b[j] ∧ b[j] < 256 from fun j h => h4 _ (List.getElem_mem h))
          have HN := Aside0.mk (And.intro hn (show n ≤ 8 by omega))
          have d1 : decide ((9 : Int) ≤ (n : Int)) = false := decide_eq_false (by omega)
          have d2 : decide ((n : Int) < 0) = false := decide_eq_false (by omega)
          have hz' : 0 < n ∧ ¬ b[n] = 0 ∨ n = 0 := by omega
          clear hE hr hI wrong hout h1 h3 h4 h7 h hn2 hgd hz hA2 HOUT hn1
          rcases hz' with ⟨hz1, hz2⟩ | hz1
          · have d3 : decide ((0 : Int) < (n : Int)) = true := decide_eq_true (by omega)
            have d4 : (b[n] == 0) = false := by simpa using hz2
            clear hcell
            go_enter Try.func10, Try.ntmps10
            go_wp2_with (first | (go_at_call 29; (refine (HI.out).mono ?_); rintro e1 w1 ⟨rfl, ew_⟩; subst w1) | (go_enter Try.func28, Try.ntmps28) | (go_enter Try.func31, Try.ntmps31))
            go_loopg [4, 45] (n + 2) (fun kq v4 v45 w' => ∃ i : Nat, v45 = .int .i64 (i : Int) ∧ v4 = .int .u64 ((valB (b.take i) : Nat) : Int) ∧ Aside0 (i + kq = n + 2) ∧ Aside0 (i ≤ n + 1) ∧ w' = w)
            case atStart => exact ⟨0, rfl, by simp [valB], ⟨by omega⟩, ⟨by omega⟩, rfl⟩
            case round =>
              obtain ⟨i, rfl, rfl, HK, HJ, rfl⟩ := hrel
              by_cases hin : i < n + 1
              · have hil : i < b.length := by have := HN.out; omega
                have x := HC.out i hil
                obtain ⟨hx0, hx1⟩ := H4.out i hil
                have a1 := and127 hx0 hx1
                obtain ⟨t, ht⟩ : ∃ t : Nat, b[i].toNat % 128 = t := ⟨_, rfl⟩
                rw [ht] at a1
                have hsb := step_bits b i hil (by have := HN.out.2; omega) t ht
                have HSB := Aside0.mk hsb
                clear hsb
                have d5 : decide ((i : Int) < (n : Int) + 1) = true := decide_eq_true (by omega)
                have d6 : decide (i < n + 1) = true := decide_eq_true (by omega)
                go_wp2
                cases gk with
                | zero => exact absurd HK.out (by omega)
                | succ k1 =>
                  go_roundg k1
                  case measure => have := HK.out; omega
                  case rel => exact ⟨i + 1, rfl, by rw [HSB.out], ⟨by have := HK.out; omega⟩, ⟨by omega⟩, rfl⟩
              · have hie : i = n + 1 := by have := HJ.out; omega
                subst hie
                have d5 : decide (((n + 1 : Nat) : Int) < (n : Int) + 1) = false := decide_eq_false (by omega)
                have d6 : decide (n + 1 < n + 1) = false := decide_eq_false (by omega)
                obtain ⟨u, hu⟩ : ∃ u, valB (b.take (n + 1)) = u := ⟨_, rfl⟩
                rw [hu] at HR
                have hu2 := unzig_u u (by rw [← hu]; exact Nat.lt_of_lt_of_le (valB_lt _) (by rw [List.length_take]; exact Nat.pow_le_pow_right (by decide) (by have := HN.out; omega)))
                obtain ⟨hu3, hu4⟩ := hu2
                rw [hu]
                clear hu
                go_wp2
                all_goals go_ret
                all_goals refine ⟨?_, by rw [HR.out]; exact HW.out _ rfl⟩
                all_goals rw [HR.out]
                · exact congrArg (fun z => Ending.returned (Value.int .i64 z)) (unzig_odd u (by assumption))
                · exact congrArg (fun z => Ending.returned (Value.int .i64 z)) (unzig_even u (by assumption))
          · have h90 : ¬ 0 < n := by omega
            have d3 : decide ((0 : Int) < (n : Int)) = false := decide_eq_false (by omega)
            clear hcell hz1
            go_enter Try.func10, Try.ntmps10
            go_wp2_with (first | (go_at_call 29; (refine (HI.out).mono ?_); rintro e1 w1 ⟨rfl, ew_⟩; subst w1) | (go_enter Try.func28, Try.ntmps28) | (go_enter Try.func31, Try.ntmps31))
            go_loopg [4, 45] (n + 2) (fun kq v4 v45 w' => ∃ i : Nat, v45 = .int .i64 (i : Int) ∧ v4 = .int .u64 ((valB (b.take i) : Nat) : Int) ∧ Aside0 (i + kq = n + 2) ∧ Aside0 (i ≤ n + 1) ∧ w' = w)
            case atStart => exact ⟨0, rfl, by simp [valB], ⟨by omega⟩, ⟨by omega⟩, rfl⟩
            case round =>
              obtain ⟨i, rfl, rfl, HK, HJ, rfl⟩ := hrel
              by_cases hin : i < n + 1
              · have hil : i < b.length := by have := HN.out; omega
                have x := HC.out i hil
                obtain ⟨hx0, hx1⟩ := H4.out i hil
                have a1 := and127 hx0 hx1
                obtain ⟨t, ht⟩ : ∃ t : Nat, b[i].toNat % 128 = t := ⟨_, rfl⟩
                rw [ht] at a1
                have hsb := step_bits b i hil (by have := HN.out.2; omega) t ht
                have HSB := Aside0.mk hsb
                clear hsb
                have d5 : decide ((i : Int) < (n : Int) + 1) = true := decide_eq_true (by omega)
                have d6 : decide (i < n + 1) = true := decide_eq_true (by omega)
                go_wp2
                cases gk with
                | zero => exact absurd HK.out (by omega)
                | succ k1 =>
                  go_roundg k1
                  case measure => have := HK.out; omega
                  case rel => exact ⟨i + 1, rfl, by rw [HSB.out], ⟨by have := HK.out; omega⟩, ⟨by omega⟩, rfl⟩
              · have hie : i = n + 1 := by have := HJ.out; omega
                subst hie
                have d5 : decide (((n + 1 : Nat) : Int) < (n : Int) + 1) = false := decide_eq_false (by omega)
                have d6 : decide (n + 1 < n + 1) = false := decide_eq_false (by omega)
                obtain ⟨u, hu⟩ : ∃ u, valB (b.take (n + 1)) = u := ⟨_, rfl⟩
                rw [hu] at HR
                have hu2 := unzig_u u (by rw [← hu]; exact Nat.lt_of_lt_of_le (valB_lt _) (by rw [List.length_take]; exact Nat.pow_le_pow_right (by decide) (by have := HN.out; omega)))
                obtain ⟨hu3, hu4⟩ := hu2
                rw [hu]
                clear hu
                go_wp2
                all_goals go_ret
                all_goals refine ⟨?_, by rw [HR.out]; exact HW.out _ rfl⟩
                all_goals rw [HR.out]
                · exact congrArg (fun z => Ending.returned (Value.int .i64 z)) (unzig_odd u (by assumption))
                · exact congrArg (fun z => Ending.returned (Value.int .i64 z)) (unzig_even u (by assumption))
  · have hr : intB b e = (0, b, e) := by unfold intB; rw [if_pos he]
    have d1 : (e == 0) = false := by simpa using he
    have HH := Aside0.mk h
    have HE := Aside0.mk hr
    clear hr he wrong hout h1 h3 h4 h7 h
    go_enter Try.func10, Try.ntmps10
    go_wp2
    go_ret
    exact ⟨by rw [HE.out]; rfl, by rw [HE.out]; exact HH.out⟩
end Go.Proofs.Ytoibgnhfpcaejaa.BytesW
