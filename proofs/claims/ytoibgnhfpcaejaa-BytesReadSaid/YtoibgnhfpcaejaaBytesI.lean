/- Where the first number in bytes ends. No condition. -/
import Derived.Test.YtoibgnhfpcaejaaBytesC
namespace Go.Proofs.Ytoibgnhfpcaejaa.BytesW
open Go.RowKit Go.Proofs.YtoibgnhfpcaejaaW.PrintWords Go.Proofs.YtoibgnhfpcaejaaW.PrintLast Go.Proofs.YtoibgnhfpcaejaaW.PrintMore
attribute [local go_sem] max2_int min2_int max_two min_two max_three min_three max_four min_four   -- for this text's walks alone
set_option linter.unusedVariables false
set_option linter.unusedSimpArgs false
/-- where the first byte without the eighth bit stands -/
def endAt : List Int → Option Nat
  | [] => none
  | c :: b => if c < 128 then some 0 else (endAt b).map (· + 1)
theorem endAt_some : ∀ (b : List Int) (n : Nat), (hn : n < b.length) → b[n] < 128 → (∀ j (h : j < b.length), j < n → 128 ≤ b[j]) → endAt b = some n := by
  intro b
  induction b with
  | nil => intro n hn; simp at hn
  | cons c b ih =>
    intro n hn h1 h2
    cases n with
    | zero => simp only [endAt]; rw [if_pos (by simpa using h1)]
    | succ n =>
      have h0 := h2 0 (by simp) (by omega)
      simp only [List.getElem_cons_zero] at h0
      simp only [endAt]
      rw [if_neg (by omega), ih n (by simpa using hn) (by simpa using h1) (fun j hj hjn => by have := h2 (j + 1) (by simpa using hj) (by omega); simpa using this)]
      rfl
theorem endAt_none : ∀ (b : List Int), (∀ j (h : j < b.length), 128 ≤ b[j]) → endAt b = none := by
  intro b
  induction b with
  | nil => intro _; rfl
  | cons c b ih =>
    intro h
    have h0 := h 0 (by simp)
    simp only [List.getElem_cons_zero] at h0
    simp only [endAt]
    rw [if_neg (by omega), ih (fun j hj => by have := h (j + 1) (by simpa using hj); simpa using this)]
    rfl
theorem endAt_spec : ∀ (b : List Int) (n : Nat), endAt b = some n → ∃ hn : n < b.length, b[n] < 128 ∧ ∀ j (h : j < b.length), j < n → 128 ≤ b[j] := by
  intro b
  induction b with
  | nil => intro n h; cases h
  | cons c b ih =>
    intro n h
    simp only [endAt] at h
    by_cases hc : c < 128
    · rw [if_pos hc] at h
      obtain rfl := Option.some.inj h
      exact ⟨by simp, by simpa using hc, fun j _ hj => by omega⟩
    · rw [if_neg hc] at h
      cases hb : endAt b with
      | none => rw [hb] at h; cases h
      | some m =>
        rw [hb] at h
        obtain rfl := Option.some.inj h
        obtain ⟨h1, h2, h3⟩ := ih m hb
        refine ⟨by simpa using h1, by simpa using h2, fun j hj hjm => ?_⟩
        cases j with
        | zero => simp only [List.getElem_cons_zero]; omega
        | succ j => simp only [List.getElem_cons_succ]; exact h3 j (by simpa using hj) (Nat.lt_of_succ_lt_succ hjm)
theorem endAt_no (b : List Int) (h : endAt b = none) : ∀ j (h : j < b.length), 128 ≤ b[j] := by
  induction b with
  | nil => intro j hj; simp at hj
  | cons c b ih =>
    simp only [endAt] at h
    by_cases hc : c < 128
    · rw [if_pos hc] at h; cases h
    · rw [if_neg hc] at h
      have hb : endAt b = none := by cases hb : endAt b with
        | none => rfl
        | some m => rw [hb] at h; cases h
      intro j hj
      cases j with
      | zero => simp only [List.getElem_cons_zero]; omega
      | succ j => simp only [List.getElem_cons_succ]; exact ih hb j (by simpa using hj)
def idxI (b : List Int) : Int := match endAt b with | none => -1 | some n => n
set_option maxHeartbeats 8000000 in
set_option maxRecDepth 100000 in
theorem idx.calls (A : Option Addr) (c q o : Nat) (b : List Int) (w : World) (hb : b.length ≤ 1000000000) (hA : 0 < b.length → A = some ⟨q, o, none⟩) (hcell : ∀ j (h : j < b.length), w.cell? ⟨q, o + j, none⟩ = some (.int .u8 b[j])) :
    Calls Try.prog 29 #[.slice A b.length c, .func (.func 30) #[] #[]] w fun e w' => e = .returned (.int .i64 (idxI b)) ∧ w' = w := by
  have HC := Aside0.mk hcell
  have HB := Aside0.mk hb
  clear hcell hb
  by_cases h0 : 0 < b.length
  · obtain rfl := hA h0
    have H0 := Aside0.mk h0
    clear h0 hA
    go_enter Try.func29, Try.ntmps29
    go_wp2
    go_loopg [8] (b.length + 2) (fun kq v8 w' => ∃ i : Nat, v8 = .int .i64 (i : Int) ∧ Aside0 (i + kq = b.length + 2) ∧ Aside0 (i ≤ b.length) ∧ Aside0 (∀ j (h : j < b.length), j < i → 128 ≤ b[j]) ∧ w' = w)
    case atStart => exact ⟨0, rfl, ⟨by omega⟩, ⟨by omega⟩, ⟨fun j _ h => by omega⟩, rfl⟩
    case round =>
      obtain ⟨i, rfl, HK, HI, HG, rfl⟩ := hrel
      by_cases hil : i < b.length
      · have x := HC.out i hil
        have d1 : decide ((i : Int) < (b.length : Int)) = true := decide_eq_true (by omega)
        by_cases hx : b[i] < 128
        · have d2 : decide (b[i] < 128) = true := decide_eq_true hx
          have he : idxI b = (i : Int) := by unfold idxI; rw [endAt_some b i hil hx HG.out]
          have HE := Aside0.mk he
          clear he
          go_wp2
          go_ret
          exact ⟨by rw [HE.out]; rfl, rfl⟩
        · have d2 : decide (b[i] < 128) = false := decide_eq_false hx
          cases gk with
          | zero => exact absurd HK.out (by omega)
          | succ k1 =>
            have HBI : i ≤ 1000000000 := by have := HB.out; omega
            go_wp2
            go_roundg k1
            case measure => have := HK.out; omega
            case rel => exact ⟨i + 1, rfl, ⟨by have := HK.out; omega⟩, ⟨by omega⟩, ⟨fun j h hj => by
              by_cases hji : j < i
              · exact HG.out j h hji
              · have : j = i := by omega
                subst this; omega⟩, rfl⟩
      · have d1 : decide ((i : Int) < (b.length : Int)) = false := decide_eq_false (by omega)
        have he : idxI b = -1 := by unfold idxI; rw [endAt_none b (fun j h => HG.out j h (by omega))]
        have HE := Aside0.mk he
        clear he
        go_wp2
        go_ret
        exact ⟨by rw [HE.out]; rfl, rfl⟩
  · have hl : b = [] := List.eq_nil_of_length_eq_zero (by omega)
    subst hl
    clear h0 hA HC HB
    go_enter Try.func29, Try.ntmps29
    go_wp2
    refine wp_loop_rounds 1 ?_
    rw [rounds_succ]
    go_wp2
    go_ret
    exact ⟨rfl, rfl⟩
end Go.Proofs.Ytoibgnhfpcaejaa.BytesW
