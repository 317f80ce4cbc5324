/- What is written is read again: numbers, and bytes. Condition: numbers are within int. -/
import Derived.Test.YtoibgnhfpcaejaaBytesM
import Derived.Deep.RegionHeld3
namespace Go.Proofs.Ytoibgnhfpcaejaa.BytesW
open Go.RowKit Go.Proofs.YtoibgnhfpcaejaaW.PrintWords Go.Proofs.YtoibgnhfpcaejaaW.PrintLast Go.Proofs.YtoibgnhfpcaejaaW.PrintMore Go.Proofs.Ytoibgnhfpcaejaa.Sep
set_option linter.unusedVariables false
section
variable {P : Program} {ops : Array Oper} {Q : Exit → Act → World → Prop} {md : Region.Mode} {S : World → Prop}
theorem op_at {i : Nat} {oi : Oper} {rest : List Oper} (hi : ops.toList.drop i = oi :: rest) : ops[i]? = some oi := by
  have h : (ops.toList.drop i)[0]? = some oi := by rw [hi]; rfl
  rw [List.getElem?_drop] at h
  simpa using h
/-- an operation of a region that is not wanted is passed over -/
theorem takeU {i : Nat} {oi : Oper} {rest : List Oper} {d : Option Tmp} {fuel : Nat} {listed : Array Bool} {a : Act} {w : World} (hi : ops.toList.drop i = oi :: rest) (hd : oi.dst = d) (hs : Region.noSelect ops = true) (hf : Region.free md ops listed i = true) (hr : (Region.ready md ops listed).contains i = true)
    (hQ : ∀ c a w, Q (.panic c) (a.put oi.dst undef) w → Q (.panic c) a w) (hw : Region.wanted oi (yielded ops a.tmps) = false) (hS : S w) (h : wpAnyH P md ops Q S fuel (listed.setIfInBounds i true) (a.put d undef) w) : wpAnyH P md ops Q S (fuel + 1) listed a w := by
  subst hd
  exact wpAnyH_take (op_at hi) hs hf hr hQ (.inr ⟨hw, rfl⟩) hS h
theorem takeW {i : Nat} {oi : Oper} {rest : List Oper} {d : Option Tmp} {v : Value} {fuel : Nat} {listed : Array Bool} {a : Act} {w : World} (hi : ops.toList.drop i = oi :: rest) (hd : oi.dst = d) (hs : Region.noSelect ops = true) (hf : Region.free md ops listed i = true) (hr : (Region.ready md ops listed).contains i = true)
    (hQ : ∀ c a w, Q (.panic c) (a.put oi.dst v) w → Q (.panic c) a w) (hw : Region.wanted oi (yielded ops a.tmps) = true) (hy : ∀ w, S w → (execOp a.eval oi).run P w = .ok (.value v) w) (hS : S w) (h : wpAnyH P md ops Q S fuel (listed.setIfInBounds i true) (a.put d v) w) : wpAnyH P md ops Q S (fuel + 1) listed a w := by
  subst hd
  exact wpAnyH_take (op_at hi) hs hf hr hQ (.inl ⟨hw, hy⟩) hS h
/-- the one operation that may come up is carried out -/
theorem callC {i : Nat} {oi : Oper} {rest : List Oper} {fuel : Nat} {listed : Array Bool} {a : Act} {w : World} (hi : ops.toList.drop i = oi :: rest) (hr : Region.ready md ops listed = [i]) (hw : Region.wanted oi (yielded ops a.tmps) = true)
    (h : ∀ K' : Act → World → Prop, Shut (∀ a w, S w → (S w → wpAnyH P md ops Q S fuel (listed.setIfInBounds i true) a w) → K' a w) → Oper.wp P oi a w K' Q) : wpAnyH P md ops Q S (fuel + 1) listed a w :=
  wpAnyH_ready hr (by simp) (AllReadyH.cons (op_at hi) (fun K' hK => by rw [if_pos hw]; exact h K' hK) AllReadyH.nil)
def Only (K : Act → World → Prop) (Q : Exit → Act → World → Prop) : Exit → Act → World → Prop
  | .normal, a, w => K a w
  | .panic c, a, w => Q (.panic c) a w
  | _, _, _ => False
/-- one operation, walked as a list of one -/
theorem wp_of_list {o : Oper} {a : Act} {w : World} {K : Act → World → Prop} (hw : Region.wanted o (yielded ops a.tmps) = true) (h : wpList P ops (Only K Q) [o] a w) : Oper.wp P o a w K Q := by
  unfold wpList at h
  rw [if_pos hw] at h
  rcases h with h | ⟨_, _, _, h⟩
  · unfold Oper.wp at h ⊢
    generalize (execOp a.eval o).run P w = r at h ⊢
    cases r with
    | ok n w' =>
      cases n with
      | value v => exact h
      | skip => exact h
      | defer d => exact h
      | enter f args =>
        refine Calls.mono h fun e w'' he => ?_
        cases e with
        | returned v => exact he
        | panicked c => exact he
        | outgrown => obtain ⟨_, _, he⟩ := he; exact he.elim
      | row r args => exact h
      | _ => exact h.elim
    | halt x w' =>
      cases x <;> first | exact h | exact h.elim
  · exact h.elim
end
theorem digs_back : ∀ (n u : Nat) (rest : List Int), u < n → endAt (digs u ++ rest) = some ((digs u).length - 1) ∧ valB (digs u) = u ∧ (1 ≤ u → (digs u ++ rest).getD ((digs u).length - 1) 0 ≠ 0) := by
  intro n
  induction n with
  | zero => intro u rest h; omega
  | succ n ih =>
    intro u rest h
    by_cases hu : u < 128
    · rw [digs_lt hu]
      refine ⟨?_, ?_, fun h1 => ?_⟩
      · simp only [List.singleton_append, endAt]
        rw [if_pos (by omega)]
        rfl
      · simp only [valB]
        omega
      · simp
        omega
    · obtain ⟨h1, h2, h3⟩ := ih (u / 128) rest (by omega)
      have hp := digs_pos (u / 128)
      rw [digs_ge (by omega)]
      refine ⟨?_, ?_, fun _ => ?_⟩
      · simp only [List.cons_append, endAt]
        rw [if_neg (by omega), h1]
        simp
        omega
      · simp only [valB, h2, Int.toNat_natCast]
        omega
      · have h4 := h3 (by omega)
        rw [List.length_cons, List.cons_append, show (digs (u / 128)).length + 1 - 1 = ((digs (u / 128)).length - 1) + 1 from by omega, List.getD_cons_succ]
        exact h4
theorem unzig_zig (v : Int) : unzig (zig v) = v := by
  unfold unzig zig
  split
  · split <;> omega
  · split <;> omega
theorem intB_num (x : Int) (rest : List Int) : intB (numB x ++ rest) 0 = (heldV x, rest, 0) := by
  obtain ⟨h1, h2, h3⟩ := digs_back (zig (heldV x) + 1) (zig (heldV x)) rest (Nat.lt_succ_self _)
  have hl := numB_len x
  have hp := digs_pos (zig (heldV x))
  have e : numB x = digs (zig (heldV x)) := rfl
  unfold intB
  rw [if_neg (by decide), e, h1]
  simp only
  rw [if_neg, Nat.sub_add_cancel hp, List.take_left' rfl, List.drop_left' rfl, h2, unzig_zig]
  rintro (h | ⟨h, h0⟩)
  · rw [e] at hl; omega
  · refine h3 ?_ h0
    by_cases hz : 1 ≤ zig (heldV x)
    · exact hz
    · have : zig (heldV x) = 0 := by omega
      rw [this, digs_lt (by decide)] at h
      simp at h
theorem heldV_small {x : Int} (h0 : 0 ≤ x) (h1 : x ≤ 4611686018427387903) : heldV x = x := by unfold heldV mn mx; split <;> split <;> omega
theorem rawB_num (y rest : List Int) (hl : y.length ≤ 1000000000) : rawB (numB y.length ++ y ++ rest) 0 = (y, rest, 0) := by
  have h := intB_num (y.length : Int) (y ++ rest)
  rw [heldV_small (by omega) (by omega)] at h
  unfold rawB
  rw [List.append_assoc, h]
  simp only
  rw [if_neg (by decide), if_neg (by omega), if_neg (by rw [List.length_append]; omega), Int.toNat_natCast, List.take_left' rfl, List.drop_left' rfl]
theorem digs_bytes : ∀ (n u : Nat), u < n → ∀ x ∈ digs u, 0 ≤ x ∧ x < 256 := by
  intro n
  induction n with
  | zero => intro u h; omega
  | succ n ih =>
    intro u h x hx
    by_cases hu : u < 128
    · rw [digs_lt hu, List.mem_singleton] at hx
      omega
    · rw [digs_ge (by omega), List.mem_cons] at hx
      rcases hx with rfl | hx
      · omega
      · exact ih (u / 128) (by omega) x hx
theorem numB_bytes (v : Int) : ∀ x ∈ numB v, 0 ≤ x ∧ x < 256 := digs_bytes _ _ (Nat.lt_succ_self _)
theorem row_C {α : Type} {d : Kd α} {e n c base : Nat} {A : Option Addr} {w0 w : World} {xs : List α} {L : List Asr} (h : Has w0 base w (row d e (.slice A n c) xs :: L)) : n = xs.length ∧ n ≤ c ∧ Kd.C d w A xs.length xs := by
  obtain ⟨S, h1, h2⟩ := h.first
  exact Kd.R_reads' h1.1
theorem intB_nil : intB [] 0 = (0, [], 5) := rfl
end Go.Proofs.Ytoibgnhfpcaejaa.BytesW
