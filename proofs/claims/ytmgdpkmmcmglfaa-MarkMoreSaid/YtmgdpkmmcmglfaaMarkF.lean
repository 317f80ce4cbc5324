/- How far lines are sure, reckoned: whatever road is taken, the end is one. No condition. -/
import Derived.Test.YtmgdpkmmcmglfaaMarkE
namespace Go.Proofs.Ytmgdpkmmcmglfaa.MarkW
open Go Go.RowKit Go.Proofs.YtmgdpkmmcmglfaaW.PrintWords Go.Proofs.YtmgdpkmmcmglfaaW.PrintLast Go.Proofs.YtmgdpkmmcmglfaaW.PrintMore Go.Proofs.Ytmgdpkmmcmglfaa.Sep
set_option linter.unusedVariables false
set_option linter.unusedSimpArgs false
/-- alike but for how far they are sure; and there no further -/
def LeO : Option LineS → Option LineS → Prop
  | none, none => True
  | some s, some t => s.x = t.x ∧ s.near = t.near ∧ s.sure ≤ t.sure
  | _, _ => False
structure Le (a b : List (Option LineS)) : Prop where
  len : a.length = b.length
  at_ : ∀ (j : Nat) (o o' : Option LineS), a[j]? = some o → b[j]? = some o' → LeO o o'
theorem LeO.refl : ∀ o : Option LineS, LeO o o
  | none => trivial
  | some s => ⟨rfl, rfl, Int.le_refl _⟩
theorem Le.refl (a : List (Option LineS)) : Le a a := ⟨rfl, fun j o o' h h' => by rw [h] at h'; rw [Option.some.inj h']; exact LeO.refl _⟩
theorem Le.tail {o o' : Option LineS} {a b : List (Option LineS)} (h : Le (o :: a) (o' :: b)) : LeO o o' ∧ Le a b := by
  refine ⟨h.at_ 0 o o' rfl rfl, ⟨by simpa using h.len, fun j p p' hp hp' => h.at_ (j + 1) p p' (by simpa using hp) (by simpa using hp')⟩⟩
theorem firstL_le {q : Int} : ∀ {a b : List (Option LineS)}, Le a b → LeO (firstL a q) (firstL b q) := by
  intro a
  induction a with
  | nil =>
    intro b h
    cases b with
    | nil => trivial
    | cons o b => have := h.len; simp at this
  | cons o a ih =>
    intro b h
    cases b with
    | nil => have := h.len; simp at this
    | cons o' b =>
      obtain ⟨h1, h2⟩ := h.tail
      have := ih h2
      cases o with
      | none =>
        cases o' with
        | none => simpa [firstL] using this
        | some t => exact h1.elim
      | some s =>
        cases o' with
        | none => exact h1.elim
        | some t =>
          unfold firstL
          simp only [List.filterMap_cons, id, List.find?_cons]
          have e : t.x.1 = s.x.1 := by rw [h1.1]
          by_cases hq : s.x.1 = q
          · rw [decide_eq_true hq, decide_eq_true (e.trans hq)]
            exact h1
          · rw [decide_eq_false hq, decide_eq_false (fun h9 => hq (e ▸ h9))]
            exact this
theorem knownP_le {a b : List (Option LineS)} (h : Le a b) {q f : Int} (hk : knownP a q f = true) : knownP b q f = true := by
  unfold knownP at hk ⊢
  have h1 := firstL_le (q := q) h
  cases ha : firstL a q with
  | none => rw [ha] at hk; cases hk
  | some s =>
    rw [ha] at hk h1
    cases hb : firstL b q with
    | none => rw [hb] at h1; exact h1.elim
    | some t =>
      rw [hb] at h1
      obtain ⟨e1, e2, e3⟩ := h1
      have hk2 : decide (s.x.2.1 ≤ f - 1 ∧ f ≤ s.sure) = true := hk
      have h9 := of_decide_eq_true hk2
      show decide (t.x.2.1 ≤ f - 1 ∧ f ≤ t.sure) = true
      rw [← e1]
      exact decide_eq_true ⟨h9.1, Int.le_trans h9.2 e3⟩
theorem goesP_le {a b : List (Option LineS)} (h : Le a b) {s t : LineS} (h1 : s.x = t.x) (h2 : s.near = t.near) (h3 : s.sure = t.sure) (hg : goesP a s = true) : goesP b t = true := by
  unfold goesP at hg ⊢
  have hst : s.steps = t.steps := by unfold LineS.steps; rw [h1]
  rw [← h1, ← h2, ← h3, ← hst]
  simp only [Bool.and_eq_true, List.all_eq_true] at hg ⊢
  refine ⟨hg.1, fun k hk => ?_⟩
  have h9 := hg.2 k hk
  unfold okK at h9 ⊢
  rw [← h1, ← h2, ← h3]
  rw [Bool.or_eq_true] at h9 ⊢
  rcases h9 with h9 | h9
  · exact .inl h9
  · exact .inr (knownP_le h h9)
/-- what is reached lies not beyond where nothing goes on -/
theorem Reach.le {init a b : List (Option LineS)} (h : Reach init a) (h0 : Le init b) (hb : Stuck b) : Le a b := by
  induction h with
  | refl => exact h0
  | @step ms j s h hj hg ih =>
    refine ⟨by rw [List.length_set]; exact ih.len, fun i o o' ho ho' => ?_⟩
    rw [List.getElem?_set] at ho
    split at ho
    · rename_i e
      subst e
      split at ho
      · have e1 := Option.some.inj ho
        subst e1
        have h1 := ih.at_ j (some s) o' hj ho'
        cases o' with
        | none => exact h1.elim
        | some t =>
          obtain ⟨e1, e2, e3⟩ := h1
          refine ⟨e1, e2, ?_⟩
          show s.sure + 1 ≤ t.sure
          rcases Int.lt_or_eq_of_le e3 with h9 | h9
          · omega
          · have := goesP_le ih e1 e2 h9 hg
            rw [hb j t ho'] at this
            cases this
      · cases ho
    · exact ih.at_ i o o' ho ho'
theorem Reach.ge {init a : List (Option LineS)} (h : Reach init a) : Le init a := by
  induction h with
  | refl => exact Le.refl _
  | @step ms j s h hj hg ih =>
    refine ⟨by rw [List.length_set]; exact ih.len, fun i o o' ho ho' => ?_⟩
    rw [List.getElem?_set] at ho'
    split at ho'
    · rename_i e
      subst e
      split at ho'
      · have e1 := Option.some.inj ho'
        subst e1
        have h1 := ih.at_ j o (some s) ho hj
        cases o with
        | none => exact h1.elim
        | some t =>
          obtain ⟨e1, e2, e3⟩ := h1
          refine ⟨e1, e2, ?_⟩
          show t.sure ≤ s.sure + 1
          omega
      · cases ho'
    · exact ih.at_ i o o' ho ho'
theorem resF_eq {a b : List (Option LineS)} (h1 : Le a b) (h2 : Le b a) : resF a = resF b := by
  refine List.ext_getElem? (fun j => ?_)
  unfold resF
  rw [List.getElem?_map, List.getElem?_map]
  rcases Nat.lt_or_ge j a.length with hj | hj
  · have hj2 : j < b.length := by rw [← h1.len]; exact hj
    rw [List.getElem?_eq_getElem hj, List.getElem?_eq_getElem hj2]
    have e1 := h1.at_ j _ _ (List.getElem?_eq_getElem hj) (List.getElem?_eq_getElem hj2)
    have e2 := h2.at_ j _ _ (List.getElem?_eq_getElem hj2) (List.getElem?_eq_getElem hj)
    show some (ansO a[j]) = some (ansO b[j])
    congr 1
    revert e1 e2
    generalize a[j] = o
    generalize b[j] = o'
    intro e1 e2
    cases o <;> cases o'
    · rfl
    · exact e1.elim
    · exact e1.elim
    · exact Int.le_antisymm e1.2.2 e2.2.2
  · rw [List.getElem?_eq_none hj, List.getElem?_eq_none (by rw [← h1.len]; exact hj)]
/-- THE END IS ONE -/
theorem ends_one {init a b : List (Option LineS)} (ha : Reach init a) (sa : Stuck a) (hb : Reach init b) (sb : Stuck b) : resF a = resF b := resF_eq (ha.le hb.ge sb) (hb.le ha.ge sa)
/-! #### the end, reckoned -/
def canGo (ms : List (Option LineS)) (j : Nat) : Bool := match ms[j]? with
  | some (some s) => goesP ms s
  | _ => false
def stepM (ms : List (Option LineS)) (j : Nat) : List (Option LineS) := match ms[j]? with
  | some (some s) => ms.set j (some (nextL s))
  | _ => ms
def runF : Nat → List (Option LineS) → Option (List (Option LineS))
  | 0, _ => none
  | k + 1, ms => match (List.range ms.length).find? (canGo ms) with
    | none => some ms
    | some j => runF k (stepM ms j)
theorem runF_ends {init : List (Option LineS)} : ∀ (k : Nat) (ms : List (Option LineS)), Reach init ms → WfM ms → phi ms < k → ∃ b, runF k ms = some b ∧ Reach init b ∧ Stuck b := by
  intro k
  induction k with
  | zero => intro ms _ _ h; omega
  | succ k ih =>
    intro ms hr hw hp
    unfold runF
    cases hf : (List.range ms.length).find? (canGo ms) with
    | none =>
      refine ⟨ms, rfl, hr, fun j s hj => ?_⟩
      have h1 := List.find?_eq_none.1 hf j (List.mem_range.2 (List.getElem?_eq_some_iff.1 hj).1)
      unfold canGo at h1
      rw [hj] at h1
      simpa using h1
    | some j =>
      have h1 := List.find?_some hf
      unfold canGo at h1
      dsimp only
      cases hj : ms[j]? with
      | none => rw [hj] at h1; cases h1
      | some o =>
        rw [hj] at h1
        cases o with
        | none => cases h1
        | some s =>
          have hg : goesP ms s = true := h1
          have e : stepM ms j = ms.set j (some (nextL s)) := by unfold stepM; rw [hj]
          rw [e]
          have hph := phi_next hj (hw j s hj) hg
          exact ih _ (hr.step hj hg) (hw.next hj hg) (by omega)
def ofF (nearF : Int → List Int) (l : List Line) : Option (List Int) := (runF (100 * l.length + 1) (initM nearF l)).map resF
def nearG (c r p wi sd x : Int) : List Int := (GridW.grid_Grid_Near.f 100 c r p wi sd x).getD []
def fitG (c r p wi sd : Int) (l : List Line) : Prop := l.length ≤ 100 ∧ ∀ x ∈ l, (GridW.grid_Grid_Near.f 100 c r p wi sd x.1).isSome = true ∧ (nearG c r p wi sd x.1).length ≤ 100 ∧ (∀ q ∈ nearG c r p wi sd x.1, I64 q) ∧ x.2.2.1.length ≤ 100 ∧ x.2.2.2.length ≤ 100 ∧ I64 x.1
instance (c r p wi sd : Int) (l : List Line) : Decidable (fitG c r p wi sd l) := by unfold fitG; infer_instance
def ofG (c r p wi sd : Int) (l : List Line) : Option (List Int) := if fitG c r p wi sd l then ofF (nearG c r p wi sd) l else none
theorem fit_of {c r p wi sd : Int} {l : List Line} (h : fitG c r p wi sd l) : Fit 100 c r p wi sd (nearG c r p wi sd) l := by
  refine ⟨h.1, fun x hx => ⟨?_, (h.2 x hx).2.1, (h.2 x hx).2.2.1⟩, fun x hx => ⟨(h.2 x hx).2.2.2.1, (h.2 x hx).2.2.2.2.1⟩, fun x hx => (h.2 x hx).2.2.2.2.2⟩
  have h1 := (h.2 x hx).1
  unfold nearG
  cases hn : GridW.grid_Grid_Near.f 100 c r p wi sd x.1 with
  | none => rw [hn] at h1; cases h1
  | some y => rfl
theorem wf_init {c r p wi sd : Int} {l : List Line} (h : fitG c r p wi sd l) : WfM (initM (nearG c r p wi sd) l) := init_wf (fun x hx => ⟨(h.2 x hx).2.1, (h.2 x hx).2.2.1⟩) (fun x hx => ⟨(h.2 x hx).2.2.2.1, (h.2 x hx).2.2.2.2.1⟩)
/-- what is reckoned is where nothing goes on -/
theorem ofG_ends {c r p wi sd : Int} {l : List Line} (h : fitG c r p wi sd l) : ∃ b, ofG c r p wi sd l = some (resF b) ∧ Reach (initM (nearG c r p wi sd) l) b ∧ Stuck b := by
  obtain ⟨b, h1, h2, h3⟩ := runF_ends (100 * l.length + 1) _ (.refl) (wf_init h) (by have := phi_le (wf_init h); simp [initM] at this ⊢; omega)
  refine ⟨b, ?_, h2, h3⟩
  unfold ofG ofF
  rw [if_pos h, h1]
  rfl
theorem ofG.calls (c r p wi sd : Int) (A1 : Option Addr) (c1 : Nat) (l : List Line) (res : List Int) (w : World) (hr1 : Kd.C kline w A1 l.length l) (hc1 : l.length ≤ c1) (h : ofG c r p wi sd l = some res) :
    Calls Try.prog 11 #[gridV c r p wi sd, .slice A1 l.length c1] w fun e w' => ∃ v0_ : Value, e = .returned v0_ ∧ Kd.R (Kd.int .i64) 3 w' w.heap.size (fun _ => True) v0_ res ∧ Below w.heap.size w w' := by
  by_cases hf : fitG c r p wi sd l
  · obtain ⟨b, h1, h2, h3⟩ := ofG_ends hf
    rw [h] at h1
    obtain rfl := Option.some.inj h1
    refine (of.calls 100 c r p wi sd A1 c1 l _ w hr1 hc1 (fit_of hf)).mono ?_
    rintro e w' ⟨v0, ms, e1, hR, hB, hr, hs⟩
    rw [ends_one hr hs h2 h3] at hR
    exact ⟨v0, e1, hR, hB⟩
  · unfold ofG at h
    rw [if_neg hf] at h
    cases h
end Go.Proofs.Ytmgdpkmmcmglfaa.MarkW
