/- How lines go on: steps, what is reached, and where nothing goes on. No condition. -/
import Derived.Test.YtmgdpkmmcmglfaaMarkC
namespace Go.Proofs.Ytmgdpkmmcmglfaa.MarkW
open Go Go.RowKit Go.Proofs.YtmgdpkmmcmglfaaW.PrintWords Go.Proofs.YtmgdpkmmcmglfaaW.PrintLast Go.Proofs.YtmgdpkmmcmglfaaW.PrintMore Go.Proofs.Ytmgdpkmmcmglfaa.Sep
set_option linter.unusedVariables false
set_option linter.unusedSimpArgs false
/-- a line, wherever it is -/
def er (s : LineS) : LineS := { s with g := 0 }
def erase (ms : List (Option LineS)) : List (Option LineS) := ms.map (Option.map er)
theorem erase_len (ms : List (Option LineS)) : (erase ms).length = ms.length := by simp [erase]
theorem erase_at {ms : List (Option LineS)} {j : Nat} {o : Option LineS} (h : ms[j]? = some o) : (erase ms)[j]? = some (o.map er) := by simp [erase, h]
theorem erase_set (ms : List (Option LineS)) (j : Nat) (s : LineS) : erase (ms.set j (some s)) = (erase ms).set j (some (er s)) := by simp [erase, List.map_set]
theorem filterMap_erase (ms : List (Option LineS)) : (erase ms).filterMap id = (ms.filterMap id).map er := by
  induction ms with
  | nil => rfl
  | cons o ms ih =>
    cases o with
    | none => simpa [erase] using ih
    | some s => simpa [erase] using ih
theorem firstL_erase (ms : List (Option LineS)) (q : Int) : firstL (erase ms) q = (firstL ms q).map er := by
  unfold firstL
  rw [filterMap_erase, List.find?_map]
  rfl
theorem knownP_erase (ms : List (Option LineS)) (q f : Int) : knownP (erase ms) q f = knownP ms q f := by
  unfold knownP
  rw [firstL_erase]
  cases firstL ms q <;> rfl
theorem goesP_erase (ms : List (Option LineS)) (s : LineS) : goesP (erase ms) (er s) = goesP ms s := by
  have e : ∀ i k, okK (erase ms) (er s) i k = okK ms s i k := fun i k => by unfold okK; rw [knownP_erase]; rfl
  unfold goesP
  have e2 : okK (erase ms) (er s) ((er s).sure - (er s).x.2.1).toNat = okK ms s (s.sure - s.x.2.1).toNat := funext fun k => e _ _
  rw [e2]
  rfl
def nextL (s : LineS) : LineS := { s with sure := s.sure + 1 }
inductive Reach (init : List (Option LineS)) : List (Option LineS) → Prop
  | refl : Reach init init
  | step {ms : List (Option LineS)} {j : Nat} {s : LineS} : Reach init ms → ms[j]? = some (some s) → goesP ms s = true → Reach init (ms.set j (some (nextL s)))
def Stuck (ms : List (Option LineS)) : Prop := ∀ (j : Nat) (s : LineS), ms[j]? = some (some s) → goesP ms s = false
theorem Reach.next {init ms : List (Option LineS)} {j : Nat} {s : LineS} (h : Reach init (erase ms)) (hj : ms[j]? = some (some s)) (hg : goesP ms s = true) : Reach init (erase (ms.set j (some (nextL s)))) := by
  rw [erase_set]
  exact h.step (erase_at hj) (by rw [goesP_erase]; exact hg)
theorem Stuck.erase {ms : List (Option LineS)} (h : Stuck ms) : Stuck (erase ms) := by
  intro j s hj
  unfold MarkW.erase at hj
  rw [List.getElem?_map] at hj
  cases hm : ms[j]? with
  | none => rw [hm] at hj; cases hj
  | some o =>
    rw [hm] at hj
    cases o with
    | none => cases hj
    | some s' =>
      have e : er s' = s := by simpa using hj
      subst e
      have := goesP_erase ms s'
      rw [show MarkW.erase ms = ms.map (Option.map er) from rfl] at this
      rw [show MarkW.erase ms = ms.map (Option.map er) from rfl, this]
      exact h j s' hm
def WfM (ms : List (Option LineS)) : Prop := ∀ (j : Nat) (s : LineS), ms[j]? = some (some s) → WfL s
theorem goes_steps {ms : List (Option LineS)} {s : LineS} (h : goesP ms s = true) : s.sure - s.x.2.1 < s.steps := by
  unfold goesP at h
  simp only [Bool.and_eq_true, decide_eq_true_eq] at h
  exact h.1.1
theorem WfL.next {ms : List (Option LineS)} {s : LineS} (h : WfL s) (hg : goesP ms s = true) : WfL (nextL s) := by
  have h1 := goes_steps hg
  have h2 := h.sure
  refine ⟨h.base, ⟨?_, ?_⟩, h.near, h.rows, h.len⟩
  · show s.x.2.1 ≤ s.sure + 1; omega
  · show s.sure + 1 ≤ s.x.2.1 + s.steps; omega
theorem WfM.next {ms : List (Option LineS)} {j : Nat} {s : LineS} (h : WfM ms) (hj : ms[j]? = some (some s)) (hg : goesP ms s = true) : WfM (ms.set j (some (nextL s))) := by
  intro i t hi
  rw [List.getElem?_set] at hi
  split at hi
  · split at hi
    · have e : nextL s = t := by simpa using hi
      subst e
      exact (h j s hj).next hg
    · cases hi
  · exact h i t hi
/-- how many steps may be left -/
def left (s : LineS) : Nat := (s.x.2.1 + s.steps - s.sure).toNat
def phi (ms : List (Option LineS)) : Nat := ((ms.filterMap id).map left).sum
theorem phi_cut {ms : List (Option LineS)} {j : Nat} {s : LineS} (hj : ms[j]? = some (some s)) : phi ms = left s + phi (ms.take j ++ ms.drop (j + 1)) := by
  have hl := (List.getElem?_eq_some_iff.1 hj).1
  have e : ms = ms.take j ++ some s :: ms.drop (j + 1) := by
    have h1 : ms[j] = some s := (List.getElem?_eq_some_iff.1 hj).2
    rw [← h1, ← List.drop_eq_getElem_cons hl, List.take_append_drop]
  unfold phi
  conv => lhs; rw [e]
  simp only [List.filterMap_append, List.filterMap_cons, id, List.map_append, List.map_cons, List.sum_append, List.sum_cons]
  omega
theorem phi_next {ms : List (Option LineS)} {j : Nat} {s : LineS} (hj : ms[j]? = some (some s)) (hw : WfL s) (hg : goesP ms s = true) : phi (ms.set j (some (nextL s))) + 1 = phi ms := by
  have hl := (List.getElem?_eq_some_iff.1 hj).1
  have h1 : (ms.set j (some (nextL s)))[j]? = some (some (nextL s)) := by simp [hl]
  rw [phi_cut hj, phi_cut h1, List.take_set_of_le (Nat.le_refl _), List.drop_set_of_lt (by omega)]
  have h2 := goes_steps hg
  have h3 : left (nextL s) + 1 = left s := by
    unfold left
    show (s.x.2.1 + s.steps - (s.sure + 1)).toNat + 1 = _
    omega
  omega
theorem left_le {s : LineS} (h : WfL s) : left s ≤ 100 := by
  have h1 := h.sure
  have h2 := h.len
  have h3 : s.steps ≤ s.x.2.2.1.length := by unfold LineS.steps; split <;> omega
  unfold left
  omega
theorem phi_le {ms : List (Option LineS)} (h : WfM ms) : phi ms ≤ 100 * ms.length := by
  have : ∀ l : List LineS, (∀ s ∈ l, WfL s) → (l.map left).sum ≤ 100 * l.length := by
    intro l
    induction l with
    | nil => intro _; simp
    | cons s l ih =>
      intro hl
      have h1 := ih (fun s hs => hl s (List.mem_cons_of_mem _ hs))
      have h2 := left_le (hl s List.mem_cons_self)
      simp only [List.map_cons, List.sum_cons, List.length_cons]
      omega
  have h1 := this (ms.filterMap id) (fun s hs => by
    obtain ⟨o, ho, e⟩ := List.mem_filterMap.1 hs
    obtain ⟨j, hj⟩ := List.getElem?_of_mem ho
    exact h j s (by rw [hj]; simpa using e))
  have h2 := List.length_filterMap_le id ms
  unfold phi
  omega
/-- the lines, as they begin -/
def initM (nearF : Int → List Int) (l : List Line) : List (Option LineS) := l.map fun x => if madeP (nearF x.1) x = true then some ⟨0, x, nearF x.1, x.2.1⟩ else none
def ansO : Option LineS → Int
  | none => -1
  | some s => s.sure
def resF (ms : List (Option LineS)) : List Int := ms.map ansO
theorem resF_erase (ms : List (Option LineS)) : resF (erase ms) = resF ms := by
  unfold resF erase
  rw [List.map_map]
  apply List.map_congr_left
  intro o _
  cases o <;> rfl
theorem mapOf_snoc_none (ms : List (Option LineS)) : mapOf (ms ++ [none]) = mapOf ms := by
  funext q
  unfold mapOf firstL
  simp
theorem mapOf_snoc_old {ms : List (Option LineS)} {s : LineS} {g : Nat} (h : mapOf ms s.x.1 = some g) : mapOf (ms ++ [some s]) = mapOf ms := by
  funext q
  unfold mapOf firstL
  rw [List.filterMap_append, List.find?_append]
  cases hf : (ms.filterMap id).find? (fun s => decide (s.x.1 = q)) with
  | some t => rfl
  | none =>
    have hq : s.x.1 ≠ q := by
      rintro rfl
      unfold mapOf firstL at h
      rw [hf] at h
      cases h
    simp [hq]
theorem mapOf_snoc_new {ms : List (Option LineS)} {s : LineS} (h : mapOf ms s.x.1 = none) : mapOf (ms ++ [some s]) = fun y => if y = s.x.1 then some s.g else mapOf ms y := by
  funext q
  have h1 : firstL ms s.x.1 = none := by
    unfold mapOf at h
    cases hf : firstL ms s.x.1 with
    | none => rfl
    | some t => rw [hf] at h; cases h
  unfold mapOf firstL
  rw [List.filterMap_append, List.find?_append]
  by_cases e : q = s.x.1
  · subst e
    unfold firstL at h1
    rw [h1, if_pos rfl]
    simp
  · rw [if_neg e]
    have e2 : ¬ s.x.1 = q := fun h => e h.symm
    simp [e2]
theorem mapOf_next {ms : List (Option LineS)} {j : Nat} {s : LineS} (hj : ms[j]? = some (some s)) : mapOf (ms.set j (some (nextL s))) = mapOf ms := by
  have hl := (List.getElem?_eq_some_iff.1 hj).1
  have h1 : ms[j] = some s := (List.getElem?_eq_some_iff.1 hj).2
  have e : ms = ms.take j ++ some s :: ms.drop (j + 1) := by rw [← h1, ← List.drop_eq_getElem_cons hl, List.take_append_drop]
  have e2 : ms.set j (some (nextL s)) = ms.take j ++ some (nextL s) :: ms.drop (j + 1) := by rw [List.set_eq_take_append_cons_drop, if_pos hl]
  have key : ∀ (l : List (Option LineS)) (q : Int), mapOf l q = (((l.filterMap id).map (fun s => (s.x.1, s.g))).find? (fun y => decide (y.1 = q))).map (·.2) := by
    intro l q
    unfold mapOf firstL
    rw [List.find?_map, Option.map_map]
    rfl
  funext q
  rw [key, key]
  conv => rhs; rw [e]
  rw [e2]
  simp only [List.filterMap_append, List.filterMap_cons, id, List.map_append, List.map_cons]
  rfl
theorem init_wf {nearF : Int → List Int} {l : List Line} (h1 : ∀ x ∈ l, (nearF x.1).length ≤ 100 ∧ ∀ q ∈ nearF x.1, I64 q) (h2 : ∀ x ∈ l, x.2.2.1.length ≤ 100 ∧ x.2.2.2.length ≤ 100) : WfM (initM nearF l) := by
  intro j s hj
  unfold initM at hj
  rw [List.getElem?_map] at hj
  cases hx : l[j]? with
  | none => rw [hx] at hj; cases hj
  | some x =>
    rw [hx] at hj
    have hm : x ∈ l := List.mem_of_getElem? hx
    have hj2 : (if madeP (nearF x.1) x = true then some (⟨0, x, nearF x.1, x.2.1⟩ : LineS) else none) = some s := by simpa using hj
    by_cases hmd : madeP (nearF x.1) x = true
    · rw [if_pos hmd] at hj2
      have e := Option.some.inj hj2
      subst e
      unfold madeP at hmd
      simp only [Bool.and_eq_true, decide_eq_true_eq, List.all_eq_true] at hmd
      obtain ⟨⟨m1, m2⟩, m3⟩ := hmd
      refine ⟨m2, ⟨Int.le_refl _, ?_⟩, h1 x hm, fun r hr => by simpa using m3 r hr, h2 x hm⟩
      show x.2.1 ≤ x.2.1 + LineS.steps ⟨0, x, nearF x.1, x.2.1⟩
      unfold LineS.steps
      split <;> dsimp only <;> omega
    · rw [if_neg hmd] at hj2
      cases hj2
theorem wf_of_erase {ms : List (Option LineS)} (h : WfM (erase ms)) : WfM ms := by
  intro j s hj
  have := h j (er s) (erase_at hj)
  exact ⟨this.base, this.sure, this.near, this.rows, this.len⟩
end Go.Proofs.Ytmgdpkmmcmglfaa.MarkW
