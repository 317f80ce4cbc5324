/- Who knows more is sure of no less. No condition; In whatever order lines of unlike regions are asked for, each is as sure. No condition; Lines in memory by their raw cells; lists of places in them. No condition. Conditions: as told at each. -/
import Derived.Test.YtmgdpkmmcmglfaaMarkFit0
import Derived.Test.YtmgdpkmmcmglfaaMarkLens
import Derived.Test.YtmgdpkmmcmglfaaRawRow2
namespace Go.Proofs.Ytmgdpkmmcmglfaa.PMarkOrder
open Go Go.RowKit Go.Proofs.YtmgdpkmmcmglfaaW.PrintWords Go.Proofs.YtmgdpkmmcmglfaaW.PrintLast
open Go.Proofs.Ytmgdpkmmcmglfaa.MarkW (Line LineS nearG ofG fitG initM madeP Stuck WfM WfL goesP okK knownP firstL resF phi nextL ansO Le LeO I64)
set_option linter.unusedVariables false
set_option linter.unusedSimpArgs false
theorem reach_wf {init a : List (Option LineS)} (h : MarkW.Reach init a) (hw : WfM init) : WfM a := by
  induction h with
  | refl => exact hw
  | step h hj hg ih => exact ih.next hj hg
abbrev toL (x : S44) : Line := (x.f0, x.f1, x.f2, x.f3)
structure WfS (c r p wi s : Int) (y : S44) : Prop where
  rg : 0 ≤ y.f0 ∧ y.f0 < c * r
  bs : 0 ≤ y.f1 ∧ y.f1 < 10
  l2 : y.f2.length ≤ 21
  l3 : y.f3.length ≤ 21
  row : ∀ x ∈ y.f3, x.length = (nearG c r p wi s y.f0).length
theorem fitL_wf {c r p wi : Int} (s : Int) (hR : GridP.R c r p wi) (l : List S44) : ∀ y ∈ fitL c r p wi s l, WfS c r p wi s y ∧ y.f2.length ≤ 20 ∧ y.f3.length = y.f2.length := by
  intro y hy
  obtain ⟨x, hx, rfl⟩ := List.mem_map.1 hy
  have hb := cr_bound hR
  have h0 : 0 ≤ IntKind.u64.wrap x.f0 := by rw [IntKind.wrap_u64]; omega
  have h1 : 0 ≤ IntKind.u64.wrap x.f1 := by rw [IntKind.wrap_u64]; omega
  have hrg : 0 ≤ fitRg c r x.f0 ∧ fitRg c r x.f0 < c * r := by
    unfold fitRg
    rw [Int.tmod_eq_emod_of_nonneg h0]
    have a := Int.emod_nonneg (IntKind.u64.wrap x.f0) (show c * r ≠ 0 by omega)
    have b := Int.emod_lt_of_pos (IntKind.u64.wrap x.f0) (show 0 < c * r by omega)
    rw [wr (by omega) (by omega)]
    exact ⟨a, b⟩
  have hbs : 0 ≤ fitBs x.f1 ∧ fitBs x.f1 < 10 := by
    unfold fitBs
    rw [Int.tmod_eq_emod_of_nonneg h1, wr (by omega) (by omega)]
    omega
  refine ⟨⟨hrg, hbs, ?_, ?_, ?_⟩, ?_, ?_⟩
  · show (x.f2.take _).length ≤ 21; rw [List.length_take]; omega
  · show ((List.range _).map _).length ≤ 21; rw [List.length_map, List.length_range]; omega
  · intro z hz
    obtain ⟨k, _, rfl⟩ := List.mem_map.1 (show z ∈ (List.range _).map _ from hz)
    unfold fitRow
    rw [List.length_map, List.length_range]
    rfl
  · show (x.f2.take _).length ≤ 20; rw [List.length_take]; omega
  · show ((List.range _).map _).length = (x.f2.take _).length
    rw [List.length_map, List.length_range, List.length_take]
    omega
theorem WfS.made {c r p wi s : Int} {y : S44} (hR : GridP.R c r p wi) (h : WfS c r p wi s y) : madeP (nearG c r p wi s y.f0) (toL y) = true :=
  MarkW.madeP_yes (GridP.near_ne s hR h.rg).1 ⟨h.bs.1, by show y.f1 ≤ 10000; have := h.bs.2; omega⟩ h.row
theorem init_eq {c r p wi s : Int} (hR : GridP.R c r p wi) {ys : List S44} (h : ∀ y ∈ ys, WfS c r p wi s y) : initM (nearG c r p wi s) (ys.map toL) = ys.map fun y => some ⟨0, toL y, nearG c r p wi s y.f0, y.f1⟩ := by
  unfold initM
  rw [List.map_map]
  apply List.map_congr_left
  intro y hy
  show (if madeP (nearG c r p wi s y.f0) (toL y) = true then _ else _) = _
  rw [if_pos ((h y hy).made hR)]
theorem ends {c r p wi s : Int} (hR : GridP.R c r p wi) {ys : List S44} (hl : ys.length ≤ 20) (h : ∀ y ∈ ys, WfS c r p wi s y) : ∃ b, ofG c r p wi s (ys.map toL) = some (resF b) ∧ MarkW.Reach (ys.map fun y => some ⟨0, toL y, nearG c r p wi s y.f0, y.f1⟩) b ∧ Stuck b ∧ WfM b := by
  have hb := cr_bound hR
  have hfit : fitG c r p wi s (ys.map toL) := GridP.fit_of_few s hR (by rw [List.length_map]; omega) (fun x hx => by
    obtain ⟨y, hy, rfl⟩ := List.mem_map.1 hx
    have h9 := h y hy
    have a1 := h9.rg
    have a2 := h9.l2
    have a3 := h9.l3
    exact ⟨by show y.f2.length ≤ 100; omega, by show y.f3.length ≤ 100; omega, by show MarkW.I64 y.f0; exact ⟨by omega, by omega⟩⟩)
  obtain ⟨b, e1, e2, e3⟩ := MarkW.ofG_ends hfit
  have hw := reach_wf e2 (MarkW.wf_init hfit)
  rw [init_eq hR h] at e2
  exact ⟨b, e1, e2, e3, hw⟩
theorem le_len {a b : List (Option LineS)} (h : Le a b) : (resF b).length = a.length := by unfold resF; rw [List.length_map, h.len]
theorem ends_nil (c r p wi s : Int) (hR : GridP.R c r p wi) : ofG c r p wi s [] = some [] := by
  obtain ⟨b, e1, e2, e3, _⟩ := ends (s := s) hR (ys := []) (by simp) (fun y hy => by cases hy)
  have := e2.ge.len
  have hb : b = [] := List.eq_nil_of_length_eq_zero this.symm
  rw [hb] at e1
  exact e1
/-! #### one place more -/
end Go.Proofs.Ytmgdpkmmcmglfaa.PMarkOrder
namespace Go.Proofs.Ytmgdpkmmcmglfaa.PMarkOrder
open Go Go.RowKit Go.Proofs.YtmgdpkmmcmglfaaW.PrintWords Go.Proofs.YtmgdpkmmcmglfaaW.PrintLast
open Go.Proofs.Ytmgdpkmmcmglfaa.MarkW (Line LineS nearG ofG fitG initM madeP Stuck WfM WfL goesP okK knownP firstL resF phi nextL ansO Le LeO I64)
set_option linter.unusedVariables false
set_option linter.unusedSimpArgs false
/-- each line of the one is in the other, and no less sure -/
def Pm (a b : List (Option LineS)) : Prop := ∀ (j : Nat) (s : LineS), a[j]? = some (some s) → ∃ (k : Nat) (t : LineS), b[k]? = some (some t) ∧ s.x = t.x ∧ s.near = t.near ∧ s.sure ≤ t.sure
/-- no two of one region -/
def Un (b : List (Option LineS)) : Prop := ∀ (i k : Nat) (s t : LineS), b[i]? = some (some s) → b[k]? = some (some t) → s.x.1 = t.x.1 → i = k
theorem firstL_some {b : List (Option LineS)} {q : Int} {s : LineS} (h : firstL b q = some s) : s.x.1 = q ∧ ∃ j : Nat, b[j]? = some (some s) := by
  unfold firstL at h
  have h1 := List.find?_some h
  have h2 := List.mem_of_find?_eq_some h
  obtain ⟨o, ho, e⟩ := List.mem_filterMap.1 h2
  obtain ⟨j, hj⟩ := List.getElem?_of_mem ho
  exact ⟨of_decide_eq_true h1, j, by rw [hj]; simpa using e⟩
theorem firstL_un {b : List (Option LineS)} (hu : Un b) {k : Nat} {t : LineS} (hk : b[k]? = some (some t)) : firstL b t.x.1 = some t := by
  cases h : firstL b t.x.1 with
  | none =>
    unfold firstL at h
    have := List.find?_eq_none.1 h t (List.mem_filterMap.2 ⟨some t, List.mem_of_getElem? hk, rfl⟩)
    exact absurd (decide_eq_true rfl) this
  | some s =>
    obtain ⟨e, j, hj⟩ := firstL_some h
    obtain rfl := hu j k s t hj hk e
    rw [hj] at hk
    rw [Option.some.inj (Option.some.inj hk)]
theorem knownP_pm {a b : List (Option LineS)} (h : Pm a b) (hu : Un b) {q f : Int} (hk : knownP a q f = true) : knownP b q f = true := by
  unfold knownP at hk ⊢
  cases ha : firstL a q with
  | none => rw [ha] at hk; cases hk
  | some s =>
    rw [ha] at hk
    obtain ⟨e, j, hj⟩ := firstL_some ha
    obtain ⟨k, t, hk1, e1, e2, e3⟩ := h j s hj
    have hb := firstL_un hu hk1
    rw [← e1, e] at hb
    rw [hb]
    have hk2 : decide (s.x.2.1 ≤ f - 1 ∧ f ≤ s.sure) = true := hk
    have h9 := of_decide_eq_true hk2
    show decide (t.x.2.1 ≤ f - 1 ∧ f ≤ t.sure) = true
    rw [← e1]
    exact decide_eq_true ⟨h9.1, Int.le_trans h9.2 e3⟩
theorem goesP_pm {a b : List (Option LineS)} (h : Pm a b) (hu : Un b) {s t : LineS} (h1 : s.x = t.x) (h2 : s.near = t.near) (h3 : s.sure = t.sure) (hg : goesP a s = true) : goesP b t = true := by
  unfold goesP at hg ⊢
  have hst : s.steps = t.steps := by unfold LineS.steps; rw [h1]
  rw [← h1, ← h2, ← h3, ← hst]
  simp only [Bool.and_eq_true, List.all_eq_true] at hg ⊢
  refine ⟨hg.1, fun k hk => ?_⟩
  have h9 := hg.2 k hk
  unfold okK at h9 ⊢
  rw [← h1, ← h2, ← h3]
  rw [Bool.or_eq_true] at h9 ⊢
  rcases h9 with h9 | h9
  · exact .inl h9
  · exact .inr (knownP_pm h hu h9)
theorem reach_pm {init a b : List (Option LineS)} (h : MarkW.Reach init a) (h0 : Pm init b) (hu : Un b) (hb : Stuck b) : Pm a b := by
  induction h with
  | refl => exact h0
  | @step ms j s h hj hg ih =>
    intro i u hi
    rw [List.getElem?_set] at hi
    split at hi
    · rename_i e
      subst e
      split at hi
      · obtain rfl := Option.some.inj (Option.some.inj hi)
        obtain ⟨k, t, hk, e1, e2, e3⟩ := ih j s hj
        refine ⟨k, t, hk, e1, e2, ?_⟩
        show s.sure + 1 ≤ t.sure
        rcases Int.lt_or_eq_of_le e3 with h9 | h9
        · omega
        · have := goesP_pm ih hu e1 e2 h9 hg
          rw [hb k t hk] at this
          cases this
      · cases hi
    · exact ih i u hi
theorem le_at {a b : List (Option LineS)} (h : Le a b) {j : Nat} {s : LineS} (hj : a[j]? = some (some s)) : ∃ t, b[j]? = some (some t) ∧ s.x = t.x ∧ s.near = t.near ∧ s.sure ≤ t.sure := by
  have hl : j < b.length := by rw [← h.len]; exact (List.getElem?_eq_some_iff.1 hj).1
  have h2 := h.at_ j _ _ hj (List.getElem?_eq_getElem hl)
  cases hb : b[j] with
  | none => rw [hb] at h2; exact h2.elim
  | some t =>
    rw [hb] at h2
    exact ⟨t, by rw [List.getElem?_eq_getElem hl, hb], h2⟩
theorem le_ta {a b : List (Option LineS)} (h : Le a b) {j : Nat} {t : LineS} (hj : b[j]? = some (some t)) : ∃ s, a[j]? = some (some s) ∧ s.x = t.x := by
  have hl : j < a.length := by rw [h.len]; exact (List.getElem?_eq_some_iff.1 hj).1
  have h2 := h.at_ j _ _ (List.getElem?_eq_getElem hl) hj
  cases ha : a[j] with
  | none => rw [ha] at h2; exact h2.elim
  | some s =>
    rw [ha] at h2
    exact ⟨s, by rw [List.getElem?_eq_getElem hl, ha], h2.1⟩
theorem pm_le {a b c : List (Option LineS)} (h : Pm a b) (h2 : Le b c) : Pm a c := by
  intro j s hj
  obtain ⟨k, t, hk, e1, e2, e3⟩ := h j s hj
  obtain ⟨u, hu, f1, f2, f3⟩ := le_at h2 hk
  exact ⟨k, u, hu, e1.trans f1, e2.trans f2, Int.le_trans e3 f3⟩
theorem un_le {a b : List (Option LineS)} (h : Un a) (h2 : Le a b) : Un b := by
  intro i k s t hi hk e
  obtain ⟨s', hs, e1⟩ := le_ta h2 hi
  obtain ⟨t', ht, e2⟩ := le_ta h2 hk
  exact h i k s' t' hs ht (by rw [e1, e2, e])
/-- unlike regions -/
def Unlike (ys : List S44) : Prop := ∀ (i k : Nat) (y z : S44), ys[i]? = some y → ys[k]? = some z → y.f0 = z.f0 → i = k
/-- IN WHATEVER ORDER: EACH IS AS SURE -/
theorem order_one {c r p wi s : Int} (hR : GridP.R c r p wi) {ys zs : List S44} (hl : ys.length ≤ 20) (hlz : zs.length ≤ 20) (h1 : ∀ y ∈ ys, WfS c r p wi s y) (hyz : ∀ y ∈ ys, y ∈ zs) (hzy : ∀ z ∈ zs, z ∈ ys) (uy : Unlike ys) (uz : Unlike zs) :
    ∃ r1 r2, ofG c r p wi s (ys.map toL) = some r1 ∧ ofG c r p wi s (zs.map toL) = some r2 ∧ r1.length = ys.length ∧ r2.length = zs.length ∧ ∀ (i k : Nat) (y z : S44) (a b : Int), ys[i]? = some y → zs[k]? = some z → y.f0 = z.f0 → r1[i]? = some a → r2[k]? = some b → a = b := by
  obtain ⟨b1, e1, q1, s1, w1⟩ := ends hR hl h1
  obtain ⟨b2, e2, q2, s2, w2⟩ := ends hR hlz (fun z hz => h1 z (hzy z hz))
  have pm : ∀ {ys zs : List S44}, (∀ y ∈ ys, y ∈ zs) → Pm (ys.map fun y => some ⟨0, toL y, nearG c r p wi s y.f0, y.f1⟩) (zs.map fun y => some ⟨0, toL y, nearG c r p wi s y.f0, y.f1⟩) := by
    intro ys zs h j t hj
    rw [List.getElem?_map] at hj
    cases hy : ys[j]? with
    | none => rw [hy] at hj; cases hj
    | some y =>
      rw [hy] at hj
      obtain rfl := Option.some.inj (Option.some.inj hj)
      obtain ⟨k, hk⟩ := List.getElem?_of_mem (h y (List.mem_of_getElem? hy))
      exact ⟨k, ⟨0, toL y, nearG c r p wi s y.f0, y.f1⟩, by rw [List.getElem?_map, hk]; rfl, rfl, rfl, Int.le_refl _⟩
  have un : ∀ {ys : List S44}, Unlike ys → Un (ys.map fun y => some ⟨0, toL y, nearG c r p wi s y.f0, y.f1⟩) := by
    intro ys h i k t u hi hk e
    rw [List.getElem?_map] at hi hk
    cases hy : ys[i]? with
    | none => rw [hy] at hi; cases hi
    | some y =>
      cases hz : ys[k]? with
      | none => rw [hz] at hk; cases hk
      | some z =>
        rw [hy] at hi
        rw [hz] at hk
        obtain rfl := Option.some.inj (Option.some.inj hi)
        obtain rfl := Option.some.inj (Option.some.inj hk)
        exact h i k y z hy hz e
  have u1 := un_le (un uy) q1.ge
  have u2 := un_le (un uz) q2.ge
  have p1 := reach_pm q1 (pm_le (pm hyz) q2.ge) u2 s2
  have p2 := reach_pm q2 (pm_le (pm hzy) q1.ge) u1 s1
  refine ⟨resF b1, resF b2, e1, e2, by rw [le_len q1.ge, List.length_map], by rw [le_len q2.ge, List.length_map], fun i k y z a b hy hz hyz ha hb => ?_⟩
  obtain ⟨t, ht, x1, _, _⟩ := le_at q1.ge (j := i) (s := ⟨0, toL y, nearG c r p wi s y.f0, y.f1⟩) (by rw [List.getElem?_map, hy]; rfl)
  obtain ⟨u, hu, x2, _, _⟩ := le_at q2.ge (j := k) (s := ⟨0, toL z, nearG c r p wi s z.f0, z.f1⟩) (by rw [List.getElem?_map, hz]; rfl)
  have et : t.x.1 = y.f0 := by rw [← x1]
  have eu : u.x.1 = z.f0 := by rw [← x2]
  unfold resF at ha hb
  rw [List.getElem?_map, ht] at ha
  rw [List.getElem?_map, hu] at hb
  obtain rfl := Option.some.inj ha
  obtain rfl := Option.some.inj hb
  obtain ⟨k', u', hu', f1, _, f3⟩ := p1 i t ht
  obtain rfl := u2 k' k u' u hu' hu (by rw [← f1, et, eu, hyz])
  obtain ⟨i', t', ht', g1, _, g3⟩ := p2 k' u hu
  obtain rfl := u1 i' i t' t ht' ht (by rw [← g1, et, eu, hyz])
  rw [hu] at hu'
  rw [ht] at ht'
  obtain rfl := Option.some.inj (Option.some.inj hu')
  obtain rfl := Option.some.inj (Option.some.inj ht')
  exact Int.le_antisymm f3 g3
/-! #### the first of each region -/
/-- is a region among those -/
def hasRg (Y : List S44) (js : List Nat) (q : Int) : Bool := js.any fun j => match Y[j]? with | some y => decide (y.f0 = q) | none => false
/-- the places of the first ones, of so many -/
def firsts (Y : List S44) : Nat → List Nat
  | 0 => []
  | i + 1 => match Y[i]? with
    | some y => if hasRg Y (firsts Y i) y.f0 = true then firsts Y i else firsts Y i ++ [i]
    | none => firsts Y i
/-- the lines at those places -/
def atJs (Y : List S44) (js : List Nat) : List S44 := js.filterMap fun j => Y[j]?
theorem firsts_lt (Y : List S44) : ∀ (i : Nat), i ≤ Y.length → ∀ j ∈ firsts Y i, j < i ∧ j < Y.length := by
  intro i
  induction i with
  | zero => intro _ j hj; cases hj
  | succ i ih =>
    intro hi j hj
    unfold firsts at hj
    have hl : i < Y.length := hi
    rw [List.getElem?_eq_getElem hl] at hj
    simp only at hj
    split at hj
    · have := ih (by omega) j hj; exact ⟨by omega, this.2⟩
    · rcases List.mem_append.1 hj with hj | hj
      · have := ih (by omega) j hj; exact ⟨by omega, this.2⟩
      · rw [List.mem_singleton.1 hj]; exact ⟨by omega, hl⟩
theorem firsts_len (Y : List S44) : ∀ (i : Nat), (firsts Y i).length ≤ i := by
  intro i
  induction i with
  | zero => exact Nat.le_refl _
  | succ i ih =>
    unfold firsts
    split
    · split
      · omega
      · simp; exact ih
    · omega
/-- places of unlike regions, all within -/
structure Js (Y : List S44) (js : List Nat) : Prop where
  lt : ∀ j ∈ js, j < Y.length
  un : ∀ (i k : Nat) (a b : Nat) (y z : S44), js[i]? = some a → js[k]? = some b → Y[a]? = some y → Y[b]? = some z → y.f0 = z.f0 → i = k
theorem hasRg_of {Y : List S44} {js : List Nat} {k b : Nat} {z : S44} {q : Int} (hk : js[k]? = some b) (hz : Y[b]? = some z) (e : z.f0 = q) : hasRg Y js q = true := by
  unfold hasRg
  rw [List.any_eq_true]
  exact ⟨b, List.mem_of_getElem? hk, by rw [hz]; exact decide_eq_true e⟩
theorem firsts_js (Y : List S44) : ∀ (i : Nat), i ≤ Y.length → Js Y (firsts Y i) := by
  intro i
  induction i with
  | zero => intro _; refine ⟨fun j hj => (by cases hj), fun i k a b y z h => ?_⟩; simp [firsts] at h
  | succ i ih =>
    intro hi
    have hl : i < Y.length := hi
    have ih := ih (by omega)
    refine ⟨fun j hj => (firsts_lt Y (i + 1) hi j hj).2, ?_⟩
    unfold firsts
    rw [List.getElem?_eq_getElem hl]
    simp only
    split
    · exact ih.un
    · rename_i hn
      intro i1 k1 a b y z ha hb hy hz e
      rw [List.getElem?_append] at ha hb
      split at ha
      · split at hb
        · exact ih.un i1 k1 a b y z ha hb hy hz e
        · rename_i h1 h2
          have hb' : b = i := by
            rcases Nat.eq_zero_or_pos (k1 - (firsts Y i).length) with h9 | h9
            · rw [h9] at hb; exact (Option.some.inj hb).symm
            · rw [List.getElem?_eq_none (by simp; omega)] at hb; cases hb
          subst hb'
          rw [List.getElem?_eq_getElem hl] at hz
          obtain rfl := Option.some.inj hz
          exact absurd (hasRg_of ha hy e) hn
      · split at hb
        · rename_i h1 h2
          have ha' : a = i := by
            rcases Nat.eq_zero_or_pos (i1 - (firsts Y i).length) with h9 | h9
            · rw [h9] at ha; exact (Option.some.inj ha).symm
            · rw [List.getElem?_eq_none (by simp; omega)] at ha; cases ha
          subst ha'
          rw [List.getElem?_eq_getElem hl] at hy
          obtain rfl := Option.some.inj hy
          exact absurd (hasRg_of hb hz e.symm) hn
        · rename_i h1 h2
          have h3 : i1 - (firsts Y i).length = 0 := by
            rcases Nat.eq_zero_or_pos (i1 - (firsts Y i).length) with h9 | h9
            · exact h9
            · rw [List.getElem?_eq_none (by simp; omega)] at ha; cases ha
          have h4 : k1 - (firsts Y i).length = 0 := by
            rcases Nat.eq_zero_or_pos (k1 - (firsts Y i).length) with h9 | h9
            · exact h9
            · rw [List.getElem?_eq_none (by simp; omega)] at hb; cases hb
          omega
/-- two places swapped -/
def swp (js : List Nat) (i k : Nat) : List Nat := (js.set i (js.getD k 0)).set k (js.getD i 0)
theorem swp_len (js : List Nat) (i k : Nat) : (swp js i k).length = js.length := by simp [swp]
theorem getD_at {js : List Nat} {i : Nat} (h : i < js.length) : js[i]? = some (js.getD i 0) := by rw [List.getElem?_eq_getElem h, List.getD_eq_getElem?_getD, List.getElem?_eq_getElem h]; rfl
theorem swp_at {js : List Nat} {i k : Nat} (hi : i < js.length) (hk : k < js.length) (m : Nat) : (swp js i k)[m]? = js[if m = k then i else if m = i then k else m]? := by
  unfold swp
  rw [List.getElem?_set]
  by_cases e1 : k = m
  · subst e1
    rw [if_pos rfl, if_pos (by rw [List.length_set]; exact hk), if_pos rfl]
    exact (getD_at hi).symm
  · rw [if_neg e1, if_neg (c := m = k) (fun e => e1 e.symm), List.getElem?_set]
    by_cases e2 : i = m
    · subst e2
      rw [if_pos rfl, if_pos hi, if_pos rfl]
      exact (getD_at hk).symm
    · rw [if_neg e2, if_neg (c := m = i) (fun e => e2 e.symm)]
theorem swp_mem {js : List Nat} {i k : Nat} (hi : i < js.length) (hk : k < js.length) (j : Nat) : j ∈ swp js i k ↔ j ∈ js := by
  constructor
  · intro h
    obtain ⟨m, hm⟩ := List.getElem?_of_mem h
    rw [swp_at hi hk] at hm
    exact List.mem_of_getElem? hm
  · intro h
    obtain ⟨m, hm⟩ := List.getElem?_of_mem h
    by_cases e1 : m = i
    · subst e1
      refine List.mem_of_getElem? (i := k) ?_
      rw [swp_at hi hk, if_pos rfl]; exact hm
    · by_cases e2 : m = k
      · subst e2
        refine List.mem_of_getElem? (i := i) ?_
        rw [swp_at hi hk]
        by_cases e3 : i = m
        · exact absurd e3.symm e1
        · rw [if_neg e3, if_pos rfl]; exact hm
      · refine List.mem_of_getElem? (i := m) ?_
        rw [swp_at hi hk, if_neg e2, if_neg e1]; exact hm
theorem swp_js {Y : List S44} {js : List Nat} {i k : Nat} (h : Js Y js) (hi : i < js.length) (hk : k < js.length) : Js Y (swp js i k) := by
  refine ⟨fun j hj => h.lt j ((swp_mem hi hk j).1 hj), fun m n a b y z ha hb hy hz e => ?_⟩
  rw [swp_at hi hk] at ha hb
  have := h.un _ _ a b y z ha hb hy hz e
  revert this
  by_cases a1 : m = k <;> by_cases a2 : m = i <;> by_cases b1 : n = k <;> by_cases b2 : n = i <;> simp only [a1, a2, b1, b2, if_true, if_false] <;> intro this <;> (try split at this) <;> (try split at this) <;> omega
theorem atJs_len {Y : List S44} : ∀ {js : List Nat}, (∀ j ∈ js, j < Y.length) → (atJs Y js).length = js.length := by
  intro js
  induction js with
  | nil => intro _; rfl
  | cons j js ih =>
    intro h
    have hj := h j List.mem_cons_self
    unfold atJs at ih ⊢
    rw [List.filterMap_cons, List.getElem?_eq_getElem hj]
    simp only [List.length_cons]
    rw [ih (fun k hk => h k (List.mem_cons_of_mem _ hk))]
theorem atJs_at {Y : List S44} : ∀ {js : List Nat}, (∀ j ∈ js, j < Y.length) → ∀ (i : Nat) (a : Nat), js[i]? = some a → (atJs Y js)[i]? = Y[a]? := by
  intro js
  induction js with
  | nil => intro _ i a h; cases h
  | cons j js ih =>
    intro h i a hi
    have hj := h j List.mem_cons_self
    have e : atJs Y (j :: js) = Y[j] :: atJs Y js := by
      unfold atJs
      rw [List.filterMap_cons, List.getElem?_eq_getElem hj]
    rw [e]
    cases i with
    | zero =>
      obtain rfl := Option.some.inj (show some j = some a from hi)
      rw [List.getElem?_eq_getElem hj]; rfl
    | succ i =>
      rw [List.getElem?_cons_succ] at hi ⊢
      exact ih (fun k hk => h k (List.mem_cons_of_mem _ hk)) i a hi
theorem atJs_of {Y : List S44} {js : List Nat} (h : ∀ j ∈ js, j < Y.length) {i : Nat} {y : S44} (hy : (atJs Y js)[i]? = some y) : ∃ a, js[i]? = some a ∧ Y[a]? = some y := by
  have hl : i < js.length := by rw [← atJs_len h]; exact (List.getElem?_eq_some_iff.1 hy).1
  refine ⟨js[i], List.getElem?_eq_getElem hl, ?_⟩
  rw [← atJs_at h i _ (List.getElem?_eq_getElem hl)]
  exact hy
/-- THE TWO LISTS THAT ARE ASKED FOR -/
theorem order_js {c r p wi s : Int} (hR : GridP.R c r p wi) {Y : List S44} (hw : ∀ y ∈ Y, WfS c r p wi s y) {js ks : List Nat} (hj : Js Y js) (hk : Js Y ks) (hl : js.length ≤ 20) (hlk : ks.length = js.length) (hm : ∀ j, j ∈ ks ↔ j ∈ js) :
    ∃ r1 r2, ofG c r p wi s ((atJs Y js).map toL) = some r1 ∧ ofG c r p wi s ((atJs Y ks).map toL) = some r2 ∧ r1.length = js.length ∧ r2.length = js.length ∧ ∀ (i k a b : Nat) (y z : S44) (u v : Int), js[i]? = some a → ks[k]? = some b → Y[a]? = some y → Y[b]? = some z → y.f0 = z.f0 → r1[i]? = some u → r2[k]? = some v → u = v := by
  have un : ∀ {js : List Nat}, Js Y js → Unlike (atJs Y js) := by
    intro js h i k y z hy hz e
    obtain ⟨a, ha, hy2⟩ := atJs_of h.lt hy
    obtain ⟨b, hb, hz2⟩ := atJs_of h.lt hz
    exact h.un i k a b y z ha hb hy2 hz2 e
  have sub : ∀ {js ks : List Nat}, Js Y js → Js Y ks → (∀ j ∈ js, j ∈ ks) → ∀ y ∈ atJs Y js, y ∈ atJs Y ks := by
    intro js ks h1 h2 h y hy
    obtain ⟨i, hi⟩ := List.getElem?_of_mem hy
    obtain ⟨a, ha, hy2⟩ := atJs_of h1.lt hi
    obtain ⟨k, hk⟩ := List.getElem?_of_mem (h a (List.mem_of_getElem? ha))
    exact List.mem_of_getElem? (i := k) (by rw [atJs_at h2.lt k a hk]; exact hy2)
  have mem : ∀ y ∈ atJs Y js, y ∈ Y := by
    intro y hy
    obtain ⟨i, hi⟩ := List.getElem?_of_mem hy
    obtain ⟨a, ha, hy2⟩ := atJs_of hj.lt hi
    exact List.mem_of_getElem? hy2
  obtain ⟨r1, r2, e1, e2, l1, l2, hh⟩ := order_one (s := s) hR (ys := atJs Y js) (zs := atJs Y ks) (by rw [atJs_len hj.lt]; exact hl) (by rw [atJs_len hk.lt, hlk]; exact hl) (fun y hy => hw y (mem y hy)) (sub hj hk (fun j h => (hm j).2 h)) (sub hk hj (fun j h => (hm j).1 h)) (un hj) (un hk)
  refine ⟨r1, r2, e1, e2, by rw [l1, atJs_len hj.lt], by rw [l2, atJs_len hk.lt, hlk], fun i k a b y z u v ha hb hy hz e hu hv => ?_⟩
  exact hh i k y z u v (by rw [atJs_at hj.lt i a ha]; exact hy) (by rw [atJs_at hk.lt k b hb]; exact hz) e hu hv
end Go.Proofs.Ytmgdpkmmcmglfaa.PMarkOrder
namespace Go.Proofs.Ytmgdpkmmcmglfaa.PMarkOrder
open Go Go.RowKit Go.Proofs.YtmgdpkmmcmglfaaW.PrintWords Go.Proofs.YtmgdpkmmcmglfaaW.PrintLast Go.Proofs.YtmgdpkmmcmglfaaW.PrintMore Go.Proofs.Ytmgdpkmmcmglfaa.Sep
open Go.Proofs.Ytmgdpkmmcmglfaa.MarkW (nearG kline at_line ofG)
set_option linter.unusedVariables false
set_option linter.unusedSimpArgs false
theorem k44_s2 {w : World} {y : S44} {a b v2 v3 : Value} (h : k44.K w y [a, b, v2, v3]) : ∃ A c, v2 = .slice A y.f2.length c := by
  obtain ⟨_, _, e1, h1, ⟨_, _, e2, h2, ⟨_, _, e3, ⟨A, c, h3, _⟩, _⟩⟩⟩ := h
  subst h1 h2 h3
  simp at e1 
  obtain ⟨rfl, e1⟩ := e1
  subst e1
  simp at e2
  obtain ⟨rfl, e2⟩ := e2
  subst e2
  simp at e3
  exact ⟨A, c, e3.1⟩
/-! #### lines at places -/
def rawAt (R : List (List Value)) (js : List Nat) : List (List Value) := js.map fun j => R.getD j []
theorem rawAt_len (R : List (List Value)) (js : List Nat) : (rawAt R js).length = js.length := by simp [rawAt]
theorem rawAt_snoc (R : List (List Value)) (js : List Nat) {i : Nat} {x : List Value} (h : R[i]? = some x) : rawAt R js ++ [x] = rawAt R (js ++ [i]) := by
  unfold rawAt
  rw [List.map_append, List.map_singleton, List.getD_eq_getElem?_getD, h]
  rfl
theorem rawAt_at {R : List (List Value)} {js : List Nat} {k j : Nat} {x : List Value} (hk : js[k]? = some j) (hj : R[j]? = some x) : (rawAt R js)[k]? = some x := by
  unfold rawAt
  rw [List.getElem?_map, hk]
  show some (R.getD j []) = _
  rw [List.getD_eq_getElem?_getD, hj]
  rfl
theorem rawAt_set (R : List (List Value)) (js : List Nat) {k j : Nat} {x : List Value} (h : R[j]? = some x) : (rawAt R js).set k x = rawAt R (js.set k j) := by
  unfold rawAt
  rw [List.map_set, List.getD_eq_getElem?_getD, h]
  rfl
theorem rawLs_at : ∀ (xs : List (Value × Value)) (ys : List S44), xs.length = ys.length → ∀ (j : Nat) (y : S44), ys[j]? = some y → ∃ v2 v3, (rawLs xs ys)[j]? = some [.int .i64 y.f0, .int .i64 y.f1, v2, v3] := by
  intro xs
  induction xs with
  | nil => intro ys hl j y hj; cases ys with
    | nil => cases hj
    | cons _ _ => simp at hl
  | cons x xs ih => intro ys hl j y hj; cases ys with
    | nil => simp at hl
    | cons z ys =>
      cases j with
      | zero =>
        obtain rfl : z = y := by simpa using hj
        exact ⟨x.1, x.2, rfl⟩
      | succ j => exact ih ys (by simpa using hl) j y (by simpa using hj)
theorem rowInt {w0 w : World} {base e g n c : Nat} {k : IntKind} {l : List Int} {F : List Asr} (h : Has w0 base w (row (Kd.int k) e (.slice (some ⟨g, 0, none⟩) n c) l :: F)) {j : Nat} {u : Int} (hj : l[j]? = some u) : w.cell? ⟨g, j, none⟩ = some (.int k u) := by
  obtain ⟨hl, e2⟩ := List.getElem?_eq_some_iff.1 hj
  obtain ⟨ad, ea, hc⟩ := rdInt h.rowN.2.2 j hl
  obtain rfl := Option.some.inj ea
  rw [add_g, e2] at hc
  exact hc
theorem lines_open {w0 w : World} {base : Nat} {v : Value} {Y : List S44} {F : List Asr} (h : Has w0 base w (linesP v Y :: F)) : ∃ (R : List (List Value)) (O : Asr), R.length = Y.length ∧ (∀ (j : Nat) (y : S44), Y[j]? = some y → ∃ v2 v3, R[j]? = some [.int .i64 y.f0, .int .i64 y.f1, v2, v3] ∧ v2.oneCell' = true ∧ v3.oneCell' = true ∧ ∃ A c, v2 = .slice A y.f2.length c) ∧ Has w0 base w (row (kcells 4) 44 v R :: O :: F) ∧
    ∀ {w' : World} {A : Option Addr} {n c : Nat} {js : List Nat} {F1 F2 : List Asr}, Has w0 base w' (row (kcells 4) 44 (.slice A n c) (rawAt R js) :: F1) → Has w0 base w' (O :: F2) → (∀ j ∈ js, j < Y.length) → n = (atJs Y js).length ∧ n ≤ c ∧ Kd.C k44 w' A n (atJs Y js) := by
  obtain ⟨xs, hl, h1⟩ := linesP_open h
  have h2 : Has w0 base w (row (kcells 4) 44 v (rawLs xs Y) :: stars (linesA xs Y) :: F) := by
    have h5 : Has w0 base w (linesA xs Y ++ (row (kcells 4) 44 v (rawLs xs Y) :: F)) := h1.perm List.perm_middle.symm
    exact (Has.sht h5).sw
  refine ⟨rawLs xs Y, stars (linesA xs Y), rawLs_len _ _ hl, ?_, h2, ?_⟩
  · intro j y hj
    obtain ⟨v2, v3, e⟩ := rawLs_at xs Y hl j y hj
    obtain ⟨A, c', rfl⟩ := h2.rowIs
    have hC := h2.rowN.2.2
    have hjl : j < Y.length := (List.getElem?_eq_some_iff.1 hj).1
    obtain ⟨ad, ea, hc⟩ := hC.2.2 (by rw [rawLs_len _ _ hl]; omega)
    obtain ⟨cs, hcl, hK, hcc⟩ := hc j _ e
    obtain rfl : cs = _ := hK.1
    obtain ⟨S, hP, _⟩ := h2.sw.first
    obtain ⟨cs', e2, hK2⟩ := linesA_at xs Y hl hP j y hj
    obtain rfl := Option.some.inj (e.symm.trans e2)
    exact ⟨v2, v3, e, hK.2.2 v2 (by simp), hK.2.2 v3 (by simp), k44_s2 hK2⟩
  intro w' A n c js F1 F2 ha ho hj
  obtain ⟨en, hnc, hC⟩ := ha.rowN
  obtain ⟨S, hP, _⟩ := ho.first
  have el := atJs_len hj
  rw [rawAt_len] at en
  refine ⟨by omega, hnc, by rw [el, en], hC.2.1, fun hn => ?_⟩
  obtain ⟨ad, ea, hc⟩ := hC.2.2 hn
  refine ⟨ad, ea, fun i y hi => ?_⟩
  obtain ⟨a, hia, hya⟩ := atJs_of hj hi
  obtain ⟨cs', e2, hK2⟩ := linesA_at xs Y hl hP a y hya
  obtain ⟨cs, hcl, hK, hcc⟩ := hc i _ (rawAt_at hia e2)
  obtain rfl : cs = _ := hK.1
  exact ⟨_, hcl, hK2, hcc⟩
theorem one4 {a b : Int} {v2 v3 : Value} (h2 : v2.oneCell' = true) (h3 : v3.oneCell' = true) : ∀ u ∈ [Value.int .i64 a, .int .i64 b, v2, v3], u.oneCell' = true := by
  intro u hu
  rcases List.mem_cons.1 hu with rfl | hu
  · rfl
  rcases List.mem_cons.1 hu with rfl | hu
  · rfl
  rcases List.mem_cons.1 hu with rfl | hu
  · exact h2
  rcases List.mem_cons.1 hu with rfl | hu
  · exact h3
  · cases hu
end Go.Proofs.Ytmgdpkmmcmglfaa.PMarkOrder
