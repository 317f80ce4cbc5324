/- Who knows more is sure of no less. No condition; In whatever order lines of unlike regions are asked for, each is as sure. No condition; Lines in memory by their raw cells; lists of places in them. No condition. Conditions: as told at each. -/
import Derived.Test.YtmgdpkmmcmglfaaMarkFit0
import Derived.Test.YtmgdpkmmcmglfaaMarkLens
import Derived.Test.YtmgdpkmmcmglfaaRawRow2
namespace Go.Proofs.Ytmgdpkmmcmglfaa.PMarkOrder
open Go Go.RowKit Go.Proofs.YtmgdpkmmcmglfaaW.PrintWords Go.Proofs.YtmgdpkmmcmglfaaW.PrintLast
open Go.Proofs.Ytmgdpkmmcmglfaa.MarkW (Line LineS nearG ofG fitG initM madeP Stuck WfM WfL goesP okK knownP firstL resF phi nextL ansO Le LeO I64)
set_option linter.unusedVariables false
set_option linter.unusedSimpArgs false
/-- a line that knows no less -/
structure MoX (x y : Line) : Prop where
  rg : x.1 = y.1
  bs : x.2.1 = y.2.1
  su : ∀ i, x.2.2.1.getD i false = true → y.2.2.1.getD i false = true
  kn : ∀ i k, (x.2.2.2.getD i []).getD k false = true → (y.2.2.2.getD i []).getD k false = true
  l2 : x.2.2.1.length ≤ y.2.2.1.length
  l3 : x.2.2.2.length ≤ y.2.2.2.length
theorem MoX.refl (x : Line) : MoX x x := ⟨rfl, rfl, fun _ h => h, fun _ _ h => h, Nat.le_refl _, Nat.le_refl _⟩
def MoO : Option LineS → Option LineS → Prop
  | none, none => True
  | some s, some t => MoX s.x t.x ∧ s.near = t.near ∧ s.sure ≤ t.sure
  | _, _ => False
structure Mo (a b : List (Option LineS)) : Prop where
  len : a.length = b.length
  at_ : ∀ (j : Nat) (o o' : Option LineS), a[j]? = some o → b[j]? = some o' → MoO o o'
theorem Mo.tail {o o' : Option LineS} {a b : List (Option LineS)} (h : Mo (o :: a) (o' :: b)) : MoO o o' ∧ Mo a b := by
  refine ⟨h.at_ 0 o o' rfl rfl, ⟨by simpa using h.len, fun j p p' hp hp' => h.at_ (j + 1) p p' (by simpa using hp) (by simpa using hp')⟩⟩
theorem firstL_mo {q : Int} : ∀ {a b : List (Option LineS)}, Mo a b → MoO (firstL a q) (firstL b q) := by
  intro a
  induction a with
  | nil =>
    intro b h
    cases b with
    | nil => trivial
    | cons o b => have := h.len; simp at this
  | cons o a ih =>
    intro b h
    cases b with
    | nil => have := h.len; simp at this
    | cons o' b =>
      obtain ⟨h1, h2⟩ := h.tail
      have := ih h2
      cases o with
      | none =>
        cases o' with
        | none => simpa [firstL] using this
        | some t => exact h1.elim
      | some s =>
        cases o' with
        | none => exact h1.elim
        | some t =>
          unfold firstL
          simp only [List.filterMap_cons, id, List.find?_cons]
          have e : t.x.1 = s.x.1 := h1.1.rg.symm
          by_cases hq : s.x.1 = q
          · rw [decide_eq_true hq, decide_eq_true (e.trans hq)]
            exact h1
          · rw [decide_eq_false hq, decide_eq_false (fun h9 => hq (e ▸ h9))]
            exact this
theorem knownP_mo {a b : List (Option LineS)} (h : Mo a b) {q f : Int} (hk : knownP a q f = true) : knownP b q f = true := by
  unfold knownP at hk ⊢
  have h1 := firstL_mo (q := q) h
  cases ha : firstL a q with
  | none => rw [ha] at hk; cases hk
  | some s =>
    rw [ha] at hk h1
    cases hb : firstL b q with
    | none => rw [hb] at h1; exact h1.elim
    | some t =>
      rw [hb] at h1
      obtain ⟨e1, e2, e3⟩ := h1
      have hk2 : decide (s.x.2.1 ≤ f - 1 ∧ f ≤ s.sure) = true := hk
      have h9 := of_decide_eq_true hk2
      show decide (t.x.2.1 ≤ f - 1 ∧ f ≤ t.sure) = true
      rw [← e1.bs]
      exact decide_eq_true ⟨h9.1, Int.le_trans h9.2 e3⟩
theorem goesP_mo {a b : List (Option LineS)} (h : Mo a b) {s t : LineS} (h1 : MoX s.x t.x) (h2 : s.near = t.near) (h3 : s.sure = t.sure) (hg : goesP a s = true) : goesP b t = true := by
  unfold goesP at hg ⊢
  simp only [Bool.and_eq_true, List.all_eq_true] at hg ⊢
  obtain ⟨⟨g1, g2⟩, g3⟩ := hg
  have g1 := of_decide_eq_true g1
  rw [← h1.bs, ← h2, ← h3]
  refine ⟨⟨decide_eq_true ?_, h1.su _ g2⟩, fun k hk => ?_⟩
  · have l2 := h1.l2
    have l3 := h1.l3
    unfold LineS.steps at g1 ⊢
    split at g1 <;> split <;> omega
  · have h9 := g3 k hk
    unfold okK at h9 ⊢
    rw [← h2, ← h3]
    rw [Bool.or_eq_true, Bool.or_eq_true] at h9 ⊢
    rcases h9 with (h9 | h9) | h9
    · exact .inl (.inl h9)
    · exact .inl (.inr (h1.kn _ _ h9))
    · exact .inr (knownP_mo h h9)
theorem reach_mo {init a b : List (Option LineS)} (h : MarkW.Reach init a) (h0 : Mo init b) (hb : Stuck b) : Mo a b := by
  induction h with
  | refl => exact h0
  | @step ms j s h hj hg ih =>
    refine ⟨by rw [List.length_set]; exact ih.len, fun i o o' ho ho' => ?_⟩
    rw [List.getElem?_set] at ho
    split at ho
    · rename_i e
      subst e
      split at ho
      · have e1 := Option.some.inj ho
        subst e1
        have h1 := ih.at_ j (some s) o' hj ho'
        cases o' with
        | none => exact h1.elim
        | some t =>
          obtain ⟨e1, e2, e3⟩ := h1
          refine ⟨e1, e2, ?_⟩
          show s.sure + 1 ≤ t.sure
          rcases Int.lt_or_eq_of_le e3 with h9 | h9
          · omega
          · have := goesP_mo ih e1 e2 h9 hg
            rw [hb j t ho'] at this
            cases this
      · cases ho
    · exact ih.at_ i o o' ho ho'
theorem mo_le {a b c : List (Option LineS)} (h : Mo a b) (h2 : Le b c) : Mo a c := by
  refine ⟨h.len.trans h2.len, fun j o o' ho ho' => ?_⟩
  have hj : j < b.length := by
    have := (List.getElem?_eq_some_iff.1 ho').1
    rw [h2.len]; exact this
  have h3 := h.at_ j o _ ho (List.getElem?_eq_getElem hj)
  have h4 := h2.at_ j _ o' (List.getElem?_eq_getElem hj) ho'
  revert h3 h4
  generalize b[j] = ob
  intro h3 h4
  cases o <;> cases ob <;> cases o' <;> first | trivial | exact h3.elim | exact h4.elim | skip
  rename_i s t u
  obtain ⟨a1, a2, a3⟩ := h3
  obtain ⟨b1, b2, b3⟩ := h4
  exact ⟨b1 ▸ a1, a2.trans b2, Int.le_trans a3 b3⟩
theorem reach_wf {init a : List (Option LineS)} (h : MarkW.Reach init a) (hw : WfM init) : WfM a := by
  induction h with
  | refl => exact hw
  | step h hj hg ih => exact ih.next hj hg
abbrev toL (x : S44) : Line := (x.f0, x.f1, x.f2, x.f3)
structure WfS (c r p wi s : Int) (y : S44) : Prop where
  rg : 0 ≤ y.f0 ∧ y.f0 < c * r
  bs : 0 ≤ y.f1 ∧ y.f1 < 10
  l2 : y.f2.length ≤ 21
  l3 : y.f3.length ≤ 21
  row : ∀ x ∈ y.f3, x.length = (nearG c r p wi s y.f0).length
theorem fitL_wf {c r p wi : Int} (s : Int) (hR : GridP.R c r p wi) (l : List S44) : ∀ y ∈ fitL c r p wi s l, WfS c r p wi s y ∧ y.f2.length ≤ 20 ∧ y.f3.length = y.f2.length := by
  intro y hy
  obtain ⟨x, hx, rfl⟩ := List.mem_map.1 hy
  have hb := cr_bound hR
  have h0 : 0 ≤ IntKind.u64.wrap x.f0 := by rw [IntKind.wrap_u64]; omega
  have h1 : 0 ≤ IntKind.u64.wrap x.f1 := by rw [IntKind.wrap_u64]; omega
  have hrg : 0 ≤ fitRg c r x.f0 ∧ fitRg c r x.f0 < c * r := by
    unfold fitRg
    rw [Int.tmod_eq_emod_of_nonneg h0]
    have a := Int.emod_nonneg (IntKind.u64.wrap x.f0) (show c * r ≠ 0 by omega)
    have b := Int.emod_lt_of_pos (IntKind.u64.wrap x.f0) (show 0 < c * r by omega)
    rw [wr (by omega) (by omega)]
    exact ⟨a, b⟩
  have hbs : 0 ≤ fitBs x.f1 ∧ fitBs x.f1 < 10 := by
    unfold fitBs
    rw [Int.tmod_eq_emod_of_nonneg h1, wr (by omega) (by omega)]
    omega
  refine ⟨⟨hrg, hbs, ?_, ?_, ?_⟩, ?_, ?_⟩
  · show (x.f2.take _).length ≤ 21; rw [List.length_take]; omega
  · show ((List.range _).map _).length ≤ 21; rw [List.length_map, List.length_range]; omega
  · intro z hz
    obtain ⟨k, _, rfl⟩ := List.mem_map.1 (show z ∈ (List.range _).map _ from hz)
    unfold fitRow
    rw [List.length_map, List.length_range]
    rfl
  · show (x.f2.take _).length ≤ 20; rw [List.length_take]; omega
  · show ((List.range _).map _).length = (x.f2.take _).length
    rw [List.length_map, List.length_range, List.length_take]
    omega
theorem WfS.made {c r p wi s : Int} {y : S44} (hR : GridP.R c r p wi) (h : WfS c r p wi s y) : madeP (nearG c r p wi s y.f0) (toL y) = true :=
  MarkW.madeP_yes (GridP.near_ne s hR h.rg).1 ⟨h.bs.1, by show y.f1 ≤ 10000; have := h.bs.2; omega⟩ h.row
theorem init_eq {c r p wi s : Int} (hR : GridP.R c r p wi) {ys : List S44} (h : ∀ y ∈ ys, WfS c r p wi s y) : initM (nearG c r p wi s) (ys.map toL) = ys.map fun y => some ⟨0, toL y, nearG c r p wi s y.f0, y.f1⟩ := by
  unfold initM
  rw [List.map_map]
  apply List.map_congr_left
  intro y hy
  show (if madeP (nearG c r p wi s y.f0) (toL y) = true then _ else _) = _
  rw [if_pos ((h y hy).made hR)]
theorem ends {c r p wi s : Int} (hR : GridP.R c r p wi) {ys : List S44} (hl : ys.length ≤ 20) (h : ∀ y ∈ ys, WfS c r p wi s y) : ∃ b, ofG c r p wi s (ys.map toL) = some (resF b) ∧ MarkW.Reach (ys.map fun y => some ⟨0, toL y, nearG c r p wi s y.f0, y.f1⟩) b ∧ Stuck b ∧ WfM b := by
  have hb := cr_bound hR
  have hfit : fitG c r p wi s (ys.map toL) := GridP.fit_of_few s hR (by rw [List.length_map]; omega) (fun x hx => by
    obtain ⟨y, hy, rfl⟩ := List.mem_map.1 hx
    have h9 := h y hy
    have a1 := h9.rg
    have a2 := h9.l2
    have a3 := h9.l3
    exact ⟨by show y.f2.length ≤ 100; omega, by show y.f3.length ≤ 100; omega, by show MarkW.I64 y.f0; exact ⟨by omega, by omega⟩⟩)
  obtain ⟨b, e1, e2, e3⟩ := MarkW.ofG_ends hfit
  have hw := reach_wf e2 (MarkW.wf_init hfit)
  rw [init_eq hR h] at e2
  exact ⟨b, e1, e2, e3, hw⟩
theorem le_len {a b : List (Option LineS)} (h : Le a b) : (resF b).length = a.length := by unfold resF; rw [List.length_map, h.len]
theorem ends_nil (c r p wi s : Int) (hR : GridP.R c r p wi) : ofG c r p wi s [] = some [] := by
  obtain ⟨b, e1, e2, e3, _⟩ := ends (s := s) hR (ys := []) (by simp) (fun y hy => by cases hy)
  have := e2.ge.len
  have hb : b = [] := List.eq_nil_of_length_eq_zero this.symm
  rw [hb] at e1
  exact e1
/-- WHO KNOWS MORE IS SURE OF NO LESS -/
theorem more {c r p wi s : Int} (hR : GridP.R c r p wi) {ys zs : List S44} (hl : ys.length ≤ 20) (hlz : zs.length = ys.length) (h1 : ∀ y ∈ ys, WfS c r p wi s y) (h2 : ∀ y ∈ zs, WfS c r p wi s y) (hm : ∀ (i : Nat) (y z : S44), ys[i]? = some y → zs[i]? = some z → MoX (toL y) (toL z)) :
    ∃ r1 r2, ofG c r p wi s (ys.map toL) = some r1 ∧ ofG c r p wi s (zs.map toL) = some r2 ∧ r1.length = ys.length ∧ r2.length = ys.length ∧ ∀ (i : Nat) (y : S44) (a b : Int), ys[i]? = some y → r1[i]? = some a → r2[i]? = some b → a ≤ b ∧ y.f1 ≤ a ∧ a ≤ y.f1 + y.f2.length := by
  obtain ⟨b1, e1, q1, s1, w1⟩ := ends hR hl h1
  obtain ⟨b2, e2, q2, s2, w2⟩ := ends hR (by omega) h2
  have hmo : Mo (ys.map fun y => some ⟨0, toL y, nearG c r p wi s y.f0, y.f1⟩) (zs.map fun y => some ⟨0, toL y, nearG c r p wi s y.f0, y.f1⟩) := by
    refine ⟨by simp [hlz], fun j o o' ho ho' => ?_⟩
    rw [List.getElem?_map] at ho ho'
    cases hy : ys[j]? with
    | none => rw [hy] at ho; cases ho
    | some y =>
      cases hz : zs[j]? with
      | none => rw [hz] at ho'; cases ho'
      | some z =>
        rw [hy] at ho
        rw [hz] at ho'
        obtain rfl := Option.some.inj ho
        obtain rfl := Option.some.inj ho'
        have := hm j y z hy hz
        exact ⟨this, by rw [show y.f0 = z.f0 from this.rg], Int.le_of_eq this.bs⟩
  have hfin := reach_mo q1 (mo_le hmo q2.ge) s2
  refine ⟨resF b1, resF b2, e1, e2, by rw [le_len q1.ge, List.length_map], by rw [le_len q2.ge, List.length_map, hlz], fun i y a b hy ha hb => ?_⟩
  unfold resF at ha hb
  rw [List.getElem?_map] at ha hb
  cases hb1 : b1[i]? with
  | none => rw [hb1] at ha; cases ha
  | some o =>
    cases hb2 : b2[i]? with
    | none => rw [hb2] at hb; cases hb
    | some o' =>
      rw [hb1] at ha
      rw [hb2] at hb
      obtain rfl := Option.some.inj ha
      obtain rfl := Option.some.inj hb
      have m1 := hfin.at_ i o o' hb1 hb2
      have m2 := q1.ge.at_ i (some ⟨0, toL y, nearG c r p wi s y.f0, y.f1⟩) o (by rw [List.getElem?_map, hy]; rfl) hb1
      cases o with
      | none => exact m2.elim
      | some t =>
        cases o' with
        | none => exact m1.elim
        | some t' =>
          obtain ⟨x1, x2, x3⟩ := m2
          have hw := w1 i t hb1
          have h3 := hw.sure
          rw [← x1] at h3
          refine ⟨m1.2.2, h3.1, Int.le_trans h3.2 ?_⟩
          have : t.steps ≤ y.f2.length := by
            unfold LineS.steps
            rw [← x1]
            show (if (y.f3.length : Int) < y.f2.length then (y.f3.length : Int) else y.f2.length) ≤ y.f2.length
            split <;> omega
          show y.f1 + t.steps ≤ y.f1 + y.f2.length
          omega
/-! #### one place more -/
theorem getD_set_true {l : List Bool} {k i : Nat} (h : l.getD i false = true) : (l.set k true).getD i false = true := by
  rw [List.getD_eq_getElem?_getD] at h ⊢
  rw [List.getElem?_set]
  by_cases e : k = i
  · subst e
    by_cases hk : k < l.length
    · rw [if_pos rfl, if_pos hk]; rfl
    · rw [List.getElem?_eq_none (by omega)] at h; cases h
  · rw [if_neg e]; exact h
theorem getD_app_true {l m : List Bool} {i : Nat} (h : l.getD i false = true) : (l ++ m).getD i false = true := by
  rw [List.getD_eq_getElem?_getD] at h ⊢
  by_cases hi : i < l.length
  · rw [List.getElem?_append_left hi]; exact h
  · rw [List.getElem?_eq_none (by omega)] at h; cases h
theorem getD_app_row {l m : List (List Bool)} {i k : Nat} (h : (l.getD i []).getD k false = true) : ((l ++ m).getD i []).getD k false = true := by
  by_cases hi : i < l.length
  · have e : (l ++ m).getD i [] = l.getD i [] := by rw [List.getD_eq_getElem?_getD, List.getD_eq_getElem?_getD, List.getElem?_append_left hi]
    rw [e]; exact h
  · have e : l.getD i [] = [] := by rw [List.getD_eq_getElem?_getD, List.getElem?_eq_none (by omega)]; rfl
    rw [e] at h; cases h
theorem getD_mid_row {K1 K2 : List (List Bool)} {kr : List Bool} {m i k : Nat} (h : ((K1 ++ kr :: K2).getD i []).getD k false = true) : ((K1 ++ kr.set m true :: K2).getD i []).getD k false = true := by
  rw [List.getD_eq_getElem?_getD (l := K1 ++ kr :: K2)] at h
  rw [List.getD_eq_getElem?_getD (l := K1 ++ kr.set m true :: K2)]
  rcases Nat.lt_trichotomy i K1.length with hi | hi | hi
  · rw [List.getElem?_append_left hi] at h ⊢; exact h
  · rw [List.getElem?_append_right (by omega), hi, Nat.sub_self] at h ⊢
    exact getD_set_true h
  · rw [List.getElem?_append_right (by omega)] at h ⊢
    obtain ⟨q, hq⟩ : ∃ q, i - K1.length = q + 1 := ⟨i - K1.length - 1, by omega⟩
    rw [hq] at h ⊢
    exact h
def addY (nn : Nat) (y : S44) (F2 : List Bool) (F3 : List (List Bool)) : S44 := ⟨y.f0, y.f1, F2 ++ [true], F3 ++ [List.replicate nn false]⟩
theorem mo_none {nn : Nat} (y : S44) : MoX (toL y) (toL (addY nn y y.f2 y.f3)) :=
  ⟨rfl, rfl, fun _ h => getD_app_true h, fun _ _ h => getD_app_row h, by show y.f2.length ≤ (y.f2 ++ [true]).length; simp, by show y.f3.length ≤ (y.f3 ++ _).length; simp⟩
theorem mo_some {nn : Nat} (y : S44) (k m : Nat) {K1 K2 : List (List Bool)} {kr : List Bool} (h : y.f3 = K1 ++ kr :: K2) : MoX (toL y) (toL (addY nn y (y.f2.set k true) (K1 ++ kr.set m true :: K2))) :=
  ⟨rfl, rfl, fun _ hi => getD_app_true (getD_set_true hi), fun i q hi => getD_app_row (getD_mid_row (by show ((K1 ++ kr :: K2).getD i []).getD q false = true; rw [← h]; exact hi)), by show y.f2.length ≤ (y.f2.set k true ++ [true]).length; simp, by show y.f3.length ≤ ((K1 ++ kr.set m true :: K2) ++ _).length; rw [h]; simp⟩
theorem wf_none {c r p wi s : Int} {nn : Nat} {y : S44} (h : WfS c r p wi s y) (h2 : y.f2.length ≤ 20) (h3 : y.f3.length = y.f2.length) (hn : (nearG c r p wi s y.f0).length = nn) : WfS c r p wi s (addY nn y y.f2 y.f3) := by
  refine ⟨h.rg, h.bs, by show (y.f2 ++ [true]).length ≤ 21; simp; omega, by show (y.f3 ++ [_]).length ≤ 21; simp; omega, fun x hx => ?_⟩
  rcases List.mem_append.1 (show x ∈ y.f3 ++ [List.replicate nn false] from hx) with hx | hx
  · exact h.row x hx
  · rw [List.mem_singleton.1 hx, List.length_replicate]; exact hn.symm
theorem wf_some {c r p wi s : Int} {nn : Nat} {y : S44} (k m : Nat) {K1 K2 : List (List Bool)} {kr : List Bool} (h : WfS c r p wi s y) (h2 : y.f2.length ≤ 20) (h3 : y.f3.length = y.f2.length) (hn : (nearG c r p wi s y.f0).length = nn) (hK : y.f3 = K1 ++ kr :: K2) : WfS c r p wi s (addY nn y (y.f2.set k true) (K1 ++ kr.set m true :: K2)) := by
  have hl : (K1 ++ kr.set m true :: K2).length = y.f3.length := by rw [hK]; simp
  refine ⟨h.rg, h.bs, by show (y.f2.set k true ++ [true]).length ≤ 21; simp; omega, by show ((K1 ++ kr.set m true :: K2) ++ [_]).length ≤ 21; rw [List.length_append, hl]; simp; omega, fun x hx => ?_⟩
  rcases List.mem_append.1 (show x ∈ (K1 ++ kr.set m true :: K2) ++ [List.replicate nn false] from hx) with hx | hx
  · rcases List.mem_append.1 hx with hx | hx
    · exact h.row x (by rw [hK]; exact List.mem_append_left _ hx)
    · rcases List.mem_cons.1 hx with hx | hx
      · rw [hx, List.length_set]; exact h.row kr (by rw [hK]; simp)
      · exact h.row x (by rw [hK]; exact List.mem_append_right _ (List.mem_cons_of_mem _ hx))
  · rw [List.mem_singleton.1 hx, List.length_replicate]; exact hn.symm
/-- one line knows more -/
theorem more_one {c r p wi s : Int} (hR : GridP.R c r p wi) {Y1 Y2 : List S44} {y y' : S44} (hl : (Y1 ++ y :: Y2).length ≤ 20) (h1 : ∀ z ∈ Y1 ++ y :: Y2, WfS c r p wi s z) (h2 : WfS c r p wi s y') (hm : MoX (toL y) (toL y')) {r1 : List Int} (hr1 : ofG c r p wi s ((Y1 ++ y :: Y2).map toL) = some r1) :
    ∃ r2, ofG c r p wi s ((Y1 ++ y' :: Y2).map toL) = some r2 ∧ r2.length = (Y1 ++ y :: Y2).length ∧ ∀ (i : Nat) (z : S44) (a b : Int), (Y1 ++ y :: Y2)[i]? = some z → r1[i]? = some a → r2[i]? = some b → a ≤ b ∧ z.f1 ≤ a ∧ a ≤ z.f1 + z.f2.length := by
  obtain ⟨q1, r2, e1, e2, l1, l2, hh⟩ := more (ys := Y1 ++ y :: Y2) (zs := Y1 ++ y' :: Y2) hR hl (by simp) h1 (fun z hz => by
    rcases List.mem_append.1 hz with hz | hz
    · exact h1 z (List.mem_append_left _ hz)
    · rcases List.mem_cons.1 hz with hz | hz
      · rw [hz]; exact h2
      · exact h1 z (List.mem_append_right _ (List.mem_cons_of_mem _ hz))) (fun i a b ha hb => by
    rcases Nat.lt_trichotomy i Y1.length with hi | hi | hi
    · rw [List.getElem?_append_left hi] at ha hb; rw [ha] at hb; rw [Option.some.inj hb]; exact MoX.refl _
    · rw [List.getElem?_append_right (by omega), hi, Nat.sub_self] at ha hb
      obtain rfl := Option.some.inj (show some y = some a from ha)
      obtain rfl := Option.some.inj (show some y' = some b from hb)
      exact hm
    · rw [List.getElem?_append_right (by omega)] at ha hb
      obtain ⟨q, hq⟩ : ∃ q, i - Y1.length = q + 1 := ⟨i - Y1.length - 1, by omega⟩
      rw [hq] at ha hb
      rw [List.getElem?_cons_succ] at ha hb
      rw [ha] at hb; rw [Option.some.inj hb]; exact MoX.refl _)
  rw [hr1] at e1
  obtain rfl := Option.some.inj e1
  exact ⟨r2, e2, l2, hh⟩
end Go.Proofs.Ytmgdpkmmcmglfaa.PMarkOrder
namespace Go.Proofs.Ytmgdpkmmcmglfaa.PMarkOrder
open Go Go.RowKit Go.Proofs.YtmgdpkmmcmglfaaW.PrintWords Go.Proofs.YtmgdpkmmcmglfaaW.PrintLast
open Go.Proofs.Ytmgdpkmmcmglfaa.MarkW (Line LineS nearG ofG fitG initM madeP Stuck WfM WfL goesP okK knownP firstL resF phi nextL ansO Le LeO I64)
set_option linter.unusedVariables false
set_option linter.unusedSimpArgs false
/-! #### the first of each region -/
/-- the lines at those places -/
def atJs (Y : List S44) (js : List Nat) : List S44 := js.filterMap fun j => Y[j]?
theorem atJs_len {Y : List S44} : ∀ {js : List Nat}, (∀ j ∈ js, j < Y.length) → (atJs Y js).length = js.length := by
  intro js
  induction js with
  | nil => intro _; rfl
  | cons j js ih =>
    intro h
    have hj := h j List.mem_cons_self
    unfold atJs at ih ⊢
    rw [List.filterMap_cons, List.getElem?_eq_getElem hj]
    simp only [List.length_cons]
    rw [ih (fun k hk => h k (List.mem_cons_of_mem _ hk))]
theorem atJs_at {Y : List S44} : ∀ {js : List Nat}, (∀ j ∈ js, j < Y.length) → ∀ (i : Nat) (a : Nat), js[i]? = some a → (atJs Y js)[i]? = Y[a]? := by
  intro js
  induction js with
  | nil => intro _ i a h; cases h
  | cons j js ih =>
    intro h i a hi
    have hj := h j List.mem_cons_self
    have e : atJs Y (j :: js) = Y[j] :: atJs Y js := by
      unfold atJs
      rw [List.filterMap_cons, List.getElem?_eq_getElem hj]
    rw [e]
    cases i with
    | zero =>
      obtain rfl := Option.some.inj (show some j = some a from hi)
      rw [List.getElem?_eq_getElem hj]; rfl
    | succ i =>
      rw [List.getElem?_cons_succ] at hi ⊢
      exact ih (fun k hk => h k (List.mem_cons_of_mem _ hk)) i a hi
theorem atJs_of {Y : List S44} {js : List Nat} (h : ∀ j ∈ js, j < Y.length) {i : Nat} {y : S44} (hy : (atJs Y js)[i]? = some y) : ∃ a, js[i]? = some a ∧ Y[a]? = some y := by
  have hl : i < js.length := by rw [← atJs_len h]; exact (List.getElem?_eq_some_iff.1 hy).1
  refine ⟨js[i], List.getElem?_eq_getElem hl, ?_⟩
  rw [← atJs_at h i _ (List.getElem?_eq_getElem hl)]
  exact hy
end Go.Proofs.Ytmgdpkmmcmglfaa.PMarkOrder
namespace Go.Proofs.Ytmgdpkmmcmglfaa.PMarkOrder
open Go Go.RowKit Go.Proofs.YtmgdpkmmcmglfaaW.PrintWords Go.Proofs.YtmgdpkmmcmglfaaW.PrintLast Go.Proofs.YtmgdpkmmcmglfaaW.PrintMore Go.Proofs.Ytmgdpkmmcmglfaa.Sep
open Go.Proofs.Ytmgdpkmmcmglfaa.MarkW (nearG kline at_line ofG)
set_option linter.unusedVariables false
set_option linter.unusedSimpArgs false
theorem k44_s2 {w : World} {y : S44} {a b v2 v3 : Value} (h : k44.K w y [a, b, v2, v3]) : ∃ A c, v2 = .slice A y.f2.length c := by
  obtain ⟨_, _, e1, h1, ⟨_, _, e2, h2, ⟨_, _, e3, ⟨A, c, h3, _⟩, _⟩⟩⟩ := h
  subst h1 h2 h3
  simp at e1 
  obtain ⟨rfl, e1⟩ := e1
  subst e1
  simp at e2
  obtain ⟨rfl, e2⟩ := e2
  subst e2
  simp at e3
  exact ⟨A, c, e3.1⟩
/-! #### lines at places -/
def rawAt (R : List (List Value)) (js : List Nat) : List (List Value) := js.map fun j => R.getD j []
theorem rawAt_len (R : List (List Value)) (js : List Nat) : (rawAt R js).length = js.length := by simp [rawAt]
theorem rawAt_snoc (R : List (List Value)) (js : List Nat) {i : Nat} {x : List Value} (h : R[i]? = some x) : rawAt R js ++ [x] = rawAt R (js ++ [i]) := by
  unfold rawAt
  rw [List.map_append, List.map_singleton, List.getD_eq_getElem?_getD, h]
  rfl
theorem rawAt_at {R : List (List Value)} {js : List Nat} {k j : Nat} {x : List Value} (hk : js[k]? = some j) (hj : R[j]? = some x) : (rawAt R js)[k]? = some x := by
  unfold rawAt
  rw [List.getElem?_map, hk]
  show some (R.getD j []) = _
  rw [List.getD_eq_getElem?_getD, hj]
  rfl
theorem rawAt_set (R : List (List Value)) (js : List Nat) {k j : Nat} {x : List Value} (h : R[j]? = some x) : (rawAt R js).set k x = rawAt R (js.set k j) := by
  unfold rawAt
  rw [List.map_set, List.getD_eq_getElem?_getD, h]
  rfl
theorem rawLs_at : ∀ (xs : List (Value × Value)) (ys : List S44), xs.length = ys.length → ∀ (j : Nat) (y : S44), ys[j]? = some y → ∃ v2 v3, (rawLs xs ys)[j]? = some [.int .i64 y.f0, .int .i64 y.f1, v2, v3] := by
  intro xs
  induction xs with
  | nil => intro ys hl j y hj; cases ys with
    | nil => cases hj
    | cons _ _ => simp at hl
  | cons x xs ih => intro ys hl j y hj; cases ys with
    | nil => simp at hl
    | cons z ys =>
      cases j with
      | zero =>
        obtain rfl : z = y := by simpa using hj
        exact ⟨x.1, x.2, rfl⟩
      | succ j => exact ih ys (by simpa using hl) j y (by simpa using hj)
theorem rowInt {w0 w : World} {base e g n c : Nat} {k : IntKind} {l : List Int} {F : List Asr} (h : Has w0 base w (row (Kd.int k) e (.slice (some ⟨g, 0, none⟩) n c) l :: F)) {j : Nat} {u : Int} (hj : l[j]? = some u) : w.cell? ⟨g, j, none⟩ = some (.int k u) := by
  obtain ⟨hl, e2⟩ := List.getElem?_eq_some_iff.1 hj
  obtain ⟨ad, ea, hc⟩ := rdInt h.rowN.2.2 j hl
  obtain rfl := Option.some.inj ea
  rw [add_g, e2] at hc
  exact hc
theorem lines_open {w0 w : World} {base : Nat} {v : Value} {Y : List S44} {F : List Asr} (h : Has w0 base w (linesP v Y :: F)) : ∃ (R : List (List Value)) (O : Asr), R.length = Y.length ∧ (∀ (j : Nat) (y : S44), Y[j]? = some y → ∃ v2 v3, R[j]? = some [.int .i64 y.f0, .int .i64 y.f1, v2, v3] ∧ v2.oneCell' = true ∧ v3.oneCell' = true ∧ ∃ A c, v2 = .slice A y.f2.length c) ∧ Has w0 base w (row (kcells 4) 44 v R :: O :: F) ∧
    ∀ {w' : World} {A : Option Addr} {n c : Nat} {js : List Nat} {F1 F2 : List Asr}, Has w0 base w' (row (kcells 4) 44 (.slice A n c) (rawAt R js) :: F1) → Has w0 base w' (O :: F2) → (∀ j ∈ js, j < Y.length) → n = (atJs Y js).length ∧ n ≤ c ∧ Kd.C k44 w' A n (atJs Y js) := by
  obtain ⟨xs, hl, h1⟩ := linesP_open h
  have h2 : Has w0 base w (row (kcells 4) 44 v (rawLs xs Y) :: stars (linesA xs Y) :: F) := by
    have h5 : Has w0 base w (linesA xs Y ++ (row (kcells 4) 44 v (rawLs xs Y) :: F)) := h1.perm List.perm_middle.symm
    exact (Has.sht h5).sw
  refine ⟨rawLs xs Y, stars (linesA xs Y), rawLs_len _ _ hl, ?_, h2, ?_⟩
  · intro j y hj
    obtain ⟨v2, v3, e⟩ := rawLs_at xs Y hl j y hj
    obtain ⟨A, c', rfl⟩ := h2.rowIs
    have hC := h2.rowN.2.2
    have hjl : j < Y.length := (List.getElem?_eq_some_iff.1 hj).1
    obtain ⟨ad, ea, hc⟩ := hC.2.2 (by rw [rawLs_len _ _ hl]; omega)
    obtain ⟨cs, hcl, hK, hcc⟩ := hc j _ e
    obtain rfl : cs = _ := hK.1
    obtain ⟨S, hP, _⟩ := h2.sw.first
    obtain ⟨cs', e2, hK2⟩ := linesA_at xs Y hl hP j y hj
    obtain rfl := Option.some.inj (e.symm.trans e2)
    exact ⟨v2, v3, e, hK.2.2 v2 (by simp), hK.2.2 v3 (by simp), k44_s2 hK2⟩
  intro w' A n c js F1 F2 ha ho hj
  obtain ⟨en, hnc, hC⟩ := ha.rowN
  obtain ⟨S, hP, _⟩ := ho.first
  have el := atJs_len hj
  rw [rawAt_len] at en
  refine ⟨by omega, hnc, by rw [el, en], hC.2.1, fun hn => ?_⟩
  obtain ⟨ad, ea, hc⟩ := hC.2.2 hn
  refine ⟨ad, ea, fun i y hi => ?_⟩
  obtain ⟨a, hia, hya⟩ := atJs_of hj hi
  obtain ⟨cs', e2, hK2⟩ := linesA_at xs Y hl hP a y hya
  obtain ⟨cs, hcl, hK, hcc⟩ := hc i _ (rawAt_at hia e2)
  obtain rfl : cs = _ := hK.1
  exact ⟨_, hcl, hK2, hcc⟩
theorem one4 {a b : Int} {v2 v3 : Value} (h2 : v2.oneCell' = true) (h3 : v3.oneCell' = true) : ∀ u ∈ [Value.int .i64 a, .int .i64 b, v2, v3], u.oneCell' = true := by
  intro u hu
  rcases List.mem_cons.1 hu with rfl | hu
  · rfl
  rcases List.mem_cons.1 hu with rfl | hu
  · rfl
  rcases List.mem_cons.1 hu with rfl | hu
  · exact h2
  rcases List.mem_cons.1 hu with rfl | hu
  · exact h3
  · cases hu
end Go.Proofs.Ytmgdpkmmcmglfaa.PMarkOrder
