/- Whatever the row reads as data is of its kind in memory (Kd), each number within its kind, each slice within its weight. No condition. -/
import Derived.Test.YtmgdpkmmcmglfaaWWords
import Derived.ChangeOld
import Derived.ChangeSlices
import Derived.SizedLaws
import Derived.Below
import Derived.Carry
import Derived.WalkKit
import Derived.RowKit
import Derived.OpenShut
import Derived.WideShapes
import Derived.DataElems
namespace Go.Proofs.Ytmgdpkmmcmglfaa.Open
open Go.ChangeShapes Go.WideShapes Go.RowKit
open Go.Proofs.YtmgdpkmmcmglfaaW.PrintWords

def Opens (P : Program) (t : TypeId) {α : Type} (d : Kd α) (good : α → Prop) : Prop :=
  ∀ {H : Type} {enc : TypeId × Value → H} {w : World} {base : Nat} {spare : Nat → Bool} {held : Bool} {fuel : Nat} {cs : List Value} {x : DataW H × List MemPlace},
    DataW.trod enc P w base spare held fuel t cs = some x → (∀ n ∈ x.1.weights P t, n ≤ reachBytes) → ∃ a, d.K w a cs ∧ good a

def OpensFs (P : Program) (fs : List Field) (off : Nat) {α : Type} (d : Kd α) (good : α → Prop) : Prop :=
  ∀ {H : Type} {enc : TypeId × Value → H} {w : World} {base : Nat} {spare : Nat → Bool} {held : Bool} {fuel : Nat} {cs : List Value} {xs : List (DataW H × List MemPlace)},
    xs.length = fs.length → (∀ (i : Nat) (f : Field), fs[i]? = some f → DataW.trod enc P w base spare held fuel f.type ((cs.drop f.offset).take (P.cellsOf f.type)) = xs[i]?) →
    (∀ n ∈ DataW.weightsEach P (fs.map (·.type)) (xs.map (·.1)), n ≤ reachBytes) → cs.length = off + d.sz → ∃ a, d.K w a (cs.drop off) ∧ good a

section
variable {P : Program} {t e : TypeId}

theorem opens_int {k : IntKind} (hu : P.underlying t = some (.int k)) : Opens P t (Kd.int k) (fun n => (Lit.int k n).wf = true) := by
  intro H enc w base spare held fuel cs x h _
  obtain ⟨n, hc, _, hw⟩ := DataW.trod_int hu h
  exact ⟨n, hc, hw⟩

theorem opens_bool (hu : P.underlying t = some .bool) : Opens P t Kd.bool (fun _ => True) := by
  intro H enc w base spare held fuel cs x h _
  obtain ⟨n, hc, _⟩ := DataW.trod_bool hu h
  exact ⟨n, hc, trivial⟩

theorem cells_at {w : World} {base : Nat} {a : Addr} {n : Nat} {cs : List Value} (h : w.cells? base a n = some cs) : cs.length = n ∧ ∀ (i : Nat) u, cs[i]? = some u → w.cell? (a.add i) = some u := by
  unfold World.cells? at h
  split at h
  · have hl : cs.length = n := by simpa using mapM_some_length h
    refine ⟨hl, fun i u hu => ?_⟩
    obtain ⟨hi, _⟩ := List.getElem?_eq_some_iff.1 hu
    have := mapM_some_get h i i (by rw [List.getElem?_range (by omega)])
    rw [this, hu]
  · cases h

theorem list_of {α : Type} {Q : Nat → α → Prop} (n : Nat) (h : ∀ i, i < n → ∃ a, Q i a) : ∃ l : List α, l.length = n ∧ ∀ (i : Nat) a, l[i]? = some a → Q i a := by
  induction n with
  | zero => exact ⟨[], rfl, fun i a hi => by simp at hi⟩
  | succ n ih =>
    obtain ⟨l, hl, hq⟩ := ih (fun i hi => h i (by omega))
    obtain ⟨a, ha⟩ := h n (by omega)
    refine ⟨l ++ [a], by simp [hl], fun i b hb => ?_⟩
    rcases Nat.lt_or_ge i n with hi | hi
    · rw [List.getElem?_append_left (by omega)] at hb
      exact hq i b hb
    · rw [List.getElem?_append_right (by omega)] at hb
      have hi' : i = n := by
        rcases Nat.lt_or_ge n i with h1 | h1
        · rw [List.getElem?_eq_none (by simp; omega)] at hb; cases hb
        · omega
      subst hi'
      rw [hl, Nat.sub_self] at hb
      simp at hb
      subst hb
      exact ha

theorem weights_all {H : Type} {e : TypeId} : ∀ {l : List (DataW H)} {d : DataW H}, d ∈ l → ∀ n ∈ d.weights P e, n ∈ DataW.weightsAll P e l
  | [], d, h, _, _ => by simp at h
  | a :: l, d, h, n, hn => by
    simp only [DataW.weightsAll, List.mem_append]
    rcases List.mem_cons.1 h with h | h
    · subst h; exact .inl hn
    · exact .inr (weights_all h n hn)

theorem opens_slice {α : Type} {d : Kd α} {good : α → Prop} {B : Nat} (hu : P.underlying t = some (.slice e)) (hc : P.cellsOf e = d.sz) (hB : P.bytesOf e = B) (hd : Opens P e d good) :
    Opens P t (Kd.slice e d) (fun xs => xs.length * B ≤ 140737488351232 ∧ ∀ x ∈ xs, good x) := by
  intro H enc w base spare held fuel cs x h hwt
  rcases DataW.trod_slice hu h with ⟨rfl, rfl⟩ | ⟨a, len, cap, elems, rest, n, rfl, rfl, rfl, hb, hl, hm, hlen, hel, hsp, hns⟩
  · exact ⟨[], ⟨none, 0, rfl, Nat.le_refl _, rfl, by simp, fun h => absurd h (by simp)⟩, by simp, fun x hx => by simp at hx⟩
  · simp only [DataW.weights, hu] at hwt
    have hw0 : (elems.length + rest.length) * B ≤ 140737488351232 := by
      have := hwt _ List.mem_cons_self
      simp only [List.length_map] at this
      rw [hB] at this
      exact this
    obtain ⟨xs, hxl, hxs⟩ := list_of (Q := fun i y => ∃ c : List Value, c.length = d.sz ∧ d.K w y c ∧ (∀ (j : Nat) u, c[j]? = some u → w.cell? (a.add (i * d.sz + j)) = some u) ∧ good y) len (fun i hi => by
      have h1 := hel i hi
      have hi2 : i < elems.length := by omega
      rw [List.getElem?_eq_getElem hi2] at h1
      obtain ⟨c, hc1, hc2⟩ := Option.bind_eq_some_iff.1 h1
      obtain ⟨hcl, hcell⟩ := cells_at hc1
      obtain ⟨y, hy, hg⟩ := hd hc2 (fun n hn => hwt n (List.mem_cons_of_mem _ (List.mem_append_left _ (weights_all (List.mem_map.2 ⟨_, List.getElem_mem hi2, rfl⟩) n hn))))
      refine ⟨y, c, by rw [hcl, hc], hy, fun j u hu => ?_, hg⟩
      have := hcell j u hu
      rw [hc] at this
      rw [Go.Addr.add_add] at this
      exact this)
    subst hxl
    refine ⟨xs, ⟨some a, cap, rfl, hl, rfl, ?_, fun _ => ⟨a, rfl, fun j p hj => ?_⟩⟩, ?_, fun y hy => ?_⟩
    · unfold maxLen at hm; omega
    · obtain ⟨c, h1, h2, h3, _⟩ := hxs j p hj
      exact ⟨c, h1, h2, h3⟩
    · exact Nat.le_trans (Nat.mul_le_mul_right _ (by omega)) hw0
    · obtain ⟨i, hi, rfl⟩ := List.mem_iff_getElem.1 hy
      obtain ⟨c, _, _, _, hg⟩ := hxs i _ (List.getElem?_eq_getElem hi)
      exact hg

theorem opensFs_one {f : Field} {off : Nat} {α : Type} {d : Kd α} {good : α → Prop} (ho : f.offset = off) (hc : P.cellsOf f.type = d.sz) (hd : Opens P f.type d good) : OpensFs P [f] off d good := by
  intro H enc w base spare held fuel cs xs hl hx hwt hcs
  match xs, hl with
  | [x], _ =>
    have h0 := hx 0 f rfl
    have : (cs.drop f.offset).take (P.cellsOf f.type) = cs.drop off := by
      rw [ho, hc, List.take_of_length_le]
      rw [List.length_drop]; omega
    rw [this] at h0
    exact hd h0 (fun n hn => hwt n (by simp [DataW.weightsEach, hn]))

theorem opensFs_cons {f : Field} {fs : List Field} {off : Nat} {α β : Type} {a : Kd α} {b : Kd β} {ga : α → Prop} {gb : β → Prop} (ho : f.offset = off) (hc : P.cellsOf f.type = a.sz) (hd : Opens P f.type a ga) (hr : OpensFs P fs (off + a.sz) b gb) :
    OpensFs P (f :: fs) off (Kd.pair a b) (fun x => ga x.1 ∧ gb x.2) := by
  intro H enc w base spare held fuel cs xs hl hx hwt hcs
  match xs, hl with
  | x :: xs, hl =>
    have h0 := hx 0 f rfl
    rw [ho, hc] at h0
    obtain ⟨y, hy, hgy⟩ := hd h0 (fun n hn => hwt n (by simp [DataW.weightsEach, hn]))
    obtain ⟨z, hz, hgz⟩ := hr (xs := xs) (by simpa using hl) (fun i g hg => hx (i + 1) g (by simpa using hg)) (fun n hn => hwt n (by simp only [List.map_cons, DataW.weightsEach, List.mem_append]; exact .inr hn)) (by rw [hcs]; simp [Kd.pair]; omega)
    refine ⟨(y, z), ⟨_, _, ?_, hy, hz⟩, hgy, hgz⟩
    rw [← List.drop_drop, List.take_append_drop]

theorem opens_struct {fs : Array Field} {α β : Type} {d : Kd α} {good : α → Prop} (f : β → α) (g : α → β) (hfg : ∀ a, f (g a) = a) (hu : P.underlying t = some (.struct fs)) (hc : P.cellsOf t = d.sz) (hf : OpensFs P fs.toList 0 d good) :
    Opens P t (Kd.iso d f) (fun y => good (f y)) := by
  intro H enc w base spare held fuel cs x h hwt
  obtain ⟨xs, n, rfl, rfl, hl, hxl, hx⟩ := DataW.trod_struct hu h
  simp only [DataW.weights, hu] at hwt
  obtain ⟨a, ha, hg⟩ := hf (cs := cs) (xs := xs) (by simpa using hxl) (fun i f' hf' => hx i f' (by simpa using hf')) hwt (by rw [hl, hc]; omega)
  refine ⟨g a, ?_, ?_⟩
  · show d.K w (f (g a)) cs
    rw [hfg]
    simpa using ha
  · show good (f (g a))
    rw [hfg]; exact hg

theorem opens_struct0 {fs : Array Field} {α : Type} {d : Kd α} {good : α → Prop} (hu : P.underlying t = some (.struct fs)) (hc : P.cellsOf t = d.sz) (hf : OpensFs P fs.toList 0 d good) : Opens P t d good := by
  intro H enc w base spare held fuel cs x h hwt
  exact opens_struct (d := d) (good := good) id id (fun _ => rfl) hu hc hf h hwt

variable {H : Type} {enc : TypeId × Value → H} {W : World} {base : Nat} {spare : Nat → Bool} {held : Bool} {v : Value} {dd : DataW H} {p : List MemPlace} {ts : List TypeId} {ds : List (DataW H)} {j : Nat}

theorem each_of (hsz : (DataW.weightsEach P ts ds).all (· ≤ reachBytes) = true) (ht : ts[j]? = some t) (hd : ds[j]? = some dd) : ∀ n ∈ dd.weights P t, n ≤ reachBytes := by
  intro n hn
  have := List.all_eq_true.1 hsz n (DataW.weights_mem_each ht hd n hn)
  simpa using this

theorem arg_struct {α : Type} {d : Kd α} {good : α → Prop} {fs : Array Field} {r : Reach} {b0 : Nat} (ho : Opens P t d good) (hu : P.underlying t = some (.struct fs)) (hval : Value.okWide P W r b0 t v)
    (hsz : (DataW.weightsEach P ts ds).all (· ≤ reachBytes) = true) (ht : ts[j]? = some t) (hd : ds[j]? = some dd) (h : DataW.Trod enc P W base spare held t v dd p) :
    ∃ a cs, v = .agg cs.toArray ∧ d.K W a cs ∧ good a := by
  simp only [Value.okWide, hu] at hval
  obtain ⟨cs, rfl, _, _⟩ := hval
  obtain ⟨fuel, hf⟩ := h
  obtain ⟨a, ha, hg⟩ := ho hf (each_of hsz ht hd)
  exact ⟨a, cs.toList, by simp, by simpa [Value.cells] using ha, hg⟩

theorem arg_slice {α : Type} {d : Kd α} {good : List α → Prop} {e : TypeId} {r : Reach} {b0 : Nat} (ho : Opens P t (Kd.slice e d) good) (hu : P.underlying t = some (.slice e)) (hval : Value.okWide P W r b0 t v)
    (hsz : (DataW.weightsEach P ts ds).all (· ≤ reachBytes) = true) (ht : ts[j]? = some t) (hd : ds[j]? = some dd) (h : DataW.Trod enc P W base spare held t v dd p) :
    ∃ (A : Option Addr) (c : Nat) (xs : List α), v = .slice A xs.length c ∧ xs.length ≤ c ∧ d.C W A xs.length xs ∧ good xs := by
  obtain ⟨a, len, cap, rfl⟩ := okWide_slice hu hval
  obtain ⟨fuel, hf⟩ := h
  obtain ⟨xs, ⟨A, c, hc, hl, hC⟩, hg⟩ := ho hf (each_of hsz ht hd)
  simp only [Value.cells, List.cons.injEq, Value.slice.injEq, and_true] at hc
  obtain ⟨rfl, rfl, rfl⟩ := hc
  exact ⟨_, _, xs, rfl, hl, hC, hg⟩
end
end Go.Proofs.Ytmgdpkmmcmglfaa.Open
