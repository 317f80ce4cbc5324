/- Functions that a law reaches, and what their Go code computes. No condition. (Written by a program of this session, a turned copy of the print.) -/
import Derived.Test.YtoibgnhfpcaejaaPBytesReadz0
import Derived.Test.YtoibgnhfpcaejaaPBytesReadz1
namespace Go.Proofs.Ytoibgnhfpcaejaa.PBytesRead
open Go.RowKit Go.Proofs.YtoibgnhfpcaejaaW.PrintWords Go.Proofs.YtoibgnhfpcaejaaW.PrintLast Go.Proofs.YtoibgnhfpcaejaaW.PrintMore
attribute [local go_sem] max2_int min2_int max_two min_two max_three min_three max_four min_four   -- for this text's walks alone
set_option linter.unusedVariables false
set_option linter.unusedSimpArgs false
theorem au2_0 {p : Prop} (h : p := by repeat (first | (with_reducible first | exact HB.out | apply below_alloc | apply pw_below_drewN | apply below_drew1 | refine below_set ?_ (IsS47.ge HI0.out)) | exact HB.out)) : p := h
theorem au2_1 {p : Prop} (h : p := by repeat (first | (with_reducible first | exact HI0.out | apply IsS47.alloc | apply IsS47.drewN | apply IsS47.drew | apply IsS47.set_1 | apply IsS47.set_2) | exact HI0.out)) : p := h
theorem au2_2 {p : Prop} (h : p := by repeat (first | (with_reducible first | exact HK.out | apply KeepBut.set_ | apply keep_drewN | apply keep_drew | apply keep_alloc) | exact HK.out)) : p := h
theorem au2_3 {p : Prop} (h : p := by first | rfl | (simp [errW_none, errW_some] <;> rfl) | (simp [*, errW_none, errW_some] <;> rfl)) : p := h
theorem au2_4 {p : Prop} (h : p := by first | rfl | (simp; done) | (simp [*]; done)) : p := h

/-! ### joustref12_Reader_Int: function 21 -/
mutual
def joustref12_Reader_Int.j1 : Nat → Int → List Int → Int → Int → Option (Int × Int × Int)
  | 0, _, _, _, _ => none
  | k + 1, x3, x1000, x1001, x1002 => if x3 ≥ (x1000.length : Int) then ((joustref12_Reader_fail.f x1000 x1001 x1002 5).bind fun bt108 => (some (0, bt108.1, bt108.2))) else (if (wrap64 ((wrap64 (x3 - x1001)) + 1)) > 9 then (joustref12_Reader_Int.j2 k x3 true x1000 x1001 x1002) else (if (wrap64 ((wrap64 (x3 - x1001)) + 1)) > 1 then (if 0 ≤ x3 then (if x3 < (x1000.length : Int) then (joustref12_Reader_Int.j2 k x3 ((rd x1000 x3) == 0) x1000 x1001 x1002) else (none)) else (none)) else (joustref12_Reader_Int.j2 k x3 false x1000 x1001 x1002)))
def joustref12_Reader_Int.j2 : Nat → Int → Bool → List Int → Int → Int → Option (Int × Int × Int)
  | 0, _, _, _, _, _ => none
  | k + 1, x3, x66, x1000, x1001, x1002 => if x66 = true then ((joustref12_Reader_fail.f x1000 x1001 x1002 4).bind fun bt111 => (some (0, bt111.1, bt111.2))) else (joustref12_Reader_Int.l1 k x3 0 x3 x1000 x1001 x1002)
def joustref12_Reader_Int.l1 : Nat → Int → Int → Int → List Int → Int → Int → Option (Int × Int × Int)
  | 0, _, _, _, _, _, _ => none
  | k + 1, x3, x5, x6, x1000, x1001, x1002 => if x6 ≥ x1001 then (if 0 ≤ x6 then (if x6 < (x1000.length : Int) then (joustref12_Reader_Int.l1 k x3 (IntKind.u64.wrap ((IntKind.u64.wrap (x5 * 128)) + (IntKind.u64.wrap (Int.tmod (rd x1000 x6) 128)))) (wrap64 (x6 - 1)) x1000 x1001 x1002) else (none)) else (none)) else (if (Int.tmod x5 2) = 1 then (some (wrap64 ((wrap64 (-(wrap64 (IntKind.u64.wrap (Int.tdiv x5 2))))) - 1), wrap64 (x3 + 1), x1002)) else (some (wrap64 (IntKind.u64.wrap (Int.tdiv x5 2)), wrap64 (x3 + 1), x1002)))
def joustref12_Reader_Int.l0 : Nat → Int → List Int → Int → Int → Option (Int × Int × Int)
  | 0, _, _, _, _ => none
  | k + 1, x3, x1000, x1001, x1002 => if x3 < (x1000.length : Int) then (if 0 ≤ x3 then (if (rd x1000 x3) ≥ 128 then (joustref12_Reader_Int.l0 k (wrap64 (x3 + 1)) x1000 x1001 x1002) else (joustref12_Reader_Int.j1 k x3 x1000 x1001 x1002)) else (none)) else (joustref12_Reader_Int.j1 k x3 x1000 x1001 x1002)
end
def joustref12_Reader_Int.f (k : Nat) (s0_0 : List Int) (s0_1 : Int) (s0_2 : Int) : Option (Int × Int × Int) := if s0_2 = 0 then (joustref12_Reader_Int.l0 k s0_1 s0_0 s0_1 s0_2) else (some (0, s0_1, s0_2))
theorem joustref12_Reader_Int.mono_l : ∀ k, (∀ y0 y1 y2 y3, LeO (joustref12_Reader_Int.j1 k y0 y1 y2 y3) (joustref12_Reader_Int.j1 (k + 1) y0 y1 y2 y3)) ∧ (∀ y0 y1 y2 y3 y4, LeO (joustref12_Reader_Int.j2 k y0 y1 y2 y3 y4) (joustref12_Reader_Int.j2 (k + 1) y0 y1 y2 y3 y4)) ∧ (∀ y0 y1 y2 y3 y4 y5, LeO (joustref12_Reader_Int.l1 k y0 y1 y2 y3 y4 y5) (joustref12_Reader_Int.l1 (k + 1) y0 y1 y2 y3 y4 y5)) ∧ (∀ y0 y1 y2 y3, LeO (joustref12_Reader_Int.l0 k y0 y1 y2 y3) (joustref12_Reader_Int.l0 (k + 1) y0 y1 y2 y3))
  | 0 => ⟨fun _ _ _ _ r h => by simp [joustref12_Reader_Int.j1] at h, fun _ _ _ _ _ r h => by simp [joustref12_Reader_Int.j2] at h, fun _ _ _ _ _ _ r h => by simp [joustref12_Reader_Int.l1] at h, fun _ _ _ _ r h => by simp [joustref12_Reader_Int.l0] at h⟩
  | k + 1 => by
    obtain ⟨ih0, ih1, ih2, ih3⟩ := joustref12_Reader_Int.mono_l k
    refine ⟨?_, ?_, ?_, ?_⟩
    · intro y0 y1 y2 y3
      unfold joustref12_Reader_Int.j1
      repeat' first
      | (with_reducible exact ih0 _ _ _ _)
      | (with_reducible exact ih1 _ _ _ _ _)
      | (with_reducible exact ih2 _ _ _ _ _ _)
      | (with_reducible exact ih3 _ _ _ _)
      | (with_reducible exact LeO.refl _)
      | (with_reducible exact LeO.none _)
      | (with_reducible refine LeO.ite ?_ ?_)
      | (with_reducible refine LeO.bind ?_ (fun _ => ?_))
      | exact ih0 _ _ _ _
      | exact ih1 _ _ _ _ _
      | exact ih2 _ _ _ _ _ _
      | exact ih3 _ _ _ _
      | exact LeO.none _
      | refine LeO.ite ?_ ?_
      | refine LeO.bind ?_ (fun _ => ?_)
    · intro y0 y1 y2 y3 y4
      unfold joustref12_Reader_Int.j2
      repeat' first
      | (with_reducible exact ih0 _ _ _ _)
      | (with_reducible exact ih1 _ _ _ _ _)
      | (with_reducible exact ih2 _ _ _ _ _ _)
      | (with_reducible exact ih3 _ _ _ _)
      | (with_reducible exact LeO.refl _)
      | (with_reducible exact LeO.none _)
      | (with_reducible refine LeO.ite ?_ ?_)
      | (with_reducible refine LeO.bind ?_ (fun _ => ?_))
      | exact ih0 _ _ _ _
      | exact ih1 _ _ _ _ _
      | exact ih2 _ _ _ _ _ _
      | exact ih3 _ _ _ _
      | exact LeO.none _
      | refine LeO.ite ?_ ?_
      | refine LeO.bind ?_ (fun _ => ?_)
    · intro y0 y1 y2 y3 y4 y5
      unfold joustref12_Reader_Int.l1
      repeat' first
      | (with_reducible exact ih0 _ _ _ _)
      | (with_reducible exact ih1 _ _ _ _ _)
      | (with_reducible exact ih2 _ _ _ _ _ _)
      | (with_reducible exact ih3 _ _ _ _)
      | (with_reducible exact LeO.refl _)
      | (with_reducible exact LeO.none _)
      | (with_reducible refine LeO.ite ?_ ?_)
      | (with_reducible refine LeO.bind ?_ (fun _ => ?_))
      | exact ih0 _ _ _ _
      | exact ih1 _ _ _ _ _
      | exact ih2 _ _ _ _ _ _
      | exact ih3 _ _ _ _
      | exact LeO.none _
      | refine LeO.ite ?_ ?_
      | refine LeO.bind ?_ (fun _ => ?_)
    · intro y0 y1 y2 y3
      unfold joustref12_Reader_Int.l0
      repeat' first
      | (with_reducible exact ih0 _ _ _ _)
      | (with_reducible exact ih1 _ _ _ _ _)
      | (with_reducible exact ih2 _ _ _ _ _ _)
      | (with_reducible exact ih3 _ _ _ _)
      | (with_reducible exact LeO.refl _)
      | (with_reducible exact LeO.none _)
      | (with_reducible refine LeO.ite ?_ ?_)
      | (with_reducible refine LeO.bind ?_ (fun _ => ?_))
      | exact ih0 _ _ _ _
      | exact ih1 _ _ _ _ _
      | exact ih2 _ _ _ _ _ _
      | exact ih3 _ _ _ _
      | exact LeO.none _
      | refine LeO.ite ?_ ?_
      | refine LeO.bind ?_ (fun _ => ?_)
theorem joustref12_Reader_Int.mono : ∀ a0 a1 a2 k, LeO (joustref12_Reader_Int.f k a0 a1 a2) (joustref12_Reader_Int.f (k + 1) a0 a1 a2) := by
  intro a0 a1 a2 k
  obtain ⟨ih0, ih1, ih2, ih3⟩ := joustref12_Reader_Int.mono_l k
  unfold joustref12_Reader_Int.f
  repeat' first
      | (with_reducible exact ih0 _ _ _ _)
      | (with_reducible exact ih1 _ _ _ _ _)
      | (with_reducible exact ih2 _ _ _ _ _ _)
      | (with_reducible exact ih3 _ _ _ _)
      | (with_reducible exact LeO.refl _)
      | (with_reducible exact LeO.none _)
      | (with_reducible refine LeO.ite ?_ ?_)
      | (with_reducible refine LeO.bind ?_ (fun _ => ?_))
      | exact ih0 _ _ _ _
      | exact ih1 _ _ _ _ _
      | exact ih2 _ _ _ _ _ _
      | exact ih3 _ _ _ _
      | exact LeO.none _
      | refine LeO.ite ?_ ?_
      | refine LeO.bind ?_ (fun _ => ?_)
set_option maxHeartbeats 8000000 in
set_option maxRecDepth 100000 in
theorem joustref12_Reader_Int.calls (k : Nat) (g : Nat) (s0_0 : List Int) (s0_1 : Int) (s0_2 : Int) (r1 : Int) (r2 : Int) (r3 : Int) (w0 w : World) (hI : IsS47 w0 w g s0_0 s0_1 s0_2) (hB : Below w0.heap.size w0 w) (h : joustref12_Reader_Int.f k s0_0 s0_1 s0_2 = some (r1, r2, r3)) :
    Calls Try.prog 21 #[.pointer (some ⟨g, 0, none⟩)] w fun e w' => e = .returned (.int .i64 r1) ∧ IsS47 w0 w' g s0_0 r2 r3 ∧ Below w0.heap.size w0 w' ∧ KeepBut w w' g none := by
  have HI0 := Aside0.mk hI
  have HK := Aside0.mk (KeepBut.refl w g none)
  have HL := Aside0.mk hB.size
  clear hI
  have HW0 := Aside0.mk hB.size
  have HB := Aside0.mk hB
  clear hB
  have H : (if s0_2 = 0 then (joustref12_Reader_Int.l0 k s0_1 s0_0 s0_1 s0_2) else (some (0, s0_1, s0_2))) = some (r1, r2, r3) := h
  clear h
  by_cases c2 : s0_2 = 0
  · rw [if_pos c2] at H
    have c2b0 : (s0_2 == 0) = true := beq_iff_eq.mpr c2
    have c2b1 : (s0_2 != 0) = false := bne_eq_false_iff_eq.mpr c2
    clear c2
    have HC3 := Aside0.mk H
    clear H
    obtain ⟨ASz4_0, cSz4_0, HGz4, hgz4, ⟨HSz4_0, _⟩⟩ := HI0.out
    have hcz4_0 := cellS47_0 HGz4
    have hcz4_1 := cellS47_1 HGz4
    have hcz4_2 := cellS47_2 HGz4
    have hfz4_1 := blk_frozen HGz4 1
    have hfz4_2 := blk_frozen HGz4 2
    clear HGz4 hgz4
    go_enter Try.func21, Try.ntmps21
    go_upto_block 0 with (fail)
    go_cut [3] (fun v3 wc => ∃ (kq : Nat) (x3_2 : Int), v3 = .int .i64 x3_2 ∧ Aside0 (joustref12_Reader_Int.j1 kq x3_2 s0_0 s0_1 s0_2 = some (r1, r2, r3)) ∧ Aside0 (kq ≤ k) ∧ Aside0 (IsS47 w0 wc g s0_0 s0_1 s0_2) ∧ Aside0 (KeepBut w wc g none) ∧ Aside0 (Below w0.heap.size w0 wc))
    case first =>
      have H := HC3.out
      clear HC3
      have H' := Aside0.mk H
      clear H
      go_wp2
      go_loopg [3] k (fun kq v3 w' => ∃ (x3_1 : Int), v3 = .int .i64 x3_1 ∧ Aside0 (joustref12_Reader_Int.l0 kq x3_1 s0_0 s0_1 s0_2 = some (r1, r2, r3)) ∧ Aside0 (kq ≤ k) ∧ Aside0 (IsS47 w0 w' g s0_0 s0_1 s0_2) ∧ Aside0 (KeepBut w w' g none) ∧ Aside0 (Below w0.heap.size w0 w'))
      case atStart => exact ⟨(s0_1), au2_4, H', ⟨Nat.le_refl _⟩, ⟨au2_1⟩, ⟨au2_2⟩, ⟨au2_0⟩⟩
      case round =>
        clear H'
        try clear c2
        try clear c2b0
        try clear c2b1
        try clear p2
        try clear hcz4_0
        try clear hcz4_1
        try clear hcz4_2
        try clear hfz4_1
        try clear hfz4_2
        obtain ⟨x3_1, rfl, HA, HK1, HI0, HK, HB⟩ := hrel
        cases gk with
        | zero => exact absurd HA.out (by simp [joustref12_Reader_Int.l0])
        | succ k1 =>
          have H := HA.out
          clear HA
          simp only [joustref12_Reader_Int.l0] at H
          by_cases c5 : x3_1 < (s0_0.length : Int)
          · rw [if_pos c5] at H
            have c5b0 : decide (x3_1 < (s0_0.length : Int)) = true := decide_eq_true c5
            clear c5
            (first | rw [c5b0] | (simp only [i64_w, i32_w]; rw [c5b0]) | skip)
            by_cases c6 : 0 ≤ x3_1
            · rw [if_pos c6] at H
              have c6b0 : decide (0 ≤ x3_1) = true := decide_eq_true c6
              clear c6
              by_cases c7 : (rd s0_0 x3_1) ≥ 128
              · rw [if_pos c7] at H
                have c7b0 : decide (128 ≤ (rd s0_0 x3_1)) = true := decide_eq_true c7
                clear c7
                have H' := Aside0.mk H
                clear H
                obtain ⟨ASz8_0, cSz8_0, HGz8, hgz8, ⟨HSz8_0, _⟩⟩ := HI0.out
                have hcz8_0 := cellS47_0 HGz8
                have hcz8_1 := cellS47_1 HGz8
                have hcz8_2 := cellS47_2 HGz8
                have hfz8_1 := blk_frozen HGz8 1
                have hfz8_2 := blk_frozen HGz8 2
                clear HGz8 hgz8
                (try (have ez_ := hcz4_0.symm.trans hcz8_0; injection ez_ with ez_; injection ez_ with e1_ e2_ e3_; subst e1_ e3_))
                have p107 : 0 ≤ (x3_1 : Int) := of_decide_eq_true (by first | (with_reducible assumption) | assumption)
                have q107 : x3_1 < (s0_0.length : Int) := of_decide_eq_true (by first | (with_reducible assumption) | assumption)
                obtain ⟨ad107, e107, hx107_0⟩ := Kd.at_int HSz8_0 x3_1 p107 q107
                cases e107
                replace hx107_0 := pw_cell_below HB.out hx107_0
                replace p107 := eq_true p107
                replace q107 := eq_true q107
                go_wp2
                go_roundg k1
                case measure => have := HK1.out; omega
                case rel => exact ⟨(wrap64 (x3_1 + 1)), au2_4, H', ⟨by have := HK1.out; omega⟩, ⟨au2_1⟩, ⟨au2_2⟩, ⟨au2_0⟩⟩
              · rw [if_neg c7] at H
                have c7b0 : decide (128 ≤ (rd s0_0 x3_1)) = false := decide_eq_false c7
                clear c7
                have H' := Aside0.mk H
                clear H
                obtain ⟨ASz9_0, cSz9_0, HGz9, hgz9, ⟨HSz9_0, _⟩⟩ := HI0.out
                have hcz9_0 := cellS47_0 HGz9
                have hcz9_1 := cellS47_1 HGz9
                have hcz9_2 := cellS47_2 HGz9
                have hfz9_1 := blk_frozen HGz9 1
                have hfz9_2 := blk_frozen HGz9 2
                clear HGz9 hgz9
                (try (have ez_ := hcz4_0.symm.trans hcz9_0; injection ez_ with ez_; injection ez_ with e1_ e2_ e3_; subst e1_ e3_))
                (try (have ez_ := hcz8_0.symm.trans hcz9_0; injection ez_ with ez_; injection ez_ with e1_ e2_ e3_; subst e1_ e3_))
                have p107 : 0 ≤ (x3_1 : Int) := of_decide_eq_true (by first | (with_reducible assumption) | assumption)
                have q107 : x3_1 < (s0_0.length : Int) := of_decide_eq_true (by first | (with_reducible assumption) | assumption)
                obtain ⟨ad107, e107, hx107_0⟩ := Kd.at_int HSz9_0 x3_1 p107 q107
                cases e107
                replace hx107_0 := pw_cell_below HB.out hx107_0
                replace p107 := eq_true p107
                replace q107 := eq_true q107
                go_wp2
                go_meet
                case rel => exact ⟨_, (x3_1), au2_4, H', ⟨by have := HK1.out; first | omega | exact Nat.le_refl _⟩, ⟨au2_1⟩, ⟨au2_2⟩, ⟨au2_0⟩⟩
            · rw [if_neg c6] at H
              exact absurd H (by simp)
          · rw [if_neg c5] at H
            have c5b0 : decide (x3_1 < (s0_0.length : Int)) = false := decide_eq_false c5
            clear c5
            (first | rw [c5b0] | (simp only [i64_w, i32_w]; rw [c5b0]) | skip)
            have H' := Aside0.mk H
            clear H
            obtain ⟨ASz10_0, cSz10_0, HGz10, hgz10, ⟨HSz10_0, _⟩⟩ := HI0.out
            have hcz10_0 := cellS47_0 HGz10
            have hcz10_1 := cellS47_1 HGz10
            have hcz10_2 := cellS47_2 HGz10
            have hfz10_1 := blk_frozen HGz10 1
            have hfz10_2 := blk_frozen HGz10 2
            clear HGz10 hgz10
            (try (have ez_ := hcz4_0.symm.trans hcz10_0; injection ez_ with ez_; injection ez_ with e1_ e2_ e3_; subst e1_ e3_))
            (try (have ez_ := hcz8_0.symm.trans hcz10_0; injection ez_ with ez_; injection ez_ with e1_ e2_ e3_; subst e1_ e3_))
            (try (have ez_ := hcz9_0.symm.trans hcz10_0; injection ez_ with ez_; injection ez_ with e1_ e2_ e3_; subst e1_ e3_))
            go_wp2
            go_meet
            case rel => exact ⟨_, (x3_1), au2_4, H', ⟨by have := HK1.out; first | omega | exact Nat.le_refl _⟩, ⟨au2_1⟩, ⟨au2_2⟩, ⟨au2_0⟩⟩
    case rest =>
      clear HC3
      try clear p1
      try clear q1
      try clear hx1
      try clear c2
      try clear c2b0
      try clear c2b1
      try clear p2
      try clear c5
      try clear c5b0
      try clear c6
      try clear c6b0
      try clear p6
      try clear c7
      try clear c7b0
      try clear p10
      try clear q10
      try clear hx10
      try clear hcz10_0
      try clear hcz10_1
      try clear hcz10_2
      try clear hcz4_0
      try clear hcz4_1
      try clear hcz4_2
      try clear hcz8_0
      try clear hcz8_1
      try clear hcz8_2
      try clear hcz9_0
      try clear hcz9_1
      try clear hcz9_2
      try clear hfz10_1
      try clear hfz10_2
      try clear hfz4_1
      try clear hfz4_2
      try clear hfz8_1
      try clear hfz8_2
      try clear hfz9_1
      try clear hfz9_2
      try clear hx107_0
      try clear p107
      try clear p2
      try clear q107
      obtain ⟨kq, x3_2, rfl, HA, HJ2, HI0, HK, HB⟩ := hcut
      cases kq with
      | zero => exact absurd HA.out (by simp [joustref12_Reader_Int.j1])
      | succ kj2 =>
        have H := HA.out
        clear HA
        simp only [joustref12_Reader_Int.j1] at H
        by_cases c11 : x3_2 ≥ (s0_0.length : Int)
        · rw [if_pos c11] at H
          have c11b0 : decide ((s0_0.length : Int) ≤ x3_2) = true := decide_eq_true c11
          clear c11
          replace H := Option.bind_eq_some_iff.mp H
          obtain ⟨⟨t108, t109⟩, A120, H⟩ := H
          replace H : (some (0, t108, t109)) = some (r1, r2, r3) := H
          have A12 := Aside0.mk A120
          clear A120
          simp only [Option.some.injEq, Prod.mk.injEq] at H
          obtain ⟨rfl, rfl, rfl⟩ := H
          obtain ⟨ASz13_0, cSz13_0, HGz13, hgz13, ⟨HSz13_0, _⟩⟩ := HI0.out
          have hcz13_0 := cellS47_0 HGz13
          have hcz13_1 := cellS47_1 HGz13
          have hcz13_2 := cellS47_2 HGz13
          have hfz13_1 := blk_frozen HGz13 1
          have hfz13_2 := blk_frozen HGz13 2
          clear HGz13 hgz13
          (try (have ez_ := hcz8_0.symm.trans hcz13_0; injection ez_ with ez_; injection ez_ with e1_ e2_ e3_; subst e1_ e3_))
          (try (have ez_ := hcz9_0.symm.trans hcz13_0; injection ez_ with ez_; injection ez_ with e1_ e2_ e3_; subst e1_ e3_))
          (try (have ez_ := hcz10_0.symm.trans hcz13_0; injection ez_ with ez_; injection ez_ with e1_ e2_ e3_; subst e1_ e3_))
          go_wp2_with (first | ((with_reducible refine gate_callee (f := 33) rfl ?_); refine goesL_ (some 50) rfl rfl Try.func33 (by kernel_rfl) rfl #[.pointer (some ⟨g, 0, none⟩), .int .i64 5] rfl (by (try simp only [List.map_toArray, List.map_cons, List.map_nil]); first | done | rfl | (simp only [List.length_drop, List.length_take]; rfl)) ?_; (with_reducible refine (joustref12_Reader_fail.calls g s0_0 s0_1 s0_2 5 t108 t109 w0 _ ?side1 ?side2 A12.out).mono ?_); (case side1 => repeat (first | (with_reducible first | exact HI0.out | apply IsS47.alloc | apply IsS47.drewN | apply IsS47.drew | apply IsS47.set_1 | apply IsS47.set_2) | exact HI0.out)); (case side2 => repeat (first | (with_reducible first | exact HB.out | apply below_alloc | apply pw_below_drewN | apply below_drew1 | refine below_set ?_ (IsS47.ge HI0.out)) | exact HB.out)); rintro e w14 ⟨rfl, hi, hb, hk⟩; refine ⟨_, rfl, ?_⟩; have n0_ := Aside0.mk (KeepBut.trans au2_2 hk (.inl rfl)); have n1_ := Aside0.mk (hb); have n2_ := Aside0.mk (hi); clear HK; clear HB; clear HI0; have HK := n0_; have HB := n1_; have HI0 := n2_; clear n0_ n1_ n2_; (try clear hb); (try clear hb2); (try clear hk); (try clear hi)))
          go_ret
          exact ⟨au2_3, au2_1, au2_0, au2_2⟩
        · rw [if_neg c11] at H
          have c11b0 : decide ((s0_0.length : Int) ≤ x3_2) = false := decide_eq_false c11
          clear c11
          have HC15 := Aside0.mk H
          clear H
          obtain ⟨ASz16_0, cSz16_0, HGz16, hgz16, ⟨HSz16_0, _⟩⟩ := HI0.out
          have hcz16_0 := cellS47_0 HGz16
          have hcz16_1 := cellS47_1 HGz16
          have hcz16_2 := cellS47_2 HGz16
          have hfz16_1 := blk_frozen HGz16 1
          have hfz16_2 := blk_frozen HGz16 2
          clear HGz16 hgz16
          (try (have ez_ := hcz9_0.symm.trans hcz16_0; injection ez_ with ez_; injection ez_ with e1_ e2_ e3_; subst e1_ e3_))
          (try (have ez_ := hcz10_0.symm.trans hcz16_0; injection ez_ with ez_; injection ez_ with e1_ e2_ e3_; subst e1_ e3_))
          (try (have ez_ := hcz13_0.symm.trans hcz16_0; injection ez_ with ez_; injection ez_ with e1_ e2_ e3_; subst e1_ e3_))
          go_upto_region 10 with (fail)
          go_cut [66] (fun v66 wc => ∃ (kq : Nat) (x66_14 : Bool), v66 = .bool x66_14 ∧ Aside0 (joustref12_Reader_Int.j2 kq x3_2 x66_14 s0_0 s0_1 s0_2 = some (r1, r2, r3)) ∧ Aside0 (kq ≤ kj2) ∧ Aside0 (IsS47 w0 wc g s0_0 s0_1 s0_2) ∧ Aside0 (KeepBut w wc g none) ∧ Aside0 (Below w0.heap.size w0 wc))
          case first =>
            have H := HC15.out
            clear HC15
            by_cases c17 : (wrap64 ((wrap64 (x3_2 - s0_1)) + 1)) > 9
            · rw [if_pos c17] at H
              have c17b0 : decide (9 < (wrap64 ((wrap64 (x3_2 - s0_1)) + 1))) = true := decide_eq_true c17
              clear c17
              (first | rw [c17b0] | (simp only [i64_w, i32_w]; rw [c17b0]) | skip)
              have H' := Aside0.mk H
              clear H
              go_wp2
              go_meet
              case rel => exact ⟨_, (true), au2_4, H', ⟨by have := HJ2.out; first | omega | exact Nat.le_refl _⟩, ⟨au2_1⟩, ⟨au2_2⟩, ⟨au2_0⟩⟩
            · rw [if_neg c17] at H
              have c17b0 : decide (9 < (wrap64 ((wrap64 (x3_2 - s0_1)) + 1))) = false := decide_eq_false c17
              clear c17
              (first | rw [c17b0] | (simp only [i64_w, i32_w]; rw [c17b0]) | skip)
              by_cases c18 : (wrap64 ((wrap64 (x3_2 - s0_1)) + 1)) > 1
              · rw [if_pos c18] at H
                have c18b0 : decide (1 < (wrap64 ((wrap64 (x3_2 - s0_1)) + 1))) = true := decide_eq_true c18
                clear c18
                by_cases c19 : 0 ≤ x3_2
                · rw [if_pos c19] at H
                  have c19b0 : decide (0 ≤ x3_2) = true := decide_eq_true c19
                  clear c19
                  by_cases c20 : x3_2 < (s0_0.length : Int)
                  · rw [if_pos c20] at H
                    have c20b0 : decide (x3_2 < (s0_0.length : Int)) = true := decide_eq_true c20
                    clear c20
                    have H' := Aside0.mk H
                    clear H
                    obtain ⟨ASz21_0, cSz21_0, HGz21, hgz21, ⟨HSz21_0, _⟩⟩ := HI0.out
                    have hcz21_0 := cellS47_0 HGz21
                    have hcz21_1 := cellS47_1 HGz21
                    have hcz21_2 := cellS47_2 HGz21
                    have hfz21_1 := blk_frozen HGz21 1
                    have hfz21_2 := blk_frozen HGz21 2
                    clear HGz21 hgz21
                    (try (have ez_ := hcz10_0.symm.trans hcz21_0; injection ez_ with ez_; injection ez_ with e1_ e2_ e3_; subst e1_ e3_))
                    (try (have ez_ := hcz13_0.symm.trans hcz21_0; injection ez_ with ez_; injection ez_ with e1_ e2_ e3_; subst e1_ e3_))
                    (try (have ez_ := hcz16_0.symm.trans hcz21_0; injection ez_ with ez_; injection ez_ with e1_ e2_ e3_; subst e1_ e3_))
                    have p110 : 0 ≤ (x3_2 : Int) := of_decide_eq_true (by first | (with_reducible assumption) | assumption)
                    have q110 : x3_2 < (s0_0.length : Int) := of_decide_eq_true (by first | (with_reducible assumption) | assumption)
                    obtain ⟨ad110, e110, hx110_0⟩ := Kd.at_int HSz21_0 x3_2 p110 q110
                    cases e110
                    replace hx110_0 := pw_cell_below HB.out hx110_0
                    replace p110 := eq_true p110
                    replace q110 := eq_true q110
                    go_wp2
                    go_meet
                    case rel => exact ⟨_, (((rd s0_0 x3_2) == 0)), au2_4, H', ⟨by have := HJ2.out; first | omega | exact Nat.le_refl _⟩, ⟨au2_1⟩, ⟨au2_2⟩, ⟨au2_0⟩⟩
                  · rw [if_neg c20] at H
                    exact absurd H (by simp)
                · rw [if_neg c19] at H
                  exact absurd H (by simp)
              · rw [if_neg c18] at H
                have c18b0 : decide (1 < (wrap64 ((wrap64 (x3_2 - s0_1)) + 1))) = false := decide_eq_false c18
                clear c18
                have H' := Aside0.mk H
                clear H
                go_wp2
                go_meet
                case rel => exact ⟨_, (false), au2_4, H', ⟨by have := HJ2.out; first | omega | exact Nat.le_refl _⟩, ⟨au2_1⟩, ⟨au2_2⟩, ⟨au2_0⟩⟩
          case rest =>
            clear HC15
            try clear c1
            try clear p1
            try clear q1
            try clear hx1
            try clear c2
            try clear c2b0
            try clear c2b1
            try clear p2
            try clear c3
            try clear c5
            try clear c5b0
            try clear c6
            try clear c6b0
            try clear p6
            try clear c7
            try clear c7b0
            try clear p10
            try clear q10
            try clear hx10
            try clear c11
            try clear c11b0
            try clear p11
            try clear q11
            try clear hx11
            try clear c17
            try clear c17b0
            try clear c18
            try clear c18b0
            try clear c19
            try clear c19b0
            try clear c20
            try clear c20b0
            try clear c21
            try clear hcz10_0
            try clear hcz10_1
            try clear hcz10_2
            try clear hcz13_0
            try clear hcz13_1
            try clear hcz13_2
            try clear hcz16_0
            try clear hcz16_1
            try clear hcz16_2
            try clear hcz21_0
            try clear hcz21_1
            try clear hcz21_2
            try clear hcz4_0
            try clear hcz4_1
            try clear hcz4_2
            try clear hcz8_0
            try clear hcz8_1
            try clear hcz8_2
            try clear hcz9_0
            try clear hcz9_1
            try clear hcz9_2
            try clear hfz10_1
            try clear hfz10_2
            try clear hfz13_1
            try clear hfz13_2
            try clear hfz16_1
            try clear hfz16_2
            try clear hfz21_1
            try clear hfz21_2
            try clear hfz4_1
            try clear hfz4_2
            try clear hfz8_1
            try clear hfz8_2
            try clear hfz9_1
            try clear hfz9_2
            try clear hx107_0
            try clear hx110_0
            try clear p1
            try clear p10
            try clear p107
            try clear p110
            try clear p2
            try clear p6
            try clear q1
            try clear q10
            try clear q107
            try clear q110
            obtain ⟨kq, x66_14, rfl, HA, HJ14, HI0, HK, HB⟩ := hcut
            cases kq with
            | zero => exact absurd HA.out (by simp [joustref12_Reader_Int.j2])
            | succ kj14 =>
              have H := HA.out
              clear HA
              simp only [joustref12_Reader_Int.j2] at H
              by_cases c22 : x66_14 = true
              · subst c22
                have H1 : ((joustref12_Reader_fail.f s0_0 s0_1 s0_2 4).bind fun bt111 => (some (0, bt111.1, bt111.2))) = some (r1, r2, r3) := by rw [if_pos rfl] at H; exact H
                clear H
                have H := H1
                clear H1
                replace H := Option.bind_eq_some_iff.mp H
                obtain ⟨⟨t111, t112⟩, A230, H⟩ := H
                replace H : (some (0, t111, t112)) = some (r1, r2, r3) := H
                have A23 := Aside0.mk A230
                clear A230
                simp only [Option.some.injEq, Prod.mk.injEq] at H
                obtain ⟨rfl, rfl, rfl⟩ := H
                go_wp2_with (first | ((with_reducible refine gate_callee (f := 33) rfl ?_); refine goesL_ (some 68) rfl rfl Try.func33 (by kernel_rfl) rfl #[.pointer (some ⟨g, 0, none⟩), .int .i64 4] rfl (by (try simp only [List.map_toArray, List.map_cons, List.map_nil]); first | done | rfl | (simp only [List.length_drop, List.length_take]; rfl)) ?_; (with_reducible refine (joustref12_Reader_fail.calls g s0_0 s0_1 s0_2 4 t111 t112 w0 _ ?side1 ?side2 A23.out).mono ?_); (case side1 => repeat (first | (with_reducible first | exact HI0.out | apply IsS47.alloc | apply IsS47.drewN | apply IsS47.drew | apply IsS47.set_1 | apply IsS47.set_2) | exact HI0.out)); (case side2 => repeat (first | (with_reducible first | exact HB.out | apply below_alloc | apply pw_below_drewN | apply below_drew1 | refine below_set ?_ (IsS47.ge HI0.out)) | exact HB.out)); rintro e w24 ⟨rfl, hi, hb, hk⟩; refine ⟨_, rfl, ?_⟩; have n0_ := Aside0.mk (KeepBut.trans au2_2 hk (.inl rfl)); have n1_ := Aside0.mk (hb); have n2_ := Aside0.mk (hi); clear HK; clear HB; clear HI0; have HK := n0_; have HB := n1_; have HI0 := n2_; clear n0_ n1_ n2_; (try clear hb); (try clear hb2); (try clear hk); (try clear hi)))
                go_ret
                exact ⟨au2_3, au2_1, au2_0, au2_2⟩
              · replace c22 := Bool.eq_false_iff.mpr c22
                subst c22
                have H1 : (joustref12_Reader_Int.l1 kj14 x3_2 0 x3_2 s0_0 s0_1 s0_2) = some (r1, r2, r3) := by rw [if_neg (show ¬ (false = true) by decide)] at H; exact H
                clear H
                have H := H1
                clear H1
                have H' := Aside0.mk H
                clear H
                go_wp2
                go_loopg [5, 6] kj14 (fun kq v5 v6 w' => ∃ (x5_3 : Int) (x6_3 : Int), v5 = .int .u64 x5_3 ∧ v6 = .int .i64 x6_3 ∧ Aside0 (joustref12_Reader_Int.l1 kq x3_2 x5_3 x6_3 s0_0 s0_1 s0_2 = some (r1, r2, r3)) ∧ Aside0 (kq ≤ kj14) ∧ Aside0 (IsS47 w0 w' g s0_0 s0_1 s0_2) ∧ Aside0 (KeepBut w w' g none) ∧ Aside0 (Below w0.heap.size w0 w'))
                case atStart => exact ⟨(0), (x3_2), au2_4, au2_4, H', ⟨Nat.le_refl _⟩, ⟨au2_1⟩, ⟨au2_2⟩, ⟨au2_0⟩⟩
                case round =>
                  clear H'
                  try clear c1
                  try clear p1
                  try clear q1
                  try clear hx1
                  try clear c2
                  try clear c2b0
                  try clear c2b1
                  try clear p2
                  try clear c3
                  try clear c5
                  try clear c5b0
                  try clear c6
                  try clear c6b0
                  try clear p6
                  try clear c7
                  try clear c7b0
                  try clear p10
                  try clear q10
                  try clear hx10
                  try clear c11
                  try clear c11b0
                  try clear p11
                  try clear q11
                  try clear hx11
                  try clear c17
                  try clear c17b0
                  try clear c18
                  try clear c18b0
                  try clear c19
                  try clear c19b0
                  try clear c20
                  try clear c20b0
                  try clear c21
                  try clear c22
                  try clear hcz10_0
                  try clear hcz10_1
                  try clear hcz10_2
                  try clear hcz13_0
                  try clear hcz13_1
                  try clear hcz13_2
                  try clear hcz16_0
                  try clear hcz16_1
                  try clear hcz16_2
                  try clear hcz21_0
                  try clear hcz21_1
                  try clear hcz21_2
                  try clear hcz4_0
                  try clear hcz4_1
                  try clear hcz4_2
                  try clear hcz8_0
                  try clear hcz8_1
                  try clear hcz8_2
                  try clear hcz9_0
                  try clear hcz9_1
                  try clear hcz9_2
                  try clear hfz10_1
                  try clear hfz10_2
                  try clear hfz13_1
                  try clear hfz13_2
                  try clear hfz16_1
                  try clear hfz16_2
                  try clear hfz21_1
                  try clear hfz21_2
                  try clear hfz4_1
                  try clear hfz4_2
                  try clear hfz8_1
                  try clear hfz8_2
                  try clear hfz9_1
                  try clear hfz9_2
                  try clear hx107_0
                  try clear hx110_0
                  try clear p1
                  try clear p10
                  try clear p107
                  try clear p11
                  try clear p110
                  try clear p2
                  try clear p6
                  try clear q1
                  try clear q10
                  try clear q107
                  try clear q11
                  try clear q110
                  obtain ⟨x5_3, x6_3, rfl, rfl, HA, HK3, HI0, HK, HB⟩ := hrel
                  cases gk with
                  | zero => exact absurd HA.out (by simp [joustref12_Reader_Int.l1])
                  | succ k3 =>
                    have H := HA.out
                    clear HA
                    simp only [joustref12_Reader_Int.l1] at H
                    by_cases c25 : x6_3 ≥ s0_1
                    · rw [if_pos c25] at H
                      have c25b0 : decide (s0_1 ≤ x6_3) = true := decide_eq_true c25
                      clear c25
                      by_cases c26 : 0 ≤ x6_3
                      · rw [if_pos c26] at H
                        have c26b0 : decide (0 ≤ x6_3) = true := decide_eq_true c26
                        clear c26
                        by_cases c27 : x6_3 < (s0_0.length : Int)
                        · rw [if_pos c27] at H
                          have c27b0 : decide (x6_3 < (s0_0.length : Int)) = true := decide_eq_true c27
                          clear c27
                          have H' := Aside0.mk H
                          clear H
                          obtain ⟨ASz28_0, cSz28_0, HGz28, hgz28, ⟨HSz28_0, _⟩⟩ := HI0.out
                          have hcz28_0 := cellS47_0 HGz28
                          have hcz28_1 := cellS47_1 HGz28
                          have hcz28_2 := cellS47_2 HGz28
                          have hfz28_1 := blk_frozen HGz28 1
                          have hfz28_2 := blk_frozen HGz28 2
                          clear HGz28 hgz28
                          (try (have ez_ := hcz13_0.symm.trans hcz28_0; injection ez_ with ez_; injection ez_ with e1_ e2_ e3_; subst e1_ e3_))
                          (try (have ez_ := hcz16_0.symm.trans hcz28_0; injection ez_ with ez_; injection ez_ with e1_ e2_ e3_; subst e1_ e3_))
                          (try (have ez_ := hcz21_0.symm.trans hcz28_0; injection ez_ with ez_; injection ez_ with e1_ e2_ e3_; subst e1_ e3_))
                          have p113 : 0 ≤ (x6_3 : Int) := of_decide_eq_true (by first | (with_reducible assumption) | assumption)
                          have q113 : x6_3 < (s0_0.length : Int) := of_decide_eq_true (by first | (with_reducible assumption) | assumption)
                          obtain ⟨ad113, e113, hx113_0⟩ := Kd.at_int HSz28_0 x6_3 p113 q113
                          cases e113
                          replace hx113_0 := pw_cell_below HB.out hx113_0
                          replace p113 := eq_true p113
                          replace q113 := eq_true q113
                          go_wp2
                          go_roundg k3
                          case measure => have := HJ2.out; have := HJ14.out; have := HK3.out; omega
                          case rel => exact ⟨(IntKind.u64.wrap ((IntKind.u64.wrap (x5_3 * 128)) + (IntKind.u64.wrap (Int.tmod (rd s0_0 x6_3) 128)))), (wrap64 (x6_3 - 1)), au2_4, au2_4, H', ⟨by have := HJ2.out; have := HJ14.out; have := HK3.out; omega⟩, ⟨au2_1⟩, ⟨au2_2⟩, ⟨au2_0⟩⟩
                        · rw [if_neg c27] at H
                          exact absurd H (by simp)
                      · rw [if_neg c26] at H
                        exact absurd H (by simp)
                    · rw [if_neg c25] at H
                      have c25b0 : decide (s0_1 ≤ x6_3) = false := decide_eq_false c25
                      clear c25
                      by_cases c29 : (Int.tmod x5_3 2) = 1
                      · rw [if_pos c29] at H
                        have c29b0 : ((Int.tmod x5_3 2) == 1) = true := beq_iff_eq.mpr c29
                        have c29b1 : ((Int.tmod x5_3 2) != 1) = false := bne_eq_false_iff_eq.mpr c29
                        clear c29
                        simp only [Option.some.injEq, Prod.mk.injEq] at H
                        obtain ⟨rfl, rfl, rfl⟩ := H
                        obtain ⟨ASz30_0, cSz30_0, HGz30, hgz30, ⟨HSz30_0, _⟩⟩ := HI0.out
                        have hcz30_0 := cellS47_0 HGz30
                        have hcz30_1 := cellS47_1 HGz30
                        have hcz30_2 := cellS47_2 HGz30
                        have hfz30_1 := blk_frozen HGz30 1
                        have hfz30_2 := blk_frozen HGz30 2
                        clear HGz30 hgz30
                        (try (have ez_ := hcz16_0.symm.trans hcz30_0; injection ez_ with ez_; injection ez_ with e1_ e2_ e3_; subst e1_ e3_))
                        (try (have ez_ := hcz21_0.symm.trans hcz30_0; injection ez_ with ez_; injection ez_ with e1_ e2_ e3_; subst e1_ e3_))
                        (try (have ez_ := hcz28_0.symm.trans hcz30_0; injection ez_ with ez_; injection ez_ with e1_ e2_ e3_; subst e1_ e3_))
                        go_wp2
                        go_ret
                        exact ⟨au2_3, au2_1, au2_0, au2_2⟩
                      · rw [if_neg c29] at H
                        have c29b0 : ((Int.tmod x5_3 2) == 1) = false := beq_eq_false_iff_ne.mpr c29
                        have c29b1 : ((Int.tmod x5_3 2) != 1) = true := bne_iff_ne.mpr c29
                        simp only [Option.some.injEq, Prod.mk.injEq] at H
                        obtain ⟨rfl, rfl, rfl⟩ := H
                        obtain ⟨ASz31_0, cSz31_0, HGz31, hgz31, ⟨HSz31_0, _⟩⟩ := HI0.out
                        have hcz31_0 := cellS47_0 HGz31
                        have hcz31_1 := cellS47_1 HGz31
                        have hcz31_2 := cellS47_2 HGz31
                        have hfz31_1 := blk_frozen HGz31 1
                        have hfz31_2 := blk_frozen HGz31 2
                        clear HGz31 hgz31
                        (try (have ez_ := hcz21_0.symm.trans hcz31_0; injection ez_ with ez_; injection ez_ with e1_ e2_ e3_; subst e1_ e3_))
                        (try (have ez_ := hcz28_0.symm.trans hcz31_0; injection ez_ with ez_; injection ez_ with e1_ e2_ e3_; subst e1_ e3_))
                        (try (have ez_ := hcz30_0.symm.trans hcz31_0; injection ez_ with ez_; injection ez_ with e1_ e2_ e3_; subst e1_ e3_))
                        go_wp2
                        go_ret
                        exact ⟨au2_3, au2_1, au2_0, au2_2⟩
  · rw [if_neg c2] at H
    have c2b0 : (s0_2 == 0) = false := beq_eq_false_iff_ne.mpr c2
    have c2b1 : (s0_2 != 0) = true := bne_iff_ne.mpr c2
    simp only [Option.some.injEq, Prod.mk.injEq] at H
    obtain ⟨rfl, rfl, rfl⟩ := H
    obtain ⟨ASz32_0, cSz32_0, HGz32, hgz32, ⟨HSz32_0, _⟩⟩ := HI0.out
    have hcz32_0 := cellS47_0 HGz32
    have hcz32_1 := cellS47_1 HGz32
    have hcz32_2 := cellS47_2 HGz32
    have hfz32_1 := blk_frozen HGz32 1
    have hfz32_2 := blk_frozen HGz32 2
    clear HGz32 hgz32
    (try (have ez_ := hcz28_0.symm.trans hcz32_0; injection ez_ with ez_; injection ez_ with e1_ e2_ e3_; subst e1_ e3_))
    (try (have ez_ := hcz30_0.symm.trans hcz32_0; injection ez_ with ez_; injection ez_ with e1_ e2_ e3_; subst e1_ e3_))
    (try (have ez_ := hcz31_0.symm.trans hcz32_0; injection ez_ with ez_; injection ez_ with e1_ e2_ e3_; subst e1_ e3_))
    go_enter Try.func21, Try.ntmps21
    go_wp2
    go_ret
    exact ⟨au2_3, au2_1, au2_0, au2_2⟩

-- NOT PRINTED: function 22 (joustref12_Reader_Raw)

-- NOT PRINTED: function 23 (bytes_Reader_Count)

end Go.Proofs.Ytoibgnhfpcaejaa.PBytesRead
