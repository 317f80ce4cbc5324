/- What the law BytesWrite comes to: true of all items. No condition. -/
import Derived.Test.YtoibgnhfpcaejaaPBytesWritez1
import Derived.Test.YtoibgnhfpcaejaaBytesAwake
import Derived.Test.YtoibgnhfpcaejaaBytesV
import Derived.Deep.RegionHeld3
namespace Go.Proofs.Ytoibgnhfpcaejaa.PBytesWrite
open Go.RowKit Go.Proofs.YtoibgnhfpcaejaaW.PrintWords Go.Proofs.YtoibgnhfpcaejaaW.PrintLast Go.Proofs.YtoibgnhfpcaejaaW.PrintMore Go.Proofs.Ytoibgnhfpcaejaa.BytesW Go.Proofs.Ytoibgnhfpcaejaa.Sep
attribute [local go_sem] max2_int min2_int max_two min_two max_three min_three max_four min_four   -- for this text's walks alone
set_option linter.unusedVariables false
set_option linter.unusedSimpArgs false
theorem uw64 (i : Int) : IntKind.u64.wrap i = i % 18446744073709551616 := by simp [IntKind.wrap, IntKind.signed, IntKind.bits]
theorem rput_l0 : ∀ (k u : Nat) (b : List Int), u < 128 ^ k → u < 18446744073709551616 → b.length + k ≤ 1000000 → joustref12_Put.l0 (k + 1) (u : Int) b = some (b ++ digs u) := by
  intro k
  induction k with
  | zero =>
    intro u b hu hu2 hb
    have h0 : u = 0 := by simpa using hu
    subst h0
    simp only [joustref12_Put.l0]
    rw [if_neg (by decide), if_pos (by omega), digs_lt (by decide)]
    rfl
  | succ k ih =>
    intro u b hu hu2 hb
    obtain ⟨K, hK⟩ : ∃ K, K = k + 1 := ⟨_, rfl⟩
    rw [← hK]
    simp only [joustref12_Put.l0]
    by_cases h : u < 128
    · rw [if_neg (by omega), if_pos (by omega), digs_lt h, show (u : Int) % 256 = u from by omega]
    · have h1 : IntKind.u64.wrap (Int.tdiv (u : Int) 128) = ((u / 128 : Nat) : Int) := by
        rw [uw64, Int.tdiv_eq_ediv_of_nonneg (by omega)]
        omega
      have h2 : (IntKind.u64.wrap (Int.tmod (u : Int) 128 + 128)) % 256 = ((u % 128 + 128 : Nat) : Int) := by
        rw [uw64, Int.tmod_eq_emod_of_nonneg (by omega)]
        have e1 : (u : Int) % 128 = ((u % 128 : Nat) : Int) := by omega
        have e2 : u % 128 < 128 := Nat.mod_lt _ (by decide)
        rw [e1]
        generalize u % 128 = t at e2
        omega
      rw [if_pos (by omega), if_pos (by omega), h1, h2]
      have hk : u / 128 < 128 ^ k := Nat.div_lt_of_lt_mul (by rw [Nat.mul_comm]; rw [Nat.pow_succ] at hu; exact hu)
      have := ih (u / 128) (b ++ [((u % 128 + 128 : Nat) : Int)]) hk (by omega) (by simp; omega)
      rw [hK, this, digs_ge (show 128 ≤ u by omega), List.append_assoc]
      rfl
theorem rput_eq {l : List Int} {x : Int} (hl : l.length ≤ 900000) (hx : -9223372036854775808 ≤ x ∧ x ≤ 9223372036854775807) : joustref12_Put.f 12 l x = some (l ++ numB x) := by
  have hy : mx (-4611686018427387904) (mn x 4611686018427387903) = heldV x := by unfold heldV mx mn; repeat' split; all_goals omega
  have hb : -4611686018427387904 ≤ heldV x ∧ heldV x ≤ 4611686018427387903 := by rw [← hy]; unfold mx mn; repeat' split; all_goals omega
  unfold joustref12_Put.f numB
  rw [hy]
  generalize heldV x = y at *
  have hz : zig y < 9223372036854775808 := by unfold zig; split <;> omega
  have key : ∀ z : Int, z = (zig y : Int) → joustref12_Put.j0 12 l z = some (l ++ digs (zig y)) := by
    intro z hz2
    rw [hz2]
    simp only [joustref12_Put.j0]
    rw [if_pos (by simp; omega)]
    have := rput_l0 10 (zig y) ([] ++ l) (Nat.lt_of_lt_of_le hz (by decide)) (by omega) (by simp; omega)
    rw [List.nil_append] at this ⊢
    exact this
  by_cases h : y < 0
  · rw [if_pos h]
    apply key
    rw [uw64, uw64, uw64]
    unfold zig
    rw [if_pos h]
    omega
  · rw [if_neg h]
    apply key
    rw [uw64, uw64]
    unfold zig
    rw [if_neg h]
    omega
theorem rraw_eq {l y : List Int} (hl : l.length ≤ 800000) (hy : y.length ≤ 1000) : joustref12_Raw.f 12 l y = some (l ++ numB y.length ++ y) := by
  unfold joustref12_Raw.f
  rw [rput_eq (by omega) (by omega), Option.bind_some, if_pos (by have := numB_len y.length; rw [List.length_append]; omega)]
theorem rput.calls (A : Option Addr) (n c : Nat) (l : List Int) (x : Int) (w : World) (hn : l.length = n) (hC : Kd.C (Kd.int .u8) w A l.length l) (hc : n ≤ c) (hl : n ≤ 900000) (hx : -9223372036854775808 ≤ x ∧ x ≤ 9223372036854775807) :
    Calls Try.prog 8 #[.slice A n c, .int .i64 x] w fun e w' => ∃ v, e = .returned v ∧ Kd.R (Kd.int .u8) 5 w' w.heap.size (fun _ => True) v (l ++ numB x) ∧ Below w.heap.size w w' := by
  subst hn
  exact joustref12_Put.calls 12 A c l x _ w hC hc (rput_eq hl hx)
theorem rraw.calls (A : Option Addr) (n c : Nat) (l : List Int) (B : Option Addr) (m d : Nat) (y : List Int) (w : World) (hn : l.length = n) (hC : Kd.C (Kd.int .u8) w A l.length l) (hc : n ≤ c) (hl : n ≤ 800000) (hm : y.length = m) (hD : Kd.C (Kd.int .u8) w B y.length y) (hd : m ≤ d) (hm2 : m ≤ 1000) :
    Calls Try.prog 17 #[.slice A n c, .slice B m d] w fun e w' => ∃ v, e = .returned v ∧ Kd.R (Kd.int .u8) 5 w' w.heap.size (fun _ => True) v (l ++ numB y.length ++ y) ∧ Below w.heap.size w w' := by
  subst hn hm
  exact joustref12_Raw.calls 12 A c l B d y _ w hC hc hD hd (rraw_eq hl hm2)
def itemB (x : S41) : List Int := if x.f0 = true then numB x.f2.length ++ x.f2 else numB x.f1
def enc (l : List S41) : List Int := l.flatMap itemB
theorem enc_snoc (l : List S41) (x : S41) : enc (l ++ [x]) = enc l ++ itemB x := by simp [enc]
def okI (x : S41) : Prop := (-9223372036854775808 ≤ x.f1 ∧ x.f1 ≤ 9223372036854775807) ∧ ∀ y ∈ x.f2, 0 ≤ y ∧ y < 256
instance (x : S41) : Decidable (okI x) := by unfold okI; exact inferInstance
theorem item_len (x : S41) (h : x.f2.length ≤ 300) : (itemB x).length ≤ 309 := by
  unfold itemB
  split
  · have := numB_len x.f2.length
    rw [List.length_append]; omega
  · have := numB_len x.f1; omega
theorem enc_bytes {l : List S41} (h : ∀ x ∈ l, okI x) : ∀ y ∈ enc l, 0 ≤ y ∧ y < 256 := by
  intro y hy
  unfold enc at hy
  obtain ⟨x, hx, hy⟩ := List.mem_flatMap.1 hy
  unfold itemB at hy
  split at hy
  · rcases List.mem_append.1 hy with hy | hy
    · exact numB_bytes _ y hy
    · exact (h x hx).2 y hy
  · exact numB_bytes _ y hy
theorem heldV_eq (x : Int) : ∃ m V : Int, (if 4611686018427387903 < x then 4611686018427387903 else x) = m ∧ (if -4611686018427387904 < m then m else -4611686018427387904) = V ∧ heldV x = V := by
  refine ⟨_, _, rfl, rfl, ?_⟩
  unfold heldV mx mn
  repeat' split
  all_goals omega
def joustlaw11_BytesWrite.f (l0 : List S41) : Option Bool := if (∀ x ∈ l0, okI x) then some true else none
set_option maxHeartbeats 8000000 in
set_option maxRecDepth 100000 in
theorem joustlaw11_BytesWrite.calls (A0 : Option Addr) (c0 : Nat) (l0 : List S41) (r : Bool) (w : World) (hr_ : Aside0 (r = true)) (hr0 : Kd.C k41 w A0 l0.length l0) (hc0 : l0.length ≤ c0) (h : joustlaw11_BytesWrite.f l0 = some r) :
    Calls Try.prog 5 #[.slice A0 l0.length c0] w fun e w' => e = .returned (.bool r) ∧ Below w.heap.size w w' := by
  obtain rfl := hr_.out
  have hx : ∀ x ∈ l0, okI x := by
    unfold joustlaw11_BytesWrite.f at h
    by_cases hc : ∀ x ∈ l0, okI x
    · exact hc
    · rw [if_neg hc] at h; cases h
  clear h hr_
  have H0 := (writer_new 28 (Has.nil (w := w) (Nat.le_refl _))).newRow (Below.refl _ _) (ok := fun _ => True) (Kd.R_nil (Kd.int .u8) 5 _ _ _)
  have HS0 := Aside0.mk H0
  have HR0 := Aside0.mk hr0
  have HX := Aside0.mk hx
  clear H0 hr0 hx hc0
  go_enter Try.func5, Try.ntmps5
  go_wp2
  go_loopg [4, 5] (l0.length + 1) (fun kq v4 v5 w' => ∃ (i : Nat) (A4 : Option Addr) (n4 c4 : Nat), v5 = .int .i64 (i : Int) ∧ v4 = .slice A4 n4 c4 ∧ Aside0 (i + kq = l0.length + 1) ∧ Aside0 (i ≤ l0.length ∧ i ≤ 40) ∧ Aside0 (n4 = (enc (l0.take i)).length ∧ n4 ≤ 309 * i ∧ n4 ≤ c4) ∧ Aside0 (∀ j (h : j < l0.length), j < i → (l0[j]).f2.length ≤ 300) ∧ Aside0 (Has w w.heap.size w' [row (Kd.int .u8) 5 (.slice A4 n4 c4) (enc (l0.take i)), writer 28 w.heap.size (enc (l0.take i))]))
  case atStart => exact ⟨0, none, 0, 0, rfl, rfl, ⟨by omega⟩, ⟨by omega⟩, ⟨by simp [enc]⟩, ⟨fun j _ h => by omega⟩, ⟨by simpa [enc] using HS0.out⟩⟩
  case round =>
    obtain ⟨i, A4, n4, c4, rfl, rfl, HK, HI, HN, HB, HW⟩ := hrel
    by_cases hil : i < l0.length ∧ i < 40
    · obtain ⟨hi1, hi2⟩ := hil
      have e1 : decide ((i : Int) < (l0.length : Int)) = true := decide_eq_true (by omega)
      have e2 : decide ((i : Int) < 40) = true := decide_eq_true (by omega)
      obtain ⟨ad, A2, c2, rfl, x0, x1, x2, x3, x4⟩ := at_T41 HR0.out (i : Int) (by omega) (by omega)
      have hrd : rd_T41 l0 (i : Int) = l0[i] := by simp [rd_T41, List.getD_eq_getElem?_getD, hi1]
      rw [hrd] at x0 x1 x2 x3 x4
      rw [Int.toNat_natCast] at x0 x1 x2
      have hok := HX.out _ (List.getElem_mem hi1)
      have htk : l0.take (i + 1) = l0.take i ++ [l0[i]] := List.take_succ_eq_append_getElem hi1
      obtain ⟨x, hxe⟩ : ∃ x, l0[i] = x := ⟨_, rfl⟩
      rw [hxe] at x0 x1 x2 x3 x4 hok htk
      have HXE := Aside0.mk hxe
      have HOK := Aside0.mk hok
      have HTK := Aside0.mk htk
      have HC2 := Aside0.mk x3
      have hG : ∀ w' : World, Below w.heap.size w w' → w'.cell? (ad.add (i * 3)) = some (.bool x.f0) ∧ w'.cell? ⟨(ad.add (i * 3)).block, (ad.add (i * 3)).off + 1, none⟩ = some (.int .i64 x.f1) ∧ w'.cell? ⟨(ad.add (i * 3)).block, (ad.add (i * 3)).off + 2, none⟩ = some (.slice A2 x.f2.length c2) := fun w' hb => ⟨(hb.cell (World.block_lt_of_cell? w _ x0)).trans x0, (hb.cell (World.block_lt_of_cell? w _ x1)).trans x1, (hb.cell (World.block_lt_of_cell? w _ x2)).trans x2⟩
      obtain ⟨y0, y1, y2⟩ := hG _ HW.out.below
      have HDD := Aside0.mk (show ∀ w' : World, Below w.heap.size w w' → Kd.C (Kd.int .u8) w' A2 x.f2.length x.f2 from fun w' hb => Kd.C_below x4 hb)
      clear hrd hxe hok htk x0 x1 x2 x3 x4
      by_cases hbig : 300 < x.f2.length
      · have e3 : decide (300 < x.f2.length) = true := decide_eq_true hbig
        have e4 : decide ((300 : Int) < (x.f2.length : Int)) = true := decide_eq_true (by omega)
        clear hG
        go_wp2_with (first | (go_at_call 12; ((refine (awake.calls _).mono ?_); rintro e w6 ⟨rfl, hb6⟩; have HS7 := Aside0.mk (HW.out.step hb6).below; clear hb6)))
        go_ret
        exact ⟨rfl, HS7.out⟩
      · have e3 : decide (300 < x.f2.length) = false := decide_eq_false hbig
        have e4 : decide ((300 : Int) < (x.f2.length : Int)) = false := decide_eq_false (by omega)
        cases gk with
        | zero => exact absurd HK.out (by omega)
        | succ k1 =>
          have hi9 : i ≤ 60 := by omega
          have HBG := Aside0.mk hbig
          clear hbig
          cases hf : x.f0 with
          | true =>
            rw [hf] at y0 hG
            have HG := Aside0.mk hG
            clear hG
            have HF := Aside0.mk hf
            clear hf
            go_wp2_with (first | (go_at_call 15; ((refine (wraw.calls 28 w.heap.size w.heap.size _ A2 c2 x.f2 _ w _ (by have := HBG.out; omega) (by have := HN.out; have := HI.out; omega) (fun w' b' h' => HDD.out _ h'.below) HW.out.sw).mono ?_); rintro e w3 ⟨rfl, hw3_⟩; have HD3 := Aside0.mk (HDD.out _ hw3_.below); obtain ⟨z0, z1, z2⟩ := HG.out _ hw3_.below; have HW3 := Aside0.mk hw3_; have HC3 := Aside0.mk (row_C hw3_.sw); clear hw3_)) | (go_at_call 17; ((refine (rraw.calls A4 n4 c4 (enc (l0.take i)) A2 x.f2.length c2 x.f2 _ HN.out.1.symm HC3.out.2.2 HN.out.2.2 (by have := HN.out; have := HI.out; omega) rfl HD3.out HC2.out (by have := HBG.out; omega)).mono ?_); rintro e w5 ⟨v5, rfl, ho5, hb5⟩; obtain ⟨A5, n5, c5, e5_⟩ : ∃ A n c, v5 = .slice A n c := (by obtain ⟨A, c, e⟩ := Kd.R_slice ho5; exact ⟨A, _, c, e⟩); subst e5_; have hw5 := HW3.out.newRow hb5 ho5; have HE5 := Aside0.mk (row_C hw5); have HW6 := Aside0.mk hw5.drop3; clear hw5 ho5 hb5)))
            go_roundg k1
            case measure => have := HK.out; omega
            case rel =>
              have hit : itemB x = numB x.f2.length ++ x.f2 := by unfold itemB; rw [HF.out]; rfl
              have hnn := HN.out
              have hxl : x.f2.length ≤ 300 := by have := HBG.out; omega
              have hilen := item_len x hxl
              refine ⟨i + 1, A5, n5, c5, rfl, rfl, ⟨by have := HK.out; omega⟩, ⟨by omega⟩, ⟨?_⟩, ⟨fun j h hj => ?_⟩, ⟨?_⟩⟩
              · rw [HTK.out, enc_snoc, List.length_append]
                have h6 : n5 = (enc (l0.take i)).length + (itemB x).length := by
                  rw [hit]
                  have := HE5.out.1
                  simp only [List.length_append] at this ⊢
                  omega
                have h7 := HE5.out.2.1
                omega
              · by_cases hji : j < i
                · exact HB.out j h hji
                · have : j = i := by omega
                  subst this
                  rw [HXE.out]; exact hxl
              · rw [HTK.out, enc_snoc, hit]
                rw [← List.append_assoc]; exact HW6.out
          | false =>
            rw [hf] at y0 hG
            have HG := Aside0.mk hG
            clear hG
            have HF := Aside0.mk hf
            have HWL := Aside0.mk (HW.out.lit .i64 3 [x.f1] rfl (by simp)).up2
            have HXI := Aside0.mk (show ∀ y ∈ [x.f1], -9223372036854775808 ≤ y ∧ y ≤ 9223372036854775807 from fun y hy => by
              rw [List.mem_singleton.1 hy]; exact HOK.out.1)
            clear hf
            go_wp2_with (first | (go_at_call 11; ((refine (put.calls 28 w.heap.size w.heap.size _ _ _ [x.f1] _ w _ HXI.out (by simp) (by have := HN.out; have := HI.out; omega) (fun w' b' h' => h'.sw.rowA) HWL.out).mono ?_); rintro e w3 ⟨rfl, hw3⟩; rw [show numsB [x.f1] = numB x.f1 by simp [numsB]] at hw3; have hw3_ := hw3.drop2; clear hw3; obtain ⟨z0, z1, z2⟩ := HG.out _ hw3_.below; have HW3 := Aside0.mk hw3_; have HC3 := Aside0.mk (row_C hw3_.sw); clear hw3_)) | (go_at_call 8; ((refine (rput.calls A4 n4 c4 (enc (l0.take i)) x.f1 _ HN.out.1.symm HC3.out.2.2 HN.out.2.2 (by have := HN.out; have := HI.out; omega) HOK.out.1).mono ?_); rintro e w5 ⟨v5, rfl, ho5, hb5⟩; obtain ⟨A5, n5, c5, e5_⟩ : ∃ A n c, v5 = .slice A n c := (by obtain ⟨A, c, e⟩ := Kd.R_slice ho5; exact ⟨A, _, c, e⟩); subst e5_; have hw5 := HW3.out.newRow hb5 ho5; have HE5 := Aside0.mk (row_C hw5); have HW6 := Aside0.mk hw5.drop3; clear hw5 ho5 hb5)))
            go_roundg k1
            case measure => have := HK.out; omega
            case rel =>
              have hit : itemB x = numB x.f1 := by unfold itemB; rw [HF.out]; rfl
              have hnn := HN.out
              have hxl : x.f2.length ≤ 300 := by have := HBG.out; omega
              have hilen := item_len x hxl
              refine ⟨i + 1, A5, n5, c5, rfl, rfl, ⟨by have := HK.out; omega⟩, ⟨by omega⟩, ⟨?_⟩, ⟨fun j h hj => ?_⟩, ⟨?_⟩⟩
              · rw [HTK.out, enc_snoc, List.length_append]
                have h6 : n5 = (enc (l0.take i)).length + (itemB x).length := by
                  rw [hit]
                  have := HE5.out.1
                  simp only [List.length_append] at this ⊢
                  omega
                have h7 := HE5.out.2.1
                omega
              · by_cases hji : j < i
                · exact HB.out j h hji
                · have : j = i := by omega
                  subst this
                  rw [HXE.out]; exact hxl
              · rw [HTK.out, enc_snoc, hit]
                exact HW6.out
    · have hd : l0.length ≤ i ∨ 40 ≤ i := by omega
      have hm : l0.take i = l0.take 40 := by
        rcases hd with hd | hd
        · rw [List.take_of_length_le hd, List.take_of_length_le (by have := HI.out; omega)]
        · have : i = 40 := by have := HI.out; omega
          rw [this]
      have hbm : ∀ j (h : j < l0.length), j < 40 → (l0[j]).f2.length ≤ 300 := fun j h h4 => HB.out j h (by omega)
      rw [hm] at HN HW
      obtain ⟨Y, hY⟩ : ∃ Y, enc (l0.take 40) = Y := ⟨_, rfl⟩
      rw [hY] at HN HW
      have hxb : ∀ y ∈ Y, 0 ≤ y ∧ y < 256 := by rw [← hY]; exact enc_bytes (fun x hx => HX.out x (List.mem_of_mem_take hx))
      have HY := Aside0.mk hY
      have HXB := Aside0.mk hxb
      have HBM := Aside0.mk hbm
      have HYL := Aside0.mk (show Y.length ≤ 12360 by have := HN.out; have := HI.out; omega)
      have HW0 := Aside0.mk HW.out.sw
      clear hm hY hxb hbm HB HW hd
      by_cases hp : i < l0.length
      · have e1 : decide ((i : Int) < (l0.length : Int)) = true := decide_eq_true (by omega)
        have hq : ¬ i < 40 := fun h => hil ⟨hp, h⟩
        have e2 : decide ((i : Int) < 40) = false := decide_eq_false (by omega)
        clear hil
        go_wp2_with (first | (go_at_call 14; ((refine (wbytesH.calls 28 w.heap.size w.heap.size Y _ w _ (by have := HYL.out; omega) HW0.out).mono ?_); rintro e w1 ⟨v1, rfl, hw1⟩; obtain ⟨A1, c1, e1_, hc1, hC1⟩ := hw1.row_reads; subst e1_; have HS1 := Aside0.mk hw1; have HC1 := Aside0.mk hC1; have HD1 := Aside0.mk hc1; clear hw1 hC1 hc1)) | (go_at_call 9; ((refine (readH.calls A1 c1 Y w.heap.size _ w _ HC1.out HD1.out (by have := HYL.out; omega) HXB.out HS1.out).mono ?_); rintro e w2 ⟨gr, rfl, hw2⟩; have HS2 := Aside0.mk hw2.drop2; clear hw2)) | (go_at_call 12; ((refine (awake.calls _).mono ?_); rintro e w3 ⟨rfl, hb3⟩; have HS3 := Aside0.mk (HS2.out.step hb3).sw; clear hb3)) | (go_at_call 14; ((refine (wbytesH.calls 28 w.heap.size w.heap.size Y _ w _ (by have := HYL.out; omega) HS3.out).mono ?_); rintro e w4 ⟨v4, rfl, hw4⟩; obtain ⟨A5, c5, e5_, hc5, hC5⟩ := hw4.row_reads; subst e5_; have hC6 := row_C hw4.up3; have HS4 := Aside0.mk hw4.up2.drop2.drop2.drop2; have HC5 := Aside0.mk hC5; have HD5 := Aside0.mk hc5; have HC6 := Aside0.mk hC6; clear hw4 hC5 hc5 hC6)) | (go_at_call 16; ((refine (same.calls A5 c5 Y A4 c4 Y.length n4 rfl HN.out.1.symm _ HC5.out HD5.out HC6.out.2.2 HN.out.2.2).mono ?_); rintro e w8 ⟨rfl, ⟨nd, rfl⟩⟩; have HS5 := Aside0.mk (HS4.out.drewN nd))))
        go_loopg [7] (l0.length + 1) (fun kq v7 w' => ∃ k : Nat, v7 = .int .i64 (k : Int) ∧ Aside0 (k + kq = l0.length + 1) ∧ Aside0 (k ≤ l0.length ∧ k ≤ 40) ∧ Aside0 (Has w w.heap.size w' [reader gr (enc ((l0.take 40).drop k)) 0]))
        case atStart => exact ⟨0, rfl, ⟨by omega⟩, ⟨by omega⟩, ⟨by rw [List.drop_zero, HY.out]; exact HS5.out⟩⟩
        case round =>
          clear hp e1
          (try clear hq e2)
          obtain ⟨k, rfl, HK2, HI2, HW⟩ := hrel
          by_cases hil : k < l0.length ∧ k < 40
          · obtain ⟨hi1, hi2⟩ := hil
            have e1 : decide ((k : Int) < (l0.length : Int)) = true := decide_eq_true (by omega)
            have e2 : decide ((k : Int) < 40) = true := decide_eq_true (by omega)
            obtain ⟨ad, A2, c2, rfl, x0, x1, x2, x3, x4⟩ := at_T41 HR0.out (k : Int) (by omega) (by omega)
            have hrd : rd_T41 l0 (k : Int) = l0[k] := by simp [rd_T41, List.getD_eq_getElem?_getD, hi1]
            rw [hrd] at x0 x1 x2 x3 x4
            rw [Int.toNat_natCast] at x0 x1 x2
            have hok := HX.out _ (List.getElem_mem hi1)
            have hbm := HBM.out k hi1 hi2
            have hdr : (l0.take 40).drop k = l0[k] :: (l0.take 40).drop (k + 1) := by
              rw [List.drop_eq_getElem_cons (by rw [List.length_take]; omega), List.getElem_take]
            obtain ⟨x, hxe⟩ : ∃ x, l0[k] = x := ⟨_, rfl⟩
            rw [hxe] at x0 x1 x2 x3 x4 hok hdr hbm
            obtain ⟨Z, hZ⟩ : ∃ Z, enc ((l0.take 40).drop (k + 1)) = Z := ⟨_, rfl⟩
            have hen : enc ((l0.take 40).drop k) = itemB x ++ Z := by rw [hdr, ← hZ]; rfl
            have HOK := Aside0.mk hok
            have HEN := Aside0.mk hen
            have HZ := Aside0.mk hZ
            have HC2 := Aside0.mk x3
            have HBX := Aside0.mk hbm
            have hG : ∀ w' : World, Below w.heap.size w w' → w'.cell? (ad.add (k * 3)) = some (.bool x.f0) ∧ w'.cell? ⟨(ad.add (k * 3)).block, (ad.add (k * 3)).off + 1, none⟩ = some (.int .i64 x.f1) ∧ w'.cell? ⟨(ad.add (k * 3)).block, (ad.add (k * 3)).off + 2, none⟩ = some (.slice A2 x.f2.length c2) := fun w' hb => ⟨(hb.cell (World.block_lt_of_cell? w _ x0)).trans x0, (hb.cell (World.block_lt_of_cell? w _ x1)).trans x1, (hb.cell (World.block_lt_of_cell? w _ x2)).trans x2⟩
            have HDD := Aside0.mk (show ∀ w' : World, Below w.heap.size w w' → Kd.C (Kd.int .u8) w' A2 x.f2.length x.f2 from fun w' hb => Kd.C_below x4 hb)
            clear hrd hxe hok hbm hdr hZ hen x0 x1 x2 x3 x4
            cases gk with
            | zero => exact absurd HK2.out (by omega)
            | succ k1 =>
              have hi9 : k ≤ 60 := by omega
              obtain ⟨m, V, hm, hV, hvv⟩ := heldV_eq x.f1
              have HVV := Aside0.mk hvv
              clear hvv
              cases hf : x.f0 with
              | true =>
                rw [hf] at hG
                obtain ⟨y0, y1, y2⟩ := hG _ HW.out.below
                have HG := Aside0.mk hG
                have HRB := Aside0.mk (rawB_num x.f2 Z (by have := HBX.out; omega))
                have HIT := Aside0.mk (show itemB x = numB x.f2.length ++ x.f2 by unfold itemB; rw [hf]; rfl)
                have HWE := Aside0.mk (show Has w w.heap.size wr [reader gr (numB x.f2.length ++ x.f2 ++ Z) 0] by have := HW.out; rw [HEN.out, HIT.out] at this; exact this)
                clear hf hG
                go_wp2_with fail
                refine wp_region_held_drew (S := (fun w' => w'.cell? (ad.add (k * 3)) = some (.bool true) ∧ w'.cell? ⟨(ad.add (k * 3)).block, (ad.add (k * 3)).off + 1, none⟩ = some (.int .i64 x.f1) ∧ w'.cell? ⟨(ad.add (k * 3)).block, (ad.add (k * 3)).off + 2, none⟩ = some (.slice A2 x.f2.length c2))) (by kernel_rfl) ?r1S (fun hHeld => ?_)
                case r1S => (exact ⟨y0, y1, y2⟩)
                refine takeW (i := 0) (v := ?r1v0) rfl rfl (by kernel_rfl) (by kernel_rfl) (by kernel_rfl) (fun _ _ _ h => h) (by rfl) ?r1y0 hHeld ?_
                case r1y0 => (intro w hSw; (try dsimp only at hSw); go_simp <;> (try with_reducible rfl))
                (try simp only [Act.put, List.setIfInBounds_toArray, List.set_cons_zero, List.set_cons_succ])
                refine takeW (i := 1) (v := ?r1v1) rfl rfl (by kernel_rfl) (by kernel_rfl) (by kernel_rfl) (fun _ _ _ h => h) (by rfl) ?r1y1 hHeld ?_
                case r1y1 => (intro w hSw; (try dsimp only at hSw); go_simp <;> (try with_reducible rfl))
                (try simp only [Act.put, List.setIfInBounds_toArray, List.set_cons_zero, List.set_cons_succ])
                refine takeW (i := 2) (v := ?r1v2) rfl rfl (by kernel_rfl) (by kernel_rfl) (by kernel_rfl) (fun _ _ _ h => h) (by rfl) ?r1y2 hHeld ?_
                case r1y2 => (intro w hSw; (try dsimp only at hSw); go_simp <;> (try with_reducible rfl))
                (try simp only [Act.put, List.setIfInBounds_toArray, List.set_cons_zero, List.set_cons_succ])
                refine takeW (i := 3) (v := ?r1v3) rfl rfl (by kernel_rfl) (by kernel_rfl) (by kernel_rfl) (fun _ _ _ h => h) (by rfl) ?r1y3 hHeld ?_
                case r1y3 => (intro w hSw; (try dsimp only at hSw); go_simp <;> (try with_reducible rfl))
                (try simp only [Act.put, List.setIfInBounds_toArray, List.set_cons_zero, List.set_cons_succ])
                refine takeW (i := 4) (v := ?r1v4) rfl rfl (by kernel_rfl) (by kernel_rfl) (by kernel_rfl) (fun _ _ _ h => h) (by rfl) ?r1y4 hHeld ?_
                case r1y4 => (intro w hSw; (try dsimp only at hSw); go_simp <;> (try with_reducible rfl))
                (try simp only [Act.put, List.setIfInBounds_toArray, List.set_cons_zero, List.set_cons_succ])
                refine takeW (i := 5) (v := ?r1v5) rfl rfl (by kernel_rfl) (by kernel_rfl) (by kernel_rfl) (fun _ _ _ h => h) (by rfl) ?r1y5 hHeld ?_
                case r1y5 => (intro w hSw; (try dsimp only at hSw); go_simp <;> (try with_reducible rfl))
                (try simp only [Act.put, List.setIfInBounds_toArray, List.set_cons_zero, List.set_cons_succ])
                refine takeW (i := 6) (v := ?r1v6) rfl rfl (by kernel_rfl) (by kernel_rfl) (by kernel_rfl) (fun _ _ _ h => h) (by rfl) ?r1y6 hHeld ?_
                case r1y6 => (intro w hSw; (try dsimp only at hSw); go_simp <;> (try with_reducible rfl))
                (try simp only [Act.put, List.setIfInBounds_toArray, List.set_cons_zero, List.set_cons_succ])
                refine takeW (i := 8) (v := ?r1v8) rfl rfl (by kernel_rfl) (by kernel_rfl) (by kernel_rfl) (fun _ _ _ h => h) (by rfl) ?r1y8 hHeld ?_
                case r1y8 => (intro w hSw; (try dsimp only at hSw); go_simp <;> (try with_reducible rfl))
                (try simp only [Act.put, List.setIfInBounds_toArray, List.set_cons_zero, List.set_cons_succ])
                refine takeW (i := 9) (v := ?r1v9) rfl rfl (by kernel_rfl) (by kernel_rfl) (by kernel_rfl) (fun _ _ _ h => h) (by rfl) ?r1y9 hHeld ?_
                case r1y9 => (intro w hSw; (try dsimp only at hSw); go_simp <;> (try with_reducible rfl))
                (try simp only [Act.put, List.setIfInBounds_toArray, List.set_cons_zero, List.set_cons_succ])
                refine takeW (i := 10) (v := ?r1v10) rfl rfl (by kernel_rfl) (by kernel_rfl) (by kernel_rfl) (fun _ _ _ h => h) (by rfl) ?r1y10 hHeld ?_
                case r1y10 => (intro w hSw; (try dsimp only at hSw); go_simp <;> (try with_reducible rfl))
                (try simp only [Act.put, List.setIfInBounds_toArray, List.set_cons_zero, List.set_cons_succ])
                refine takeW (i := 11) (v := ?r1v11) rfl rfl (by kernel_rfl) (by kernel_rfl) (by kernel_rfl) (fun _ _ _ h => h) (by rfl) ?r1y11 hHeld ?_
                case r1y11 => (intro w hSw; (try dsimp only at hSw); go_simp <;> (try with_reducible rfl))
                (try simp only [Act.put, List.setIfInBounds_toArray, List.set_cons_zero, List.set_cons_succ])
                refine takeW (i := 12) (v := ?r1v12) rfl rfl (by kernel_rfl) (by kernel_rfl) (by kernel_rfl) (fun _ _ _ h => h) (by rfl) ?r1y12 hHeld ?_
                case r1y12 => (intro w hSw; (try dsimp only at hSw); go_simp <;> (try with_reducible rfl))
                (try simp only [Act.put, List.setIfInBounds_toArray, List.set_cons_zero, List.set_cons_succ])
                refine callC (i := 7) rfl (by kernel_rfl) (by rfl) (fun K hK => ?_)
                clear hHeld
                (go_wp2_with ((go_at_call 18; ((refine (rawH.calls gr w.heap.size _ 0 [] w _ HWE.out.drew).mono ?_); rintro e w5 ⟨v5, rfl, hw5⟩; rw [HRB.out] at hw5; obtain ⟨A5, c5, e5_, hc5, hC5⟩ := hw5.row_reads; subst e5_; obtain ⟨z0, z1, z2⟩ := HG.out _ hw5.below; have HS6 := Aside0.mk hw5.drop; have HC6 := Aside0.mk hC5; have HD6 := Aside0.mk hc5; clear hw5 hC5 hc5))))
                refine hK.out _ _ ?r1k7 (fun hHeld => ?_)
                case r1k7 => (exact ⟨z0, z1, z2⟩)
                clear hK K
                (try simp only [Act.put, List.setIfInBounds_toArray, List.set_cons_zero, List.set_cons_succ])
                refine callC (i := 13) rfl (by kernel_rfl) (by rfl) (fun K hK => ?_)
                clear hHeld
                (go_wp2_with ((go_at_call 16; ((refine (same.calls A5 c5 x.f2 A2 c2 x.f2.length x.f2.length rfl rfl _ HC6.out HD6.out (HDD.out _ HS6.out.below) HC2.out).mono ?_); rintro e w8 ⟨rfl, ⟨nd, rfl⟩⟩; have HS7 := Aside0.mk (HS6.out.drewN nd); obtain ⟨s0, s1, s2⟩ := HG.out _ HS7.out.below))))
                refine hK.out _ _ ?r1k13 (fun hHeld => ?_)
                case r1k13 => (exact ⟨s0, s1, s2⟩)
                clear hK K
                (try simp only [Act.put, List.setIfInBounds_toArray, List.set_cons_zero, List.set_cons_succ])
                refine takeW (i := 14) (v := ?r1v14) rfl rfl (by kernel_rfl) (by kernel_rfl) (by kernel_rfl) (fun _ _ _ h => h) (by rfl) ?r1y14 hHeld ?_
                case r1y14 => (intro w hSw; (try dsimp only at hSw); go_simp <;> (try with_reducible rfl))
                (try simp only [Act.put, List.setIfInBounds_toArray, List.set_cons_zero, List.set_cons_succ])
                refine takeW (i := 15) (v := ?r1v15) rfl rfl (by kernel_rfl) (by kernel_rfl) (by kernel_rfl) (fun _ _ _ h => h) (by rfl) ?r1y15 hHeld ?_
                case r1y15 => (intro w hSw; (try dsimp only at hSw); go_simp <;> (try with_reducible rfl))
                (try simp only [Act.put, List.setIfInBounds_toArray, List.set_cons_zero, List.set_cons_succ])
                refine takeW (i := 16) (v := ?r1v16) rfl rfl (by kernel_rfl) (by kernel_rfl) (by kernel_rfl) (fun _ _ _ h => h) (by rfl) ?r1y16 hHeld ?_
                case r1y16 => (intro w hSw; (try dsimp only at hSw); go_simp <;> (try with_reducible rfl))
                (try simp only [Act.put, List.setIfInBounds_toArray, List.set_cons_zero, List.set_cons_succ])
                refine takeW (i := 17) (v := ?r1v17) rfl rfl (by kernel_rfl) (by kernel_rfl) (by kernel_rfl) (fun _ _ _ h => h) (by rfl) ?r1y17 hHeld ?_
                case r1y17 => (intro w hSw; (try dsimp only at hSw); go_simp <;> (try with_reducible rfl))
                (try simp only [Act.put, List.setIfInBounds_toArray, List.set_cons_zero, List.set_cons_succ])
                refine takeW (i := 18) (v := ?r1v18) rfl rfl (by kernel_rfl) (by kernel_rfl) (by kernel_rfl) (fun _ _ _ h => h) (by rfl) ?r1y18 hHeld ?_
                case r1y18 => (intro w hSw; (try dsimp only at hSw); go_simp <;> (try with_reducible rfl))
                (try simp only [Act.put, List.setIfInBounds_toArray, List.set_cons_zero, List.set_cons_succ])
                refine takeW (i := 19) (v := ?r1v19) rfl rfl (by kernel_rfl) (by kernel_rfl) (by kernel_rfl) (fun _ _ _ h => h) (by rfl) ?r1y19 hHeld ?_
                case r1y19 => (intro w hSw; (try dsimp only at hSw); go_simp <;> (try with_reducible rfl))
                (try simp only [Act.put, List.setIfInBounds_toArray, List.set_cons_zero, List.set_cons_succ])
                refine takeW (i := 20) (v := ?r1v20) rfl rfl (by kernel_rfl) (by kernel_rfl) (by kernel_rfl) (fun _ _ _ h => h) (by rfl) ?r1y20 hHeld ?_
                case r1y20 => (intro w hSw; (try dsimp only at hSw); go_simp <;> (try with_reducible rfl))
                (try simp only [Act.put, List.setIfInBounds_toArray, List.set_cons_zero, List.set_cons_succ])
                refine takeW (i := 21) (v := ?r1v21) rfl rfl (by kernel_rfl) (by kernel_rfl) (by kernel_rfl) (fun _ _ _ h => h) (by rfl) ?r1y21 hHeld ?_
                case r1y21 => (intro w hSw; (try dsimp only at hSw); go_simp <;> (try with_reducible rfl))
                (try simp only [Act.put, List.setIfInBounds_toArray, List.set_cons_zero, List.set_cons_succ])
                refine takeW (i := 22) (v := ?r1v22) rfl rfl (by kernel_rfl) (by kernel_rfl) (by kernel_rfl) (fun _ _ _ h => h) (by rfl) ?r1y22 hHeld ?_
                case r1y22 => (intro w hSw; (try dsimp only at hSw); go_simp <;> (try with_reducible rfl))
                (try simp only [Act.put, List.setIfInBounds_toArray, List.set_cons_zero, List.set_cons_succ])
                refine takeW (i := 23) (v := ?r1v23) rfl rfl (by kernel_rfl) (by kernel_rfl) (by kernel_rfl) (fun _ _ _ h => h) (by rfl) ?r1y23 hHeld ?_
                case r1y23 => (intro w hSw; (try dsimp only at hSw); go_simp <;> (try with_reducible rfl))
                (try simp only [Act.put, List.setIfInBounds_toArray, List.set_cons_zero, List.set_cons_succ])
                refine takeU (i := 24) rfl rfl (by kernel_rfl) (by kernel_rfl) (by kernel_rfl) (fun _ _ _ h => h) (by rfl) hHeld ?_
                (try simp only [Act.put, List.setIfInBounds_toArray, List.set_cons_zero, List.set_cons_succ])
                refine takeU (i := 25) rfl rfl (by kernel_rfl) (by kernel_rfl) (by kernel_rfl) (fun _ _ _ h => h) (by rfl) hHeld ?_
                (try simp only [Act.put, List.setIfInBounds_toArray, List.set_cons_zero, List.set_cons_succ])
                refine takeU (i := 26) rfl rfl (by kernel_rfl) (by kernel_rfl) (by kernel_rfl) (fun _ _ _ h => h) (by rfl) hHeld ?_
                (try simp only [Act.put, List.setIfInBounds_toArray, List.set_cons_zero, List.set_cons_succ])
                refine takeU (i := 27) rfl rfl (by kernel_rfl) (by kernel_rfl) (by kernel_rfl) (fun _ _ _ h => h) (by rfl) hHeld ?_
                (try simp only [Act.put, List.setIfInBounds_toArray, List.set_cons_zero, List.set_cons_succ])
                refine takeW (i := 28) (v := ?r1v28) rfl rfl (by kernel_rfl) (by kernel_rfl) (by kernel_rfl) (fun _ _ _ h => h) (by rfl) ?r1y28 hHeld ?_
                case r1y28 => (intro w hSw; (try dsimp only at hSw); go_simp <;> (try with_reducible rfl))
                (try simp only [Act.put, List.setIfInBounds_toArray, List.set_cons_zero, List.set_cons_succ])
                refine takeW (i := 29) (v := ?r1v29) rfl rfl (by kernel_rfl) (by kernel_rfl) (by kernel_rfl) (fun _ _ _ h => h) (by rfl) ?r1y29 hHeld ?_
                case r1y29 => (intro w hSw; (try dsimp only at hSw); go_simp <;> (try with_reducible rfl))
                (try simp only [Act.put, List.setIfInBounds_toArray, List.set_cons_zero, List.set_cons_succ])
                refine wpAnyH_done (by kernel_rfl) ?_ _
                go_wp2
                go_roundg k1
                case measure => have := HK2.out; omega
                case rel => exact ⟨k + 1, rfl, ⟨by have := HK2.out; omega⟩, ⟨by omega⟩, ⟨by rw [HZ.out]; exact HS7.out⟩⟩
              | false =>
                rw [hf] at hG
                obtain ⟨y0, y1, y2⟩ := hG _ HW.out.below
                have HG := Aside0.mk hG
                have hib := intB_num x.f1 Z
                have HIT := Aside0.mk (show itemB x = numB x.f1 by unfold itemB; rw [hf]; rfl)
                have HWE := Aside0.mk (show Has w w.heap.size wr [reader gr (numB x.f1 ++ Z) 0] by have := HW.out; rw [HEN.out, HIT.out] at this; exact this)
                have hcall := int.calls gr w.heap.size (numB x.f1 ++ Z) 0 [] w wr.drew HWE.out.drew
                simp only [hib] at hcall
                rw [HVV.out] at hcall
                have HCL := Aside0.mk hcall
                clear hf hG hib hcall
                go_wp2_with fail
                refine wp_region_held_drew (S := (fun w' => w'.cell? (ad.add (k * 3)) = some (.bool false) ∧ w'.cell? ⟨(ad.add (k * 3)).block, (ad.add (k * 3)).off + 1, none⟩ = some (.int .i64 x.f1) ∧ w'.cell? ⟨(ad.add (k * 3)).block, (ad.add (k * 3)).off + 2, none⟩ = some (.slice A2 x.f2.length c2))) (by kernel_rfl) ?r2S (fun hHeld => ?_)
                case r2S => (exact ⟨y0, y1, y2⟩)
                refine takeW (i := 0) (v := ?r2v0) rfl rfl (by kernel_rfl) (by kernel_rfl) (by kernel_rfl) (fun _ _ _ h => h) (by rfl) ?r2y0 hHeld ?_
                case r2y0 => (intro w hSw; (try dsimp only at hSw); go_simp <;> (try with_reducible rfl))
                (try simp only [Act.put, List.setIfInBounds_toArray, List.set_cons_zero, List.set_cons_succ])
                refine takeW (i := 1) (v := ?r2v1) rfl rfl (by kernel_rfl) (by kernel_rfl) (by kernel_rfl) (fun _ _ _ h => h) (by rfl) ?r2y1 hHeld ?_
                case r2y1 => (intro w hSw; (try dsimp only at hSw); go_simp <;> (try with_reducible rfl))
                (try simp only [Act.put, List.setIfInBounds_toArray, List.set_cons_zero, List.set_cons_succ])
                refine takeW (i := 2) (v := ?r2v2) rfl rfl (by kernel_rfl) (by kernel_rfl) (by kernel_rfl) (fun _ _ _ h => h) (by rfl) ?r2y2 hHeld ?_
                case r2y2 => (intro w hSw; (try dsimp only at hSw); go_simp <;> (try with_reducible rfl))
                (try simp only [Act.put, List.setIfInBounds_toArray, List.set_cons_zero, List.set_cons_succ])
                refine takeW (i := 3) (v := ?r2v3) rfl rfl (by kernel_rfl) (by kernel_rfl) (by kernel_rfl) (fun _ _ _ h => h) (by rfl) ?r2y3 hHeld ?_
                case r2y3 => (intro w hSw; (try dsimp only at hSw); go_simp <;> (try with_reducible rfl))
                (try simp only [Act.put, List.setIfInBounds_toArray, List.set_cons_zero, List.set_cons_succ])
                refine takeW (i := 4) (v := ?r2v4) rfl rfl (by kernel_rfl) (by kernel_rfl) (by kernel_rfl) (fun _ _ _ h => h) (by rfl) ?r2y4 hHeld ?_
                case r2y4 => (intro w hSw; (try dsimp only at hSw); go_simp <;> (try with_reducible rfl))
                (try simp only [Act.put, List.setIfInBounds_toArray, List.set_cons_zero, List.set_cons_succ])
                refine takeW (i := 5) (v := ?r2v5) rfl rfl (by kernel_rfl) (by kernel_rfl) (by kernel_rfl) (fun _ _ _ h => h) (by rfl) ?r2y5 hHeld ?_
                case r2y5 => (intro w hSw; (try dsimp only at hSw); go_simp <;> (try with_reducible rfl))
                (try simp only [Act.put, List.setIfInBounds_toArray, List.set_cons_zero, List.set_cons_succ])
                refine takeU (i := 6) rfl rfl (by kernel_rfl) (by kernel_rfl) (by kernel_rfl) (fun _ _ _ h => h) (by rfl) hHeld ?_
                (try simp only [Act.put, List.setIfInBounds_toArray, List.set_cons_zero, List.set_cons_succ])
                refine takeU (i := 7) rfl rfl (by kernel_rfl) (by kernel_rfl) (by kernel_rfl) (fun _ _ _ h => h) (by rfl) hHeld ?_
                (try simp only [Act.put, List.setIfInBounds_toArray, List.set_cons_zero, List.set_cons_succ])
                refine takeU (i := 8) rfl rfl (by kernel_rfl) (by kernel_rfl) (by kernel_rfl) (fun _ _ _ h => h) (by rfl) hHeld ?_
                (try simp only [Act.put, List.setIfInBounds_toArray, List.set_cons_zero, List.set_cons_succ])
                refine takeU (i := 9) rfl rfl (by kernel_rfl) (by kernel_rfl) (by kernel_rfl) (fun _ _ _ h => h) (by rfl) hHeld ?_
                (try simp only [Act.put, List.setIfInBounds_toArray, List.set_cons_zero, List.set_cons_succ])
                refine takeU (i := 10) rfl rfl (by kernel_rfl) (by kernel_rfl) (by kernel_rfl) (fun _ _ _ h => h) (by rfl) hHeld ?_
                (try simp only [Act.put, List.setIfInBounds_toArray, List.set_cons_zero, List.set_cons_succ])
                refine takeU (i := 11) rfl rfl (by kernel_rfl) (by kernel_rfl) (by kernel_rfl) (fun _ _ _ h => h) (by rfl) hHeld ?_
                (try simp only [Act.put, List.setIfInBounds_toArray, List.set_cons_zero, List.set_cons_succ])
                refine takeU (i := 12) rfl rfl (by kernel_rfl) (by kernel_rfl) (by kernel_rfl) (fun _ _ _ h => h) (by rfl) hHeld ?_
                (try simp only [Act.put, List.setIfInBounds_toArray, List.set_cons_zero, List.set_cons_succ])
                refine takeU (i := 13) rfl rfl (by kernel_rfl) (by kernel_rfl) (by kernel_rfl) (fun _ _ _ h => h) (by rfl) hHeld ?_
                (try simp only [Act.put, List.setIfInBounds_toArray, List.set_cons_zero, List.set_cons_succ])
                refine takeU (i := 14) rfl rfl (by kernel_rfl) (by kernel_rfl) (by kernel_rfl) (fun _ _ _ h => h) (by rfl) hHeld ?_
                (try simp only [Act.put, List.setIfInBounds_toArray, List.set_cons_zero, List.set_cons_succ])
                refine takeW (i := 15) (v := ?r2v15) rfl rfl (by kernel_rfl) (by kernel_rfl) (by kernel_rfl) (fun _ _ _ h => h) (by rfl) ?r2y15 hHeld ?_
                case r2y15 => (intro w hSw; (try dsimp only at hSw); go_simp <;> (try with_reducible rfl))
                (try simp only [Act.put, List.setIfInBounds_toArray, List.set_cons_zero, List.set_cons_succ])
                refine takeW (i := 16) (v := ?r2v16) rfl rfl (by kernel_rfl) (by kernel_rfl) (by kernel_rfl) (fun _ _ _ h => h) (by rfl) ?r2y16 hHeld ?_
                case r2y16 => (intro w hSw; (try dsimp only at hSw); go_simp <;> (try with_reducible rfl))
                (try simp only [Act.put, List.setIfInBounds_toArray, List.set_cons_zero, List.set_cons_succ])
                refine takeW (i := 17) (v := ?r2v17) rfl rfl (by kernel_rfl) (by kernel_rfl) (by kernel_rfl) (fun _ _ _ h => h) (by rfl) ?r2y17 hHeld ?_
                case r2y17 => (intro w hSw; (try dsimp only at hSw); go_simp <;> (try with_reducible rfl))
                (try simp only [Act.put, List.setIfInBounds_toArray, List.set_cons_zero, List.set_cons_succ])
                refine takeW (i := 18) (v := ?r2v18) rfl rfl (by kernel_rfl) (by kernel_rfl) (by kernel_rfl) (fun _ _ _ h => h) (by rfl) ?r2y18 hHeld ?_
                case r2y18 => (intro w hSw; (try dsimp only at hSw); go_simp <;> (try with_reducible rfl))
                (try simp only [Act.put, List.setIfInBounds_toArray, List.set_cons_zero, List.set_cons_succ])
                refine takeW (i := 19) (v := ?r2v19) rfl rfl (by kernel_rfl) (by kernel_rfl) (by kernel_rfl) (fun _ _ _ h => h) (by rfl) ?r2y19 hHeld ?_
                case r2y19 => (intro w hSw; (try dsimp only at hSw); go_simp <;> (try with_reducible rfl))
                (try simp only [Act.put, List.setIfInBounds_toArray, List.set_cons_zero, List.set_cons_succ])
                refine takeW (i := 20) (v := ?r2v20) rfl rfl (by kernel_rfl) (by kernel_rfl) (by kernel_rfl) (fun _ _ _ h => h) (by rfl) ?r2y20 hHeld ?_
                case r2y20 => (intro w hSw; (try dsimp only at hSw); go_simp <;> (try with_reducible rfl))
                (try simp only [Act.put, List.setIfInBounds_toArray, List.set_cons_zero, List.set_cons_succ])
                refine takeW (i := 21) (v := ?r2v21) rfl rfl (by kernel_rfl) (by kernel_rfl) (by kernel_rfl) (fun _ _ _ h => h) (by rfl) ?r2y21 hHeld ?_
                case r2y21 => (intro w hSw; (try dsimp only at hSw); go_simp <;> (try with_reducible rfl))
                (try simp only [Act.put, List.setIfInBounds_toArray, List.set_cons_zero, List.set_cons_succ])
                refine takeW (i := 22) (v := ?r2v22) rfl rfl (by kernel_rfl) (by kernel_rfl) (by kernel_rfl) (fun _ _ _ h => h) (by rfl) ?r2y22 hHeld ?_
                case r2y22 => (intro w hSw; (try dsimp only at hSw); go_simp <;> (try with_reducible rfl))
                (try simp only [Act.put, List.setIfInBounds_toArray, List.set_cons_zero, List.set_cons_succ])
                refine takeW (i := 23) (v := ?r2v23) rfl rfl (by kernel_rfl) (by kernel_rfl) (by kernel_rfl) (fun _ _ _ h => h) (by rfl) ?r2y23 hHeld ?_
                case r2y23 => (intro w hSw; (try dsimp only at hSw); go_simp <;> (try with_reducible rfl))
                (try simp only [Act.put, List.setIfInBounds_toArray, List.set_cons_zero, List.set_cons_succ])
                refine takeW (i := 24) (v := ?r2v24) rfl rfl (by kernel_rfl) (by kernel_rfl) (by kernel_rfl) (fun _ _ _ h => h) (by rfl) ?r2y24 hHeld ?_
                case r2y24 => (intro w hSw; (try dsimp only at hSw); go_simp <;> (try with_reducible rfl))
                (try simp only [Act.put, List.setIfInBounds_toArray, List.set_cons_zero, List.set_cons_succ])
                refine takeW (i := 26) (v := ?r2v26) rfl rfl (by kernel_rfl) (by kernel_rfl) (by kernel_rfl) (fun _ _ _ h => h) (by rfl) ?r2y26 hHeld ?_
                case r2y26 => (intro w hSw; (try dsimp only at hSw); go_simp <;> (try with_reducible rfl))
                (try simp only [Act.put, List.setIfInBounds_toArray, List.set_cons_zero, List.set_cons_succ])
                refine callC (i := 25) rfl (by kernel_rfl) (by rfl) (fun K hK => ?_)
                clear hHeld
                (go_wp2_with ((go_at_call 10; ((refine (HCL.out).mono ?_); rintro e w5 ⟨rfl, hw5⟩; obtain ⟨z0, z1, z2⟩ := HG.out _ hw5.below; have HS7 := Aside0.mk hw5; clear hw5))))
                refine hK.out _ _ ?r2k25 (fun hHeld => ?_)
                case r2k25 => (exact ⟨z0, z1, z2⟩)
                clear hK K
                (try simp only [Act.put, List.setIfInBounds_toArray, List.set_cons_zero, List.set_cons_succ])
                refine takeW (i := 27) (v := ?r2v27) rfl rfl (by kernel_rfl) (by kernel_rfl) (by kernel_rfl) (fun _ _ _ h => h) (by rfl) ?r2y27 hHeld ?_
                case r2y27 => (intro w hSw; (try dsimp only at hSw); go_simp <;> (try with_reducible rfl))
                (try simp only [Act.put, List.setIfInBounds_toArray, List.set_cons_zero, List.set_cons_succ])
                refine takeW (i := 28) (v := ?r2v28) rfl rfl (by kernel_rfl) (by kernel_rfl) (by kernel_rfl) (fun _ _ _ h => h) (by rfl) ?r2y28 hHeld ?_
                case r2y28 => (intro w hSw; (try dsimp only at hSw); go_simp <;> (try with_reducible rfl))
                (try simp only [Act.put, List.setIfInBounds_toArray, List.set_cons_zero, List.set_cons_succ])
                refine takeW (i := 29) (v := ?r2v29) rfl rfl (by kernel_rfl) (by kernel_rfl) (by kernel_rfl) (fun _ _ _ h => h) (by rfl) ?r2y29 hHeld ?_
                case r2y29 => (intro w hSw; (try dsimp only at hSw); go_simp <;> (try with_reducible rfl))
                (try simp only [Act.put, List.setIfInBounds_toArray, List.set_cons_zero, List.set_cons_succ])
                refine wpAnyH_done (by kernel_rfl) ?_ _
                go_wp2
                go_roundg k1
                case measure => have := HK2.out; omega
                case rel => exact ⟨k + 1, rfl, ⟨by have := HK2.out; omega⟩, ⟨by omega⟩, ⟨by rw [HZ.out]; exact HS7.out⟩⟩
          · have hdr : (l0.take 40).drop k = [] := List.drop_eq_nil_of_le (by rw [List.length_take]; omega)
            have hw := HW.out
            rw [hdr, show enc [] = [] from rfl] at hw
            have hI := int.calls gr w.heap.size [] 0 [] w wr hw
            simp only [intB_nil] at hI
            have HIC := Aside0.mk hI
            have HWE := Aside0.mk hw
            clear hdr hw hI HW
            by_cases hp : k < l0.length
            · have e1 : decide ((k : Int) < (l0.length : Int)) = true := decide_eq_true (by omega)
              have hq : ¬ k < 40 := fun h => hil ⟨hp, h⟩
              have e2 : decide ((k : Int) < 40) = false := decide_eq_false (by omega)
              clear hil
              go_wp2_with (first | (go_at_call 13; ((refine (errH.calls gr w.heap.size [] 0 [] w _ HWE.out).mono ?_); rintro e w9 ⟨rfl, ew_⟩; subst w9)) | (go_at_call 19; ((refine (left.calls gr w.heap.size [] 0 [] w _ HWE.out).mono ?_); rintro e w9 ⟨rfl, ew_⟩; subst w9)) | (go_at_call 10; ((refine (HIC.out).mono ?_); rintro e w9 ⟨rfl, hw9⟩; have HS9 := Aside0.mk hw9; clear hw9)) | (go_at_call 13; ((refine (errH.calls gr w.heap.size [] 5 [] w _ HS9.out).mono ?_); rintro e w10 ⟨rfl, ew_⟩; subst w10)))
              go_ret
              exact ⟨rfl, HS9.out.below⟩
            · have e1 : decide ((k : Int) < (l0.length : Int)) = false := decide_eq_false (by omega)
              clear hil
              go_wp2_with (first | (go_at_call 13; ((refine (errH.calls gr w.heap.size [] 0 [] w _ HWE.out).mono ?_); rintro e w9 ⟨rfl, ew_⟩; subst w9)) | (go_at_call 19; ((refine (left.calls gr w.heap.size [] 0 [] w _ HWE.out).mono ?_); rintro e w9 ⟨rfl, ew_⟩; subst w9)) | (go_at_call 10; ((refine (HIC.out).mono ?_); rintro e w9 ⟨rfl, hw9⟩; have HS9 := Aside0.mk hw9; clear hw9)) | (go_at_call 13; ((refine (errH.calls gr w.heap.size [] 5 [] w _ HS9.out).mono ?_); rintro e w10 ⟨rfl, ew_⟩; subst w10)))
              go_ret
              exact ⟨rfl, HS9.out.below⟩
      · have e1 : decide ((i : Int) < (l0.length : Int)) = false := decide_eq_false (by omega)
        clear hil
        go_wp2_with (first | (go_at_call 14; ((refine (wbytesH.calls 28 w.heap.size w.heap.size Y _ w _ (by have := HYL.out; omega) HW0.out).mono ?_); rintro e w1 ⟨v1, rfl, hw1⟩; obtain ⟨A1, c1, e1_, hc1, hC1⟩ := hw1.row_reads; subst e1_; have HS1 := Aside0.mk hw1; have HC1 := Aside0.mk hC1; have HD1 := Aside0.mk hc1; clear hw1 hC1 hc1)) | (go_at_call 9; ((refine (readH.calls A1 c1 Y w.heap.size _ w _ HC1.out HD1.out (by have := HYL.out; omega) HXB.out HS1.out).mono ?_); rintro e w2 ⟨gr, rfl, hw2⟩; have HS2 := Aside0.mk hw2.drop2; clear hw2)) | (go_at_call 12; ((refine (awake.calls _).mono ?_); rintro e w3 ⟨rfl, hb3⟩; have HS3 := Aside0.mk (HS2.out.step hb3).sw; clear hb3)) | (go_at_call 14; ((refine (wbytesH.calls 28 w.heap.size w.heap.size Y _ w _ (by have := HYL.out; omega) HS3.out).mono ?_); rintro e w4 ⟨v4, rfl, hw4⟩; obtain ⟨A5, c5, e5_, hc5, hC5⟩ := hw4.row_reads; subst e5_; have hC6 := row_C hw4.up3; have HS4 := Aside0.mk hw4.up2.drop2.drop2.drop2; have HC5 := Aside0.mk hC5; have HD5 := Aside0.mk hc5; have HC6 := Aside0.mk hC6; clear hw4 hC5 hc5 hC6)) | (go_at_call 16; ((refine (same.calls A5 c5 Y A4 c4 Y.length n4 rfl HN.out.1.symm _ HC5.out HD5.out HC6.out.2.2 HN.out.2.2).mono ?_); rintro e w8 ⟨rfl, ⟨nd, rfl⟩⟩; have HS5 := Aside0.mk (HS4.out.drewN nd))))
        go_loopg [7] (l0.length + 1) (fun kq v7 w' => ∃ k : Nat, v7 = .int .i64 (k : Int) ∧ Aside0 (k + kq = l0.length + 1) ∧ Aside0 (k ≤ l0.length ∧ k ≤ 40) ∧ Aside0 (Has w w.heap.size w' [reader gr (enc ((l0.take 40).drop k)) 0]))
        case atStart => exact ⟨0, rfl, ⟨by omega⟩, ⟨by omega⟩, ⟨by rw [List.drop_zero, HY.out]; exact HS5.out⟩⟩
        case round =>
          clear hp e1
          (try clear hq e2)
          obtain ⟨k, rfl, HK2, HI2, HW⟩ := hrel
          by_cases hil : k < l0.length ∧ k < 40
          · obtain ⟨hi1, hi2⟩ := hil
            have e1 : decide ((k : Int) < (l0.length : Int)) = true := decide_eq_true (by omega)
            have e2 : decide ((k : Int) < 40) = true := decide_eq_true (by omega)
            obtain ⟨ad, A2, c2, rfl, x0, x1, x2, x3, x4⟩ := at_T41 HR0.out (k : Int) (by omega) (by omega)
            have hrd : rd_T41 l0 (k : Int) = l0[k] := by simp [rd_T41, List.getD_eq_getElem?_getD, hi1]
            rw [hrd] at x0 x1 x2 x3 x4
            rw [Int.toNat_natCast] at x0 x1 x2
            have hok := HX.out _ (List.getElem_mem hi1)
            have hbm := HBM.out k hi1 hi2
            have hdr : (l0.take 40).drop k = l0[k] :: (l0.take 40).drop (k + 1) := by
              rw [List.drop_eq_getElem_cons (by rw [List.length_take]; omega), List.getElem_take]
            obtain ⟨x, hxe⟩ : ∃ x, l0[k] = x := ⟨_, rfl⟩
            rw [hxe] at x0 x1 x2 x3 x4 hok hdr hbm
            obtain ⟨Z, hZ⟩ : ∃ Z, enc ((l0.take 40).drop (k + 1)) = Z := ⟨_, rfl⟩
            have hen : enc ((l0.take 40).drop k) = itemB x ++ Z := by rw [hdr, ← hZ]; rfl
            have HOK := Aside0.mk hok
            have HEN := Aside0.mk hen
            have HZ := Aside0.mk hZ
            have HC2 := Aside0.mk x3
            have HBX := Aside0.mk hbm
            have hG : ∀ w' : World, Below w.heap.size w w' → w'.cell? (ad.add (k * 3)) = some (.bool x.f0) ∧ w'.cell? ⟨(ad.add (k * 3)).block, (ad.add (k * 3)).off + 1, none⟩ = some (.int .i64 x.f1) ∧ w'.cell? ⟨(ad.add (k * 3)).block, (ad.add (k * 3)).off + 2, none⟩ = some (.slice A2 x.f2.length c2) := fun w' hb => ⟨(hb.cell (World.block_lt_of_cell? w _ x0)).trans x0, (hb.cell (World.block_lt_of_cell? w _ x1)).trans x1, (hb.cell (World.block_lt_of_cell? w _ x2)).trans x2⟩
            have HDD := Aside0.mk (show ∀ w' : World, Below w.heap.size w w' → Kd.C (Kd.int .u8) w' A2 x.f2.length x.f2 from fun w' hb => Kd.C_below x4 hb)
            clear hrd hxe hok hbm hdr hZ hen x0 x1 x2 x3 x4
            cases gk with
            | zero => exact absurd HK2.out (by omega)
            | succ k1 =>
              have hi9 : k ≤ 60 := by omega
              obtain ⟨m, V, hm, hV, hvv⟩ := heldV_eq x.f1
              have HVV := Aside0.mk hvv
              clear hvv
              cases hf : x.f0 with
              | true =>
                rw [hf] at hG
                obtain ⟨y0, y1, y2⟩ := hG _ HW.out.below
                have HG := Aside0.mk hG
                have HRB := Aside0.mk (rawB_num x.f2 Z (by have := HBX.out; omega))
                have HIT := Aside0.mk (show itemB x = numB x.f2.length ++ x.f2 by unfold itemB; rw [hf]; rfl)
                have HWE := Aside0.mk (show Has w w.heap.size wr [reader gr (numB x.f2.length ++ x.f2 ++ Z) 0] by have := HW.out; rw [HEN.out, HIT.out] at this; exact this)
                clear hf hG
                go_wp2_with fail
                refine wp_region_held_drew (S := (fun w' => w'.cell? (ad.add (k * 3)) = some (.bool true) ∧ w'.cell? ⟨(ad.add (k * 3)).block, (ad.add (k * 3)).off + 1, none⟩ = some (.int .i64 x.f1) ∧ w'.cell? ⟨(ad.add (k * 3)).block, (ad.add (k * 3)).off + 2, none⟩ = some (.slice A2 x.f2.length c2))) (by kernel_rfl) ?r3S (fun hHeld => ?_)
                case r3S => (exact ⟨y0, y1, y2⟩)
                refine takeW (i := 0) (v := ?r3v0) rfl rfl (by kernel_rfl) (by kernel_rfl) (by kernel_rfl) (fun _ _ _ h => h) (by rfl) ?r3y0 hHeld ?_
                case r3y0 => (intro w hSw; (try dsimp only at hSw); go_simp <;> (try with_reducible rfl))
                (try simp only [Act.put, List.setIfInBounds_toArray, List.set_cons_zero, List.set_cons_succ])
                refine takeW (i := 1) (v := ?r3v1) rfl rfl (by kernel_rfl) (by kernel_rfl) (by kernel_rfl) (fun _ _ _ h => h) (by rfl) ?r3y1 hHeld ?_
                case r3y1 => (intro w hSw; (try dsimp only at hSw); go_simp <;> (try with_reducible rfl))
                (try simp only [Act.put, List.setIfInBounds_toArray, List.set_cons_zero, List.set_cons_succ])
                refine takeW (i := 2) (v := ?r3v2) rfl rfl (by kernel_rfl) (by kernel_rfl) (by kernel_rfl) (fun _ _ _ h => h) (by rfl) ?r3y2 hHeld ?_
                case r3y2 => (intro w hSw; (try dsimp only at hSw); go_simp <;> (try with_reducible rfl))
                (try simp only [Act.put, List.setIfInBounds_toArray, List.set_cons_zero, List.set_cons_succ])
                refine takeW (i := 3) (v := ?r3v3) rfl rfl (by kernel_rfl) (by kernel_rfl) (by kernel_rfl) (fun _ _ _ h => h) (by rfl) ?r3y3 hHeld ?_
                case r3y3 => (intro w hSw; (try dsimp only at hSw); go_simp <;> (try with_reducible rfl))
                (try simp only [Act.put, List.setIfInBounds_toArray, List.set_cons_zero, List.set_cons_succ])
                refine takeW (i := 4) (v := ?r3v4) rfl rfl (by kernel_rfl) (by kernel_rfl) (by kernel_rfl) (fun _ _ _ h => h) (by rfl) ?r3y4 hHeld ?_
                case r3y4 => (intro w hSw; (try dsimp only at hSw); go_simp <;> (try with_reducible rfl))
                (try simp only [Act.put, List.setIfInBounds_toArray, List.set_cons_zero, List.set_cons_succ])
                refine takeW (i := 5) (v := ?r3v5) rfl rfl (by kernel_rfl) (by kernel_rfl) (by kernel_rfl) (fun _ _ _ h => h) (by rfl) ?r3y5 hHeld ?_
                case r3y5 => (intro w hSw; (try dsimp only at hSw); go_simp <;> (try with_reducible rfl))
                (try simp only [Act.put, List.setIfInBounds_toArray, List.set_cons_zero, List.set_cons_succ])
                refine takeW (i := 6) (v := ?r3v6) rfl rfl (by kernel_rfl) (by kernel_rfl) (by kernel_rfl) (fun _ _ _ h => h) (by rfl) ?r3y6 hHeld ?_
                case r3y6 => (intro w hSw; (try dsimp only at hSw); go_simp <;> (try with_reducible rfl))
                (try simp only [Act.put, List.setIfInBounds_toArray, List.set_cons_zero, List.set_cons_succ])
                refine takeW (i := 8) (v := ?r3v8) rfl rfl (by kernel_rfl) (by kernel_rfl) (by kernel_rfl) (fun _ _ _ h => h) (by rfl) ?r3y8 hHeld ?_
                case r3y8 => (intro w hSw; (try dsimp only at hSw); go_simp <;> (try with_reducible rfl))
                (try simp only [Act.put, List.setIfInBounds_toArray, List.set_cons_zero, List.set_cons_succ])
                refine takeW (i := 9) (v := ?r3v9) rfl rfl (by kernel_rfl) (by kernel_rfl) (by kernel_rfl) (fun _ _ _ h => h) (by rfl) ?r3y9 hHeld ?_
                case r3y9 => (intro w hSw; (try dsimp only at hSw); go_simp <;> (try with_reducible rfl))
                (try simp only [Act.put, List.setIfInBounds_toArray, List.set_cons_zero, List.set_cons_succ])
                refine takeW (i := 10) (v := ?r3v10) rfl rfl (by kernel_rfl) (by kernel_rfl) (by kernel_rfl) (fun _ _ _ h => h) (by rfl) ?r3y10 hHeld ?_
                case r3y10 => (intro w hSw; (try dsimp only at hSw); go_simp <;> (try with_reducible rfl))
                (try simp only [Act.put, List.setIfInBounds_toArray, List.set_cons_zero, List.set_cons_succ])
                refine takeW (i := 11) (v := ?r3v11) rfl rfl (by kernel_rfl) (by kernel_rfl) (by kernel_rfl) (fun _ _ _ h => h) (by rfl) ?r3y11 hHeld ?_
                case r3y11 => (intro w hSw; (try dsimp only at hSw); go_simp <;> (try with_reducible rfl))
                (try simp only [Act.put, List.setIfInBounds_toArray, List.set_cons_zero, List.set_cons_succ])
                refine takeW (i := 12) (v := ?r3v12) rfl rfl (by kernel_rfl) (by kernel_rfl) (by kernel_rfl) (fun _ _ _ h => h) (by rfl) ?r3y12 hHeld ?_
                case r3y12 => (intro w hSw; (try dsimp only at hSw); go_simp <;> (try with_reducible rfl))
                (try simp only [Act.put, List.setIfInBounds_toArray, List.set_cons_zero, List.set_cons_succ])
                refine callC (i := 7) rfl (by kernel_rfl) (by rfl) (fun K hK => ?_)
                clear hHeld
                (go_wp2_with ((go_at_call 18; ((refine (rawH.calls gr w.heap.size _ 0 [] w _ HWE.out.drew).mono ?_); rintro e w5 ⟨v5, rfl, hw5⟩; rw [HRB.out] at hw5; obtain ⟨A5, c5, e5_, hc5, hC5⟩ := hw5.row_reads; subst e5_; obtain ⟨z0, z1, z2⟩ := HG.out _ hw5.below; have HS6 := Aside0.mk hw5.drop; have HC6 := Aside0.mk hC5; have HD6 := Aside0.mk hc5; clear hw5 hC5 hc5))))
                refine hK.out _ _ ?r3k7 (fun hHeld => ?_)
                case r3k7 => (exact ⟨z0, z1, z2⟩)
                clear hK K
                (try simp only [Act.put, List.setIfInBounds_toArray, List.set_cons_zero, List.set_cons_succ])
                refine callC (i := 13) rfl (by kernel_rfl) (by rfl) (fun K hK => ?_)
                clear hHeld
                (go_wp2_with ((go_at_call 16; ((refine (same.calls A5 c5 x.f2 A2 c2 x.f2.length x.f2.length rfl rfl _ HC6.out HD6.out (HDD.out _ HS6.out.below) HC2.out).mono ?_); rintro e w8 ⟨rfl, ⟨nd, rfl⟩⟩; have HS7 := Aside0.mk (HS6.out.drewN nd); obtain ⟨s0, s1, s2⟩ := HG.out _ HS7.out.below))))
                refine hK.out _ _ ?r3k13 (fun hHeld => ?_)
                case r3k13 => (exact ⟨s0, s1, s2⟩)
                clear hK K
                (try simp only [Act.put, List.setIfInBounds_toArray, List.set_cons_zero, List.set_cons_succ])
                refine takeW (i := 14) (v := ?r3v14) rfl rfl (by kernel_rfl) (by kernel_rfl) (by kernel_rfl) (fun _ _ _ h => h) (by rfl) ?r3y14 hHeld ?_
                case r3y14 => (intro w hSw; (try dsimp only at hSw); go_simp <;> (try with_reducible rfl))
                (try simp only [Act.put, List.setIfInBounds_toArray, List.set_cons_zero, List.set_cons_succ])
                refine takeW (i := 15) (v := ?r3v15) rfl rfl (by kernel_rfl) (by kernel_rfl) (by kernel_rfl) (fun _ _ _ h => h) (by rfl) ?r3y15 hHeld ?_
                case r3y15 => (intro w hSw; (try dsimp only at hSw); go_simp <;> (try with_reducible rfl))
                (try simp only [Act.put, List.setIfInBounds_toArray, List.set_cons_zero, List.set_cons_succ])
                refine takeW (i := 16) (v := ?r3v16) rfl rfl (by kernel_rfl) (by kernel_rfl) (by kernel_rfl) (fun _ _ _ h => h) (by rfl) ?r3y16 hHeld ?_
                case r3y16 => (intro w hSw; (try dsimp only at hSw); go_simp <;> (try with_reducible rfl))
                (try simp only [Act.put, List.setIfInBounds_toArray, List.set_cons_zero, List.set_cons_succ])
                refine takeW (i := 17) (v := ?r3v17) rfl rfl (by kernel_rfl) (by kernel_rfl) (by kernel_rfl) (fun _ _ _ h => h) (by rfl) ?r3y17 hHeld ?_
                case r3y17 => (intro w hSw; (try dsimp only at hSw); go_simp <;> (try with_reducible rfl))
                (try simp only [Act.put, List.setIfInBounds_toArray, List.set_cons_zero, List.set_cons_succ])
                refine takeW (i := 18) (v := ?r3v18) rfl rfl (by kernel_rfl) (by kernel_rfl) (by kernel_rfl) (fun _ _ _ h => h) (by rfl) ?r3y18 hHeld ?_
                case r3y18 => (intro w hSw; (try dsimp only at hSw); go_simp <;> (try with_reducible rfl))
                (try simp only [Act.put, List.setIfInBounds_toArray, List.set_cons_zero, List.set_cons_succ])
                refine takeW (i := 19) (v := ?r3v19) rfl rfl (by kernel_rfl) (by kernel_rfl) (by kernel_rfl) (fun _ _ _ h => h) (by rfl) ?r3y19 hHeld ?_
                case r3y19 => (intro w hSw; (try dsimp only at hSw); go_simp <;> (try with_reducible rfl))
                (try simp only [Act.put, List.setIfInBounds_toArray, List.set_cons_zero, List.set_cons_succ])
                refine takeW (i := 20) (v := ?r3v20) rfl rfl (by kernel_rfl) (by kernel_rfl) (by kernel_rfl) (fun _ _ _ h => h) (by rfl) ?r3y20 hHeld ?_
                case r3y20 => (intro w hSw; (try dsimp only at hSw); go_simp <;> (try with_reducible rfl))
                (try simp only [Act.put, List.setIfInBounds_toArray, List.set_cons_zero, List.set_cons_succ])
                refine takeW (i := 21) (v := ?r3v21) rfl rfl (by kernel_rfl) (by kernel_rfl) (by kernel_rfl) (fun _ _ _ h => h) (by rfl) ?r3y21 hHeld ?_
                case r3y21 => (intro w hSw; (try dsimp only at hSw); go_simp <;> (try with_reducible rfl))
                (try simp only [Act.put, List.setIfInBounds_toArray, List.set_cons_zero, List.set_cons_succ])
                refine takeW (i := 22) (v := ?r3v22) rfl rfl (by kernel_rfl) (by kernel_rfl) (by kernel_rfl) (fun _ _ _ h => h) (by rfl) ?r3y22 hHeld ?_
                case r3y22 => (intro w hSw; (try dsimp only at hSw); go_simp <;> (try with_reducible rfl))
                (try simp only [Act.put, List.setIfInBounds_toArray, List.set_cons_zero, List.set_cons_succ])
                refine takeW (i := 23) (v := ?r3v23) rfl rfl (by kernel_rfl) (by kernel_rfl) (by kernel_rfl) (fun _ _ _ h => h) (by rfl) ?r3y23 hHeld ?_
                case r3y23 => (intro w hSw; (try dsimp only at hSw); go_simp <;> (try with_reducible rfl))
                (try simp only [Act.put, List.setIfInBounds_toArray, List.set_cons_zero, List.set_cons_succ])
                refine takeU (i := 24) rfl rfl (by kernel_rfl) (by kernel_rfl) (by kernel_rfl) (fun _ _ _ h => h) (by rfl) hHeld ?_
                (try simp only [Act.put, List.setIfInBounds_toArray, List.set_cons_zero, List.set_cons_succ])
                refine takeU (i := 25) rfl rfl (by kernel_rfl) (by kernel_rfl) (by kernel_rfl) (fun _ _ _ h => h) (by rfl) hHeld ?_
                (try simp only [Act.put, List.setIfInBounds_toArray, List.set_cons_zero, List.set_cons_succ])
                refine takeU (i := 26) rfl rfl (by kernel_rfl) (by kernel_rfl) (by kernel_rfl) (fun _ _ _ h => h) (by rfl) hHeld ?_
                (try simp only [Act.put, List.setIfInBounds_toArray, List.set_cons_zero, List.set_cons_succ])
                refine takeU (i := 27) rfl rfl (by kernel_rfl) (by kernel_rfl) (by kernel_rfl) (fun _ _ _ h => h) (by rfl) hHeld ?_
                (try simp only [Act.put, List.setIfInBounds_toArray, List.set_cons_zero, List.set_cons_succ])
                refine takeW (i := 28) (v := ?r3v28) rfl rfl (by kernel_rfl) (by kernel_rfl) (by kernel_rfl) (fun _ _ _ h => h) (by rfl) ?r3y28 hHeld ?_
                case r3y28 => (intro w hSw; (try dsimp only at hSw); go_simp <;> (try with_reducible rfl))
                (try simp only [Act.put, List.setIfInBounds_toArray, List.set_cons_zero, List.set_cons_succ])
                refine takeW (i := 29) (v := ?r3v29) rfl rfl (by kernel_rfl) (by kernel_rfl) (by kernel_rfl) (fun _ _ _ h => h) (by rfl) ?r3y29 hHeld ?_
                case r3y29 => (intro w hSw; (try dsimp only at hSw); go_simp <;> (try with_reducible rfl))
                (try simp only [Act.put, List.setIfInBounds_toArray, List.set_cons_zero, List.set_cons_succ])
                refine wpAnyH_done (by kernel_rfl) ?_ _
                go_wp2
                go_roundg k1
                case measure => have := HK2.out; omega
                case rel => exact ⟨k + 1, rfl, ⟨by have := HK2.out; omega⟩, ⟨by omega⟩, ⟨by rw [HZ.out]; exact HS7.out⟩⟩
              | false =>
                rw [hf] at hG
                obtain ⟨y0, y1, y2⟩ := hG _ HW.out.below
                have HG := Aside0.mk hG
                have hib := intB_num x.f1 Z
                have HIT := Aside0.mk (show itemB x = numB x.f1 by unfold itemB; rw [hf]; rfl)
                have HWE := Aside0.mk (show Has w w.heap.size wr [reader gr (numB x.f1 ++ Z) 0] by have := HW.out; rw [HEN.out, HIT.out] at this; exact this)
                have hcall := int.calls gr w.heap.size (numB x.f1 ++ Z) 0 [] w wr.drew HWE.out.drew
                simp only [hib] at hcall
                rw [HVV.out] at hcall
                have HCL := Aside0.mk hcall
                clear hf hG hib hcall
                go_wp2_with fail
                refine wp_region_held_drew (S := (fun w' => w'.cell? (ad.add (k * 3)) = some (.bool false) ∧ w'.cell? ⟨(ad.add (k * 3)).block, (ad.add (k * 3)).off + 1, none⟩ = some (.int .i64 x.f1) ∧ w'.cell? ⟨(ad.add (k * 3)).block, (ad.add (k * 3)).off + 2, none⟩ = some (.slice A2 x.f2.length c2))) (by kernel_rfl) ?r4S (fun hHeld => ?_)
                case r4S => (exact ⟨y0, y1, y2⟩)
                refine takeW (i := 0) (v := ?r4v0) rfl rfl (by kernel_rfl) (by kernel_rfl) (by kernel_rfl) (fun _ _ _ h => h) (by rfl) ?r4y0 hHeld ?_
                case r4y0 => (intro w hSw; (try dsimp only at hSw); go_simp <;> (try with_reducible rfl))
                (try simp only [Act.put, List.setIfInBounds_toArray, List.set_cons_zero, List.set_cons_succ])
                refine takeW (i := 1) (v := ?r4v1) rfl rfl (by kernel_rfl) (by kernel_rfl) (by kernel_rfl) (fun _ _ _ h => h) (by rfl) ?r4y1 hHeld ?_
                case r4y1 => (intro w hSw; (try dsimp only at hSw); go_simp <;> (try with_reducible rfl))
                (try simp only [Act.put, List.setIfInBounds_toArray, List.set_cons_zero, List.set_cons_succ])
                refine takeW (i := 2) (v := ?r4v2) rfl rfl (by kernel_rfl) (by kernel_rfl) (by kernel_rfl) (fun _ _ _ h => h) (by rfl) ?r4y2 hHeld ?_
                case r4y2 => (intro w hSw; (try dsimp only at hSw); go_simp <;> (try with_reducible rfl))
                (try simp only [Act.put, List.setIfInBounds_toArray, List.set_cons_zero, List.set_cons_succ])
                refine takeW (i := 3) (v := ?r4v3) rfl rfl (by kernel_rfl) (by kernel_rfl) (by kernel_rfl) (fun _ _ _ h => h) (by rfl) ?r4y3 hHeld ?_
                case r4y3 => (intro w hSw; (try dsimp only at hSw); go_simp <;> (try with_reducible rfl))
                (try simp only [Act.put, List.setIfInBounds_toArray, List.set_cons_zero, List.set_cons_succ])
                refine takeW (i := 4) (v := ?r4v4) rfl rfl (by kernel_rfl) (by kernel_rfl) (by kernel_rfl) (fun _ _ _ h => h) (by rfl) ?r4y4 hHeld ?_
                case r4y4 => (intro w hSw; (try dsimp only at hSw); go_simp <;> (try with_reducible rfl))
                (try simp only [Act.put, List.setIfInBounds_toArray, List.set_cons_zero, List.set_cons_succ])
                refine takeW (i := 5) (v := ?r4v5) rfl rfl (by kernel_rfl) (by kernel_rfl) (by kernel_rfl) (fun _ _ _ h => h) (by rfl) ?r4y5 hHeld ?_
                case r4y5 => (intro w hSw; (try dsimp only at hSw); go_simp <;> (try with_reducible rfl))
                (try simp only [Act.put, List.setIfInBounds_toArray, List.set_cons_zero, List.set_cons_succ])
                refine takeU (i := 6) rfl rfl (by kernel_rfl) (by kernel_rfl) (by kernel_rfl) (fun _ _ _ h => h) (by rfl) hHeld ?_
                (try simp only [Act.put, List.setIfInBounds_toArray, List.set_cons_zero, List.set_cons_succ])
                refine takeU (i := 7) rfl rfl (by kernel_rfl) (by kernel_rfl) (by kernel_rfl) (fun _ _ _ h => h) (by rfl) hHeld ?_
                (try simp only [Act.put, List.setIfInBounds_toArray, List.set_cons_zero, List.set_cons_succ])
                refine takeU (i := 8) rfl rfl (by kernel_rfl) (by kernel_rfl) (by kernel_rfl) (fun _ _ _ h => h) (by rfl) hHeld ?_
                (try simp only [Act.put, List.setIfInBounds_toArray, List.set_cons_zero, List.set_cons_succ])
                refine takeU (i := 9) rfl rfl (by kernel_rfl) (by kernel_rfl) (by kernel_rfl) (fun _ _ _ h => h) (by rfl) hHeld ?_
                (try simp only [Act.put, List.setIfInBounds_toArray, List.set_cons_zero, List.set_cons_succ])
                refine takeU (i := 10) rfl rfl (by kernel_rfl) (by kernel_rfl) (by kernel_rfl) (fun _ _ _ h => h) (by rfl) hHeld ?_
                (try simp only [Act.put, List.setIfInBounds_toArray, List.set_cons_zero, List.set_cons_succ])
                refine takeU (i := 11) rfl rfl (by kernel_rfl) (by kernel_rfl) (by kernel_rfl) (fun _ _ _ h => h) (by rfl) hHeld ?_
                (try simp only [Act.put, List.setIfInBounds_toArray, List.set_cons_zero, List.set_cons_succ])
                refine takeU (i := 12) rfl rfl (by kernel_rfl) (by kernel_rfl) (by kernel_rfl) (fun _ _ _ h => h) (by rfl) hHeld ?_
                (try simp only [Act.put, List.setIfInBounds_toArray, List.set_cons_zero, List.set_cons_succ])
                refine takeU (i := 13) rfl rfl (by kernel_rfl) (by kernel_rfl) (by kernel_rfl) (fun _ _ _ h => h) (by rfl) hHeld ?_
                (try simp only [Act.put, List.setIfInBounds_toArray, List.set_cons_zero, List.set_cons_succ])
                refine takeU (i := 14) rfl rfl (by kernel_rfl) (by kernel_rfl) (by kernel_rfl) (fun _ _ _ h => h) (by rfl) hHeld ?_
                (try simp only [Act.put, List.setIfInBounds_toArray, List.set_cons_zero, List.set_cons_succ])
                refine takeW (i := 15) (v := ?r4v15) rfl rfl (by kernel_rfl) (by kernel_rfl) (by kernel_rfl) (fun _ _ _ h => h) (by rfl) ?r4y15 hHeld ?_
                case r4y15 => (intro w hSw; (try dsimp only at hSw); go_simp <;> (try with_reducible rfl))
                (try simp only [Act.put, List.setIfInBounds_toArray, List.set_cons_zero, List.set_cons_succ])
                refine takeW (i := 16) (v := ?r4v16) rfl rfl (by kernel_rfl) (by kernel_rfl) (by kernel_rfl) (fun _ _ _ h => h) (by rfl) ?r4y16 hHeld ?_
                case r4y16 => (intro w hSw; (try dsimp only at hSw); go_simp <;> (try with_reducible rfl))
                (try simp only [Act.put, List.setIfInBounds_toArray, List.set_cons_zero, List.set_cons_succ])
                refine takeW (i := 17) (v := ?r4v17) rfl rfl (by kernel_rfl) (by kernel_rfl) (by kernel_rfl) (fun _ _ _ h => h) (by rfl) ?r4y17 hHeld ?_
                case r4y17 => (intro w hSw; (try dsimp only at hSw); go_simp <;> (try with_reducible rfl))
                (try simp only [Act.put, List.setIfInBounds_toArray, List.set_cons_zero, List.set_cons_succ])
                refine takeW (i := 18) (v := ?r4v18) rfl rfl (by kernel_rfl) (by kernel_rfl) (by kernel_rfl) (fun _ _ _ h => h) (by rfl) ?r4y18 hHeld ?_
                case r4y18 => (intro w hSw; (try dsimp only at hSw); go_simp <;> (try with_reducible rfl))
                (try simp only [Act.put, List.setIfInBounds_toArray, List.set_cons_zero, List.set_cons_succ])
                refine takeW (i := 19) (v := ?r4v19) rfl rfl (by kernel_rfl) (by kernel_rfl) (by kernel_rfl) (fun _ _ _ h => h) (by rfl) ?r4y19 hHeld ?_
                case r4y19 => (intro w hSw; (try dsimp only at hSw); go_simp <;> (try with_reducible rfl))
                (try simp only [Act.put, List.setIfInBounds_toArray, List.set_cons_zero, List.set_cons_succ])
                refine takeW (i := 20) (v := ?r4v20) rfl rfl (by kernel_rfl) (by kernel_rfl) (by kernel_rfl) (fun _ _ _ h => h) (by rfl) ?r4y20 hHeld ?_
                case r4y20 => (intro w hSw; (try dsimp only at hSw); go_simp <;> (try with_reducible rfl))
                (try simp only [Act.put, List.setIfInBounds_toArray, List.set_cons_zero, List.set_cons_succ])
                refine takeW (i := 21) (v := ?r4v21) rfl rfl (by kernel_rfl) (by kernel_rfl) (by kernel_rfl) (fun _ _ _ h => h) (by rfl) ?r4y21 hHeld ?_
                case r4y21 => (intro w hSw; (try dsimp only at hSw); go_simp <;> (try with_reducible rfl))
                (try simp only [Act.put, List.setIfInBounds_toArray, List.set_cons_zero, List.set_cons_succ])
                refine takeW (i := 22) (v := ?r4v22) rfl rfl (by kernel_rfl) (by kernel_rfl) (by kernel_rfl) (fun _ _ _ h => h) (by rfl) ?r4y22 hHeld ?_
                case r4y22 => (intro w hSw; (try dsimp only at hSw); go_simp <;> (try with_reducible rfl))
                (try simp only [Act.put, List.setIfInBounds_toArray, List.set_cons_zero, List.set_cons_succ])
                refine takeW (i := 23) (v := ?r4v23) rfl rfl (by kernel_rfl) (by kernel_rfl) (by kernel_rfl) (fun _ _ _ h => h) (by rfl) ?r4y23 hHeld ?_
                case r4y23 => (intro w hSw; (try dsimp only at hSw); go_simp <;> (try with_reducible rfl))
                (try simp only [Act.put, List.setIfInBounds_toArray, List.set_cons_zero, List.set_cons_succ])
                refine takeW (i := 24) (v := ?r4v24) rfl rfl (by kernel_rfl) (by kernel_rfl) (by kernel_rfl) (fun _ _ _ h => h) (by rfl) ?r4y24 hHeld ?_
                case r4y24 => (intro w hSw; (try dsimp only at hSw); go_simp <;> (try with_reducible rfl))
                (try simp only [Act.put, List.setIfInBounds_toArray, List.set_cons_zero, List.set_cons_succ])
                refine takeW (i := 26) (v := ?r4v26) rfl rfl (by kernel_rfl) (by kernel_rfl) (by kernel_rfl) (fun _ _ _ h => h) (by rfl) ?r4y26 hHeld ?_
                case r4y26 => (intro w hSw; (try dsimp only at hSw); go_simp <;> (try with_reducible rfl))
                (try simp only [Act.put, List.setIfInBounds_toArray, List.set_cons_zero, List.set_cons_succ])
                refine callC (i := 25) rfl (by kernel_rfl) (by rfl) (fun K hK => ?_)
                clear hHeld
                (go_wp2_with ((go_at_call 10; ((refine (HCL.out).mono ?_); rintro e w5 ⟨rfl, hw5⟩; obtain ⟨z0, z1, z2⟩ := HG.out _ hw5.below; have HS7 := Aside0.mk hw5; clear hw5))))
                refine hK.out _ _ ?r4k25 (fun hHeld => ?_)
                case r4k25 => (exact ⟨z0, z1, z2⟩)
                clear hK K
                (try simp only [Act.put, List.setIfInBounds_toArray, List.set_cons_zero, List.set_cons_succ])
                refine takeW (i := 27) (v := ?r4v27) rfl rfl (by kernel_rfl) (by kernel_rfl) (by kernel_rfl) (fun _ _ _ h => h) (by rfl) ?r4y27 hHeld ?_
                case r4y27 => (intro w hSw; (try dsimp only at hSw); go_simp <;> (try with_reducible rfl))
                (try simp only [Act.put, List.setIfInBounds_toArray, List.set_cons_zero, List.set_cons_succ])
                refine takeW (i := 28) (v := ?r4v28) rfl rfl (by kernel_rfl) (by kernel_rfl) (by kernel_rfl) (fun _ _ _ h => h) (by rfl) ?r4y28 hHeld ?_
                case r4y28 => (intro w hSw; (try dsimp only at hSw); go_simp <;> (try with_reducible rfl))
                (try simp only [Act.put, List.setIfInBounds_toArray, List.set_cons_zero, List.set_cons_succ])
                refine takeW (i := 29) (v := ?r4v29) rfl rfl (by kernel_rfl) (by kernel_rfl) (by kernel_rfl) (fun _ _ _ h => h) (by rfl) ?r4y29 hHeld ?_
                case r4y29 => (intro w hSw; (try dsimp only at hSw); go_simp <;> (try with_reducible rfl))
                (try simp only [Act.put, List.setIfInBounds_toArray, List.set_cons_zero, List.set_cons_succ])
                refine wpAnyH_done (by kernel_rfl) ?_ _
                go_wp2
                go_roundg k1
                case measure => have := HK2.out; omega
                case rel => exact ⟨k + 1, rfl, ⟨by have := HK2.out; omega⟩, ⟨by omega⟩, ⟨by rw [HZ.out]; exact HS7.out⟩⟩
          · have hdr : (l0.take 40).drop k = [] := List.drop_eq_nil_of_le (by rw [List.length_take]; omega)
            have hw := HW.out
            rw [hdr, show enc [] = [] from rfl] at hw
            have hI := int.calls gr w.heap.size [] 0 [] w wr hw
            simp only [intB_nil] at hI
            have HIC := Aside0.mk hI
            have HWE := Aside0.mk hw
            clear hdr hw hI HW
            by_cases hp : k < l0.length
            · have e1 : decide ((k : Int) < (l0.length : Int)) = true := decide_eq_true (by omega)
              have hq : ¬ k < 40 := fun h => hil ⟨hp, h⟩
              have e2 : decide ((k : Int) < 40) = false := decide_eq_false (by omega)
              clear hil
              go_wp2_with (first | (go_at_call 13; ((refine (errH.calls gr w.heap.size [] 0 [] w _ HWE.out).mono ?_); rintro e w9 ⟨rfl, ew_⟩; subst w9)) | (go_at_call 19; ((refine (left.calls gr w.heap.size [] 0 [] w _ HWE.out).mono ?_); rintro e w9 ⟨rfl, ew_⟩; subst w9)) | (go_at_call 10; ((refine (HIC.out).mono ?_); rintro e w9 ⟨rfl, hw9⟩; have HS9 := Aside0.mk hw9; clear hw9)) | (go_at_call 13; ((refine (errH.calls gr w.heap.size [] 5 [] w _ HS9.out).mono ?_); rintro e w10 ⟨rfl, ew_⟩; subst w10)))
              go_ret
              exact ⟨rfl, HS9.out.below⟩
            · have e1 : decide ((k : Int) < (l0.length : Int)) = false := decide_eq_false (by omega)
              clear hil
              go_wp2_with (first | (go_at_call 13; ((refine (errH.calls gr w.heap.size [] 0 [] w _ HWE.out).mono ?_); rintro e w9 ⟨rfl, ew_⟩; subst w9)) | (go_at_call 19; ((refine (left.calls gr w.heap.size [] 0 [] w _ HWE.out).mono ?_); rintro e w9 ⟨rfl, ew_⟩; subst w9)) | (go_at_call 10; ((refine (HIC.out).mono ?_); rintro e w9 ⟨rfl, hw9⟩; have HS9 := Aside0.mk hw9; clear hw9)) | (go_at_call 13; ((refine (errH.calls gr w.heap.size [] 5 [] w _ HS9.out).mono ?_); rintro e w10 ⟨rfl, ew_⟩; subst w10)))
              go_ret
              exact ⟨rfl, HS9.out.below⟩
end Go.Proofs.Ytoibgnhfpcaejaa.PBytesWrite
