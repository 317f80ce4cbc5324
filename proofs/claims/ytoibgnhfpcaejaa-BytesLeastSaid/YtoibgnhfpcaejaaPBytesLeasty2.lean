/- What the law BytesLeast comes to: true for every number. No condition. -/
import Derived.Test.YtoibgnhfpcaejaaPBytesLeastz1
import Derived.Test.YtoibgnhfpcaejaaBytesP
import Derived.Laws.BitsAllLaws
namespace Go.Proofs.Ytoibgnhfpcaejaa.PBytesLeast
open Go.RowKit Go.Proofs.YtoibgnhfpcaejaaW.PrintWords Go.Proofs.YtoibgnhfpcaejaaW.PrintLast Go.Proofs.YtoibgnhfpcaejaaW.PrintMore Go.Proofs.Ytoibgnhfpcaejaa.BytesW
attribute [local go_sem] max2_int min2_int max_two min_two max_three min_three max_four min_four   -- for this text's walks alone
set_option linter.unusedVariables false
set_option linter.unusedSimpArgs false
theorem uw64 (i : Int) : IntKind.u64.wrap i = i % 18446744073709551616 := by simp [IntKind.wrap, IntKind.signed, IntKind.bits]
theorem rput_l0 : ∀ (k u : Nat) (b : List Int), u < 128 ^ k → u < 18446744073709551616 → b.length + k ≤ 1000 → joustref12_Put.l0 (k + 1) (u : Int) b = some (b ++ digs u) := by
  intro k
  induction k with
  | zero =>
    intro u b hu hu2 hb
    have h0 : u = 0 := by simpa using hu
    subst h0
    simp only [joustref12_Put.l0]
    rw [if_neg (by decide), if_pos (by omega), digs_lt (by decide)]
    rfl
  | succ k ih =>
    intro u b hu hu2 hb
    obtain ⟨K, hK⟩ : ∃ K, K = k + 1 := ⟨_, rfl⟩
    rw [← hK]
    simp only [joustref12_Put.l0]
    by_cases h : u < 128
    · rw [if_neg (by omega), if_pos (by omega), digs_lt h, show (u : Int) % 256 = u from by omega]
    · have h1 : IntKind.u64.wrap (Int.tdiv (u : Int) 128) = ((u / 128 : Nat) : Int) := by
        rw [uw64, Int.tdiv_eq_ediv_of_nonneg (by omega)]
        omega
      have h2 : (IntKind.u64.wrap (Int.tmod (u : Int) 128 + 128)) % 256 = ((u % 128 + 128 : Nat) : Int) := by
        rw [uw64, Int.tmod_eq_emod_of_nonneg (by omega)]
        have e1 : (u : Int) % 128 = ((u % 128 : Nat) : Int) := by omega
        have e2 : u % 128 < 128 := Nat.mod_lt _ (by decide)
        rw [e1]
        generalize u % 128 = t at e2
        omega
      rw [if_pos (by omega), if_pos (by omega), h1, h2]
      have hk : u / 128 < 128 ^ k := Nat.div_lt_of_lt_mul (by rw [Nat.mul_comm]; rw [Nat.pow_succ] at hu; exact hu)
      have := ih (u / 128) (b ++ [((u % 128 + 128 : Nat) : Int)]) hk (by omega) (by simp; omega)
      rw [hK, this, digs_ge (show 128 ≤ u by omega), List.append_assoc]
      rfl
theorem rput_eq {x : Int} (hx : -9223372036854775808 ≤ x ∧ x ≤ 9223372036854775807) : joustref12_Put.f 12 [] x = some (numB x) := by
  have hy : mx (-4611686018427387904) (mn x 4611686018427387903) = heldV x := by unfold heldV mx mn; repeat' split; all_goals omega
  have hb : -4611686018427387904 ≤ heldV x ∧ heldV x ≤ 4611686018427387903 := by rw [← hy]; unfold mx mn; repeat' split; all_goals omega
  unfold joustref12_Put.f numB
  rw [hy]
  generalize heldV x = y at *
  have hz : zig y < 9223372036854775808 := by unfold zig; split <;> omega
  have key : ∀ z : Int, z = (zig y : Int) → joustref12_Put.j0 12 [] z = some (digs (zig y)) := by
    intro z hz2
    rw [hz2]
    simp only [joustref12_Put.j0]
    rw [if_pos (by decide)]
    have := rput_l0 10 (zig y) [] (Nat.lt_of_lt_of_le hz (by decide)) (by omega) (by decide)
    exact this
  by_cases h : y < 0
  · rw [if_pos h]
    apply key
    rw [uw64, uw64, uw64]
    unfold zig
    rw [if_pos h]
    omega
  · rw [if_neg h]
    apply key
    rw [uw64, uw64]
    unfold zig
    rw [if_neg h]
    omega
theorem last_cell {W : World} {base : Nat} {ok : Nat → Prop} {v : Value} {B : List Int} {n : Nat} {last : Int} (ho : Kd.R (Kd.int .u8) 5 W base ok v B) (hn : B.length = n + 1) (hl : n < B.length) (hla : B[n] = last) :
    ∃ q c, v = .slice (some ⟨q, 0, none⟩) (n + 1) c ∧ base ≤ q ∧ q < W.heap.size ∧ W.cell? ⟨q, n, none⟩ = some (.int .u8 last) ∧ W.frozen? ⟨q, n, none⟩ = false ∧ Kd.R (Kd.int .u8) 5 (W.setCell ⟨q, n, none⟩ (.int .u8 (Go.bits .or .u8 last 128))) base ok (.slice (some ⟨q, 0, none⟩) (n + 1) c) (B.set n (Go.bits .or .u8 last 128)) := by
  obtain ⟨q, c, rfl, hqb, hql, cells, hcells⟩ := Kd.R_form ho (by omega)
  rw [hn] at ho ⊢
  have x0 := Kd.R_celln 0 ho (n : Int) (by omega) (by omega)
  rw [Int.toNat_natCast] at x0
  have y0 := (Kd.R_putg ho (n : Int) (Go.bits .or .u8 last 128)).1
  rw [Int.toNat_natCast] at y0
  refine ⟨q, c, rfl, hqb, hql, ?_, x0.2, y0⟩
  rw [x0.1]
  simp [rdOf, List.getD_eq_getElem?_getD, hl, hla]
theorem readN.calls (A : Option Addr) (c : Nat) (l : List Int) (N : Nat) (w : World) (hN : l.length = N) (hC : Kd.C (Kd.int .u8) w A l.length l) (hc : N ≤ c) (hl : N < 140737488355328) :
    Calls Try.prog 9 #[.slice A N c] w fun e w' => ∃ g A1 c1, e = .returned (.pointer (some ⟨g, 0, none⟩)) ∧ w.heap.size ≤ g ∧ w'.heap[g]? = some (.cells #[.slice A1 N c1, .int .i64 0] 56 (0, 0)) ∧ Kd.R (Kd.int .u8) 5 w' w.heap.size (fun k => k ≠ g) (.slice A1 N c1) l ∧ Below w.heap.size w w' := by
  subst hN
  exact read.calls A c l w hC hc hl
theorem intFormN.calls (g base d : Nat) (A1 : Option Addr) (c1 : Nat) (l : List Int) (N : Nat) (w0 w : World) (hN : l.length = N) (hl : N = d + 1) (hd : 0 < d) (hl2 : N ≤ 1000) (hbig : ∀ j (h : j < l.length), j < d → 128 ≤ l[j]) (hlast : ∀ (h : d < l.length), l[d] = 0)
    (bk : w.heap[g]? = some (.cells #[.slice A1 N c1, .int .i64 0] 56 (0, 0))) (ho : Kd.R (Kd.int .u8) 5 w base (fun k => k ≠ g) (.slice A1 N c1) l) (hg : base ≤ g) (hB : Below base w0 w) :
    Calls Try.prog 10 #[.pointer (some ⟨g, 0, none⟩)] w fun e w' => e = .returned (.int .i64 0) ∧ w'.heap[g]? = some (.cells #[.slice none 0 0, .int .i64 4] 56 (0, 0)) ∧ Below base w0 w' ∧ (∀ k, k ≠ g → w'.heap[k]? = w.heap[k]?) ∧ w'.heap.size = w.heap.size := by
  subst hN
  exact intForm.calls g base d A1 c1 l w0 w hl hd hl2 hbig hlast bk ho hg hB
theorem new2 (W : World) (o1 o2 : Obj) : ((W.alloc o1).alloc o2).heap[W.heap.size + 1]? = some o2 := by
  have := heap_alloc_new (W.alloc o1) o2
  simpa using this
theorem new3 (W : World) (o1 o2 o3 : Obj) : (((W.alloc o1).alloc o2).alloc o3).heap[W.heap.size + 1 + 1]? = some o3 := by
  have := heap_alloc_new ((W.alloc o1).alloc o2) o3
  simpa using this
theorem size_put (W : World) (p : Addr) (u : Value) : (W.setCell p u).heap.size = W.heap.size := by simp [World.setCell]
theorem row_kept {W w1 : World} {g base : Nat} {v v1 vv : Value} {l : List Int} {ok : Nat → Prop} {cs : Array Value} (F : Fr W w1 g v v1) (hv : v.ownBlock = none) (bk : W.heap[g]? = some (.cells cs 28 (0, 0))) (h : Kd.R (Kd.int .u8) 5 W base ok vv l) : Kd.R (Kd.int .u8) 5 w1 base ok vv l := by
  refine Kd.R_mono (Kd.R_move (Kd.R_bound h) (fun k hk => ?_)) (fun k hk => hk.1)
  obtain ⟨_, _, hlt, q, hq, cells, hc⟩ := hk
  have hq5 : q = 5 := by simpa [Kd.E, Kd.int, Kd.scalar] using hq
  subst hq5
  exact F.block k hlt (blk_ne hc bk (by decide)) (by rw [hv]; exact fun e => by cases e)
def joustlaw11_BytesLeast.f (a0 : Int) : Option (Bool) := if -9223372036854775808 ≤ a0 ∧ a0 ≤ 9223372036854775807 then some true else none
set_option maxHeartbeats 8000000 in
set_option maxRecDepth 100000 in
theorem joustlaw11_BytesLeast.calls (a0 : Int) (r : Bool) (w : World) (hr_ : Aside0 (r = true)) (h : joustlaw11_BytesLeast.f a0 = some r) :
    Calls Try.prog 3 #[.int .i64 a0] w fun e w' => e = .returned (.bool r) ∧ Below w.heap.size w w' := by
  obtain rfl := hr_.out
  have hx : -9223372036854775808 ≤ a0 ∧ a0 ≤ 9223372036854775807 := by
    unfold joustlaw11_BytesLeast.f at h
    by_cases hc : -9223372036854775808 ≤ a0 ∧ a0 ≤ 9223372036854775807
    · exact hc
    · rw [if_neg hc] at h; cases h
  clear h hr_
  have hP := rput_eq hx
  have hx2 : -9223372036854775808 ≤ Int.tdiv a0 2 ∧ Int.tdiv a0 2 ≤ 9223372036854775807 := by
    rw [Int.tdiv_eq_ediv, show Int.sign 2 = 1 from rfl]
    split <;> omega
  have hz9 : zig (heldV a0) < 9223372036854775808 := by
    unfold heldV mn mx zig
    repeat' split
    all_goals omega
  have hlen9 : (numB a0).length ≤ 9 := digs_len 8 _ (Nat.lt_of_lt_of_le hz9 (by decide))
  have hlenp : 0 < (numB a0).length := digs_pos _
  have hhalf : (numB (Int.tdiv a0 2)).length ≤ (numB a0).length := digs_mono (zig (heldV a0) + 1) _ _ (Nat.lt_succ_self _) (zig_half hx)
  obtain ⟨hd1, hd2⟩ := digs_form (zig (heldV a0) + 1) (zig (heldV a0)) (Nat.lt_succ_self _)
  change (∀ j (h : j < (numB a0).length), j + 1 < (numB a0).length → 128 ≤ (numB a0)[j] ∧ (numB a0)[j] < 256) at hd1
  change (∀ j (h : j < (numB a0).length), j + 1 = (numB a0).length → 0 ≤ (numB a0)[j] ∧ (numB a0)[j] < 128) at hd2
  obtain ⟨C, hC⟩ : ∃ C, numB (Int.tdiv a0 2) = C := ⟨_, rfl⟩
  obtain ⟨m, hm⟩ : ∃ m, C.length = m := ⟨_, rfl⟩
  obtain ⟨B, hB⟩ : ∃ B, numB a0 = B := ⟨_, rfl⟩
  rw [hB] at hP hlen9 hlenp hhalf hd1 hd2
  rw [hC, hm] at hhalf
  obtain ⟨n, hn⟩ : ∃ n, B.length = n + 1 := ⟨B.length - 1, by omega⟩
  have hnl : n < B.length := by omega
  have hlast := hd2 n hnl (by omega)
  obtain ⟨last, hla⟩ : ∃ last, B[n] = last := ⟨_, rfl⟩
  rw [hla] at hlast
  obtain ⟨X, hX⟩ : ∃ X, Go.bits .or .u8 last 128 = X := ⟨_, rfl⟩
  have hXb : 128 ≤ X := by
    rw [← hX, Go.u8_or _ _ (by omega) (by omega) (by omega) (by omega)]
    have h_ : (128 : Nat) ≤ last.toNat ||| 128 := Nat.right_le_or
    exact Int.ofNat_le.2 h_
  have hl3 : (B.set n X ++ [0]).length = n + 2 := by simp [hn]
  have hbig : ∀ j (h : j < (B.set n X ++ [0]).length), j < n + 1 → 128 ≤ (B.set n X ++ [0])[j] := by
    intro j h hj
    rw [List.getElem_append_left (by simp; omega), List.getElem_set]
    split
    · exact hXb
    · exact (hd1 j (by omega) (by omega)).1
  have hzero : ∀ (h : n + 1 < (B.set n X ++ [0]).length), (B.set n X ++ [0])[n + 1] = 0 := by
    intro h
    rw [List.getElem_append_right (by simp; omega)]
    simp [hn]
  have q1 : decide ((m : Int) ≤ (n : Int) + 1) = true := decide_eq_true (by omega)
  have q2 : decide ((n : Int) + 1 ≤ 9) = true := decide_eq_true (by omega)
  have xw : wrap64 (n : Int) = (n : Int) := by unfold wrap64; omega
  have xh : wrap64 (Int.tdiv a0 2) = Int.tdiv a0 2 := by
    generalize Int.tdiv a0 2 = z at hx2
    unfold wrap64; omega
  have HD := Aside0.mk (And.intro hbig hzero)
  have HL := Aside0.mk (And.intro hlast hXb)
  have HN := Aside0.mk (And.intro hlen9 (And.intro hlenp (And.intro hhalf hnl)))
  have HX := Aside0.mk (And.intro hx (And.intro hx2 hz9))
  have LC := Aside0.mk (fun {W : World} {base : Nat} {v : Value} (ho : Kd.R (Kd.int .u8) 5 W base (fun _ => True) v B) => last_cell ho hn hnl hla)
  replace hP := Aside0.mk hP
  clear hd1 hd2 hbig hzero hlast hXb hlen9 hlenp hhalf hx hx2 hz9 hla hnl
  go_enter Try.func3, Try.ntmps3
  go_wp2_with (first | (go_at_call 8; ((refine (joustref12_Put.calls 12 none 0 [] a0 B _ (Kd.C_nil _ _) (Nat.le_refl _) hP.out).mono ?_); rintro e w1 ⟨vb, rfl, hob, hb1⟩; obtain ⟨Ab, cb, eb⟩ := Kd.R_slice hob; subst eb)) | ((with_reducible refine gate_builtin (b := .append) (xs := #[.const (.slice none 0 0), .tmp 11]) rfl ?_); (at_builtin; refine Kd.R_append_rows (Kd.int .u8) (w0 := w) w.heap.size rfl (.const (.slice none 0 0)) (.tmp 11) 22 5 (.int .u8 0) 1 rfl Try.underlying22 info5 rfl (by decide) (by omega) (.slice none 0 0) ([] : List Int) B _ _ _ (fun _ => True) (fun _ => False) rfl rfl ?aO ?aR (fun _ _ h => h) (fun _ h => h.elim) ?aF ?aB ?aS ?aL ?_; (case aR => have hz_ := (Kd.R_reads' hob).2.2; rw [hn] at hz_; exact hz_); (case aB => exact hb1); (case aF => exact fun _ _ => trivial); (case aO => exact Kd.R_nil _ _ _ _ _); (case aS => exact hb1.size); (case aL => have := HN.out; simp; omega); intro vl w2 hol hb2 hg2 hat2; rw [List.nil_append] at hol; obtain ⟨ql, cl, el, hqb, hql, xc, xf, ho3⟩ := LC.out hol; subst el; rw [hX] at ho3; replace ho3 := Aside0.mk ho3; have hb3 := Aside0.mk (show Below w.heap.size w (w2.setCell ⟨ql, n, none⟩ (.int .u8 X)) from hb2.setCell hqb _); replace hb2 := Aside0.mk hb2; replace hol := Aside0.mk hol; replace hqb := Aside0.mk hqb; replace hql := Aside0.mk hql; clear hat2 hg2)) | ((with_reducible refine gate_builtin (b := .append) (xs := #[.tmp 25, .tmp 26]) rfl ?_); (at_builtin; refine Kd.R_append (Kd.int .u8) (w0 := w) w.heap.size rfl (.tmp 25) (.tmp 26) 22 5 (.int .u8 0) 1 rfl Try.underlying22 info5 rfl (by decide) (by omega) (.slice (some ⟨ql, 0, none⟩) (n + 1) cl) (B.set n X) 0 [.int .u8 0] (fun _ => True) (fun _ => False) rfl ?aX ?aP (fun _ hk => hk.elim) ?aF ho3.out hb3.out hb3.out.size ?aL ?_; (case aX => rw [size_put]; rfl); (case aP => exact rfl); (case aF => exact fun _ _ => trivial); (case aL => have := HN.out; simp; omega); intro v4 w4 ho4 hb4 hg4 hat4; obtain ⟨A4, c4, e4⟩ := Kd.R_slice ho4; subst e4; rw [hl3] at ho4; replace ho4 := Aside0.mk ho4; replace hb4 := Aside0.mk hb4; clear hg4 hat4)) | (go_at_call 9; ((refine (readN.calls A4 c4 (B.set n X ++ [0]) (n + 2) w4 hl3 (Kd.R_reads' ho4.out).2.2 (Kd.R_reads' ho4.out).2.1 (by have := HN.out; omega)).mono ?_); rintro e w5 ⟨gr, A5, c5, rfl, hgr, bk5, ho5, hb5⟩; have hb5_ : Below w.heap.size w w5 := Below.trans hb4.out (Below.mono hb5 hb4.out.size); have gr1 : w.heap.size ≤ gr := Nat.le_trans hb4.out.size hgr; replace bk5 := Aside0.mk bk5; replace ho5 := Aside0.mk ho5; replace hb5_ := Aside0.mk hb5_; replace gr1 := Aside0.mk gr1; clear hb5 hgr)) | (go_at_call 10; ((refine (intFormN.calls gr w.heap.size (n + 1) A5 c5 (B.set n X ++ [0]) (n + 2) w w5 hl3 rfl (Nat.succ_pos _) (by have := HN.out; omega) HD.out.1 HD.out.2 bk5.out (Kd.R_lower ho5.out hb4.out.size) gr1.out hb5_.out).mono ?_); rintro e w6 ⟨rfl, bk6, hb6, hk6, hs6⟩; have H7 : (((w6.alloc (.cells #[.slice none 0 0] 28)).alloc (.cells #[.slice none 0 0] 28)).alloc (.cells #[.int .i64 a0] 3)).heap[w6.heap.size]? = some (.cells #[.slice none 0 0] 28 (0, 0)) := blk_alloc (blk_alloc (heap_alloc_new w6 _) _) _; have H8 : (((w6.alloc (.cells #[.slice none 0 0] 28)).alloc (.cells #[.slice none 0 0] 28)).alloc (.cells #[.int .i64 a0] 3)).heap[w6.heap.size + 1]? = some (.cells #[.slice none 0 0] 28 (0, 0)) := blk_alloc (new2 w6 _ _) _; have HQ : (((w6.alloc (.cells #[.slice none 0 0] 28)).alloc (.cells #[.slice none 0 0] 28)).alloc (.cells #[.int .i64 a0] 3)).heap[w6.heap.size + 1 + 1]? = some (.cells #[.int .i64 a0] 3 (0, 0)) := new3 w6 _ _ _; have HR : (((w6.alloc (.cells #[.slice none 0 0] 28)).alloc (.cells #[.slice none 0 0] 28)).alloc (.cells #[.int .i64 a0] 3)).heap[gr]? = some (.cells #[.slice none 0 0, .int .i64 4] 56 (0, 0)) := blk_alloc (blk_alloc (blk_alloc bk6 _) _) _; have HB7 : Below w.heap.size w (((w6.alloc (.cells #[.slice none 0 0] 28)).alloc (.cells #[.slice none 0 0] 28)).alloc (.cells #[.int .i64 a0] 3)) := below_alloc (below_alloc (below_alloc hb6 _) _) _; clear hs6; replace H7 := Aside0.mk H7; replace H8 := Aside0.mk H8; replace HQ := Aside0.mk HQ; replace HR := Aside0.mk HR; replace HB7 := Aside0.mk HB7; replace hb6 := Aside0.mk hb6; clear bk6 hk6)) | (go_at_call 11; ((refine (put1.calls (w6.heap.size + 1) w.heap.size w7.heap.size (.slice none 0 0) [] (Int.tdiv a0 2) w (w7.alloc (.cells #[.int .i64 (Int.tdiv a0 2)] 3)) HX.out.2.1 (by simp) (Nat.le_succ_of_le hb6.out.size) (Nat.le_trans hb7.out.size (World.grownBy_alloc w7 _ none).size) H8b.out (Kd.R_nil _ _ _ _ _) (below_alloc hb7.out _) (heap_alloc_new w7 _)).mono ?_); rintro e w8 ⟨rfl, v8, bk8, ho8, hb8, hf8⟩; have ho7b := Aside0.mk (row_kept hf8 rfl H8b.out (Kd.R_alloc ho7.out _)); have bk7b := Aside0.mk ((hf8.block w6.heap.size (own_in (blk_alloc bk7.out _)) (Nat.ne_of_lt (Nat.lt_succ_self _)) (fun e => by cases e)).trans (blk_alloc bk7.out _)); have HRc := Aside0.mk ((hf8.block gr (own_in (blk_alloc HRb.out _)) (blk_ne (blk_alloc HRb.out _) H8b.out (by decide)) (fun e => by cases e)).trans (blk_alloc HRb.out _)); rw [List.nil_append, hC] at ho8; replace bk8 := Aside0.mk bk8; replace ho8 := Aside0.mk ho8; replace hb8 := Aside0.mk hb8; clear hf8)) | (go_at_call 11; ((refine (put1.calls w6.heap.size w.heap.size (w6.heap.size + 1 + 1) (.slice none 0 0) [] a0 w (((w6.alloc (.cells #[.slice none 0 0] 28)).alloc (.cells #[.slice none 0 0] 28)).alloc (.cells #[.int .i64 a0] 3)) HX.out.1 (by simp) hb6.out.size HB7.out.size H7.out (Kd.R_nil _ _ _ _ _) HB7.out HQ.out).mono ?_); rintro e w7 ⟨rfl, v7, bk7, ho7, hb7, hf7⟩; have H8b : (w7.alloc (.cells #[.int .i64 (Int.tdiv a0 2)] 3)).heap[w6.heap.size + 1]? = some (.cells #[.slice none 0 0] 28 (0, 0)) := blk_alloc ((hf7.block (w6.heap.size + 1) (own_in H8.out) (Nat.succ_ne_self _) (fun e => by cases e)).trans H8.out) _; have HRb := Aside0.mk ((hf7.block gr (own_in HR.out) (blk_ne HR.out H7.out (by decide)) (fun e => by cases e)).trans HR.out); rw [List.nil_append, hB] at ho7; replace bk7 := Aside0.mk bk7; replace ho7 := Aside0.mk ho7; replace hb7 := Aside0.mk hb7; replace H8b := Aside0.mk H8b; clear hf7)) | (go_at_call 12; ((refine (awake.calls w8).mono ?_); rintro e w9 ⟨rfl, hb9⟩; have bk7c := Aside0.mk (blk_below bk7b.out hb9); have bk8c := Aside0.mk (blk_below bk8.out hb9); have HRd := Aside0.mk (blk_below HRc.out hb9); have ho7c := Aside0.mk (Kd.R_below ho7b.out hb9); have ho8c := Aside0.mk (Kd.R_below ho8.out hb9); have HB9 := Aside0.mk (Below.trans hb8.out (Below.mono hb9 hb8.out.size)); clear hb9)) | (go_at_call 13; ((refine (err.calls gr (.slice none 0 0) 4 w9 HRd.out).mono ?_); rintro e w9_ ⟨rfl, ew_⟩; subst w9_)) | (go_at_call 14; ((refine (wbytes.calls w6.heap.size w.heap.size v7 B w11 bk7e.out ho7e.out (by have := HN.out; omega)).mono ?_); rintro e w12 ⟨v12, rfl, ho12, hb12⟩; obtain ⟨A12, c12, e12⟩ := Kd.R_slice ho12; subst e12; have HB12 := Aside0.mk (Below.trans HB11.out (Below.mono hb12 HB11.out.size)); clear hb12 ho12)) | (go_at_call 14; ((refine (wbytes.calls (w6.heap.size + 1) w.heap.size v8 C w10 bk8d.out ho8d.out (by have := HN.out; omega)).mono ?_); rintro e w11 ⟨v11, rfl, ho11, hb11⟩; obtain ⟨A11, c11, e11⟩ := Kd.R_slice ho11; subst e11; have bk7e := Aside0.mk (blk_below bk7d.out hb11); have ho7e := Aside0.mk (Kd.R_below ho7d.out hb11); have HB11 := Aside0.mk (Below.trans HB10.out (Below.mono hb11 HB10.out.size)); clear hb11 ho11)) | (go_at_call 14; ((refine (wbytes.calls w6.heap.size w.heap.size v7 B w9 bk7c.out ho7c.out (by have := HN.out; omega)).mono ?_); rintro e w10 ⟨v10, rfl, ho10, hb10⟩; obtain ⟨A10, c10, e10⟩ := Kd.R_slice ho10; subst e10; have bk7d := Aside0.mk (blk_below bk7c.out hb10); have bk8d := Aside0.mk (blk_below bk8c.out hb10); have ho7d := Aside0.mk (Kd.R_below ho7c.out hb10); have ho8d := Aside0.mk (Kd.R_below ho8c.out hb10); have HB10 := Aside0.mk (Below.trans HB9.out (Below.mono hb10 HB9.out.size)); clear hb10 ho10)))
  go_ret
  exact ⟨rfl, HB12.out⟩
end Go.Proofs.Ytoibgnhfpcaejaa.PBytesLeast
