/- The printed law CheckTells is true for all bytes: the sum of any bytes, in whatever parts, seals, and what any bytes open; what is handed in stays. Condition: each number is a byte. -/
import Derived.Test.YtbaboeodklgpeaaPCheckTellsy
import Derived.Test.YtbaboeodklgpeaaGdsCheckTells
import Derived.OpenShut
import Derived.Laws.BitsAllLaws
import Derived.Lib.Bytes
namespace Go.Proofs.Ytbaboeodklgpeaa.PureCheckTells
set_option linter.unusedVariables false
open Go Go.RowKit Go.Proofs.Ytbaboeodklgpeaa.PCheckTells Go.Proofs.Ytbaboeodklgpeaa.GdsCheckTells Go.Proofs.YtbaboeodklgpeaaW.PrintWords Go.Proofs.YtbaboeodklgpeaaW.PrintLast
theorem wr {i : Int} (h0 : -9223372036854775808 ≤ i) (h1 : i < 9223372036854775808) : wrap64 i = i := by unfold wrap64; omega
theorem uw (i : Int) : IntKind.u64.wrap i = i % 18446744073709551616 := by simp [IntKind.wrap, IntKind.signed, IntKind.bits]
/-- a number brought below another one, as Go's int(uint(x) % uint(m)) does it -/
theorem umod (x m : Int) (h0 : 1 ≤ m) (h1 : m ≤ 4611686018427387904) : 0 ≤ wrap64 (Int.tmod (IntKind.u64.wrap x) (IntKind.u64.wrap m)) ∧ wrap64 (Int.tmod (IntKind.u64.wrap x) (IntKind.u64.wrap m)) < m := by
  rw [uw, uw]
  have e : m % 18446744073709551616 = m := by omega
  rw [e]
  have hx : 0 ≤ x % 18446744073709551616 := by omega
  have a := Int.tmod_nonneg m hx
  have b := Int.tmod_lt_of_pos (x % 18446744073709551616) (show 0 < m by omega)
  rw [wr (by omega) (by omega)]
  exact ⟨a, b⟩
theorem umod1 (x m : Int) (h0 : 1 ≤ m) (h1 : m ≤ 4611686018427387904) : 0 ≤ wrap64 (Int.tmod (IntKind.u64.wrap x) m) ∧ wrap64 (Int.tmod (IntKind.u64.wrap x) m) < m := by
  have h := umod x m h0 h1
  rw [uw m, show m % 18446744073709551616 = m by omega] at h
  exact h

/-- bytes -/
def By (l : List Int) : Prop := ∀ x ∈ l, 0 ≤ x ∧ x < 256
theorem by_app {a b : List Int} (ha : By a) (hb : By b) : By (a ++ b) := fun x hx => (List.mem_append.1 hx).elim (ha x) (hb x)
theorem by_drop {a : List Int} (n : Nat) (ha : By a) : By (a.drop n) := fun x hx => ha x (List.mem_of_mem_drop hx)
theorem by_take {a : List Int} (n : Nat) (ha : By a) : By (a.take n) := fun x hx => ha x (List.mem_of_mem_take hx)
theorem strs_eq {a b : List Int} (ha : By a) (hb : By b) : ((strOfNums a).toList = (strOfNums b).toList) ↔ a = b := by
  constructor
  · intro h
    rw [Lib.strOfNums_toList, Lib.strOfNums_toList] at h
    unfold Lib.bytesOf at h
    induction a generalizing b with
    | nil => cases b with
      | nil => rfl
      | cons y b => simp at h
    | cons x a ih => cases b with
      | nil => simp at h
      | cons y b =>
        simp only [List.map_cons, List.cons.injEq] at h
        have h1 := ha x List.mem_cons_self
        have h2 := hb y List.mem_cons_self
        have e := congrArg UInt8.toNat h.1
        have e2 : x.toNat % 256 = y.toNat % 256 := by simpa using e
        have e3 : x = y := by omega
        rw [e3, ih (fun z hz => ha z (List.mem_cons_of_mem _ hz)) (fun z hz => hb z (List.mem_cons_of_mem _ hz)) h.2]
  · intro h; rw [h]
theorem equal_eq {a b : List Int} (ha : By a) (hb : By b) : bytes_Equal.f a b = some (decide (a = b)) := by
  unfold bytes_Equal.f
  congr 1
  rw [Bool.eq_iff_iff, beq_iff_eq, decide_eq_true_eq]
  exact strs_eq ha hb
theorem sbytes_eq {a b : List Int} (ha : By a) (hb : By b) : jousthelp_Bytes.f a b = some (decide (a = b)) := by
  unfold jousthelp_Bytes.f
  congr 1
  rw [Bool.eq_iff_iff, beq_iff_eq, decide_eq_true_eq]
  exact strs_eq ha hb
/-- turned by five bits -/
def rotN (h : Nat) : Nat := h % 576460752303423488 * 32 + h / 576460752303423488
/-- one byte more -/
def stepN (h c : Nat) : Nat := (rotN h ^^^ c) * 11400714819323198485 % 18446744073709551616
def sumF (h : Nat) (l : List Int) : Nat := l.foldl (fun h c => stepN h c.toNat) h
def sumN (l : List Int) : Nat := sumF 2611923443488327891 l
theorem rotN_lt {h : Nat} (hh : h < 18446744073709551616) : rotN h < 18446744073709551616 := by unfold rotN; omega
theorem stepN_lt (h c : Nat) : stepN h c < 18446744073709551616 := Nat.mod_lt _ (by decide)
theorem sumF_lt {h : Nat} (hh : h < 18446744073709551616) (l : List Int) : sumF h l < 18446744073709551616 := by
  unfold sumF
  induction l generalizing h with
  | nil => exact hh
  | cons c l ih => exact ih (stepN_lt _ _)
theorem sumN_lt (l : List Int) : sumN l < 18446744073709551616 := sumF_lt (by decide) l
theorem rotN_inj {a b : Nat} (ha : a < 18446744073709551616) (hb : b < 18446744073709551616) (h : rotN a = rotN b) : a = b := by
  unfold rotN at h
  have a1 := Nat.div_add_mod a 576460752303423488
  have b1 := Nat.div_add_mod b 576460752303423488
  have a2 : a / 576460752303423488 < 32 := Nat.div_lt_of_lt_mul (by omega)
  have b2 : b / 576460752303423488 < 32 := Nat.div_lt_of_lt_mul (by omega)
  generalize a / 576460752303423488 = qa at *
  generalize b / 576460752303423488 = qb at *
  generalize a % 576460752303423488 = ra at *
  generalize b % 576460752303423488 = rb at *
  have e1 : qa = qb := by omega
  have e2 : ra = rb := by omega
  rw [← a1, ← b1, e1, e2]
theorem mul_inj {a b : Nat} (ha : a < 18446744073709551616) (hb : b < 18446744073709551616) (h : a * 11400714819323198485 % 18446744073709551616 = b * 11400714819323198485 % 18446744073709551616) : a = b := by
  have e : ∀ x : Nat, x < 18446744073709551616 → x * 11400714819323198485 % 18446744073709551616 * 17428512612931826493 % 18446744073709551616 = x := by
    intro x hx
    rw [Nat.mod_mul_mod, Nat.mul_assoc, Nat.mul_mod, show 11400714819323198485 * 17428512612931826493 % 18446744073709551616 = 1 from by decide, Nat.mul_one, Nat.mod_mod, Nat.mod_eq_of_lt hx]
  rw [← e a ha, ← e b hb, h]
theorem xor_can {a b c : Nat} (h : a ^^^ c = b ^^^ c) : a = b := by rw [← Nat.xor_zero a, ← Nat.xor_self c, ← Nat.xor_assoc, h, Nat.xor_assoc, Nat.xor_self, Nat.xor_zero]
theorem xor_lt {a b : Nat} (ha : a < 18446744073709551616) (hb : b < 256) : a ^^^ b < 18446744073709551616 := Nat.xor_lt_two_pow (n := 64) ha (by omega)
theorem stepN_inj {a b c : Nat} (ha : a < 18446744073709551616) (hb : b < 18446744073709551616) (hc : c < 256) (h : stepN a c = stepN b c) : a = b := by
  unfold stepN at h
  have := mul_inj (xor_lt (rotN_lt ha) hc) (xor_lt (rotN_lt hb) hc) h
  exact rotN_inj ha hb (xor_can this)
theorem stepN_byte {a c d : Nat} (ha : a < 18446744073709551616) (hc : c < 256) (hd : d < 256) (h : stepN a c = stepN a d) : c = d := by
  unfold stepN at h
  have := mul_inj (xor_lt (rotN_lt ha) hc) (xor_lt (rotN_lt ha) hd) h
  rw [Nat.xor_comm, Nat.xor_comm _ d] at this
  exact xor_can this
theorem sumF_inj {a b : Nat} (ha : a < 18446744073709551616) (hb : b < 18446744073709551616) {l : List Int} (hl : By l) (h : sumF a l = sumF b l) : a = b := by
  induction l generalizing a b with
  | nil => exact h
  | cons c l ih =>
    have := ih (stepN_lt _ _) (stepN_lt _ _) (fun x hx => hl x (List.mem_cons_of_mem _ hx)) h
    have hc := hl c List.mem_cons_self
    exact stepN_inj ha hb (by omega) this
theorem sumF_app (h : Nat) (a b : List Int) : sumF h (a ++ b) = sumF (sumF h a) b := by unfold sumF; rw [List.foldl_append]
/-- one byte turned: another sum -/
theorem sumN_set {l : List Int} (hl : By l) {i : Nat} (hi : i < l.length) {v : Int} (hv : 0 ≤ v ∧ v < 256) (h : sumN (l.set i v) = sumN l) : v = l[i] := by
  have e : l = l.take i ++ l[i] :: l.drop (i + 1) := by rw [← List.drop_eq_getElem_cons hi, List.take_append_drop]
  have e2 : l.set i v = l.take i ++ v :: l.drop (i + 1) := List.set_eq_take_append_cons_drop.trans (if_pos hi)
  unfold sumN at h
  rw [e2] at h
  rw [show sumF 2611923443488327891 l = sumF 2611923443488327891 (l.take i ++ l[i] :: l.drop (i + 1)) from congrArg _ e, sumF_app, sumF_app] at h
  have hs := sumF_lt (show 2611923443488327891 < 18446744073709551616 by decide) (l.take i)
  have h2 : sumF (stepN (sumF 2611923443488327891 (l.take i)) v.toNat) (l.drop (i + 1)) = sumF (stepN (sumF 2611923443488327891 (l.take i)) l[i].toNat) (l.drop (i + 1)) := h
  have h3 := sumF_inj (stepN_lt _ _) (stepN_lt _ _) (by_drop _ hl) h2
  have hc := hl l[i] (List.getElem_mem hi)
  have := stepN_byte hs (by omega) (by omega) h3
  omega
theorem or_rot {h : Nat} (hh : h < 18446744073709551616) : Go.bits .or .u64 (IntKind.u64.wrap ((h : Int) * 32)) ((h : Int) / 576460752303423488) = ((rotN h : Nat) : Int) := by
  rw [uw]
  rw [Go.u64_or _ _ (by omega) (by omega) (by omega) (by omega)]
  congr 1
  have e1 : ((h : Int) * 32 % 18446744073709551616).toNat = (h % 576460752303423488) <<< 5 := by
    rw [Nat.shiftLeft_eq]; omega
  have e2 : ((h : Int) / 576460752303423488).toNat = h / 576460752303423488 := by omega
  rw [e1, e2, ← Nat.shiftLeft_add_eq_or_of_lt (by omega), Nat.shiftLeft_eq]
  unfold rotN; omega
theorem step_form {h : Nat} {c : Int} (hh : h < 18446744073709551616) (hc : 0 ≤ c ∧ c < 256) : IntKind.u64.wrap ((Go.bits .xor .u64 ((rotN h : Nat) : Int) (IntKind.u64.wrap c)) * 11400714819323198485) = ((stepN h c.toNat : Nat) : Int) := by
  have hr := rotN_lt hh
  rw [uw c, show c % 18446744073709551616 = c by omega, Go.u64_xor _ _ (by omega) (by omega) (by omega) (by omega), uw, Int.toNat_natCast]
  unfold stepN
  generalize rotN h ^^^ c.toNat = x
  omega
theorem rot_eq {h : Nat} (hh : h < 18446744073709551616) : bits_RotateLeft64.f (h : Int) 5 = some ((rotN h : Nat) : Int) := by
  unfold bits_RotateLeft64.f
  have e1 : Go.bits .and .u64 (IntKind.u64.wrap (5)) 63 = 5 := by decide +kernel
  have e2 : IntKind.u64.wrap (64 - 5) = 59 := by decide +kernel
  rw [e1, e2, if_pos (by decide), if_pos (by decide)]
  have e3 : shl .u64 (h : Int) 5 = IntKind.u64.wrap ((h : Int) * 32) := rfl
  have e4 : shr .u64 (h : Int) 59 = (h : Int) / 576460752303423488 := rfl
  rw [e3, e4, or_rot hh]
/-- how many rounds a list of parts takes -/
def costL (ps : List (List Int)) : Nat := (ps.map fun p => p.length + 2).sum
set_option maxHeartbeats 1000000 in
theorem csum_l1 (ps : List (List Int)) (n : Int) (j : Nat) (hj : (j : Int) + 1 < 9223372036854775808) (l : List Int) (hb : l.length < 4611686018427387904) (hl : By l) : ∀ (d k i h : Nat), i + d = l.length → h < 18446744073709551616 → check_Sum.l1 (k + d + 1) (h : Int) ps n (j : Int) l (l.length : Int) (i : Int) = check_Sum.l0 k ((sumF h (l.drop i) : Nat) : Int) ps n ((j + 1 : Nat) : Int) := by
  intro d
  induction d with
  | zero =>
    intro k i h hi hh
    simp only [check_Sum.l1]
    rw [if_neg (by omega), List.drop_of_length_le (by omega), wr (by omega) (by omega)]
    rfl
  | succ d ih =>
    intro k i h hi hh
    have h1 : i < l.length := by omega
    have hc := hl l[i] (List.getElem_mem h1)
    have e1 : rd l (i : Int) = l[i] := by simp [rd, List.getD_eq_getElem?_getD, h1]
    obtain ⟨K, hK⟩ : ∃ K, K = k + d + 1 := ⟨_, rfl⟩
    rw [show k + (d + 1) + 1 = K + 1 from by omega]
    simp only [check_Sum.l1]
    rw [if_pos (by omega), if_pos (by omega), if_pos (by omega), rot_eq hh, Option.bind_some, e1, step_form hh hc, wr (by omega) (by omega)]
    have e3 : ((i : Int) + 1) = ((i + 1 : Nat) : Int) := rfl
    rw [e3, hK, ih k (i + 1) _ (by omega) (stepN_lt _ _), List.drop_eq_getElem_cons h1]
    rfl
set_option maxHeartbeats 1000000 in
theorem csum_l0 (ps : List (List Int)) (hp : ps.length < 4611686018427387904) (hb : ∀ p ∈ ps, p.length < 4611686018427387904 ∧ By p) : ∀ (d k j h : Nat), j + d = ps.length → h < 18446744073709551616 → costL (ps.drop j) < k → check_Sum.l0 k (h : Int) ps (ps.length : Int) (j : Int) = some ((sumF h (ps.drop j).flatten : Nat) : Int) := by
  intro d
  induction d with
  | zero =>
    intro k j h hj hh hk
    obtain ⟨k, rfl⟩ : ∃ m, k = m + 1 := ⟨k - 1, by omega⟩
    simp only [check_Sum.l0]
    rw [if_neg (by omega), List.drop_of_length_le (by omega)]
    rfl
  | succ d ih =>
    intro k j h hj hh hk
    have h1 : j < ps.length := by omega
    have hp1 := hb ps[j] (List.getElem_mem h1)
    have e1 : rd_L1 ps (j : Int) = ps[j] := by simp [rd_L1, List.getD_eq_getElem?_getD, h1]
    rw [List.drop_eq_getElem_cons h1] at hk ⊢
    have hk2 : ps[j].length + 2 + costL (ps.drop (j + 1)) < k := by
      have : costL (ps[j] :: ps.drop (j + 1)) = ps[j].length + 2 + costL (ps.drop (j + 1)) := by simp only [costL, List.map_cons, List.sum_cons]
      omega
    obtain ⟨m, rfl⟩ : ∃ m, k = (m + ps[j].length + 1) + 1 := ⟨k - ps[j].length - 2, by omega⟩
    simp only [check_Sum.l0]
    rw [if_pos (by omega), if_pos (by omega), if_pos (by omega), e1]
    have hl1 := csum_l1 ps (ps.length : Int) j (by omega) ps[j] hp1.1 hp1.2 ps[j].length m 0 h (by omega) hh
    rw [show ((0 : Nat) : Int) = 0 from rfl] at hl1
    rw [hl1, List.drop_zero, ih m (j + 1) _ (by omega) (sumF_lt hh _) (by omega), List.flatten_cons, sumF_app]
theorem csum_eq {ps : List (List Int)} {k : Nat} (hp : ps.length < 4611686018427387904) (hb : ∀ p ∈ ps, p.length < 4611686018427387904 ∧ By p) (hk : costL ps < k) : check_Sum.f k ps = some ((sumN ps.flatten : Nat) : Int) := by
  unfold check_Sum.f
  have := csum_l0 ps hp hb ps.length k 0 2611923443488327891 (by omega) (by decide) (by rw [List.drop_zero]; exact hk)
  rw [List.drop_zero] at this
  exact this
theorem csum1_eq {l : List Int} {k : Nat} (hb : l.length < 4611686018427387904) (hl : By l) (hk : l.length + 2 < k) : check_Sum.f k [l] = some ((sumN l : Nat) : Int) := by
  rw [csum_eq (by simp) (fun p hp => by rw [List.mem_singleton.1 hp]; exact ⟨hb, hl⟩) (by simpa [costL] using hk), List.flatten_singleton]
set_option maxHeartbeats 1000000 in
theorem rsum_l0 (l : List Int) (hb : l.length < 4611686018427387904) (hl : By l) : ∀ (d k i h : Nat), i + d = l.length → h < 18446744073709551616 → joustref12_Sum.l0 (k + d + 1) l (h : Int) (i : Int) = some ((sumF h (l.drop i) : Nat) : Int) := by
  intro d
  induction d with
  | zero =>
    intro k i h hi hh
    simp only [joustref12_Sum.l0]
    rw [if_neg (by omega), List.drop_of_length_le (by omega)]
    rfl
  | succ d ih =>
    intro k i h hi hh
    have h1 : i < l.length := by omega
    have hc := hl l[i] (List.getElem_mem h1)
    have e1 : rd l (i : Int) = l[i] := by simp [rd, List.getD_eq_getElem?_getD, h1]
    obtain ⟨K, hK⟩ : ∃ K, K = k + d + 1 := ⟨_, rfl⟩
    rw [show k + (d + 1) + 1 = K + 1 from by omega]
    simp only [joustref12_Sum.l0]
    rw [if_pos (by omega), if_pos (by omega), e1, or_rot hh, step_form hh hc, wr (by omega) (by omega)]
    have e3 : ((i : Int) + 1) = ((i + 1 : Nat) : Int) := rfl
    rw [e3, hK, ih k (i + 1) _ (by omega) (stepN_lt _ _), List.drop_eq_getElem_cons h1]
    rfl
theorem rsum_eq {l : List Int} {k : Nat} (hb : l.length < 4611686018427387904) (hl : By l) (hk : l.length < k) : joustref12_Sum.f k l = some ((sumN l : Nat) : Int) := by
  obtain ⟨m, rfl⟩ : ∃ m, k = m + l.length + 1 := ⟨k - l.length - 1, by omega⟩
  have := rsum_l0 l hb hl l.length m 0 2611923443488327891 (by omega) (by decide)
  rw [List.drop_zero] at this
  exact this
/-- a sum in eight bytes -/
def enc (s : Nat) : List Int := [(s : Int) / 72057594037927936 % 256, (s : Int) / 281474976710656 % 256, (s : Int) / 1099511627776 % 256, (s : Int) / 4294967296 % 256, (s : Int) / 16777216 % 256, (s : Int) / 65536 % 256, (s : Int) / 256 % 256, (s : Int) / 1 % 256]
theorem enc_len (s : Nat) : (enc s).length = 8 := rfl
theorem enc_by (s : Nat) : By (enc s) := by
  intro x hx
  simp only [enc, List.mem_cons, List.not_mem_nil, or_false] at hx
  rcases hx with rfl | rfl | rfl | rfl | rfl | rfl | rfl | rfl <;> omega
theorem enc_inj {s t : Nat} (hs : s < 18446744073709551616) (ht : t < 18446744073709551616) (h : enc s = enc t) : s = t := by
  simp only [enc, List.cons.injEq, and_true] at h
  obtain ⟨h7, h6, h5, h4, h3, h2, h1, h0⟩ := h
  have a7 : (s : Int) / 72057594037927936 = (t : Int) / 72057594037927936 := by omega
  have a6 : (s : Int) / 281474976710656 = (t : Int) / 281474976710656 := by clear h5 h4 h3 h2 h1 h0; omega
  have a5 : (s : Int) / 1099511627776 = (t : Int) / 1099511627776 := by clear h7 h6 h4 h3 h2 h1 h0; omega
  have a4 : (s : Int) / 4294967296 = (t : Int) / 4294967296 := by clear h7 h6 h5 h3 h2 h1 h0; omega
  have a3 : (s : Int) / 16777216 = (t : Int) / 16777216 := by clear h7 h6 h5 h4 h2 h1 h0; omega
  have a2 : (s : Int) / 65536 = (t : Int) / 65536 := by clear h7 h6 h5 h4 h3 h1 h0; omega
  have a1 : (s : Int) / 256 = (t : Int) / 256 := by clear h7 h6 h5 h4 h3 h2 h0; omega
  omega
/-- bytes with their sum ahead -/
def sealL (l : List Int) : List Int := enc (sumN l) ++ l
theorem sealL_len (l : List Int) : (sealL l).length = l.length + 8 := by unfold sealL; rw [List.length_append, enc_len]; omega
theorem sealL_by {l : List Int} (h : By l) : By (sealL l) := by_app (enc_by _) h
theorem sealL_drop (l : List Int) : (sealL l).drop 8 = l := by unfold sealL; exact List.drop_left' (enc_len _)
theorem shr_at {n : Int} (s : Int) (m : Nat) (p : Int) (hn : n.toNat = m) (hm : m ≤ 64) (hp : (2 : Int) ^ m = p) : shr .u64 s n = s / p := by
  unfold shr
  rw [hn, show min m (IntKind.u64).bits = m from Nat.min_eq_left hm, hp]
set_option maxHeartbeats 4000000 in
theorem cseal_l0 (x0 : List Int) (s : Nat) (k : Nat) (hx : x0.length < 1000000) : check_Seal.l0 (k + 9) x0 (s : Int) [] 7 = some (enc s ++ x0) := by
  simp only [check_Seal.l0, Int.reduceMul, Int.reduceSub, Int.reduceNeg, ge_iff_le, Int.reduceLE, if_true, if_false, List.length_nil, List.length_cons, List.nil_append, List.cons_append, Nat.reduceAdd, Nat.reduceLT, (show wrap64 6 = 6 from by decide +kernel), (show wrap64 5 = 5 from by decide +kernel), (show wrap64 4 = 4 from by decide +kernel), (show wrap64 3 = 3 from by decide +kernel), (show wrap64 2 = 2 from by decide +kernel), (show wrap64 1 = 1 from by decide +kernel), (show wrap64 0 = 0 from by decide +kernel), (show wrap64 (-1) = -1 from by decide +kernel), (show wrap64 56 = 56 from by decide +kernel), (show wrap64 48 = 48 from by decide +kernel), (show wrap64 40 = 40 from by decide +kernel), (show wrap64 32 = 32 from by decide +kernel), (show wrap64 24 = 24 from by decide +kernel), (show wrap64 16 = 16 from by decide +kernel), (show wrap64 8 = 8 from by decide +kernel)]
  rw [if_pos (by omega), shr_at _ 56 72057594037927936 rfl (by decide) (by decide), shr_at _ 48 281474976710656 rfl (by decide) (by decide), shr_at _ 40 1099511627776 rfl (by decide) (by decide), shr_at _ 32 4294967296 rfl (by decide) (by decide), shr_at _ 24 16777216 rfl (by decide) (by decide), shr_at _ 16 65536 rfl (by decide) (by decide), shr_at _ 8 256 rfl (by decide) (by decide), shr_at _ 0 1 rfl (by decide) (by decide)]
  rfl
theorem cseal_eq {l : List Int} {k : Nat} (hb : l.length < 1000000) (hl : By l) (hk : l.length + 20 < k) : check_Seal.f k l = some (sealL l) := by
  unfold check_Seal.f
  rw [csum1_eq (by omega) hl (by omega), Option.bind_some]
  obtain ⟨m, rfl⟩ : ∃ m, k = m + 9 := ⟨k - 9, by omega⟩
  exact cseal_l0 l _ m hb
set_option maxHeartbeats 4000000 in
theorem rseal_l0 (x0 : List Int) (s : Nat) (k : Nat) (hx : x0.length < 1000000) : joustref12_Seal.l0 (k + 9) x0 (s : Int) [] 7 = some (enc s ++ x0) := by
  simp only [joustref12_Seal.l0, Int.reduceMul, Int.reduceSub, Int.reduceNeg, ge_iff_le, Int.reduceLE, if_true, if_false, List.length_nil, List.length_cons, List.nil_append, List.cons_append, Nat.reduceAdd, Nat.reduceLT, (show wrap64 6 = 6 from by decide +kernel), (show wrap64 5 = 5 from by decide +kernel), (show wrap64 4 = 4 from by decide +kernel), (show wrap64 3 = 3 from by decide +kernel), (show wrap64 2 = 2 from by decide +kernel), (show wrap64 1 = 1 from by decide +kernel), (show wrap64 0 = 0 from by decide +kernel), (show wrap64 (-1) = -1 from by decide +kernel), (show wrap64 56 = 56 from by decide +kernel), (show wrap64 48 = 48 from by decide +kernel), (show wrap64 40 = 40 from by decide +kernel), (show wrap64 32 = 32 from by decide +kernel), (show wrap64 24 = 24 from by decide +kernel), (show wrap64 16 = 16 from by decide +kernel), (show wrap64 8 = 8 from by decide +kernel), (show IntKind.u64.wrap 0 = 0 from by decide +kernel), (show IntKind.u64.wrap 8 = 8 from by decide +kernel), (show IntKind.u64.wrap 16 = 16 from by decide +kernel), (show IntKind.u64.wrap 24 = 24 from by decide +kernel), (show IntKind.u64.wrap 32 = 32 from by decide +kernel), (show IntKind.u64.wrap 40 = 40 from by decide +kernel), (show IntKind.u64.wrap 48 = 48 from by decide +kernel), (show IntKind.u64.wrap 56 = 56 from by decide +kernel)]
  rw [if_pos (by omega), shr_at _ 56 72057594037927936 rfl (by decide) (by decide), shr_at _ 48 281474976710656 rfl (by decide) (by decide), shr_at _ 40 1099511627776 rfl (by decide) (by decide), shr_at _ 32 4294967296 rfl (by decide) (by decide), shr_at _ 24 16777216 rfl (by decide) (by decide), shr_at _ 16 65536 rfl (by decide) (by decide), shr_at _ 8 256 rfl (by decide) (by decide), shr_at _ 0 1 rfl (by decide) (by decide)]
  rfl
theorem rseal_eq {l : List Int} {k : Nat} (hb : l.length < 1000000) (hl : By l) (hk : l.length + 20 < k) : joustref12_Seal.f k l = some (sealL l) := by
  unfold joustref12_Seal.f
  rw [rsum_eq (by omega) hl (by omega), Option.bind_some]
  obtain ⟨m, rfl⟩ : ∃ m, k = m + 9 := ⟨k - 9, by omega⟩
  exact rseal_l0 l _ m hb
/-- what opens -/
def openL (l : List Int) : List Int × Int := if l.length < 8 then ([], 5) else if l = sealL (l.drop 8) then (l.drop 8, 0) else ([], 9)
theorem clone_eq {l : List Int} (hb : l.length < 1000000) : bytes_Clone.f l = some l := by
  unfold bytes_Clone.f
  rw [Option.bind_some, if_pos (by simp; omega)]
  rfl
theorem copen_eq {l : List Int} {k : Nat} (hb : l.length < 1000000) (hl : By l) (hk : l.length + 20 < k) : check_Open.f k l = some (openL l) := by
  unfold check_Open.f openL
  by_cases h8 : l.length < 8
  · rw [if_pos (by omega), if_pos h8]
  · have hd : (l.drop 8).length = l.length - 8 := List.length_drop
    rw [if_neg (by omega), if_neg h8, if_pos (by omega), cseal_eq (by omega) (by_drop 8 hl) (by omega), Option.bind_some, equal_eq hl (sealL_by (by_drop 8 hl)), Option.bind_some]
    by_cases he : l = sealL (l.drop 8)
    · rw [decide_eq_true he, if_pos rfl, if_pos he, clone_eq (by omega), Option.bind_some]
    · rw [decide_eq_false he, if_neg (by decide), if_neg he]
theorem ropen_eq {l : List Int} {k : Nat} (hb : l.length < 1000000) (hl : By l) (hk : l.length + 20 < k) : joustref12_Open.f k l = some (openL l) := by
  unfold joustref12_Open.f openL
  by_cases h8 : l.length < 8
  · rw [if_pos (by omega), if_pos h8]
  · have hd : (l.drop 8).length = l.length - 8 := List.length_drop
    rw [if_neg (by omega), if_neg h8, if_pos (by omega), rseal_eq (by omega) (by_drop 8 hl) (by omega), Option.bind_some, sbytes_eq (sealL_by (by_drop 8 hl)) hl, Option.bind_some]
    by_cases he : l = sealL (l.drop 8)
    · rw [decide_eq_true he.symm, if_pos rfl, if_pos he, if_pos (by simp; omega)]
      rfl
    · rw [decide_eq_false (fun h => he h.symm), if_neg (by decide), if_neg he]
theorem open_seal (l : List Int) : openL (sealL l) = (l, 0) := by
  unfold openL
  rw [if_neg (by rw [sealL_len]; omega), sealL_drop, if_pos rfl]
theorem by_lit : By [1, 2] := by intro x hx; simp at hx; omega
theorem awake_eq {k : Nat} (hk : 100 ≤ k) : joustlaw13_awake.f k = some true := by
  unfold joustlaw13_awake.f
  rw [cseal_eq (by decide) by_lit (by simp; omega), Option.bind_some, copen_eq (by rw [sealL_len]; decide) (sealL_by by_lit) (by rw [sealL_len]; simp; omega), Option.bind_some, open_seal]
  simp only
  rw [if_pos trivial, sbytes_eq by_lit by_lit, Option.bind_some, decide_eq_true rfl, if_pos rfl, csum_eq (by decide) (fun p hp => by cases hp) (by simp [costL]; omega), Option.bind_some]
  rfl

theorem by_of {l : List Int} (h : ∀ y ∈ l, (Lit.int .u8 y).wf = true) : By l := fun x hx => by have := bounds_u8 (h x hx); omega
theorem open_short {l : List Int} (h : l.length < 8) : (openL l).2 = 5 := by unfold openL; rw [if_pos h]
theorem open_len {l : List Int} (h : (openL l).2 = 0) : (openL l).1.length + 8 = l.length := by
  unfold openL at *
  by_cases h8 : l.length < 8
  · rw [if_pos h8] at h; simp at h
  · rw [if_neg h8] at h ⊢
    by_cases he : l = sealL (l.drop 8)
    · rw [if_pos he]
      have hd : (l.drop 8).length = l.length - 8 := List.length_drop
      show (l.drop 8).length + 8 = l.length
      omega
    · rw [if_neg he] at h; simp at h
theorem open_by {l : List Int} (h : By l) : By (openL l).1 := by
  unfold openL
  by_cases h8 : l.length < 8
  · rw [if_pos h8]; intro x hx; cases hx
  · rw [if_neg h8]
    by_cases he : l = sealL (l.drop 8)
    · rw [if_pos he]; exact by_drop 8 h
    · rw [if_neg he]; intro x hx; cases hx

set_option maxHeartbeats 1000000 in
theorem CheckTells (a0 : (List Int)) (a1 : (List Int)) (a2 : (List Int)) (g0 : G0 a0) (g1 : G1 a1) (g2 : G2 a2) : ∃ k, joustlaw13_CheckTells.f k a0 a1 a2 = some true := by
  have hb0 := by_of g0.2
  have hb1 := by_of g1.2
  have hb2 := by_of g2.2
  obtain ⟨K, hK⟩ : ∃ K : Nat, 9000 ≤ K := ⟨9000, Nat.le_refl _⟩
  refine ⟨K + 1, ?_⟩
  have ja : joustlaw13_CheckTells.j0 (K + 1) a0 a1 a2 true = some true := by
    simp only [joustlaw13_CheckTells.j0]
    rw [if_pos trivial, awake_eq (by omega), Option.bind_some]
  unfold joustlaw13_CheckTells.f
  by_cases l0 : (a0.length : Int) > 2000
  · rw [if_pos l0]; exact ja
  · rw [if_neg l0]
    by_cases l1 : (a1.length : Int) > 2000
    · rw [if_pos l1]; exact ja
    · rw [if_neg l1]
      by_cases l2 : (a2.length : Int) > 2000
      · rw [decide_eq_true l2]; exact ja
      · rw [decide_eq_false l2]
        have hown : jousthelp_Own_byte.f a2 71 = some (a2 ++ [71, 71, 71]) := by unfold jousthelp_Own_byte.f; rw [if_pos (by omega)]
        have htk : (a2 ++ [71, 71, 71]).take ((a2.length : Int) : Int).toNat = a2 := by rw [Int.toNat_natCast]; exact List.take_left' rfl
        have hll : (a2 ++ [71, 71, 71]).length = a2.length + 3 := by simp
        have hkept : jousthelp_Kept_byte.f (a2 ++ [71, 71, 71]) a2 a2 71 = some true := by unfold jousthelp_Kept_byte.f; rw [if_pos ⟨by omega, rfl, rfl⟩]
        have h01 : (a0 ++ a1).length = a0.length + a1.length := List.length_append
        have hsum2 : check_Sum.f K [a0, a1] = some ((sumN (a0 ++ a1) : Nat) : Int) := by
          rw [csum_eq (by simp) (fun p hp => by
            rcases List.mem_cons.1 hp with rfl | hp
            · exact ⟨by omega, hb0⟩
            · rw [List.mem_singleton.1 hp]; exact ⟨by omega, hb1⟩) (by simp only [costL, List.map_cons, List.map_nil, List.sum_cons, List.sum_nil]; omega)]
          simp
        simp only [joustlaw13_CheckTells.j0]
        have ho := open_by hb2
        rw [if_neg (by decide), hown, Option.bind_some, htk, if_pos (by omega), if_pos (by omega), Option.bind_some, if_pos (by simp only [List.length_nil]; omega), Option.bind_some, List.nil_append, if_pos (by omega), Option.bind_some, copen_eq (by omega) hb2 (by omega), Option.bind_some, ropen_eq (by omega) hb2 (by omega), Option.bind_some, awake_eq (by omega), Option.bind_some, if_pos rfl, hsum2, Option.bind_some, rsum_eq (by omega) (by_app hb0 hb1) (by omega), Option.bind_some, if_pos rfl, csum1_eq (by omega) (by_app hb0 hb1) (by omega), Option.bind_some, Option.bind_some, if_pos rfl, cseal_eq (by omega) hb2 (by omega), Option.bind_some, rseal_eq (by omega) hb2 (by omega), Option.bind_some, sbytes_eq (sealL_by hb2) (sealL_by hb2), Option.bind_some, decide_eq_true rfl, if_pos rfl, sbytes_eq ho ho, Option.bind_some, decide_eq_true rfl, if_pos rfl, if_pos rfl, hkept, Option.bind_some]
end Go.Proofs.Ytbaboeodklgpeaa.PureCheckTells
