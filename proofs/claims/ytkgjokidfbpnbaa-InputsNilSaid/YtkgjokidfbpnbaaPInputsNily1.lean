/- What the law InputsNil comes to: true of all numbers. No condition. -/
import Derived.Test.YtkgjokidfbpnbaaPInputsNilz0
import Derived.Test.YtkgjokidfbpnbaaInH
namespace Go.Proofs.Ytkgjokidfbpnbaa.PInputsNil
open Go.RowKit Go.Proofs.YtkgjokidfbpnbaaW.PrintWords Go.Proofs.YtkgjokidfbpnbaaW.PrintLast Go.Proofs.YtkgjokidfbpnbaaW.PrintMore Go.Proofs.Ytkgjokidfbpnbaa.InW Go.Proofs.Ytkgjokidfbpnbaa.Sep
attribute [local go_sem] max2_int min2_int max_two min_two max_three min_three max_four min_four   -- for this text's walks alone
set_option linter.unusedVariables false
set_option linter.unusedSimpArgs false
set_option maxHeartbeats 8000000 in
set_option maxRecDepth 100000 in
theorem at.nil (w : World) (p f : Int) :
    Calls Try.prog 13 #[.pointer none, .int .i64 p, .int .i64 f] w fun e w' => e = .returned (.tuple #[.agg #[.int .i64 0, .int .i64 0, .bool false], .bool false]) ∧ Below w.heap.size w w' := by
  have hu24 := Try.underlying24
  go_enter Try.func13, Try.ntmps13
  go_wp2_with (first | ((with_reducible refine gate_dst (N := 6) rfl ?_); refine box_event ?hg (N := 6) ?hd (cs := #[.int .i64 0, .int .i64 0, .bool false]) (t := 24) ?hr ?_; (case hd => rfl); (case hg => rfl); (case hr => first | (go_simp; done) | (go_simp; rfl)); intro gb hgb w5 hbox hb5; have HGE := Aside0.mk (Nat.le_of_eq hgb.symm); clear hgb; have BK := Aside0.mk hbox) | (go_at_call 30; (refine (column.nil _ p).mono ?_); rintro e w1 ⟨rfl, hb1⟩; have BK1 := Aside0.mk (blk_below BK.out hb1); have hcz0 : w1.cell? ⟨gb, 0, none⟩ = some (.int .i64 0) := (blk_cell BK1.out 0).trans rfl; have hcz1 : w1.cell? ⟨gb, 1, none⟩ = some (.int .i64 0) := (blk_cell BK1.out 1).trans rfl; have hcz2 : w1.cell? ⟨gb, 2, none⟩ = some (.bool false) := (blk_cell BK1.out 2).trans rfl; have hfz0 := blk_frozen BK1.out 0; have hfz1 := blk_frozen BK1.out 1; have hfz2 := blk_frozen BK1.out 2))
  refine bodyPost_ret (results_ct rfl _ _ gb 24 #[.int .i64 0, .int .i64 0, .bool false] (0, 0) _ rfl (by refine blk_put (cs := #[.int .i64 0, .int .i64 0, .bool false]) ?_ 2 _ rfl; refine blk_put (cs := #[.int .i64 0, .int .i64 0, .bool false]) ?_ 1 _ rfl; refine blk_put (cs := #[.int .i64 0, .int .i64 0, .bool false]) ?_ 0 _ rfl; exact BK1.out) Try.underlying24 rfl (by kernel_rfl)) rfl ?_
  exact ⟨rfl, below_set (below_set (below_set (below_step hb5 hb1) HGE.out) HGE.out) HGE.out⟩
theorem add.nil (w : World) (p f : Int) (v : Value) :
    Calls Try.prog 12 #[.pointer none, .int .i64 p, .int .i64 f, v] w fun e w' => e = .returned (.int .i64 0) ∧ Below w.heap.size w w' := by
  go_enter Try.func12, Try.ntmps12
  go_wp2_with (first | (go_at_call 30; (refine (column.nil _ p).mono ?_); rintro e w1 ⟨rfl, hb1⟩))
  go_ret
  exact ⟨rfl, hb1⟩
theorem stream.nil (w : World) (p f m : Int) :
    Calls Try.prog 18 #[.pointer none, .int .i64 p, .int .i64 f, .int .i64 m] w fun e w' => e = .returned (.slice none 0 0) ∧ Below w.heap.size w w' := by
  go_enter Try.func18, Try.ntmps18
  go_wp2_with (first | (go_at_call 30; (refine (column.nil _ p).mono ?_); rintro e w1 ⟨rfl, hb1⟩))
  go_ret
  exact ⟨rfl, hb1⟩
theorem fork.nil (w : World) :
    Calls Try.prog 21 #[.pointer none] w fun e w' => e = .returned (.pointer none) ∧ Below w.heap.size w w' := by
  go_enter Try.func21, Try.ntmps21
  go_wp2
  go_ret
  exact ⟨rfl, Below.refl _ _⟩
def joustlaw15_InputsNil.f (a0 a1 : Int) : Option Bool := some true
set_option maxHeartbeats 8000000 in
set_option maxRecDepth 100000 in
theorem joustlaw15_InputsNil.calls (a0 a1 : Int) (r : Bool) (w : World) (hr_ : Aside0 (r = true)) (h : joustlaw15_InputsNil.f a0 a1 = some r) :
    Calls Try.prog 8 #[.int .i64 a0, .int .i64 a1] w fun e w' => e = .returned (.bool r) ∧ Below w.heap.size w w' := by
  obtain rfl := hr_.out
  have hu24 := Try.underlying24
  have hEQ := fun (x y : Int × Int × Bool) => True
  clear hEQ h hr_
  go_enter Try.func8, Try.ntmps8
  go_wp2_with (first | (go_at_call 13; (refine (at.nil _ a0 a1).mono ?_); rintro e w1 ⟨rfl, hb1⟩; have HB1 := Aside0.mk hb1; clear hb1) | ((with_reducible refine gate_dst (N := 6) rfl ?_); refine box_event ?hg (N := 6) ?hd (cs := #[.int .i64 0, .int .i64 0, .bool false]) (t := 24) ?hr ?_; (case hd => rfl); (case hg => rfl); (case hr => first | (go_simp; done) | (go_simp; rfl)); intro gb hgb w5 hbox hb5; have HGE := Aside0.mk (Nat.le_of_eq hgb.symm); clear hgb; have BK := Aside0.mk hbox; have HB5 := Aside0.mk hb5; clear hb5 hbox; have hcz0 : w5.cell? ⟨gb, 0, none⟩ = some (.int .i64 0) := (blk_cell BK.out 0).trans rfl; have hcz1 : w5.cell? ⟨gb, 1, none⟩ = some (.int .i64 0) := (blk_cell BK.out 1).trans rfl; have hcz2 : w5.cell? ⟨gb, 2, none⟩ = some (.bool false) := (blk_cell BK.out 2).trans rfl; have hfz0 := blk_frozen BK.out 0; have hfz1 := blk_frozen BK.out 1; have hfz2 := blk_frozen BK.out 2) | (go_at_call 16; (refine (ended.nil _ a0).mono ?_); rintro e w2 ⟨rfl, hb2⟩; have HB2 := Aside0.mk (below_step (below_set (below_set (below_set (below_step HB1.out HB5.out) (Nat.le_trans HB1.out.size HGE.out)) (Nat.le_trans HB1.out.size HGE.out)) (Nat.le_trans HB1.out.size HGE.out)) hb2); have bk5 := blk_put (cs' := #[.int .i64 0, .int .i64 0, .bool false]) (blk_put (cs' := #[.int .i64 0, .int .i64 0, .bool false]) (blk_put (cs' := #[.int .i64 0, .int .i64 0, .bool false]) BK.out 0 (.int .i64 0) rfl) 1 (.int .i64 0) rfl) 2 (.bool false) rfl; have BK2 := Aside0.mk (blk_below bk5 hb2); clear hb2 bk5 hcz0 hcz1 hcz2 hfz0 hfz1 hfz2) | (go_at_call 10; (refine (awake.H (Has.nil (Nat.le_refl _))).mono ?_); rintro e w3 ⟨rfl, h3⟩; have HB3 := Aside0.mk (below_step HB2.out h3.below); have BK3 := Aside0.mk (blk_below BK2.out h3.below); clear h3) | (go_at_call 12; (refine (add.nil _ a0 a1 _).mono ?_); rintro e w4 ⟨rfl, hb4⟩; have HB4 := Aside0.mk (below_step (below_alloc HB3.out _) hb4); have BK4 := Aside0.mk (blk_below (blk_below BK3.out (below_alloc (Below.refl _ _) _)) hb4); clear hb4) | (go_at_call 14; (refine (have.nil _ a0).mono ?_); rintro e w6 ⟨rfl, hb6⟩; have HB6 := Aside0.mk (below_step HB4.out hb6); have BK6 := Aside0.mk (blk_below BK4.out hb6); clear hb6) | (go_at_call 15; (refine (end.nil _ a0 a1).mono ?_); rintro e w7 ⟨rfl, hb7⟩; have HB7 := Aside0.mk (below_step HB6.out hb7); have BK7 := Aside0.mk (blk_below BK6.out hb7); clear hb7; have hcz0 : w7.cell? ⟨gb, 0, none⟩ = some (.int .i64 0) := (blk_cell BK7.out 0).trans rfl; have hcz1 : w7.cell? ⟨gb, 1, none⟩ = some (.int .i64 0) := (blk_cell BK7.out 1).trans rfl; have hcz2 : w7.cell? ⟨gb, 2, none⟩ = some (.bool false) := (blk_cell BK7.out 2).trans rfl) | (go_at_call 18; (refine (stream.nil _ a0 a1 5).mono ?_); rintro e w8 ⟨rfl, hb8⟩; have HB8 := Aside0.mk (below_step HB7.out hb8); clear hb8) | (go_at_call 21; (refine (fork.nil _).mono ?_); rintro e w9 ⟨rfl, hb9⟩; have HB9 := Aside0.mk (below_step HB8.out hb9); clear hb9))
  go_ret
  exact ⟨rfl, HB9.out⟩
end Go.Proofs.Ytkgjokidfbpnbaa.PInputsNil
