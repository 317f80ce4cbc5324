/-
  No cell of these rows narrows 'for every input' (looked for: loops, veiled, ifaces, maps, wideKeys, modest, calm, conditions, laid).
  DERIVED. THE GIVEN ROWS OF THIS SEAT. 5 by the template 'for every input the law returns true; each argument reads behind the call as it read before'; 0 by the template 'total and deterministic' (their statements: YtjnjcdaecdnkoaaTotals.lean).
  GIVEN WITH THE SEED: the statements are not yours to turn. If you find one false, say at which input.
  Laid BY PROGRAM, IN A SANDBOX (cutbox-rows.mjs): the forced cells as the released guide's own fill.sh prints them over the translation 5a19773d71119446… (all of the seat's roots in one cut). By AI agents, Wed Nov 11 2026. No macro, syntax, notation, axiom, sorry.
-/
import Derived.Test.YtjnjcdaecdnkoaaChecked
import GoSem.Claim
import GoSem.ClaimJoined
import GoSem.ClaimMapViews
import Derived.JoinedTies
import Derived.KernelRfl
namespace Go.Proofs.Ytjnjcdaecdnkoaa
/- THE CELL 'sum', in the pinned program and in every row, IS THE sha256 OF THE DUMP (.gsa) THAT YtjnjcdaecdnkoaaProg.lean LOADS. Nothing in Lean hashes anything: it is a label: what it is worth is what the hold of that sum in a sandbox is worth. -/
noncomputable def Try.pinned : Pinned := { name := "ytjnjcdaecdnkoaa", sum := "5a19773d711194468c8a2dec1dd0af3b2b80b27626a957105e82c459c2d5041c", checked := Try.checked }
namespace Rows
def none {H : Type} : Left H := { results := [], args := [] }

/-- 'joustlaw07.MovingTells': WHATEVER THE INPUT: true; the input reads as it did. -/
def movingTellsSpec : ChangeSpec := { name := "movingTells", fn := fun _ => fun
  | [d1, d2, d3, d4] => { results := [.lit (.bool true)], args := [d1, d2, d3, d4] }
  | _ => none }
def movingTellsRow : OpenClaim := { program := "ytjnjcdaecdnkoaa", sum := "5a19773d711194468c8a2dec1dd0af3b2b80b27626a957105e82c459c2d5041c", func := "joust/joustlaw07.MovingTells", spec := "movingTells", apart := false }
def MovingTellsSaid : Prop := movingTellsRow.holds Try.pinned (OpenSpec.ofChange movingTellsSpec)

/-- ITS FALSE NEIGHBOUR: 'it returns false'. Refute it at one input. -/
def movingTellsWrong : ChangeSpec := { name := "movingTells", fn := fun _ => fun
  | [d1, d2, d3, d4] => { results := [.lit (.bool false)], args := [d1, d2, d3, d4] }
  | _ => none }
def MovingTellsWrongFalsely : Prop := movingTellsRow.holds Try.pinned (OpenSpec.ofChange movingTellsWrong)

/-- 'joustlaw07.MovingNear': WHATEVER THE INPUT: true; the input reads as it did. -/
def movingNearSpec : ChangeSpec := { name := "movingNear", fn := fun _ => fun
  | [d1, d2, d3] => { results := [.lit (.bool true)], args := [d1, d2, d3] }
  | _ => none }
def movingNearRow : OpenClaim := { program := "ytjnjcdaecdnkoaa", sum := "5a19773d711194468c8a2dec1dd0af3b2b80b27626a957105e82c459c2d5041c", func := "joust/joustlaw07.MovingNear", spec := "movingNear", apart := false }
def MovingNearSaid : Prop := movingNearRow.holds Try.pinned (OpenSpec.ofChange movingNearSpec)

/-- ITS FALSE NEIGHBOUR: 'it returns false'. Refute it at one input. -/
def movingNearWrong : ChangeSpec := { name := "movingNear", fn := fun _ => fun
  | [d1, d2, d3] => { results := [.lit (.bool false)], args := [d1, d2, d3] }
  | _ => none }
def MovingNearWrongFalsely : Prop := movingNearRow.holds Try.pinned (OpenSpec.ofChange movingNearWrong)

/-- 'joustlaw07.MovingShots': WHATEVER THE INPUT: true; the input reads as it did. -/
def movingShotsSpec : ChangeSpec := { name := "movingShots", fn := fun _ => fun
  | [d1, d2, d3, d4] => { results := [.lit (.bool true)], args := [d1, d2, d3, d4] }
  | _ => none }
def movingShotsRow : OpenClaim := { program := "ytjnjcdaecdnkoaa", sum := "5a19773d711194468c8a2dec1dd0af3b2b80b27626a957105e82c459c2d5041c", func := "joust/joustlaw07.MovingShots", spec := "movingShots", apart := false }
def MovingShotsSaid : Prop := movingShotsRow.holds Try.pinned (OpenSpec.ofChange movingShotsSpec)

/-- ITS FALSE NEIGHBOUR: 'it returns false'. Refute it at one input. -/
def movingShotsWrong : ChangeSpec := { name := "movingShots", fn := fun _ => fun
  | [d1, d2, d3, d4] => { results := [.lit (.bool false)], args := [d1, d2, d3, d4] }
  | _ => none }
def MovingShotsWrongFalsely : Prop := movingShotsRow.holds Try.pinned (OpenSpec.ofChange movingShotsWrong)

/-- 'joustlaw07.MovingWalls': WHATEVER THE INPUT: true; the input reads as it did. -/
def movingWallsSpec : ChangeSpec := { name := "movingWalls", fn := fun _ => fun
  | [d1, d2, d3, d4] => { results := [.lit (.bool true)], args := [d1, d2, d3, d4] }
  | _ => none }
def movingWallsRow : OpenClaim := { program := "ytjnjcdaecdnkoaa", sum := "5a19773d711194468c8a2dec1dd0af3b2b80b27626a957105e82c459c2d5041c", func := "joust/joustlaw07.MovingWalls", spec := "movingWalls", apart := false }
def MovingWallsSaid : Prop := movingWallsRow.holds Try.pinned (OpenSpec.ofChange movingWallsSpec)

/-- ITS FALSE NEIGHBOUR: 'it returns false'. Refute it at one input. -/
def movingWallsWrong : ChangeSpec := { name := "movingWalls", fn := fun _ => fun
  | [d1, d2, d3, d4] => { results := [.lit (.bool false)], args := [d1, d2, d3, d4] }
  | _ => none }
def MovingWallsWrongFalsely : Prop := movingWallsRow.holds Try.pinned (OpenSpec.ofChange movingWallsWrong)

/-- 'joustlaw07.MovingStill': WHATEVER THE INPUT: true; the input reads as it did. -/
def movingStillSpec : ChangeSpec := { name := "movingStill", fn := fun _ => fun
  | [d1, d2, d3] => { results := [.lit (.bool true)], args := [d1, d2, d3] }
  | _ => none }
def movingStillRow : OpenClaim := { program := "ytjnjcdaecdnkoaa", sum := "5a19773d711194468c8a2dec1dd0af3b2b80b27626a957105e82c459c2d5041c", func := "joust/joustlaw07.MovingStill", spec := "movingStill", apart := false }
def MovingStillSaid : Prop := movingStillRow.holds Try.pinned (OpenSpec.ofChange movingStillSpec)

/-- ITS FALSE NEIGHBOUR: 'it returns false'. Refute it at one input. -/
def movingStillWrong : ChangeSpec := { name := "movingStill", fn := fun _ => fun
  | [d1, d2, d3] => { results := [.lit (.bool false)], args := [d1, d2, d3] }
  | _ => none }
def MovingStillWrongFalsely : Prop := movingStillRow.holds Try.pinned (OpenSpec.ofChange movingStillWrong)

/- THE SECOND FORM. 'bulk': how many values and letters a reading holds, each counted each time it is reached (what is shared counts as often as it is met; a slice's spare places count too). A statement '..UptoSaid' is the law's where the arguments, and the package variables that the reading takes, are together of bulk at most 1048576: NARROWER than '..Said'. Prove '..Said' where nothing that the law and all that it calls make is longer than what came in: it says more and counts as full. Else prove '..UptoSaid'. A law counts once. -/
mutual
def uptoBulk {H : Type} : DataW H → Nat
  | .lit (.string bytes) => bytes.length + 1
  | .lit _ => 1
  | .nil => 1
  | .ptr d => uptoBulk d + 1
  | .slice elems spare => uptoBulkAll elems + uptoBulkAll spare + 1
  | .agg parts => uptoBulkAll parts + 1
  | .iface _ d => uptoBulk d + 1
  | .map entries => uptoBulkEntries entries + 1
  | .held _ => 1
def uptoBulkAll {H : Type} : List (DataW H) → Nat
  | [] => 0
  | d :: r => uptoBulk d + uptoBulkAll r
def uptoBulkEntries {H : Type} : List (Lit × DataW H) → Nat
  | [] => 0
  | x :: r => uptoBulkEntry x + uptoBulkEntries r
def uptoBulkEntry {H : Type} : Lit × DataW H → Nat
  | (.string bytes, d) => bytes.length + uptoBulk d + 1
  | (_, d) => uptoBulk d + 1
 end
def uptoSmall : (H : Type) → List (DataW H) → Bool := fun _ ds => decide (uptoBulkAll ds ≤ 1048576)
def OpenSpec.upto (s : _root_.Go.ChangeSpec) : _root_.Go.OpenSpec := { _root_.Go.OpenSpec.ofChange s with cond := some uptoSmall }

/-- 'joustlaw07.MovingTells', WHERE WHAT IT READS IS OF BULK AT MOST 1048576: true; the input reads as it did. -/
def movingTellsUptoRow : OpenClaim := { program := "ytjnjcdaecdnkoaa", sum := "5a19773d711194468c8a2dec1dd0af3b2b80b27626a957105e82c459c2d5041c", func := "joust/joustlaw07.MovingTells", spec := "movingTells", apart := false, narrowed := true }
def MovingTellsUptoSaid : Prop := movingTellsUptoRow.holds Try.pinned (OpenSpec.upto movingTellsSpec)

/-- 'joustlaw07.MovingNear', WHERE WHAT IT READS IS OF BULK AT MOST 1048576: true; the input reads as it did. -/
def movingNearUptoRow : OpenClaim := { program := "ytjnjcdaecdnkoaa", sum := "5a19773d711194468c8a2dec1dd0af3b2b80b27626a957105e82c459c2d5041c", func := "joust/joustlaw07.MovingNear", spec := "movingNear", apart := false, narrowed := true }
def MovingNearUptoSaid : Prop := movingNearUptoRow.holds Try.pinned (OpenSpec.upto movingNearSpec)

/-- 'joustlaw07.MovingShots', WHERE WHAT IT READS IS OF BULK AT MOST 1048576: true; the input reads as it did. -/
def movingShotsUptoRow : OpenClaim := { program := "ytjnjcdaecdnkoaa", sum := "5a19773d711194468c8a2dec1dd0af3b2b80b27626a957105e82c459c2d5041c", func := "joust/joustlaw07.MovingShots", spec := "movingShots", apart := false, narrowed := true }
def MovingShotsUptoSaid : Prop := movingShotsUptoRow.holds Try.pinned (OpenSpec.upto movingShotsSpec)

/-- 'joustlaw07.MovingWalls', WHERE WHAT IT READS IS OF BULK AT MOST 1048576: true; the input reads as it did. -/
def movingWallsUptoRow : OpenClaim := { program := "ytjnjcdaecdnkoaa", sum := "5a19773d711194468c8a2dec1dd0af3b2b80b27626a957105e82c459c2d5041c", func := "joust/joustlaw07.MovingWalls", spec := "movingWalls", apart := false, narrowed := true }
def MovingWallsUptoSaid : Prop := movingWallsUptoRow.holds Try.pinned (OpenSpec.upto movingWallsSpec)

/-- 'joustlaw07.MovingStill', WHERE WHAT IT READS IS OF BULK AT MOST 1048576: true; the input reads as it did. -/
def movingStillUptoRow : OpenClaim := { program := "ytjnjcdaecdnkoaa", sum := "5a19773d711194468c8a2dec1dd0af3b2b80b27626a957105e82c459c2d5041c", func := "joust/joustlaw07.MovingStill", spec := "movingStill", apart := false, narrowed := true }
def MovingStillUptoSaid : Prop := movingStillUptoRow.holds Try.pinned (OpenSpec.upto movingStillSpec)

end Rows
end Go.Proofs.Ytjnjcdaecdnkoaa
