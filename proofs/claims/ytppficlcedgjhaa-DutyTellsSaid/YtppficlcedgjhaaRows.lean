/-
  No cell of these rows narrows 'for every input' (looked for: loops, veiled, ifaces, maps, wideKeys, modest, calm, conditions, laid).
  DERIVED. THE GIVEN ROWS OF THIS SEAT. 4 by the template 'for every input the law returns true; each argument reads behind the call as it read before'; 0 by the template 'total and deterministic' (their statements: YtppficlcedgjhaaTotals.lean).
  GIVEN WITH THE SEED: the statements are not yours to turn. If you find one false, say at which input.
  Laid BY PROGRAM, IN A SANDBOX (cutbox-rows.mjs): the forced cells as the released guide's own fill.sh prints them over the translation d6efba3867d544fe… (all of the seat's roots in one cut). By AI agents, Wed Nov 11 2026. No macro, syntax, notation, axiom, sorry.
-/
import Derived.Test.YtppficlcedgjhaaChecked
import GoSem.Claim
import GoSem.ClaimJoined
import GoSem.ClaimMapViews
import Derived.JoinedTies
import Derived.KernelRfl
namespace Go.Proofs.Ytppficlcedgjhaa
/- THE CELL 'sum', in the pinned program and in every row, IS THE sha256 OF THE DUMP (.gsa) THAT YtppficlcedgjhaaProg.lean LOADS. Nothing in Lean hashes anything: it is a label: what it is worth is what the hold of that sum in a sandbox is worth. -/
noncomputable def Try.pinned : Pinned := { name := "ytppficlcedgjhaa", sum := "d6efba3867d544fee71d8107274a5c4bcf8eeb9574899166b467d37d756a9a84", checked := Try.checked }
namespace Rows
def none {H : Type} : Left H := { results := [], args := [] }

/-- 'joustlaw22.DutyStranger': WHATEVER THE INPUT: true; the input reads as it did. -/
def dutyStrangerSpec : ChangeSpec := { name := "dutyStranger", fn := fun _ => fun
  | [d1, d2, d3, d4, d5] => { results := [.lit (.bool true)], args := [d1, d2, d3, d4, d5] }
  | _ => none }
def dutyStrangerRow : OpenClaim := { program := "ytppficlcedgjhaa", sum := "d6efba3867d544fee71d8107274a5c4bcf8eeb9574899166b467d37d756a9a84", func := "joust/joustlaw22.DutyStranger", spec := "dutyStranger", apart := false }
def DutyStrangerSaid : Prop := dutyStrangerRow.holds Try.pinned (OpenSpec.ofChange dutyStrangerSpec)

/-- ITS FALSE NEIGHBOUR: 'it returns false'. Refute it at one input. -/
def dutyStrangerWrong : ChangeSpec := { name := "dutyStranger", fn := fun _ => fun
  | [d1, d2, d3, d4, d5] => { results := [.lit (.bool false)], args := [d1, d2, d3, d4, d5] }
  | _ => none }
def DutyStrangerWrongFalsely : Prop := dutyStrangerRow.holds Try.pinned (OpenSpec.ofChange dutyStrangerWrong)

/-- 'joustlaw22.DutyTells': WHATEVER THE INPUT: true; the input reads as it did. -/
def dutyTellsSpec : ChangeSpec := { name := "dutyTells", fn := fun _ => fun
  | [d1, d2, d3, d4] => { results := [.lit (.bool true)], args := [d1, d2, d3, d4] }
  | _ => none }
def dutyTellsRow : OpenClaim := { program := "ytppficlcedgjhaa", sum := "d6efba3867d544fee71d8107274a5c4bcf8eeb9574899166b467d37d756a9a84", func := "joust/joustlaw22.DutyTells", spec := "dutyTells", unfollowed := true, recurses := true, apart := false }
def DutyTellsSaid : Prop := dutyTellsRow.holds Try.pinned (OpenSpec.ofChange dutyTellsSpec)

/-- ITS FALSE NEIGHBOUR: 'it returns false'. Refute it at one input. -/
def dutyTellsWrong : ChangeSpec := { name := "dutyTells", fn := fun _ => fun
  | [d1, d2, d3, d4] => { results := [.lit (.bool false)], args := [d1, d2, d3, d4] }
  | _ => none }
def DutyTellsWrongFalsely : Prop := dutyTellsRow.holds Try.pinned (OpenSpec.ofChange dutyTellsWrong)

/-- 'joustlaw22.DutyFollows': WHATEVER THE INPUT: true; the input reads as it did. -/
def dutyFollowsSpec : ChangeSpec := { name := "dutyFollows", fn := fun _ => fun
  | [d1, d2, d3] => { results := [.lit (.bool true)], args := [d1, d2, d3] }
  | _ => none }
def dutyFollowsRow : OpenClaim := { program := "ytppficlcedgjhaa", sum := "d6efba3867d544fee71d8107274a5c4bcf8eeb9574899166b467d37d756a9a84", func := "joust/joustlaw22.DutyFollows", spec := "dutyFollows", apart := false }
def DutyFollowsSaid : Prop := dutyFollowsRow.holds Try.pinned (OpenSpec.ofChange dutyFollowsSpec)

/-- ITS FALSE NEIGHBOUR: 'it returns false'. Refute it at one input. -/
def dutyFollowsWrong : ChangeSpec := { name := "dutyFollows", fn := fun _ => fun
  | [d1, d2, d3] => { results := [.lit (.bool false)], args := [d1, d2, d3] }
  | _ => none }
def DutyFollowsWrongFalsely : Prop := dutyFollowsRow.holds Try.pinned (OpenSpec.ofChange dutyFollowsWrong)

/-- 'joustlaw22.DutyShares': WHATEVER THE INPUT: true; the input reads as it did. -/
def dutySharesSpec : ChangeSpec := { name := "dutyShares", fn := fun _ => fun
  | [d] => { results := [.lit (.bool true)], args := [d] }
  | _ => none }
def dutySharesRow : OpenClaim := { program := "ytppficlcedgjhaa", sum := "d6efba3867d544fee71d8107274a5c4bcf8eeb9574899166b467d37d756a9a84", func := "joust/joustlaw22.DutyShares", spec := "dutyShares", apart := false }
def DutySharesSaid : Prop := dutySharesRow.holds Try.pinned (OpenSpec.ofChange dutySharesSpec)

/-- ITS FALSE NEIGHBOUR: 'it returns false'. Refute it at one input. -/
def dutySharesWrong : ChangeSpec := { name := "dutyShares", fn := fun _ => fun
  | [d] => { results := [.lit (.bool false)], args := [d] }
  | _ => none }
def DutySharesWrongFalsely : Prop := dutySharesRow.holds Try.pinned (OpenSpec.ofChange dutySharesWrong)

/- THE SECOND FORM. 'bulk': how many values and letters a reading holds, each counted each time it is reached (what is shared counts as often as it is met; a slice's spare places count too). A statement '..UptoSaid' is the law's where the arguments, and the package variables that the reading takes, are together of bulk at most 1048576: NARROWER than '..Said'. Prove '..Said' where nothing that the law and all that it calls make is longer than what came in: it says more and counts as full. Else prove '..UptoSaid'. A law counts once. -/
mutual
def uptoBulk {H : Type} : DataW H → Nat
  | .lit (.string bytes) => bytes.length + 1
  | .lit _ => 1
  | .nil => 1
  | .ptr d => uptoBulk d + 1
  | .slice elems spare => uptoBulkAll elems + uptoBulkAll spare + 1
  | .agg parts => uptoBulkAll parts + 1
  | .iface _ d => uptoBulk d + 1
  | .map entries => uptoBulkEntries entries + 1
  | .held _ => 1
def uptoBulkAll {H : Type} : List (DataW H) → Nat
  | [] => 0
  | d :: r => uptoBulk d + uptoBulkAll r
def uptoBulkEntries {H : Type} : List (Lit × DataW H) → Nat
  | [] => 0
  | x :: r => uptoBulkEntry x + uptoBulkEntries r
def uptoBulkEntry {H : Type} : Lit × DataW H → Nat
  | (.string bytes, d) => bytes.length + uptoBulk d + 1
  | (_, d) => uptoBulk d + 1
 end
def uptoSmall : (H : Type) → List (DataW H) → Bool := fun _ ds => decide (uptoBulkAll ds ≤ 1048576)
def OpenSpec.upto (s : _root_.Go.ChangeSpec) : _root_.Go.OpenSpec := { _root_.Go.OpenSpec.ofChange s with cond := some uptoSmall }

/-- 'joustlaw22.DutyStranger', WHERE WHAT IT READS IS OF BULK AT MOST 1048576: true; the input reads as it did. -/
def dutyStrangerUptoRow : OpenClaim := { program := "ytppficlcedgjhaa", sum := "d6efba3867d544fee71d8107274a5c4bcf8eeb9574899166b467d37d756a9a84", func := "joust/joustlaw22.DutyStranger", spec := "dutyStranger", apart := false, narrowed := true }
def DutyStrangerUptoSaid : Prop := dutyStrangerUptoRow.holds Try.pinned (OpenSpec.upto dutyStrangerSpec)

/-- 'joustlaw22.DutyTells', WHERE WHAT IT READS IS OF BULK AT MOST 1048576: true; the input reads as it did. -/
def dutyTellsUptoRow : OpenClaim := { program := "ytppficlcedgjhaa", sum := "d6efba3867d544fee71d8107274a5c4bcf8eeb9574899166b467d37d756a9a84", func := "joust/joustlaw22.DutyTells", spec := "dutyTells", unfollowed := true, recurses := true, apart := false, narrowed := true }
def DutyTellsUptoSaid : Prop := dutyTellsUptoRow.holds Try.pinned (OpenSpec.upto dutyTellsSpec)

/-- 'joustlaw22.DutyFollows', WHERE WHAT IT READS IS OF BULK AT MOST 1048576: true; the input reads as it did. -/
def dutyFollowsUptoRow : OpenClaim := { program := "ytppficlcedgjhaa", sum := "d6efba3867d544fee71d8107274a5c4bcf8eeb9574899166b467d37d756a9a84", func := "joust/joustlaw22.DutyFollows", spec := "dutyFollows", apart := false, narrowed := true }
def DutyFollowsUptoSaid : Prop := dutyFollowsUptoRow.holds Try.pinned (OpenSpec.upto dutyFollowsSpec)

/-- 'joustlaw22.DutyShares', WHERE WHAT IT READS IS OF BULK AT MOST 1048576: true; the input reads as it did. -/
def dutySharesUptoRow : OpenClaim := { program := "ytppficlcedgjhaa", sum := "d6efba3867d544fee71d8107274a5c4bcf8eeb9574899166b467d37d756a9a84", func := "joust/joustlaw22.DutyShares", spec := "dutyShares", apart := false, narrowed := true }
def DutySharesUptoSaid : Prop := dutySharesUptoRow.holds Try.pinned (OpenSpec.upto dutySharesSpec)

end Rows
end Go.Proofs.Ytppficlcedgjhaa
