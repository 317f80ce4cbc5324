/-
  No cell of these rows narrows 'for every input' (looked for: loops, veiled, ifaces, maps, wideKeys, modest, calm, conditions, laid).
  DERIVED. THE GIVEN ROWS OF THIS SEAT. 5 by the template 'for every input the law returns true; each argument reads behind the call as it read before'; 0 by the template 'total and deterministic' (their statements: YtjkhmgoldkeckaaTotals.lean).
  GIVEN WITH THE SEED: the statements are not yours to turn. If you find one false, say at which input.
  Laid BY PROGRAM, IN A SANDBOX (cutbox-rows.mjs): the forced cells as the released guide's own fill.sh prints them over the translation 3531c8f74fceeef0… (all of the seat's roots in one cut). By AI agents, Wed Nov 11 2026. No macro, syntax, notation, axiom, sorry.
-/
import Derived.Test.YtjkhmgoldkeckaaChecked
import GoSem.Claim
import GoSem.ClaimJoined
import GoSem.ClaimMapViews
import Derived.JoinedTies
import Derived.KernelRfl
namespace Go.Proofs.Ytjkhmgoldkeckaa
/- THE CELL 'sum', in the pinned program and in every row, IS THE sha256 OF THE DUMP (.gsa) THAT YtjkhmgoldkeckaaProg.lean LOADS. Nothing in Lean hashes anything: it is a label: what it is worth is what the hold of that sum in a sandbox is worth. -/
noncomputable def Try.pinned : Pinned := { name := "ytjkhmgoldkeckaa", sum := "3531c8f74fceeef08d6ff58b1046e351aa695b00d54ad81e3924d18971b909b2", checked := Try.checked }
namespace Rows
def none {H : Type} : Left H := { results := [], args := [] }

/-- 'joustlaw04.InputCodes': WHATEVER THE INPUT: true; the input reads as it did. -/
def inputCodesSpec : ChangeSpec := { name := "inputCodes", fn := fun _ => fun
  | [d1, d2] => { results := [.lit (.bool true)], args := [d1, d2] }
  | _ => none }
def inputCodesRow : OpenClaim := { program := "ytjkhmgoldkeckaa", sum := "3531c8f74fceeef08d6ff58b1046e351aa695b00d54ad81e3924d18971b909b2", func := "joust/joustlaw04.InputCodes", spec := "inputCodes", apart := false }
def InputCodesSaid : Prop := inputCodesRow.holds Try.pinned (OpenSpec.ofChange inputCodesSpec)

/-- ITS FALSE NEIGHBOUR: 'it returns false'. Refute it at one input. -/
def inputCodesWrong : ChangeSpec := { name := "inputCodes", fn := fun _ => fun
  | [d1, d2] => { results := [.lit (.bool false)], args := [d1, d2] }
  | _ => none }
def InputCodesWrongFalsely : Prop := inputCodesRow.holds Try.pinned (OpenSpec.ofChange inputCodesWrong)

/-- 'joustlaw04.InputBack': WHATEVER THE INPUT: true; the input reads as it did. -/
def inputBackSpec : ChangeSpec := { name := "inputBack", fn := fun _ => fun
  | [d1, d2] => { results := [.lit (.bool true)], args := [d1, d2] }
  | _ => none }
def inputBackRow : OpenClaim := { program := "ytjkhmgoldkeckaa", sum := "3531c8f74fceeef08d6ff58b1046e351aa695b00d54ad81e3924d18971b909b2", func := "joust/joustlaw04.InputBack", spec := "inputBack", apart := false }
def InputBackSaid : Prop := inputBackRow.holds Try.pinned (OpenSpec.ofChange inputBackSpec)

/-- ITS FALSE NEIGHBOUR: 'it returns false'. Refute it at one input. -/
def inputBackWrong : ChangeSpec := { name := "inputBack", fn := fun _ => fun
  | [d1, d2] => { results := [.lit (.bool false)], args := [d1, d2] }
  | _ => none }
def InputBackWrongFalsely : Prop := inputBackRow.holds Try.pinned (OpenSpec.ofChange inputBackWrong)

/-- 'joustlaw04.InputGuess': WHATEVER THE INPUT: true; the input reads as it did. -/
def inputGuessSpec : ChangeSpec := { name := "inputGuess", fn := fun _ => fun
  | [d1, d2] => { results := [.lit (.bool true)], args := [d1, d2] }
  | _ => none }
def inputGuessRow : OpenClaim := { program := "ytjkhmgoldkeckaa", sum := "3531c8f74fceeef08d6ff58b1046e351aa695b00d54ad81e3924d18971b909b2", func := "joust/joustlaw04.InputGuess", spec := "inputGuess", apart := false }
def InputGuessSaid : Prop := inputGuessRow.holds Try.pinned (OpenSpec.ofChange inputGuessSpec)

/-- ITS FALSE NEIGHBOUR: 'it returns false'. Refute it at one input. -/
def inputGuessWrong : ChangeSpec := { name := "inputGuess", fn := fun _ => fun
  | [d1, d2] => { results := [.lit (.bool false)], args := [d1, d2] }
  | _ => none }
def InputGuessWrongFalsely : Prop := inputGuessRow.holds Try.pinned (OpenSpec.ofChange inputGuessWrong)

/-- 'joustlaw04.InputTable': WHATEVER THE INPUT: true; the input reads as it did. -/
def inputTableSpec : ChangeSpec := { name := "inputTable", fn := fun _ => fun
  | [d] => { results := [.lit (.bool true)], args := [d] }
  | _ => none }
def inputTableRow : OpenClaim := { program := "ytjkhmgoldkeckaa", sum := "3531c8f74fceeef08d6ff58b1046e351aa695b00d54ad81e3924d18971b909b2", func := "joust/joustlaw04.InputTable", spec := "inputTable", apart := false }
def InputTableSaid : Prop := inputTableRow.holds Try.pinned (OpenSpec.ofChange inputTableSpec)

/-- ITS FALSE NEIGHBOUR: 'it returns false'. Refute it at one input. -/
def inputTableWrong : ChangeSpec := { name := "inputTable", fn := fun _ => fun
  | [d] => { results := [.lit (.bool false)], args := [d] }
  | _ => none }
def InputTableWrongFalsely : Prop := inputTableRow.holds Try.pinned (OpenSpec.ofChange inputTableWrong)

/-- 'joustlaw04.InputTells': WHATEVER THE INPUT: true; the input reads as it did. -/
def inputTellsSpec : ChangeSpec := { name := "inputTells", fn := fun _ => fun
  | [d1, d2, d3] => { results := [.lit (.bool true)], args := [d1, d2, d3] }
  | _ => none }
def inputTellsRow : OpenClaim := { program := "ytjkhmgoldkeckaa", sum := "3531c8f74fceeef08d6ff58b1046e351aa695b00d54ad81e3924d18971b909b2", func := "joust/joustlaw04.InputTells", spec := "inputTells", apart := false }
def InputTellsSaid : Prop := inputTellsRow.holds Try.pinned (OpenSpec.ofChange inputTellsSpec)

/-- ITS FALSE NEIGHBOUR: 'it returns false'. Refute it at one input. -/
def inputTellsWrong : ChangeSpec := { name := "inputTells", fn := fun _ => fun
  | [d1, d2, d3] => { results := [.lit (.bool false)], args := [d1, d2, d3] }
  | _ => none }
def InputTellsWrongFalsely : Prop := inputTellsRow.holds Try.pinned (OpenSpec.ofChange inputTellsWrong)

/- THE SECOND FORM. 'bulk': how many values and letters a reading holds, each counted each time it is reached (what is shared counts as often as it is met; a slice's spare places count too). A statement '..UptoSaid' is the law's where the arguments, and the package variables that the reading takes, are together of bulk at most 1048576: NARROWER than '..Said'. Prove '..Said' where nothing that the law and all that it calls make is longer than what came in: it says more and counts as full. Else prove '..UptoSaid'. A law counts once. -/
mutual
def uptoBulk {H : Type} : DataW H → Nat
  | .lit (.string bytes) => bytes.length + 1
  | .lit _ => 1
  | .nil => 1
  | .ptr d => uptoBulk d + 1
  | .slice elems spare => uptoBulkAll elems + uptoBulkAll spare + 1
  | .agg parts => uptoBulkAll parts + 1
  | .iface _ d => uptoBulk d + 1
  | .map entries => uptoBulkEntries entries + 1
  | .held _ => 1
def uptoBulkAll {H : Type} : List (DataW H) → Nat
  | [] => 0
  | d :: r => uptoBulk d + uptoBulkAll r
def uptoBulkEntries {H : Type} : List (Lit × DataW H) → Nat
  | [] => 0
  | x :: r => uptoBulkEntry x + uptoBulkEntries r
def uptoBulkEntry {H : Type} : Lit × DataW H → Nat
  | (.string bytes, d) => bytes.length + uptoBulk d + 1
  | (_, d) => uptoBulk d + 1
 end
def uptoSmall : (H : Type) → List (DataW H) → Bool := fun _ ds => decide (uptoBulkAll ds ≤ 1048576)
def OpenSpec.upto (s : _root_.Go.ChangeSpec) : _root_.Go.OpenSpec := { _root_.Go.OpenSpec.ofChange s with cond := some uptoSmall }

/-- 'joustlaw04.InputCodes', WHERE WHAT IT READS IS OF BULK AT MOST 1048576: true; the input reads as it did. -/
def inputCodesUptoRow : OpenClaim := { program := "ytjkhmgoldkeckaa", sum := "3531c8f74fceeef08d6ff58b1046e351aa695b00d54ad81e3924d18971b909b2", func := "joust/joustlaw04.InputCodes", spec := "inputCodes", apart := false, narrowed := true }
def InputCodesUptoSaid : Prop := inputCodesUptoRow.holds Try.pinned (OpenSpec.upto inputCodesSpec)

/-- 'joustlaw04.InputBack', WHERE WHAT IT READS IS OF BULK AT MOST 1048576: true; the input reads as it did. -/
def inputBackUptoRow : OpenClaim := { program := "ytjkhmgoldkeckaa", sum := "3531c8f74fceeef08d6ff58b1046e351aa695b00d54ad81e3924d18971b909b2", func := "joust/joustlaw04.InputBack", spec := "inputBack", apart := false, narrowed := true }
def InputBackUptoSaid : Prop := inputBackUptoRow.holds Try.pinned (OpenSpec.upto inputBackSpec)

/-- 'joustlaw04.InputGuess', WHERE WHAT IT READS IS OF BULK AT MOST 1048576: true; the input reads as it did. -/
def inputGuessUptoRow : OpenClaim := { program := "ytjkhmgoldkeckaa", sum := "3531c8f74fceeef08d6ff58b1046e351aa695b00d54ad81e3924d18971b909b2", func := "joust/joustlaw04.InputGuess", spec := "inputGuess", apart := false, narrowed := true }
def InputGuessUptoSaid : Prop := inputGuessUptoRow.holds Try.pinned (OpenSpec.upto inputGuessSpec)

/-- 'joustlaw04.InputTable', WHERE WHAT IT READS IS OF BULK AT MOST 1048576: true; the input reads as it did. -/
def inputTableUptoRow : OpenClaim := { program := "ytjkhmgoldkeckaa", sum := "3531c8f74fceeef08d6ff58b1046e351aa695b00d54ad81e3924d18971b909b2", func := "joust/joustlaw04.InputTable", spec := "inputTable", apart := false, narrowed := true }
def InputTableUptoSaid : Prop := inputTableUptoRow.holds Try.pinned (OpenSpec.upto inputTableSpec)

/-- 'joustlaw04.InputTells', WHERE WHAT IT READS IS OF BULK AT MOST 1048576: true; the input reads as it did. -/
def inputTellsUptoRow : OpenClaim := { program := "ytjkhmgoldkeckaa", sum := "3531c8f74fceeef08d6ff58b1046e351aa695b00d54ad81e3924d18971b909b2", func := "joust/joustlaw04.InputTells", spec := "inputTells", apart := false, narrowed := true }
def InputTellsUptoSaid : Prop := inputTellsUptoRow.holds Try.pinned (OpenSpec.upto inputTellsSpec)

end Rows
end Go.Proofs.Ytjkhmgoldkeckaa
