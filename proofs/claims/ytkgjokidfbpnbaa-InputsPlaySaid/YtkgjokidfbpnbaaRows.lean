/-
  No cell of these rows narrows 'for every input' (looked for: loops, veiled, ifaces, maps, wideKeys, modest, calm, conditions, laid).
  DERIVED. THE GIVEN ROWS OF THIS SEAT. 6 by the template 'for every input the law returns true; each argument reads behind the call as it read before'; 0 by the template 'total and deterministic' (their statements: YtkgjokidfbpnbaaTotals.lean).
  GIVEN WITH THE SEED: the statements are not yours to turn. If you find one false, say at which input.
  Laid BY PROGRAM, IN A SANDBOX (cutbox-rows.mjs): the forced cells as the released guide's own fill.sh prints them over the translation 73db933cc5986971… (all of the seat's roots in one cut). By AI agents, Wed Nov 11 2026. No macro, syntax, notation, axiom, sorry.
-/
import Derived.Test.YtkgjokidfbpnbaaChecked
import GoSem.Claim
import GoSem.ClaimJoined
import GoSem.ClaimMapViews
import Derived.JoinedTies
import Derived.KernelRfl
namespace Go.Proofs.Ytkgjokidfbpnbaa
/- THE CELL 'sum', in the pinned program and in every row, IS THE sha256 OF THE DUMP (.gsa) THAT YtkgjokidfbpnbaaProg.lean LOADS. Nothing in Lean hashes anything: it is a label: what it is worth is what the hold of that sum in a sandbox is worth. -/
noncomputable def Try.pinned : Pinned := { name := "ytkgjokidfbpnbaa", sum := "73db933cc5986971692eb6298cd876500b92d06bedfc0a3be4c6bdd0d961d61f", checked := Try.checked }
namespace Rows
def none {H : Type} : Left H := { results := [], args := [] }

/-- 'joustlaw15.InputsGuess': WHATEVER THE INPUT: true; the input reads as it did. -/
def inputsGuessSpec : ChangeSpec := { name := "inputsGuess", fn := fun _ => fun
  | [d1, d2, d3] => { results := [.lit (.bool true)], args := [d1, d2, d3] }
  | _ => none }
def inputsGuessRow : OpenClaim := { program := "ytkgjokidfbpnbaa", sum := "73db933cc5986971692eb6298cd876500b92d06bedfc0a3be4c6bdd0d961d61f", func := "joust/joustlaw15.InputsGuess", spec := "inputsGuess", apart := false }
def InputsGuessSaid : Prop := inputsGuessRow.holds Try.pinned (OpenSpec.ofChange inputsGuessSpec)

/-- ITS FALSE NEIGHBOUR: 'it returns false'. Refute it at one input. -/
def inputsGuessWrong : ChangeSpec := { name := "inputsGuess", fn := fun _ => fun
  | [d1, d2, d3] => { results := [.lit (.bool false)], args := [d1, d2, d3] }
  | _ => none }
def InputsGuessWrongFalsely : Prop := inputsGuessRow.holds Try.pinned (OpenSpec.ofChange inputsGuessWrong)

/-- 'joustlaw15.InputsEnd': WHATEVER THE INPUT: true; the input reads as it did. -/
def inputsEndSpec : ChangeSpec := { name := "inputsEnd", fn := fun _ => fun
  | [d1, d2, d3] => { results := [.lit (.bool true)], args := [d1, d2, d3] }
  | _ => none }
def inputsEndRow : OpenClaim := { program := "ytkgjokidfbpnbaa", sum := "73db933cc5986971692eb6298cd876500b92d06bedfc0a3be4c6bdd0d961d61f", func := "joust/joustlaw15.InputsEnd", spec := "inputsEnd", apart := false }
def InputsEndSaid : Prop := inputsEndRow.holds Try.pinned (OpenSpec.ofChange inputsEndSpec)

/-- ITS FALSE NEIGHBOUR: 'it returns false'. Refute it at one input. -/
def inputsEndWrong : ChangeSpec := { name := "inputsEnd", fn := fun _ => fun
  | [d1, d2, d3] => { results := [.lit (.bool false)], args := [d1, d2, d3] }
  | _ => none }
def InputsEndWrongFalsely : Prop := inputsEndRow.holds Try.pinned (OpenSpec.ofChange inputsEndWrong)

/-- 'joustlaw15.InputsOrder': WHATEVER THE INPUT: true; the input reads as it did. -/
def inputsOrderSpec : ChangeSpec := { name := "inputsOrder", fn := fun _ => fun
  | [d1, d2, d3] => { results := [.lit (.bool true)], args := [d1, d2, d3] }
  | _ => none }
def inputsOrderRow : OpenClaim := { program := "ytkgjokidfbpnbaa", sum := "73db933cc5986971692eb6298cd876500b92d06bedfc0a3be4c6bdd0d961d61f", func := "joust/joustlaw15.InputsOrder", spec := "inputsOrder", unfollowed := true, recurses := true, apart := false }
def InputsOrderSaid : Prop := inputsOrderRow.holds Try.pinned (OpenSpec.ofChange inputsOrderSpec)

/-- ITS FALSE NEIGHBOUR: 'it returns false'. Refute it at one input. -/
def inputsOrderWrong : ChangeSpec := { name := "inputsOrder", fn := fun _ => fun
  | [d1, d2, d3] => { results := [.lit (.bool false)], args := [d1, d2, d3] }
  | _ => none }
def InputsOrderWrongFalsely : Prop := inputsOrderRow.holds Try.pinned (OpenSpec.ofChange inputsOrderWrong)

/-- 'joustlaw15.InputsStream': WHATEVER THE INPUT: true; the input reads as it did. -/
def inputsStreamSpec : ChangeSpec := { name := "inputsStream", fn := fun _ => fun
  | [d1, d2, d3] => { results := [.lit (.bool true)], args := [d1, d2, d3] }
  | _ => none }
def inputsStreamRow : OpenClaim := { program := "ytkgjokidfbpnbaa", sum := "73db933cc5986971692eb6298cd876500b92d06bedfc0a3be4c6bdd0d961d61f", func := "joust/joustlaw15.InputsStream", spec := "inputsStream", apart := false }
def InputsStreamSaid : Prop := inputsStreamRow.holds Try.pinned (OpenSpec.ofChange inputsStreamSpec)

/-- ITS FALSE NEIGHBOUR: 'it returns false'. Refute it at one input. -/
def inputsStreamWrong : ChangeSpec := { name := "inputsStream", fn := fun _ => fun
  | [d1, d2, d3] => { results := [.lit (.bool false)], args := [d1, d2, d3] }
  | _ => none }
def InputsStreamWrongFalsely : Prop := inputsStreamRow.holds Try.pinned (OpenSpec.ofChange inputsStreamWrong)

/-- 'joustlaw15.InputsPlay': WHATEVER THE INPUT: true; the input reads as it did. -/
def inputsPlaySpec : ChangeSpec := { name := "inputsPlay", fn := fun _ => fun
  | [d1, d2, d3, d4, d5] => { results := [.lit (.bool true)], args := [d1, d2, d3, d4, d5] }
  | _ => none }
def inputsPlayRow : OpenClaim := { program := "ytkgjokidfbpnbaa", sum := "73db933cc5986971692eb6298cd876500b92d06bedfc0a3be4c6bdd0d961d61f", func := "joust/joustlaw15.InputsPlay", spec := "inputsPlay", unfollowed := true, recurses := true, apart := false }
def InputsPlaySaid : Prop := inputsPlayRow.holds Try.pinned (OpenSpec.ofChange inputsPlaySpec)

/-- ITS FALSE NEIGHBOUR: 'it returns false'. Refute it at one input. -/
def inputsPlayWrong : ChangeSpec := { name := "inputsPlay", fn := fun _ => fun
  | [d1, d2, d3, d4, d5] => { results := [.lit (.bool false)], args := [d1, d2, d3, d4, d5] }
  | _ => none }
def InputsPlayWrongFalsely : Prop := inputsPlayRow.holds Try.pinned (OpenSpec.ofChange inputsPlayWrong)

/-- 'joustlaw15.InputsNil': WHATEVER THE INPUT: true; the input reads as it did. -/
def inputsNilSpec : ChangeSpec := { name := "inputsNil", fn := fun _ => fun
  | [d1, d2] => { results := [.lit (.bool true)], args := [d1, d2] }
  | _ => none }
def inputsNilRow : OpenClaim := { program := "ytkgjokidfbpnbaa", sum := "73db933cc5986971692eb6298cd876500b92d06bedfc0a3be4c6bdd0d961d61f", func := "joust/joustlaw15.InputsNil", spec := "inputsNil", apart := false }
def InputsNilSaid : Prop := inputsNilRow.holds Try.pinned (OpenSpec.ofChange inputsNilSpec)

/-- ITS FALSE NEIGHBOUR: 'it returns false'. Refute it at one input. -/
def inputsNilWrong : ChangeSpec := { name := "inputsNil", fn := fun _ => fun
  | [d1, d2] => { results := [.lit (.bool false)], args := [d1, d2] }
  | _ => none }
def InputsNilWrongFalsely : Prop := inputsNilRow.holds Try.pinned (OpenSpec.ofChange inputsNilWrong)

/- THE SECOND FORM. 'bulk': how many values and letters a reading holds, each counted each time it is reached (what is shared counts as often as it is met; a slice's spare places count too). A statement '..UptoSaid' is the law's where the arguments, and the package variables that the reading takes, are together of bulk at most 1048576: NARROWER than '..Said'. Prove '..Said' where nothing that the law and all that it calls make is longer than what came in: it says more and counts as full. Else prove '..UptoSaid'. A law counts once. -/
mutual
def uptoBulk {H : Type} : DataW H → Nat
  | .lit (.string bytes) => bytes.length + 1
  | .lit _ => 1
  | .nil => 1
  | .ptr d => uptoBulk d + 1
  | .slice elems spare => uptoBulkAll elems + uptoBulkAll spare + 1
  | .agg parts => uptoBulkAll parts + 1
  | .iface _ d => uptoBulk d + 1
  | .map entries => uptoBulkEntries entries + 1
  | .held _ => 1
def uptoBulkAll {H : Type} : List (DataW H) → Nat
  | [] => 0
  | d :: r => uptoBulk d + uptoBulkAll r
def uptoBulkEntries {H : Type} : List (Lit × DataW H) → Nat
  | [] => 0
  | x :: r => uptoBulkEntry x + uptoBulkEntries r
def uptoBulkEntry {H : Type} : Lit × DataW H → Nat
  | (.string bytes, d) => bytes.length + uptoBulk d + 1
  | (_, d) => uptoBulk d + 1
 end
def uptoSmall : (H : Type) → List (DataW H) → Bool := fun _ ds => decide (uptoBulkAll ds ≤ 1048576)
def OpenSpec.upto (s : _root_.Go.ChangeSpec) : _root_.Go.OpenSpec := { _root_.Go.OpenSpec.ofChange s with cond := some uptoSmall }

/-- 'joustlaw15.InputsGuess', WHERE WHAT IT READS IS OF BULK AT MOST 1048576: true; the input reads as it did. -/
def inputsGuessUptoRow : OpenClaim := { program := "ytkgjokidfbpnbaa", sum := "73db933cc5986971692eb6298cd876500b92d06bedfc0a3be4c6bdd0d961d61f", func := "joust/joustlaw15.InputsGuess", spec := "inputsGuess", apart := false, narrowed := true }
def InputsGuessUptoSaid : Prop := inputsGuessUptoRow.holds Try.pinned (OpenSpec.upto inputsGuessSpec)

/-- 'joustlaw15.InputsEnd', WHERE WHAT IT READS IS OF BULK AT MOST 1048576: true; the input reads as it did. -/
def inputsEndUptoRow : OpenClaim := { program := "ytkgjokidfbpnbaa", sum := "73db933cc5986971692eb6298cd876500b92d06bedfc0a3be4c6bdd0d961d61f", func := "joust/joustlaw15.InputsEnd", spec := "inputsEnd", apart := false, narrowed := true }
def InputsEndUptoSaid : Prop := inputsEndUptoRow.holds Try.pinned (OpenSpec.upto inputsEndSpec)

/-- 'joustlaw15.InputsOrder', WHERE WHAT IT READS IS OF BULK AT MOST 1048576: true; the input reads as it did. -/
def inputsOrderUptoRow : OpenClaim := { program := "ytkgjokidfbpnbaa", sum := "73db933cc5986971692eb6298cd876500b92d06bedfc0a3be4c6bdd0d961d61f", func := "joust/joustlaw15.InputsOrder", spec := "inputsOrder", unfollowed := true, recurses := true, apart := false, narrowed := true }
def InputsOrderUptoSaid : Prop := inputsOrderUptoRow.holds Try.pinned (OpenSpec.upto inputsOrderSpec)

/-- 'joustlaw15.InputsStream', WHERE WHAT IT READS IS OF BULK AT MOST 1048576: true; the input reads as it did. -/
def inputsStreamUptoRow : OpenClaim := { program := "ytkgjokidfbpnbaa", sum := "73db933cc5986971692eb6298cd876500b92d06bedfc0a3be4c6bdd0d961d61f", func := "joust/joustlaw15.InputsStream", spec := "inputsStream", apart := false, narrowed := true }
def InputsStreamUptoSaid : Prop := inputsStreamUptoRow.holds Try.pinned (OpenSpec.upto inputsStreamSpec)

/-- 'joustlaw15.InputsPlay', WHERE WHAT IT READS IS OF BULK AT MOST 1048576: true; the input reads as it did. -/
def inputsPlayUptoRow : OpenClaim := { program := "ytkgjokidfbpnbaa", sum := "73db933cc5986971692eb6298cd876500b92d06bedfc0a3be4c6bdd0d961d61f", func := "joust/joustlaw15.InputsPlay", spec := "inputsPlay", unfollowed := true, recurses := true, apart := false, narrowed := true }
def InputsPlayUptoSaid : Prop := inputsPlayUptoRow.holds Try.pinned (OpenSpec.upto inputsPlaySpec)

/-- 'joustlaw15.InputsNil', WHERE WHAT IT READS IS OF BULK AT MOST 1048576: true; the input reads as it did. -/
def inputsNilUptoRow : OpenClaim := { program := "ytkgjokidfbpnbaa", sum := "73db933cc5986971692eb6298cd876500b92d06bedfc0a3be4c6bdd0d961d61f", func := "joust/joustlaw15.InputsNil", spec := "inputsNil", apart := false, narrowed := true }
def InputsNilUptoSaid : Prop := inputsNilUptoRow.holds Try.pinned (OpenSpec.upto inputsNilSpec)

end Rows
end Go.Proofs.Ytkgjokidfbpnbaa
