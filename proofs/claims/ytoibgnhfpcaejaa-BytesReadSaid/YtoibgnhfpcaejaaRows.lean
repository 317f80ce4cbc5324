/-
  No cell of these rows narrows 'for every input' (looked for: loops, veiled, ifaces, maps, wideKeys, modest, calm, conditions, laid).
  DERIVED. THE GIVEN ROWS OF THIS SEAT. 5 by the template 'for every input the law returns true; each argument reads behind the call as it read before'; 0 by the template 'total and deterministic' (their statements: YtoibgnhfpcaejaaTotals.lean).
  GIVEN WITH THE SEED: the statements are not yours to turn. If you find one false, say at which input.
  Laid BY PROGRAM, IN A SANDBOX (cutbox-rows.mjs): the forced cells as the released guide's own fill.sh prints them over the translation fc89bc62da45e1cd… (all of the seat's roots in one cut). By AI agents, Wed Nov 11 2026. No macro, syntax, notation, axiom, sorry.
-/
import Derived.Test.YtoibgnhfpcaejaaChecked
import GoSem.Claim
import GoSem.ClaimJoined
import GoSem.ClaimMapViews
import Derived.JoinedTies
import Derived.KernelRfl
namespace Go.Proofs.Ytoibgnhfpcaejaa
/- THE CELL 'sum', in the pinned program and in every row, IS THE sha256 OF THE DUMP (.gsa) THAT YtoibgnhfpcaejaaProg.lean LOADS. Nothing in Lean hashes anything: it is a label: what it is worth is what the hold of that sum in a sandbox is worth. -/
noncomputable def Try.pinned : Pinned := { name := "ytoibgnhfpcaejaa", sum := "fc89bc62da45e1cd2dfc523098769d9cc112b0379331c7e4cff77b01b64ee467", checked := Try.checked }
namespace Rows
def none {H : Type} : Left H := { results := [], args := [] }

/-- 'joustlaw11.BytesLeast': WHATEVER THE INPUT: true; the input reads as it did. -/
def bytesLeastSpec : ChangeSpec := { name := "bytesLeast", fn := fun _ => fun
  | [d] => { results := [.lit (.bool true)], args := [d] }
  | _ => none }
def bytesLeastRow : OpenClaim := { program := "ytoibgnhfpcaejaa", sum := "fc89bc62da45e1cd2dfc523098769d9cc112b0379331c7e4cff77b01b64ee467", func := "joust/joustlaw11.BytesLeast", spec := "bytesLeast", unfollowed := true, recurses := true, apart := false }
def BytesLeastSaid : Prop := bytesLeastRow.holds Try.pinned (OpenSpec.ofChange bytesLeastSpec)

/-- ITS FALSE NEIGHBOUR: 'it returns false'. Refute it at one input. -/
def bytesLeastWrong : ChangeSpec := { name := "bytesLeast", fn := fun _ => fun
  | [d] => { results := [.lit (.bool false)], args := [d] }
  | _ => none }
def BytesLeastWrongFalsely : Prop := bytesLeastRow.holds Try.pinned (OpenSpec.ofChange bytesLeastWrong)

/-- 'joustlaw11.BytesMany': WHATEVER THE INPUT: true; the input reads as it did. -/
def bytesManySpec : ChangeSpec := { name := "bytesMany", fn := fun _ => fun
  | [d1, d2] => { results := [.lit (.bool true)], args := [d1, d2] }
  | _ => none }
def bytesManyRow : OpenClaim := { program := "ytoibgnhfpcaejaa", sum := "fc89bc62da45e1cd2dfc523098769d9cc112b0379331c7e4cff77b01b64ee467", func := "joust/joustlaw11.BytesMany", spec := "bytesMany", unfollowed := true, recurses := true, apart := false }
def BytesManySaid : Prop := bytesManyRow.holds Try.pinned (OpenSpec.ofChange bytesManySpec)

/-- ITS FALSE NEIGHBOUR: 'it returns false'. Refute it at one input. -/
def bytesManyWrong : ChangeSpec := { name := "bytesMany", fn := fun _ => fun
  | [d1, d2] => { results := [.lit (.bool false)], args := [d1, d2] }
  | _ => none }
def BytesManyWrongFalsely : Prop := bytesManyRow.holds Try.pinned (OpenSpec.ofChange bytesManyWrong)

/-- 'joustlaw11.BytesWrite': WHATEVER THE INPUT: true; the input reads as it did. -/
def bytesWriteSpec : ChangeSpec := { name := "bytesWrite", fn := fun _ => fun
  | [d] => { results := [.lit (.bool true)], args := [d] }
  | _ => none }
def bytesWriteRow : OpenClaim := { program := "ytoibgnhfpcaejaa", sum := "fc89bc62da45e1cd2dfc523098769d9cc112b0379331c7e4cff77b01b64ee467", func := "joust/joustlaw11.BytesWrite", spec := "bytesWrite", unfollowed := true, recurses := true, apart := false }
def BytesWriteSaid : Prop := bytesWriteRow.holds Try.pinned (OpenSpec.ofChange bytesWriteSpec)

/-- ITS FALSE NEIGHBOUR: 'it returns false'. Refute it at one input. -/
def bytesWriteWrong : ChangeSpec := { name := "bytesWrite", fn := fun _ => fun
  | [d] => { results := [.lit (.bool false)], args := [d] }
  | _ => none }
def BytesWriteWrongFalsely : Prop := bytesWriteRow.holds Try.pinned (OpenSpec.ofChange bytesWriteWrong)

/-- 'joustlaw11.BytesRead': WHATEVER THE INPUT: true; the input reads as it did. -/
def bytesReadSpec : ChangeSpec := { name := "bytesRead", fn := fun _ => fun
  | [d1, d2] => { results := [.lit (.bool true)], args := [d1, d2] }
  | _ => none }
def bytesReadRow : OpenClaim := { program := "ytoibgnhfpcaejaa", sum := "fc89bc62da45e1cd2dfc523098769d9cc112b0379331c7e4cff77b01b64ee467", func := "joust/joustlaw11.BytesRead", spec := "bytesRead", unfollowed := true, recurses := true, apart := false }
def BytesReadSaid : Prop := bytesReadRow.holds Try.pinned (OpenSpec.ofChange bytesReadSpec)

/-- ITS FALSE NEIGHBOUR: 'it returns false'. Refute it at one input. -/
def bytesReadWrong : ChangeSpec := { name := "bytesRead", fn := fun _ => fun
  | [d1, d2] => { results := [.lit (.bool false)], args := [d1, d2] }
  | _ => none }
def BytesReadWrongFalsely : Prop := bytesReadRow.holds Try.pinned (OpenSpec.ofChange bytesReadWrong)

/-- 'joustlaw11.BytesNil': WHATEVER THE INPUT: true; the input reads as it did. -/
def bytesNilSpec : ChangeSpec := { name := "bytesNil", fn := fun _ => fun
  | [d] => { results := [.lit (.bool true)], args := [d] }
  | _ => none }
def bytesNilRow : OpenClaim := { program := "ytoibgnhfpcaejaa", sum := "fc89bc62da45e1cd2dfc523098769d9cc112b0379331c7e4cff77b01b64ee467", func := "joust/joustlaw11.BytesNil", spec := "bytesNil", unfollowed := true, recurses := true, apart := false }
def BytesNilSaid : Prop := bytesNilRow.holds Try.pinned (OpenSpec.ofChange bytesNilSpec)

/-- ITS FALSE NEIGHBOUR: 'it returns false'. Refute it at one input. -/
def bytesNilWrong : ChangeSpec := { name := "bytesNil", fn := fun _ => fun
  | [d] => { results := [.lit (.bool false)], args := [d] }
  | _ => none }
def BytesNilWrongFalsely : Prop := bytesNilRow.holds Try.pinned (OpenSpec.ofChange bytesNilWrong)

/- THE SECOND FORM. 'bulk': how many values and letters a reading holds, each counted each time it is reached (what is shared counts as often as it is met; a slice's spare places count too). A statement '..UptoSaid' is the law's where the arguments, and the package variables that the reading takes, are together of bulk at most 1048576: NARROWER than '..Said'. Prove '..Said' where nothing that the law and all that it calls make is longer than what came in: it says more and counts as full. Else prove '..UptoSaid'. A law counts once. -/
mutual
def uptoBulk {H : Type} : DataW H → Nat
  | .lit (.string bytes) => bytes.length + 1
  | .lit _ => 1
  | .nil => 1
  | .ptr d => uptoBulk d + 1
  | .slice elems spare => uptoBulkAll elems + uptoBulkAll spare + 1
  | .agg parts => uptoBulkAll parts + 1
  | .iface _ d => uptoBulk d + 1
  | .map entries => uptoBulkEntries entries + 1
  | .held _ => 1
def uptoBulkAll {H : Type} : List (DataW H) → Nat
  | [] => 0
  | d :: r => uptoBulk d + uptoBulkAll r
def uptoBulkEntries {H : Type} : List (Lit × DataW H) → Nat
  | [] => 0
  | x :: r => uptoBulkEntry x + uptoBulkEntries r
def uptoBulkEntry {H : Type} : Lit × DataW H → Nat
  | (.string bytes, d) => bytes.length + uptoBulk d + 1
  | (_, d) => uptoBulk d + 1
 end
def uptoSmall : (H : Type) → List (DataW H) → Bool := fun _ ds => decide (uptoBulkAll ds ≤ 1048576)
def OpenSpec.upto (s : _root_.Go.ChangeSpec) : _root_.Go.OpenSpec := { _root_.Go.OpenSpec.ofChange s with cond := some uptoSmall }

/-- 'joustlaw11.BytesLeast', WHERE WHAT IT READS IS OF BULK AT MOST 1048576: true; the input reads as it did. -/
def bytesLeastUptoRow : OpenClaim := { program := "ytoibgnhfpcaejaa", sum := "fc89bc62da45e1cd2dfc523098769d9cc112b0379331c7e4cff77b01b64ee467", func := "joust/joustlaw11.BytesLeast", spec := "bytesLeast", unfollowed := true, recurses := true, apart := false, narrowed := true }
def BytesLeastUptoSaid : Prop := bytesLeastUptoRow.holds Try.pinned (OpenSpec.upto bytesLeastSpec)

/-- 'joustlaw11.BytesMany', WHERE WHAT IT READS IS OF BULK AT MOST 1048576: true; the input reads as it did. -/
def bytesManyUptoRow : OpenClaim := { program := "ytoibgnhfpcaejaa", sum := "fc89bc62da45e1cd2dfc523098769d9cc112b0379331c7e4cff77b01b64ee467", func := "joust/joustlaw11.BytesMany", spec := "bytesMany", unfollowed := true, recurses := true, apart := false, narrowed := true }
def BytesManyUptoSaid : Prop := bytesManyUptoRow.holds Try.pinned (OpenSpec.upto bytesManySpec)

/-- 'joustlaw11.BytesWrite', WHERE WHAT IT READS IS OF BULK AT MOST 1048576: true; the input reads as it did. -/
def bytesWriteUptoRow : OpenClaim := { program := "ytoibgnhfpcaejaa", sum := "fc89bc62da45e1cd2dfc523098769d9cc112b0379331c7e4cff77b01b64ee467", func := "joust/joustlaw11.BytesWrite", spec := "bytesWrite", unfollowed := true, recurses := true, apart := false, narrowed := true }
def BytesWriteUptoSaid : Prop := bytesWriteUptoRow.holds Try.pinned (OpenSpec.upto bytesWriteSpec)

/-- 'joustlaw11.BytesRead', WHERE WHAT IT READS IS OF BULK AT MOST 1048576: true; the input reads as it did. -/
def bytesReadUptoRow : OpenClaim := { program := "ytoibgnhfpcaejaa", sum := "fc89bc62da45e1cd2dfc523098769d9cc112b0379331c7e4cff77b01b64ee467", func := "joust/joustlaw11.BytesRead", spec := "bytesRead", unfollowed := true, recurses := true, apart := false, narrowed := true }
def BytesReadUptoSaid : Prop := bytesReadUptoRow.holds Try.pinned (OpenSpec.upto bytesReadSpec)

/-- 'joustlaw11.BytesNil', WHERE WHAT IT READS IS OF BULK AT MOST 1048576: true; the input reads as it did. -/
def bytesNilUptoRow : OpenClaim := { program := "ytoibgnhfpcaejaa", sum := "fc89bc62da45e1cd2dfc523098769d9cc112b0379331c7e4cff77b01b64ee467", func := "joust/joustlaw11.BytesNil", spec := "bytesNil", unfollowed := true, recurses := true, apart := false, narrowed := true }
def BytesNilUptoSaid : Prop := bytesNilUptoRow.holds Try.pinned (OpenSpec.upto bytesNilSpec)

end Rows
end Go.Proofs.Ytoibgnhfpcaejaa
