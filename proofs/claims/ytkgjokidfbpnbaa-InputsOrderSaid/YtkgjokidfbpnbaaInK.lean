/- A stream as a part. Condition: numbers are within int. -/
import Derived.Test.YtkgjokidfbpnbaaInJ
namespace Go.Proofs.Ytkgjokidfbpnbaa.InW
open Go.RowKit Go.Proofs.YtkgjokidfbpnbaaW.PrintWords Go.Proofs.YtkgjokidfbpnbaaW.PrintLast Go.Proofs.YtkgjokidfbpnbaaW.PrintMore Go.Proofs.Ytkgjokidfbpnbaa.Sep
set_option linter.unusedVariables false
theorem stream.H {w0 w : World} {base g : Nat} {cs : List Col} {F : List Asr} (h : Has w0 base w (tab g cs :: F)) (hw : wfT cs) (p fr mo : Int) (hp : I64 p) (hfr : I64 fr) (hmo : I64 mo) :
    Calls Try.prog 18 #[.pointer (some ⟨g, 0, none⟩), .int .i64 p, .int .i64 fr, .int .i64 mo] w fun e w' => ∃ A c, e = .returned (.slice A (stream_ cs p fr mo).length c) ∧ (stream_ cs p fr mo).length ≤ c ∧ Has w0 base w' (row kin 24 (.slice A (stream_ cs p fr mo).length c) (stream_ cs p fr mo) :: tab g cs :: F) := by
  obtain ⟨ga, Z, hT, hl, hz, _⟩ := tab_open h
  refine (stream.calls hT hl hz p fr mo hp hfr hmo hw.1 (hw.at p).1).mono ?_
  rintro e w' ⟨v, rfl, ho, hb⟩
  obtain ⟨A, c, rfl⟩ := Kd.R_slice ho
  exact ⟨A, c, rfl, (Kd.R_reads' ho).2.1, Has.newRow h hb ho⟩
/-- what a part's row reads, as the call wants it -/
theorem row_C {w0 w : World} {base e n c : Nat} {A : Option Addr} {xs : List In} {F : List Asr} (h : Has w0 base w (row kin e (.slice A n c) xs :: F)) : Kd.C kin w A xs.length xs := by
  obtain ⟨A', c', e', _, hC⟩ := h.row_reads
  rw [(Value.slice.inj e').1]
  exact hC
end Go.Proofs.Ytkgjokidfbpnbaa.InW
