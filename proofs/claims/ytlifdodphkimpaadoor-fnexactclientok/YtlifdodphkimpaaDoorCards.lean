/-
  DERIVED. GIVEN WITH THE SEED: THE CARDS: each row of YtlifdodphkimpaaDoorRows.lean that lists a variable, with what it lists TIED to the program's text (the seventh form; the later family's looks); each row that meets fmt, with fmt's text TOLD by the authors' own Lean function (tested against real Go, not proved from fmt's source: count such statements apart). THE CARD IS WHAT COUNTS. Prove the row's statement (the work); the ties are given (YtlifdodphkimpaaDoorTie.lean); close each card by the builder's one call (the guide's Derived/Test/ToyasCard.lean, 'card_holds'). Laid BY PROGRAM, IN A SANDBOX (cutbox-door.mjs). By AI agents, Wed Nov 11 2026. No macro, syntax, notation, axiom, sorry.
-/
import Derived.Test.YtlifdodphkimpaaDoorRows
import GoSem.ClaimSeven
namespace Go.Proofs.YtlifdodphkimpaaDoor
namespace Rows

/-- THE TIED CARD OF 'laws.FnExactCheckCertificate'. -/
def fnExactCheckCertificateCard : Claim7 := { stood := { row := fnExactCheckCertificateRow, standIns := [], harness := (true, "910ecdd0d4dd2b8a09d50f934978821982c2079e81a45569d03ebf8da58e9ebb"), looks := false }, kinds := [], alts := [], laidByText := true, laidKinds := [.data, .data, .data, .data], laidTests := true, laidLooks := .later }
def FnExactCheckCertificateCardSaid : Prop := Claim7.holds Tryd.pinned (.plain (OpenSpec.ofChange fnExactCheckCertificateSpec)) fnExactCheckCertificateCard

/-- THE TIED CARD OF 'laws.FnExactMakeCertificate'. -/
def fnExactMakeCertificateCard : Claim7 := { stood := { row := fnExactMakeCertificateRow, standIns := [], harness := (true, "910ecdd0d4dd2b8a09d50f934978821982c2079e81a45569d03ebf8da58e9ebb"), looks := false }, kinds := [], alts := [], laidByText := true, laidKinds := [.data, .data, .data, .data], laidTests := true, laidLooks := .later }
def FnExactMakeCertificateCardSaid : Prop := Claim7.holds Tryd.pinned (.plain (OpenSpec.ofChange fnExactMakeCertificateSpec)) fnExactMakeCertificateCard

/-- THE TIED CARD OF 'laws.FnCertificates'. -/
def fnCertificatesCard : Claim7 := { stood := { row := fnCertificatesRow, standIns := [], harness := (true, "910ecdd0d4dd2b8a09d50f934978821982c2079e81a45569d03ebf8da58e9ebb"), looks := false }, kinds := [], alts := [], laidByText := true, laidKinds := [.data, .data, .data, .data], laidTests := true, laidLooks := .later }
def FnCertificatesCardSaid : Prop := Claim7.holds Tryd.pinned (.plain (OpenSpec.ofChange fnCertificatesSpec)) fnCertificatesCard

/-- THE TIED CARD OF 'laws.FnExactCountReplies'. -/
def fnExactCountRepliesCard : Claim7 := { stood := { row := fnExactCountRepliesRow, standIns := [], harness := (true, "910ecdd0d4dd2b8a09d50f934978821982c2079e81a45569d03ebf8da58e9ebb"), looks := false }, kinds := [], alts := [], laidByText := true, laidKinds := [.data], laidTests := true, laidLooks := .later }
def FnExactCountRepliesCardSaid : Prop := Claim7.holds Tryd.pinned (.plain (OpenSpec.ofChange fnExactCountRepliesSpec)) fnExactCountRepliesCard

/-- THE TIED CARD OF 'laws.FnReplies'. -/
def fnRepliesCard : Claim7 := { stood := { row := fnRepliesRow, standIns := [], harness := (true, "910ecdd0d4dd2b8a09d50f934978821982c2079e81a45569d03ebf8da58e9ebb"), looks := false }, kinds := [], alts := [], laidByText := true, laidKinds := [.data], laidTests := true, laidLooks := .later }
def FnRepliesCardSaid : Prop := Claim7.holds Tryd.pinned (.plain (OpenSpec.ofChange fnRepliesSpec)) fnRepliesCard

/-- THE TIED CARD OF 'laws.FnExactClientOK'. -/
def fnExactClientOKCard : Claim7 := { stood := { row := fnExactClientOKRow, standIns := [], harness := (true, "910ecdd0d4dd2b8a09d50f934978821982c2079e81a45569d03ebf8da58e9ebb"), looks := false }, kinds := [], alts := [], laidByText := true, laidKinds := [.data], laidTests := true, laidLooks := .later }
def FnExactClientOKCardSaid : Prop := Claim7.holds Tryd.pinned (.plain (OpenSpec.ofChange fnExactClientOKSpec)) fnExactClientOKCard

/-- THE TIED CARD OF 'laws.FnExactBodyOK'. -/
def fnExactBodyOKCard : Claim7 := { stood := { row := fnExactBodyOKRow, standIns := [], harness := (true, "910ecdd0d4dd2b8a09d50f934978821982c2079e81a45569d03ebf8da58e9ebb"), looks := false }, kinds := [], alts := [], laidByText := true, laidKinds := [.data], laidTests := true, laidLooks := .later }
def FnExactBodyOKCardSaid : Prop := Claim7.holds Tryd.pinned (.plain (OpenSpec.ofChange fnExactBodyOKSpec)) fnExactBodyOKCard

/-- THE SECOND FORM's CARD OF 'laws.FnExactCheckCertificate'. -/
def fnExactCheckCertificateUptoCard : Claim7 := { stood := { row := fnExactCheckCertificateUptoRow, standIns := [], harness := (true, "910ecdd0d4dd2b8a09d50f934978821982c2079e81a45569d03ebf8da58e9ebb"), looks := false }, kinds := [], alts := [], laidByText := true, laidKinds := [.data, .data, .data, .data], laidTests := true, laidLooks := .later }
def FnExactCheckCertificateUptoCardSaid : Prop := Claim7.holds Tryd.pinned (.plain (OpenSpec.upto fnExactCheckCertificateSpec)) fnExactCheckCertificateUptoCard

/-- THE SECOND FORM's CARD OF 'laws.FnExactMakeCertificate'. -/
def fnExactMakeCertificateUptoCard : Claim7 := { stood := { row := fnExactMakeCertificateUptoRow, standIns := [], harness := (true, "910ecdd0d4dd2b8a09d50f934978821982c2079e81a45569d03ebf8da58e9ebb"), looks := false }, kinds := [], alts := [], laidByText := true, laidKinds := [.data, .data, .data, .data], laidTests := true, laidLooks := .later }
def FnExactMakeCertificateUptoCardSaid : Prop := Claim7.holds Tryd.pinned (.plain (OpenSpec.upto fnExactMakeCertificateSpec)) fnExactMakeCertificateUptoCard

/-- THE SECOND FORM's CARD OF 'laws.FnCertificates'. -/
def fnCertificatesUptoCard : Claim7 := { stood := { row := fnCertificatesUptoRow, standIns := [], harness := (true, "910ecdd0d4dd2b8a09d50f934978821982c2079e81a45569d03ebf8da58e9ebb"), looks := false }, kinds := [], alts := [], laidByText := true, laidKinds := [.data, .data, .data, .data], laidTests := true, laidLooks := .later }
def FnCertificatesUptoCardSaid : Prop := Claim7.holds Tryd.pinned (.plain (OpenSpec.upto fnCertificatesSpec)) fnCertificatesUptoCard

/-- THE SECOND FORM's CARD OF 'laws.FnExactCountReplies'. -/
def fnExactCountRepliesUptoCard : Claim7 := { stood := { row := fnExactCountRepliesUptoRow, standIns := [], harness := (true, "910ecdd0d4dd2b8a09d50f934978821982c2079e81a45569d03ebf8da58e9ebb"), looks := false }, kinds := [], alts := [], laidByText := true, laidKinds := [.data], laidTests := true, laidLooks := .later }
def FnExactCountRepliesUptoCardSaid : Prop := Claim7.holds Tryd.pinned (.plain (OpenSpec.upto fnExactCountRepliesSpec)) fnExactCountRepliesUptoCard

/-- THE SECOND FORM's CARD OF 'laws.FnReplies'. -/
def fnRepliesUptoCard : Claim7 := { stood := { row := fnRepliesUptoRow, standIns := [], harness := (true, "910ecdd0d4dd2b8a09d50f934978821982c2079e81a45569d03ebf8da58e9ebb"), looks := false }, kinds := [], alts := [], laidByText := true, laidKinds := [.data], laidTests := true, laidLooks := .later }
def FnRepliesUptoCardSaid : Prop := Claim7.holds Tryd.pinned (.plain (OpenSpec.upto fnRepliesSpec)) fnRepliesUptoCard

/-- THE SECOND FORM's CARD OF 'laws.FnExactClientOK'. -/
def fnExactClientOKUptoCard : Claim7 := { stood := { row := fnExactClientOKUptoRow, standIns := [], harness := (true, "910ecdd0d4dd2b8a09d50f934978821982c2079e81a45569d03ebf8da58e9ebb"), looks := false }, kinds := [], alts := [], laidByText := true, laidKinds := [.data], laidTests := true, laidLooks := .later }
def FnExactClientOKUptoCardSaid : Prop := Claim7.holds Tryd.pinned (.plain (OpenSpec.upto fnExactClientOKSpec)) fnExactClientOKUptoCard

/-- THE SECOND FORM's CARD OF 'laws.FnExactBodyOK'. -/
def fnExactBodyOKUptoCard : Claim7 := { stood := { row := fnExactBodyOKUptoRow, standIns := [], harness := (true, "910ecdd0d4dd2b8a09d50f934978821982c2079e81a45569d03ebf8da58e9ebb"), looks := false }, kinds := [], alts := [], laidByText := true, laidKinds := [.data], laidTests := true, laidLooks := .later }
def FnExactBodyOKUptoCardSaid : Prop := Claim7.holds Tryd.pinned (.plain (OpenSpec.upto fnExactBodyOKSpec)) fnExactBodyOKUptoCard
end Rows
end Go.Proofs.YtlifdodphkimpaaDoor
