/-
  DERIVED. GIVEN WITH THE SEED: THE CARDS: each row of YtadablpppkjdbaaDoorRows.lean that lists a variable, with what it lists TIED to the program's text (the seventh form; the later family's looks); each row that meets fmt, with fmt's text TOLD by the authors' own Lean function (tested against real Go, not proved from fmt's source: count such statements apart). THE CARD IS WHAT COUNTS. Prove the row's statement (the work); the ties are given (YtadablpppkjdbaaDoorTie.lean); close each card by the builder's one call (the guide's Derived/Test/ToyasCard.lean, 'card_holds'). Laid BY PROGRAM, IN A SANDBOX (cutbox-door.mjs). By AI agents, Wed Nov 11 2026. No macro, syntax, notation, axiom, sorry.
-/
import Derived.Test.YtadablpppkjdbaaDoorRows
import GoSem.ClaimSeven
namespace Go.Proofs.YtadablpppkjdbaaDoor
namespace Rows

/-- THE TIED CARD OF 'laws.FnExactProvePiece'. -/
def fnExactProvePieceCard : Claim7 := { stood := { row := fnExactProvePieceRow, standIns := [], harness := (true, "4617db44448b6b37d9b0ca62c299d7bff04138b72a01d70d72159aade5babf36"), looks := false }, kinds := [], alts := [], laidByText := true, laidKinds := [.data], laidTests := true, laidLooks := .later }
def FnExactProvePieceCardSaid : Prop := Claim7.holds Tryd.pinned (.plain (OpenSpec.ofChange fnExactProvePieceSpec)) fnExactProvePieceCard

/-- THE TIED CARD OF 'laws.FnExactProofsOf'. -/
def fnExactProofsOfCard : Claim7 := { stood := { row := fnExactProofsOfRow, standIns := [], harness := (true, "4617db44448b6b37d9b0ca62c299d7bff04138b72a01d70d72159aade5babf36"), looks := false }, kinds := [], alts := [], laidByText := true, laidKinds := [.data], laidTests := true, laidLooks := .later }
def FnExactProofsOfCardSaid : Prop := Claim7.holds Tryd.pinned (.plain (OpenSpec.ofChange fnExactProofsOfSpec)) fnExactProofsOfCard

/-- THE TIED CARD OF 'laws.FnSigned'. -/
def fnSignedCard : Claim7 := { stood := { row := fnSignedRow, standIns := [], harness := (true, "4617db44448b6b37d9b0ca62c299d7bff04138b72a01d70d72159aade5babf36"), looks := false }, kinds := [], alts := [], laidByText := true, laidKinds := [.data], laidTests := true, laidLooks := .later }
def FnSignedCardSaid : Prop := Claim7.holds Tryd.pinned (.plain (OpenSpec.ofChange fnSignedSpec)) fnSignedCard

/-- THE TIED CARD OF 'laws.FnExactCountReplies'. -/
def fnExactCountRepliesCard : Claim7 := { stood := { row := fnExactCountRepliesRow, standIns := [], harness := (true, "4617db44448b6b37d9b0ca62c299d7bff04138b72a01d70d72159aade5babf36"), looks := false }, kinds := [], alts := [], laidByText := true, laidKinds := [.data], laidTests := true, laidLooks := .later }
def FnExactCountRepliesCardSaid : Prop := Claim7.holds Tryd.pinned (.plain (OpenSpec.ofChange fnExactCountRepliesSpec)) fnExactCountRepliesCard

/-- THE TIED CARD OF 'laws.FnExactSignGrant'. -/
def fnExactSignGrantCard : Claim7 := { stood := { row := fnExactSignGrantRow, standIns := [], harness := (true, "4617db44448b6b37d9b0ca62c299d7bff04138b72a01d70d72159aade5babf36"), looks := false }, kinds := [], alts := [], laidByText := true, laidKinds := [.data, .data, .data, .data], laidTests := true, laidLooks := .later }
def FnExactSignGrantCardSaid : Prop := Claim7.holds Tryd.pinned (.plain (OpenSpec.ofChange fnExactSignGrantSpec)) fnExactSignGrantCard

/-- THE TIED CARD OF 'laws.FnExactCheckCertificate'. -/
def fnExactCheckCertificateCard : Claim7 := { stood := { row := fnExactCheckCertificateRow, standIns := [], harness := (true, "4617db44448b6b37d9b0ca62c299d7bff04138b72a01d70d72159aade5babf36"), looks := false }, kinds := [], alts := [], laidByText := true, laidKinds := [.data, .data, .data, .data], laidTests := true, laidLooks := .later }
def FnExactCheckCertificateCardSaid : Prop := Claim7.holds Tryd.pinned (.plain (OpenSpec.ofChange fnExactCheckCertificateSpec)) fnExactCheckCertificateCard

/-- THE TIED CARD OF 'laws.FnExactBodyOK'. -/
def fnExactBodyOKCard : Claim7 := { stood := { row := fnExactBodyOKRow, standIns := [], harness := (true, "4617db44448b6b37d9b0ca62c299d7bff04138b72a01d70d72159aade5babf36"), looks := false }, kinds := [], alts := [], laidByText := true, laidKinds := [.data], laidTests := true, laidLooks := .later }
def FnExactBodyOKCardSaid : Prop := Claim7.holds Tryd.pinned (.plain (OpenSpec.ofChange fnExactBodyOKSpec)) fnExactBodyOKCard

/-- THE TIED CARD OF 'laws.FnReplies'. -/
def fnRepliesCard : Claim7 := { stood := { row := fnRepliesRow, standIns := [], harness := (true, "4617db44448b6b37d9b0ca62c299d7bff04138b72a01d70d72159aade5babf36"), looks := false }, kinds := [], alts := [], laidByText := true, laidKinds := [.data], laidTests := true, laidLooks := .later }
def FnRepliesCardSaid : Prop := Claim7.holds Tryd.pinned (.plain (OpenSpec.ofChange fnRepliesSpec)) fnRepliesCard

/-- THE SECOND FORM's CARD OF 'laws.FnExactProvePiece'. -/
def fnExactProvePieceUptoCard : Claim7 := { stood := { row := fnExactProvePieceUptoRow, standIns := [], harness := (true, "4617db44448b6b37d9b0ca62c299d7bff04138b72a01d70d72159aade5babf36"), looks := false }, kinds := [], alts := [], laidByText := true, laidKinds := [.data], laidTests := true, laidLooks := .later }
def FnExactProvePieceUptoCardSaid : Prop := Claim7.holds Tryd.pinned (.plain (OpenSpec.upto fnExactProvePieceSpec)) fnExactProvePieceUptoCard

/-- THE SECOND FORM's CARD OF 'laws.FnExactProofsOf'. -/
def fnExactProofsOfUptoCard : Claim7 := { stood := { row := fnExactProofsOfUptoRow, standIns := [], harness := (true, "4617db44448b6b37d9b0ca62c299d7bff04138b72a01d70d72159aade5babf36"), looks := false }, kinds := [], alts := [], laidByText := true, laidKinds := [.data], laidTests := true, laidLooks := .later }
def FnExactProofsOfUptoCardSaid : Prop := Claim7.holds Tryd.pinned (.plain (OpenSpec.upto fnExactProofsOfSpec)) fnExactProofsOfUptoCard

/-- THE SECOND FORM's CARD OF 'laws.FnSigned'. -/
def fnSignedUptoCard : Claim7 := { stood := { row := fnSignedUptoRow, standIns := [], harness := (true, "4617db44448b6b37d9b0ca62c299d7bff04138b72a01d70d72159aade5babf36"), looks := false }, kinds := [], alts := [], laidByText := true, laidKinds := [.data], laidTests := true, laidLooks := .later }
def FnSignedUptoCardSaid : Prop := Claim7.holds Tryd.pinned (.plain (OpenSpec.upto fnSignedSpec)) fnSignedUptoCard

/-- THE SECOND FORM's CARD OF 'laws.FnExactCountReplies'. -/
def fnExactCountRepliesUptoCard : Claim7 := { stood := { row := fnExactCountRepliesUptoRow, standIns := [], harness := (true, "4617db44448b6b37d9b0ca62c299d7bff04138b72a01d70d72159aade5babf36"), looks := false }, kinds := [], alts := [], laidByText := true, laidKinds := [.data], laidTests := true, laidLooks := .later }
def FnExactCountRepliesUptoCardSaid : Prop := Claim7.holds Tryd.pinned (.plain (OpenSpec.upto fnExactCountRepliesSpec)) fnExactCountRepliesUptoCard

/-- THE SECOND FORM's CARD OF 'laws.FnExactSignGrant'. -/
def fnExactSignGrantUptoCard : Claim7 := { stood := { row := fnExactSignGrantUptoRow, standIns := [], harness := (true, "4617db44448b6b37d9b0ca62c299d7bff04138b72a01d70d72159aade5babf36"), looks := false }, kinds := [], alts := [], laidByText := true, laidKinds := [.data, .data, .data, .data], laidTests := true, laidLooks := .later }
def FnExactSignGrantUptoCardSaid : Prop := Claim7.holds Tryd.pinned (.plain (OpenSpec.upto fnExactSignGrantSpec)) fnExactSignGrantUptoCard

/-- THE SECOND FORM's CARD OF 'laws.FnExactCheckCertificate'. -/
def fnExactCheckCertificateUptoCard : Claim7 := { stood := { row := fnExactCheckCertificateUptoRow, standIns := [], harness := (true, "4617db44448b6b37d9b0ca62c299d7bff04138b72a01d70d72159aade5babf36"), looks := false }, kinds := [], alts := [], laidByText := true, laidKinds := [.data, .data, .data, .data], laidTests := true, laidLooks := .later }
def FnExactCheckCertificateUptoCardSaid : Prop := Claim7.holds Tryd.pinned (.plain (OpenSpec.upto fnExactCheckCertificateSpec)) fnExactCheckCertificateUptoCard

/-- THE SECOND FORM's CARD OF 'laws.FnExactBodyOK'. -/
def fnExactBodyOKUptoCard : Claim7 := { stood := { row := fnExactBodyOKUptoRow, standIns := [], harness := (true, "4617db44448b6b37d9b0ca62c299d7bff04138b72a01d70d72159aade5babf36"), looks := false }, kinds := [], alts := [], laidByText := true, laidKinds := [.data], laidTests := true, laidLooks := .later }
def FnExactBodyOKUptoCardSaid : Prop := Claim7.holds Tryd.pinned (.plain (OpenSpec.upto fnExactBodyOKSpec)) fnExactBodyOKUptoCard

/-- THE SECOND FORM's CARD OF 'laws.FnReplies'. -/
def fnRepliesUptoCard : Claim7 := { stood := { row := fnRepliesUptoRow, standIns := [], harness := (true, "4617db44448b6b37d9b0ca62c299d7bff04138b72a01d70d72159aade5babf36"), looks := false }, kinds := [], alts := [], laidByText := true, laidKinds := [.data], laidTests := true, laidLooks := .later }
def FnRepliesUptoCardSaid : Prop := Claim7.holds Tryd.pinned (.plain (OpenSpec.upto fnRepliesSpec)) fnRepliesUptoCard
end Rows
end Go.Proofs.YtadablpppkjdbaaDoor
