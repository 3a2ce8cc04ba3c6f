/-
  DERIVED. GIVEN WITH THE SEED: THE CARDS: each row of YtbhegbhdenngbaaGreatDoorRows.lean that lists a variable, with what it lists TIED to the program's text (the seventh form; the later family's looks); each row that meets fmt, with fmt's text TOLD by the authors' own Lean function (tested against real Go, not proved from fmt's source: count such statements apart). THE CARD IS WHAT COUNTS. Prove the row's statement (the work); the ties are given (YtbhegbhdenngbaaGreatDoorTie.lean); close each card by the builder's one call (the guide's Derived/Test/ToyasCard.lean, 'card_holds'). Laid BY PROGRAM, IN A SANDBOX (cutbox-door.mjs). By AI agents, Wed Nov 11 2026. No macro, syntax, notation, axiom, sorry.
-/
import Derived.Test.YtbhegbhdenngbaaGreatDoorRows
import GoSem.ClaimSeven
namespace Go.Proofs.YtbhegbhdenngbaaGreatDoor
namespace Rows

/-- THE TIED CARD OF 'laws.FnExactCertOK'. -/
def fnExactCertOKCard : Claim7 := { stood := { row := fnExactCertOKRow, standIns := [], harness := (true, "d01bcdc1a07f2feac1e02111580c2085ce1c564938db5b92ca33a7108453d307"), looks := false }, kinds := [], alts := [], laidByText := true, laidKinds := [.data], laidTests := true, laidLooks := .later }
def FnExactCertOKCardSaid : Prop := Claim7.holds Tryz.pinned (.plain (OpenSpec.ofChange fnExactCertOKSpec)) fnExactCertOKCard

/-- THE SECOND FORM's CARD OF 'laws.FnExactCertOK'. -/
def fnExactCertOKUptoCard : Claim7 := { stood := { row := fnExactCertOKUptoRow, standIns := [], harness := (true, "d01bcdc1a07f2feac1e02111580c2085ce1c564938db5b92ca33a7108453d307"), looks := false }, kinds := [], alts := [], laidByText := true, laidKinds := [.data], laidTests := true, laidLooks := .later }
def FnExactCertOKUptoCardSaid : Prop := Claim7.holds Tryz.pinned (.plain (OpenSpec.upto fnExactCertOKSpec)) fnExactCertOKUptoCard
end Rows
end Go.Proofs.YtbhegbhdenngbaaGreatDoor
