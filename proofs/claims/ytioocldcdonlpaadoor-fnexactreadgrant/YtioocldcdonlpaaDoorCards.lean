/-
  DERIVED. GIVEN WITH THE SEED: THE CARDS: each row of YtioocldcdonlpaaDoorRows.lean that lists a variable, with what it lists TIED to the program's text (the seventh form; the later family's looks); each row that meets fmt, with fmt's text TOLD by the authors' own Lean function (tested against real Go, not proved from fmt's source: count such statements apart). THE CARD IS WHAT COUNTS. Prove the row's statement (the work); the ties are given (YtioocldcdonlpaaDoorTie.lean); close each card by the builder's one call (the guide's Derived/Test/ToyasCard.lean, 'card_holds'). Laid BY PROGRAM, IN A SANDBOX (cutbox-door.mjs). By AI agents, Wed Nov 11 2026. No macro, syntax, notation, axiom, sorry.
-/
import Derived.Test.YtioocldcdonlpaaDoorRows
import GoSem.ClaimSeven
namespace Go.Proofs.YtioocldcdonlpaaDoor
namespace Rows

/-- THE TIED CARD OF 'laws.FnExactReadGrant'. -/
def fnExactReadGrantCard : Claim7 := { stood := { row := fnExactReadGrantRow, standIns := [], harness := (true, "fa97c69ff17cc2bb0e2456790aa292f295e985759dcc8a10a46b6391f46715e9"), looks := true }, kinds := [], alts := [], laidByText := true, laidKinds := [.data, .data, .data, .data, .sentinel, .sentinel, .pinned], laidTests := true, laidLooks := .later }
def FnExactReadGrantCardSaid : Prop := Claim7.holds Tryd.pinned (.plain (OpenSpec.ofChange fnExactReadGrantSpec)) fnExactReadGrantCard

/-- THE TIED CARD OF 'laws.FnGrantTexts'. -/
def fnGrantTextsCard : Claim7 := { stood := { row := fnGrantTextsRow, standIns := [], harness := (true, "fa97c69ff17cc2bb0e2456790aa292f295e985759dcc8a10a46b6391f46715e9"), looks := true }, kinds := [], alts := [], laidByText := true, laidKinds := [.data, .data, .data, .data, .sentinel, .sentinel, .pinned], laidTests := true, laidLooks := .later }
def FnGrantTextsCardSaid : Prop := Claim7.holds Tryd.pinned (.plain (OpenSpec.ofChange fnGrantTextsSpec)) fnGrantTextsCard

/-- THE SECOND FORM's CARD OF 'laws.FnExactReadGrant'. -/
def fnExactReadGrantUptoCard : Claim7 := { stood := { row := fnExactReadGrantUptoRow, standIns := [], harness := (true, "fa97c69ff17cc2bb0e2456790aa292f295e985759dcc8a10a46b6391f46715e9"), looks := true }, kinds := [], alts := [], laidByText := true, laidKinds := [.data, .data, .data, .data, .sentinel, .sentinel, .pinned], laidTests := true, laidLooks := .later }
def FnExactReadGrantUptoCardSaid : Prop := Claim7.holds Tryd.pinned (.plain (OpenSpec.upto fnExactReadGrantSpec)) fnExactReadGrantUptoCard

/-- THE SECOND FORM's CARD OF 'laws.FnGrantTexts'. -/
def fnGrantTextsUptoCard : Claim7 := { stood := { row := fnGrantTextsUptoRow, standIns := [], harness := (true, "fa97c69ff17cc2bb0e2456790aa292f295e985759dcc8a10a46b6391f46715e9"), looks := true }, kinds := [], alts := [], laidByText := true, laidKinds := [.data, .data, .data, .data, .sentinel, .sentinel, .pinned], laidTests := true, laidLooks := .later }
def FnGrantTextsUptoCardSaid : Prop := Claim7.holds Tryd.pinned (.plain (OpenSpec.upto fnGrantTextsSpec)) fnGrantTextsUptoCard
end Rows
end Go.Proofs.YtioocldcdonlpaaDoor
