/-
  DERIVED. GIVEN WITH THE SEED: THE CARDS: each row of YtdpdbegglkdgnaaDoorRows.lean that lists a variable, with what it lists TIED to the program's text (the seventh form; the later family's looks); each row that meets fmt, with fmt's text TOLD by the authors' own Lean function (tested against real Go, not proved from fmt's source: count such statements apart). THE CARD IS WHAT COUNTS. Prove the row's statement (the work); the ties are given (YtdpdbegglkdgnaaDoorTie.lean); close each card by the builder's one call (the guide's Derived/Test/ToyasCard.lean, 'card_holds'). Laid BY PROGRAM, IN A SANDBOX (cutbox-door.mjs). By AI agents, Wed Nov 11 2026. No macro, syntax, notation, axiom, sorry.
-/
import Derived.Test.YtdpdbegglkdgnaaDoorRows
import GoSem.ClaimSeven
namespace Go.Proofs.YtdpdbegglkdgnaaDoor
namespace Rows

/-- THE TIED CARD OF 'laws.FnExactNodeSeed'. -/
def fnExactNodeSeedCard : Claim7 := { stood := { row := fnExactNodeSeedRow, standIns := [], harness := (true, "3c76242839dbdf0c890db1f6d54336c1b5e0ea53c8b93964ed19297e9f8f1be8"), looks := false }, kinds := [], alts := [], laidByText := true, laidKinds := [.data], laidTests := true, laidLooks := .later }
def FnExactNodeSeedCardSaid : Prop := Claim7.holds Tryd.pinned (.plain (OpenSpec.ofChange fnExactNodeSeedSpec)) fnExactNodeSeedCard

/-- THE TIED CARD OF 'laws.FnExactVoteMac'. -/
def fnExactVoteMacCard : Claim7 := { stood := { row := fnExactVoteMacRow, standIns := [], harness := (true, "3c76242839dbdf0c890db1f6d54336c1b5e0ea53c8b93964ed19297e9f8f1be8"), looks := false }, kinds := [], alts := [], laidByText := true, laidKinds := [.data], laidTests := true, laidLooks := .later }
def FnExactVoteMacCardSaid : Prop := Claim7.holds Tryd.pinned (.plain (OpenSpec.ofChange fnExactVoteMacSpec)) fnExactVoteMacCard

/-- THE TIED CARD OF 'laws.FnExactReplyMac'. -/
def fnExactReplyMacCard : Claim7 := { stood := { row := fnExactReplyMacRow, standIns := [], harness := (true, "3c76242839dbdf0c890db1f6d54336c1b5e0ea53c8b93964ed19297e9f8f1be8"), looks := false }, kinds := [], alts := [], laidByText := true, laidKinds := [.data], laidTests := true, laidLooks := .later }
def FnExactReplyMacCardSaid : Prop := Claim7.holds Tryd.pinned (.plain (OpenSpec.ofChange fnExactReplyMacSpec)) fnExactReplyMacCard

/-- THE TIED CARD OF 'laws.FnExactNodeRoot'. -/
def fnExactNodeRootCard : Claim7 := { stood := { row := fnExactNodeRootRow, standIns := [], harness := (true, "3c76242839dbdf0c890db1f6d54336c1b5e0ea53c8b93964ed19297e9f8f1be8"), looks := false }, kinds := [], alts := [], laidByText := true, laidKinds := [.data], laidTests := true, laidLooks := .later }
def FnExactNodeRootCardSaid : Prop := Claim7.holds Tryd.pinned (.plain (OpenSpec.ofChange fnExactNodeRootSpec)) fnExactNodeRootCard

/-- THE TIED CARD OF 'laws.FnExactReplyOK'. -/
def fnExactReplyOKCard : Claim7 := { stood := { row := fnExactReplyOKRow, standIns := [], harness := (true, "3c76242839dbdf0c890db1f6d54336c1b5e0ea53c8b93964ed19297e9f8f1be8"), looks := false }, kinds := [], alts := [], laidByText := true, laidKinds := [.data], laidTests := true, laidLooks := .later }
def FnExactReplyOKCardSaid : Prop := Claim7.holds Tryd.pinned (.plain (OpenSpec.ofChange fnExactReplyOKSpec)) fnExactReplyOKCard

/-- THE TIED CARD OF 'laws.FnExactMakeReply'. -/
def fnExactMakeReplyCard : Claim7 := { stood := { row := fnExactMakeReplyRow, standIns := [], harness := (true, "3c76242839dbdf0c890db1f6d54336c1b5e0ea53c8b93964ed19297e9f8f1be8"), looks := false }, kinds := [], alts := [], laidByText := true, laidKinds := [.data], laidTests := true, laidLooks := .later }
def FnExactMakeReplyCardSaid : Prop := Claim7.holds Tryd.pinned (.plain (OpenSpec.ofChange fnExactMakeReplySpec)) fnExactMakeReplyCard

/-- THE TIED CARD OF 'laws.FnExactStableOK'. -/
def fnExactStableOKCard : Claim7 := { stood := { row := fnExactStableOKRow, standIns := [], harness := (true, "3c76242839dbdf0c890db1f6d54336c1b5e0ea53c8b93964ed19297e9f8f1be8"), looks := false }, kinds := [], alts := [], laidByText := true, laidKinds := [.data], laidTests := true, laidLooks := .later }
def FnExactStableOKCardSaid : Prop := Claim7.holds Tryd.pinned (.plain (OpenSpec.ofChange fnExactStableOKSpec)) fnExactStableOKCard

/-- THE TIED CARD OF 'laws.FnExactCheckPiece'. -/
def fnExactCheckPieceCard : Claim7 := { stood := { row := fnExactCheckPieceRow, standIns := [], harness := (true, "3c76242839dbdf0c890db1f6d54336c1b5e0ea53c8b93964ed19297e9f8f1be8"), looks := false }, kinds := [], alts := [], laidByText := true, laidKinds := [.data], laidTests := true, laidLooks := .later }
def FnExactCheckPieceCardSaid : Prop := Claim7.holds Tryd.pinned (.plain (OpenSpec.ofChange fnExactCheckPieceSpec)) fnExactCheckPieceCard

/-- THE TIED CARD OF 'laws.FnExactGrantText'. -/
def fnExactGrantTextCard : Claim7 := { stood := { row := fnExactGrantTextRow, standIns := [], harness := (true, "3c76242839dbdf0c890db1f6d54336c1b5e0ea53c8b93964ed19297e9f8f1be8"), looks := false }, kinds := [], alts := [], laidByText := true, laidKinds := [.data, .data, .data], laidTests := true, laidLooks := .later }
def FnExactGrantTextCardSaid : Prop := Claim7.holds Tryd.pinned (.plain (OpenSpec.ofChange fnExactGrantTextSpec)) fnExactGrantTextCard

/-- THE TIED CARD OF 'laws.FnExactPiecesRoot'. -/
def fnExactPiecesRootCard : Claim7 := { stood := { row := fnExactPiecesRootRow, standIns := [], harness := (true, "3c76242839dbdf0c890db1f6d54336c1b5e0ea53c8b93964ed19297e9f8f1be8"), looks := false }, kinds := [], alts := [], laidByText := true, laidKinds := [.data], laidTests := true, laidLooks := .later }
def FnExactPiecesRootCardSaid : Prop := Claim7.holds Tryd.pinned (.plain (OpenSpec.ofChange fnExactPiecesRootSpec)) fnExactPiecesRootCard

/-- THE SECOND FORM's CARD OF 'laws.FnExactNodeSeed'. -/
def fnExactNodeSeedUptoCard : Claim7 := { stood := { row := fnExactNodeSeedUptoRow, standIns := [], harness := (true, "3c76242839dbdf0c890db1f6d54336c1b5e0ea53c8b93964ed19297e9f8f1be8"), looks := false }, kinds := [], alts := [], laidByText := true, laidKinds := [.data], laidTests := true, laidLooks := .later }
def FnExactNodeSeedUptoCardSaid : Prop := Claim7.holds Tryd.pinned (.plain (OpenSpec.upto fnExactNodeSeedSpec)) fnExactNodeSeedUptoCard

/-- THE SECOND FORM's CARD OF 'laws.FnExactVoteMac'. -/
def fnExactVoteMacUptoCard : Claim7 := { stood := { row := fnExactVoteMacUptoRow, standIns := [], harness := (true, "3c76242839dbdf0c890db1f6d54336c1b5e0ea53c8b93964ed19297e9f8f1be8"), looks := false }, kinds := [], alts := [], laidByText := true, laidKinds := [.data], laidTests := true, laidLooks := .later }
def FnExactVoteMacUptoCardSaid : Prop := Claim7.holds Tryd.pinned (.plain (OpenSpec.upto fnExactVoteMacSpec)) fnExactVoteMacUptoCard

/-- THE SECOND FORM's CARD OF 'laws.FnExactReplyMac'. -/
def fnExactReplyMacUptoCard : Claim7 := { stood := { row := fnExactReplyMacUptoRow, standIns := [], harness := (true, "3c76242839dbdf0c890db1f6d54336c1b5e0ea53c8b93964ed19297e9f8f1be8"), looks := false }, kinds := [], alts := [], laidByText := true, laidKinds := [.data], laidTests := true, laidLooks := .later }
def FnExactReplyMacUptoCardSaid : Prop := Claim7.holds Tryd.pinned (.plain (OpenSpec.upto fnExactReplyMacSpec)) fnExactReplyMacUptoCard

/-- THE SECOND FORM's CARD OF 'laws.FnExactNodeRoot'. -/
def fnExactNodeRootUptoCard : Claim7 := { stood := { row := fnExactNodeRootUptoRow, standIns := [], harness := (true, "3c76242839dbdf0c890db1f6d54336c1b5e0ea53c8b93964ed19297e9f8f1be8"), looks := false }, kinds := [], alts := [], laidByText := true, laidKinds := [.data], laidTests := true, laidLooks := .later }
def FnExactNodeRootUptoCardSaid : Prop := Claim7.holds Tryd.pinned (.plain (OpenSpec.upto fnExactNodeRootSpec)) fnExactNodeRootUptoCard

/-- THE SECOND FORM's CARD OF 'laws.FnExactReplyOK'. -/
def fnExactReplyOKUptoCard : Claim7 := { stood := { row := fnExactReplyOKUptoRow, standIns := [], harness := (true, "3c76242839dbdf0c890db1f6d54336c1b5e0ea53c8b93964ed19297e9f8f1be8"), looks := false }, kinds := [], alts := [], laidByText := true, laidKinds := [.data], laidTests := true, laidLooks := .later }
def FnExactReplyOKUptoCardSaid : Prop := Claim7.holds Tryd.pinned (.plain (OpenSpec.upto fnExactReplyOKSpec)) fnExactReplyOKUptoCard

/-- THE SECOND FORM's CARD OF 'laws.FnExactMakeReply'. -/
def fnExactMakeReplyUptoCard : Claim7 := { stood := { row := fnExactMakeReplyUptoRow, standIns := [], harness := (true, "3c76242839dbdf0c890db1f6d54336c1b5e0ea53c8b93964ed19297e9f8f1be8"), looks := false }, kinds := [], alts := [], laidByText := true, laidKinds := [.data], laidTests := true, laidLooks := .later }
def FnExactMakeReplyUptoCardSaid : Prop := Claim7.holds Tryd.pinned (.plain (OpenSpec.upto fnExactMakeReplySpec)) fnExactMakeReplyUptoCard

/-- THE SECOND FORM's CARD OF 'laws.FnExactStableOK'. -/
def fnExactStableOKUptoCard : Claim7 := { stood := { row := fnExactStableOKUptoRow, standIns := [], harness := (true, "3c76242839dbdf0c890db1f6d54336c1b5e0ea53c8b93964ed19297e9f8f1be8"), looks := false }, kinds := [], alts := [], laidByText := true, laidKinds := [.data], laidTests := true, laidLooks := .later }
def FnExactStableOKUptoCardSaid : Prop := Claim7.holds Tryd.pinned (.plain (OpenSpec.upto fnExactStableOKSpec)) fnExactStableOKUptoCard

/-- THE SECOND FORM's CARD OF 'laws.FnExactCheckPiece'. -/
def fnExactCheckPieceUptoCard : Claim7 := { stood := { row := fnExactCheckPieceUptoRow, standIns := [], harness := (true, "3c76242839dbdf0c890db1f6d54336c1b5e0ea53c8b93964ed19297e9f8f1be8"), looks := false }, kinds := [], alts := [], laidByText := true, laidKinds := [.data], laidTests := true, laidLooks := .later }
def FnExactCheckPieceUptoCardSaid : Prop := Claim7.holds Tryd.pinned (.plain (OpenSpec.upto fnExactCheckPieceSpec)) fnExactCheckPieceUptoCard

/-- THE SECOND FORM's CARD OF 'laws.FnExactGrantText'. -/
def fnExactGrantTextUptoCard : Claim7 := { stood := { row := fnExactGrantTextUptoRow, standIns := [], harness := (true, "3c76242839dbdf0c890db1f6d54336c1b5e0ea53c8b93964ed19297e9f8f1be8"), looks := false }, kinds := [], alts := [], laidByText := true, laidKinds := [.data, .data, .data], laidTests := true, laidLooks := .later }
def FnExactGrantTextUptoCardSaid : Prop := Claim7.holds Tryd.pinned (.plain (OpenSpec.upto fnExactGrantTextSpec)) fnExactGrantTextUptoCard

/-- THE SECOND FORM's CARD OF 'laws.FnExactPiecesRoot'. -/
def fnExactPiecesRootUptoCard : Claim7 := { stood := { row := fnExactPiecesRootUptoRow, standIns := [], harness := (true, "3c76242839dbdf0c890db1f6d54336c1b5e0ea53c8b93964ed19297e9f8f1be8"), looks := false }, kinds := [], alts := [], laidByText := true, laidKinds := [.data], laidTests := true, laidLooks := .later }
def FnExactPiecesRootUptoCardSaid : Prop := Claim7.holds Tryd.pinned (.plain (OpenSpec.upto fnExactPiecesRootSpec)) fnExactPiecesRootUptoCard
end Rows
end Go.Proofs.YtdpdbegglkdgnaaDoor
