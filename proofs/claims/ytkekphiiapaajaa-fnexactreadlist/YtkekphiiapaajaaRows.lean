/-
  No cell of these rows narrows 'for every input' (looked for: loops, veiled, ifaces, maps, wideKeys, modest, calm, conditions, laid).
  DERIVED. THE GIVEN ROWS OF THIS SEAT. 6 by the template 'for every input the law returns true; each argument reads behind the call as it read before'; 0 by the template 'total and deterministic' (their statements: YtkekphiiapaajaaTotals.lean).
  GIVEN WITH THE SEED: the statements are not yours to turn. If you find one false, say at which input.
  Laid BY PROGRAM, IN A SANDBOX (cutbox-rows.mjs): the forced cells as the released guide's own fill.sh prints them over the translation 2dce7599c947cdbb… (all of the seat's roots in one cut). By AI agents, Wed Nov 11 2026. No macro, syntax, notation, axiom, sorry.
-/
import Derived.Test.YtkekphiiapaajaaChecked
import GoSem.Claim
import GoSem.ClaimJoined
import GoSem.ClaimMapViews
import Derived.JoinedTies
import Derived.KernelRfl
namespace Go.Proofs.Ytkekphiiapaajaa
/- THE CELL 'sum', in the pinned program and in every row, IS THE sha256 OF THE DUMP (.gsa) THAT YtkekphiiapaajaaProg.lean LOADS. Nothing in Lean hashes anything: it is a label: what it is worth is what the hold of that sum in a sandbox is worth. -/
noncomputable def Try.pinned : Pinned := { name := "ytkekphiiapaajaa", sum := "2dce7599c947cdbb3876711f7a1dce5eba614be5000912275c49a40813b23e16", checked := Try.checked }
namespace Rows
def none {H : Type} : Left H := { results := [], args := [] }

/-- 'laws.FnExactGrantOK': WHATEVER THE INPUT: true; the input reads as it did. -/
def fnExactGrantOKSpec : ChangeSpec := { name := "fnExactGrantOK", fn := fun _ => fun
  | [d] => { results := [.lit (.bool true)], args := [d] }
  | _ => none }
def fnExactGrantOKRow : OpenClaim := { program := "ytkekphiiapaajaa", sum := "2dce7599c947cdbb3876711f7a1dce5eba614be5000912275c49a40813b23e16", func := "loop.example/g00292/laws.FnExactGrantOK", spec := "fnExactGrantOK", apart := false }
def FnExactGrantOKSaid : Prop := fnExactGrantOKRow.holds Try.pinned (OpenSpec.ofChange fnExactGrantOKSpec)

/-- ITS FALSE NEIGHBOUR: 'it returns false'. Refute it at one input. -/
def fnExactGrantOKWrong : ChangeSpec := { name := "fnExactGrantOK", fn := fun _ => fun
  | [d] => { results := [.lit (.bool false)], args := [d] }
  | _ => none }
def FnExactGrantOKWrongFalsely : Prop := fnExactGrantOKRow.holds Try.pinned (OpenSpec.ofChange fnExactGrantOKWrong)

/-- 'laws.FnExactCutPieces': WHATEVER THE INPUT: true; the input reads as it did. -/
def fnExactCutPiecesSpec : ChangeSpec := { name := "fnExactCutPieces", fn := fun _ => fun
  | [d] => { results := [.lit (.bool true)], args := [d] }
  | _ => none }
def fnExactCutPiecesRow : OpenClaim := { program := "ytkekphiiapaajaa", sum := "2dce7599c947cdbb3876711f7a1dce5eba614be5000912275c49a40813b23e16", func := "loop.example/g00292/laws.FnExactCutPieces", spec := "fnExactCutPieces", apart := false }
def FnExactCutPiecesSaid : Prop := fnExactCutPiecesRow.holds Try.pinned (OpenSpec.ofChange fnExactCutPiecesSpec)

/-- ITS FALSE NEIGHBOUR: 'it returns false'. Refute it at one input. -/
def fnExactCutPiecesWrong : ChangeSpec := { name := "fnExactCutPieces", fn := fun _ => fun
  | [d] => { results := [.lit (.bool false)], args := [d] }
  | _ => none }
def FnExactCutPiecesWrongFalsely : Prop := fnExactCutPiecesRow.holds Try.pinned (OpenSpec.ofChange fnExactCutPiecesWrong)

/-- 'laws.FnExactLaterGrant': WHATEVER THE INPUT: true; the input reads as it did. -/
def fnExactLaterGrantSpec : ChangeSpec := { name := "fnExactLaterGrant", fn := fun _ => fun
  | [d1, d2] => { results := [.lit (.bool true)], args := [d1, d2] }
  | _ => none }
def fnExactLaterGrantRow : OpenClaim := { program := "ytkekphiiapaajaa", sum := "2dce7599c947cdbb3876711f7a1dce5eba614be5000912275c49a40813b23e16", func := "loop.example/g00292/laws.FnExactLaterGrant", spec := "fnExactLaterGrant", apart := false }
def FnExactLaterGrantSaid : Prop := fnExactLaterGrantRow.holds Try.pinned (OpenSpec.ofChange fnExactLaterGrantSpec)

/-- ITS FALSE NEIGHBOUR: 'it returns false'. Refute it at one input. -/
def fnExactLaterGrantWrong : ChangeSpec := { name := "fnExactLaterGrant", fn := fun _ => fun
  | [d1, d2] => { results := [.lit (.bool false)], args := [d1, d2] }
  | _ => none }
def FnExactLaterGrantWrongFalsely : Prop := fnExactLaterGrantRow.holds Try.pinned (OpenSpec.ofChange fnExactLaterGrantWrong)

/-- 'laws.FnExactReadMessage': WHATEVER THE INPUT: true; the input reads as it did. -/
def fnExactReadMessageSpec : ChangeSpec := { name := "fnExactReadMessage", fn := fun _ => fun
  | [d] => { results := [.lit (.bool true)], args := [d] }
  | _ => none }
def fnExactReadMessageRow : OpenClaim := { program := "ytkekphiiapaajaa", sum := "2dce7599c947cdbb3876711f7a1dce5eba614be5000912275c49a40813b23e16", func := "loop.example/g00292/laws.FnExactReadMessage", spec := "fnExactReadMessage", apart := false }
def FnExactReadMessageSaid : Prop := fnExactReadMessageRow.holds Try.pinned (OpenSpec.ofChange fnExactReadMessageSpec)

/-- ITS FALSE NEIGHBOUR: 'it returns false'. Refute it at one input. -/
def fnExactReadMessageWrong : ChangeSpec := { name := "fnExactReadMessage", fn := fun _ => fun
  | [d] => { results := [.lit (.bool false)], args := [d] }
  | _ => none }
def FnExactReadMessageWrongFalsely : Prop := fnExactReadMessageRow.holds Try.pinned (OpenSpec.ofChange fnExactReadMessageWrong)

/-- 'laws.FnExactReadRequest': WHATEVER THE INPUT: true; the input reads as it did. -/
def fnExactReadRequestSpec : ChangeSpec := { name := "fnExactReadRequest", fn := fun _ => fun
  | [d] => { results := [.lit (.bool true)], args := [d] }
  | _ => none }
def fnExactReadRequestRow : OpenClaim := { program := "ytkekphiiapaajaa", sum := "2dce7599c947cdbb3876711f7a1dce5eba614be5000912275c49a40813b23e16", func := "loop.example/g00292/laws.FnExactReadRequest", spec := "fnExactReadRequest", apart := false }
def FnExactReadRequestSaid : Prop := fnExactReadRequestRow.holds Try.pinned (OpenSpec.ofChange fnExactReadRequestSpec)

/-- ITS FALSE NEIGHBOUR: 'it returns false'. Refute it at one input. -/
def fnExactReadRequestWrong : ChangeSpec := { name := "fnExactReadRequest", fn := fun _ => fun
  | [d] => { results := [.lit (.bool false)], args := [d] }
  | _ => none }
def FnExactReadRequestWrongFalsely : Prop := fnExactReadRequestRow.holds Try.pinned (OpenSpec.ofChange fnExactReadRequestWrong)

/-- 'laws.FnExactReadList': WHATEVER THE INPUT: true; the input reads as it did. -/
def fnExactReadListSpec : ChangeSpec := { name := "fnExactReadList", fn := fun _ => fun
  | [d] => { results := [.lit (.bool true)], args := [d] }
  | _ => none }
def fnExactReadListRow : OpenClaim := { program := "ytkekphiiapaajaa", sum := "2dce7599c947cdbb3876711f7a1dce5eba614be5000912275c49a40813b23e16", func := "loop.example/g00292/laws.FnExactReadList", spec := "fnExactReadList", unfollowed := true, recurses := true, apart := false }
def FnExactReadListSaid : Prop := fnExactReadListRow.holds Try.pinned (OpenSpec.ofChange fnExactReadListSpec)

/-- ITS FALSE NEIGHBOUR: 'it returns false'. Refute it at one input. -/
def fnExactReadListWrong : ChangeSpec := { name := "fnExactReadList", fn := fun _ => fun
  | [d] => { results := [.lit (.bool false)], args := [d] }
  | _ => none }
def FnExactReadListWrongFalsely : Prop := fnExactReadListRow.holds Try.pinned (OpenSpec.ofChange fnExactReadListWrong)

/- THE SECOND FORM. 'bulk': how many values and letters a reading holds, each counted each time it is reached (what is shared counts as often as it is met; a slice's spare places count too). A statement '..UptoSaid' is the law's where the arguments, and the package variables that the reading takes, are together of bulk at most 1048576: NARROWER than '..Said'. Prove '..Said' where nothing that the law and all that it calls make is longer than what came in: it says more and counts as full. Else prove '..UptoSaid'. A law counts once. -/
mutual
def uptoBulk {H : Type} : DataW H → Nat
  | .lit (.string bytes) => bytes.length + 1
  | .lit _ => 1
  | .nil => 1
  | .ptr d => uptoBulk d + 1
  | .slice elems spare => uptoBulkAll elems + uptoBulkAll spare + 1
  | .agg parts => uptoBulkAll parts + 1
  | .iface _ d => uptoBulk d + 1
  | .map entries => uptoBulkEntries entries + 1
  | .held _ => 1
def uptoBulkAll {H : Type} : List (DataW H) → Nat
  | [] => 0
  | d :: r => uptoBulk d + uptoBulkAll r
def uptoBulkEntries {H : Type} : List (Lit × DataW H) → Nat
  | [] => 0
  | x :: r => uptoBulkEntry x + uptoBulkEntries r
def uptoBulkEntry {H : Type} : Lit × DataW H → Nat
  | (.string bytes, d) => bytes.length + uptoBulk d + 1
  | (_, d) => uptoBulk d + 1
 end
def uptoSmall : (H : Type) → List (DataW H) → Bool := fun _ ds => decide (uptoBulkAll ds ≤ 1048576)
def OpenSpec.upto (s : _root_.Go.ChangeSpec) : _root_.Go.OpenSpec := { _root_.Go.OpenSpec.ofChange s with cond := some uptoSmall }

/-- 'laws.FnExactGrantOK', WHERE WHAT IT READS IS OF BULK AT MOST 1048576: true; the input reads as it did. -/
def fnExactGrantOKUptoRow : OpenClaim := { program := "ytkekphiiapaajaa", sum := "2dce7599c947cdbb3876711f7a1dce5eba614be5000912275c49a40813b23e16", func := "loop.example/g00292/laws.FnExactGrantOK", spec := "fnExactGrantOK", apart := false, narrowed := true }
def FnExactGrantOKUptoSaid : Prop := fnExactGrantOKUptoRow.holds Try.pinned (OpenSpec.upto fnExactGrantOKSpec)

/-- 'laws.FnExactCutPieces', WHERE WHAT IT READS IS OF BULK AT MOST 1048576: true; the input reads as it did. -/
def fnExactCutPiecesUptoRow : OpenClaim := { program := "ytkekphiiapaajaa", sum := "2dce7599c947cdbb3876711f7a1dce5eba614be5000912275c49a40813b23e16", func := "loop.example/g00292/laws.FnExactCutPieces", spec := "fnExactCutPieces", apart := false, narrowed := true }
def FnExactCutPiecesUptoSaid : Prop := fnExactCutPiecesUptoRow.holds Try.pinned (OpenSpec.upto fnExactCutPiecesSpec)

/-- 'laws.FnExactLaterGrant', WHERE WHAT IT READS IS OF BULK AT MOST 1048576: true; the input reads as it did. -/
def fnExactLaterGrantUptoRow : OpenClaim := { program := "ytkekphiiapaajaa", sum := "2dce7599c947cdbb3876711f7a1dce5eba614be5000912275c49a40813b23e16", func := "loop.example/g00292/laws.FnExactLaterGrant", spec := "fnExactLaterGrant", apart := false, narrowed := true }
def FnExactLaterGrantUptoSaid : Prop := fnExactLaterGrantUptoRow.holds Try.pinned (OpenSpec.upto fnExactLaterGrantSpec)

/-- 'laws.FnExactReadMessage', WHERE WHAT IT READS IS OF BULK AT MOST 1048576: true; the input reads as it did. -/
def fnExactReadMessageUptoRow : OpenClaim := { program := "ytkekphiiapaajaa", sum := "2dce7599c947cdbb3876711f7a1dce5eba614be5000912275c49a40813b23e16", func := "loop.example/g00292/laws.FnExactReadMessage", spec := "fnExactReadMessage", apart := false, narrowed := true }
def FnExactReadMessageUptoSaid : Prop := fnExactReadMessageUptoRow.holds Try.pinned (OpenSpec.upto fnExactReadMessageSpec)

/-- 'laws.FnExactReadRequest', WHERE WHAT IT READS IS OF BULK AT MOST 1048576: true; the input reads as it did. -/
def fnExactReadRequestUptoRow : OpenClaim := { program := "ytkekphiiapaajaa", sum := "2dce7599c947cdbb3876711f7a1dce5eba614be5000912275c49a40813b23e16", func := "loop.example/g00292/laws.FnExactReadRequest", spec := "fnExactReadRequest", apart := false, narrowed := true }
def FnExactReadRequestUptoSaid : Prop := fnExactReadRequestUptoRow.holds Try.pinned (OpenSpec.upto fnExactReadRequestSpec)

/-- 'laws.FnExactReadList', WHERE WHAT IT READS IS OF BULK AT MOST 1048576: true; the input reads as it did. -/
def fnExactReadListUptoRow : OpenClaim := { program := "ytkekphiiapaajaa", sum := "2dce7599c947cdbb3876711f7a1dce5eba614be5000912275c49a40813b23e16", func := "loop.example/g00292/laws.FnExactReadList", spec := "fnExactReadList", unfollowed := true, recurses := true, apart := false, narrowed := true }
def FnExactReadListUptoSaid : Prop := fnExactReadListUptoRow.holds Try.pinned (OpenSpec.upto fnExactReadListSpec)

end Rows
end Go.Proofs.Ytkekphiiapaajaa
