/- A part of the proof that FnExactSignGrant returns true at every input: plain functions, contracts and lemmas. No conditions. -/
import Derived.Test.YtadablpppkjdbaaDoorQSignGrante
import Derived.ChangeArms
import Derived.DataReads
import Derived.WideShapes
set_option linter.unusedVariables false
set_option linter.unusedSimpArgs false
set_option linter.unusedSectionVars false
section
namespace Go.Proofs.YtadablpppkjdbaaDoorW.PrintWords
open Go.RowKit
/-- A value that reads as data at type t has the cells of a plain value of kind d that is good. -/
def Opens (P : Program) (t : TypeId) {α : Type} (d : Kd α) (G : α → Prop) : Prop :=
  ∀ (H : Type) (enc : TypeId × Value → H) (w : World) (base : Nat) (spare : Nat → Bool) (held : Bool) (fuel : Nat) (cs : List Value) (x : DataW H × List MemPlace),
    DataW.trod enc P w base spare held fuel t cs = some x → ∃ y : α, d.K w y cs ∧ G y
theorem opens_int {P : Program} {t : TypeId} {k : IntKind} (ht : P.underlying t = some (.int k)) : Opens P t (Kd.int k) (fun n => (Lit.int k n).wf = true) := by
  intro H enc w base spare held fuel cs x h
  obtain ⟨n, rfl, _, hw⟩ := DataW.trod_int ht h
  exact ⟨n, rfl, hw⟩
theorem opens_string {P : Program} {t : TypeId} (ht : P.underlying t = some .string) : Opens P t Kd.string (fun s => s.size ≤ 9223372036854775807) := by
  intro H enc w base spare held fuel cs x h
  obtain ⟨n, rfl, _, hw⟩ := DataW.trod_string ht h
  exact ⟨n, rfl, by unfold maxLen at hw; omega⟩
/-- Some fields of a struct, from cell 'off' on. -/
def OpensFs (P : Program) (fs : List Field) (off : Nat) {α : Type} (d : Kd α) (G : α → Prop) : Prop :=
  ∀ (H : Type) (enc : TypeId × Value → H) (w : World) (base : Nat) (spare : Nat → Bool) (held : Bool) (fuel : Nat) (cs : List Value),
    (∀ f ∈ fs, ∃ x, DataW.trod enc P w base spare held fuel f.type ((cs.drop f.offset).take (P.cellsOf f.type)) = some x) → ∃ y : α, d.K w y ((cs.drop off).take d.sz) ∧ G y
theorem opensFs_one {P : Program} {f : Field} {off : Nat} {α : Type} {d : Kd α} {G : α → Prop} (ho : f.offset = off) (hc : P.cellsOf f.type = d.sz) (h : Opens P f.type d G) : OpensFs P [f] off d G := by
  intro H enc w base spare held fuel cs hx
  obtain ⟨x, hx⟩ := hx f (by simp)
  rw [ho, hc] at hx
  exact h H enc w base spare held fuel _ x hx
theorem opensFs_cons {P : Program} {f : Field} {fs : List Field} {off off' : Nat} {α β : Type} {d : Kd α} {d' : Kd β} {G : α → Prop} {G' : β → Prop} (ho : f.offset = off) (hc : P.cellsOf f.type = d.sz) (ho' : off' = off + d.sz) (h : Opens P f.type d G) (h' : OpensFs P fs off' d' G') :
    OpensFs P (f :: fs) off (Kd.pair d d') (fun y => G y.1 ∧ G' y.2) := by
  intro H enc w base spare held fuel cs hx
  obtain ⟨y, hy, hg⟩ := opensFs_one ho hc h H enc w base spare held fuel cs (fun g hg => hx g (by simp at hg; simp [hg]))
  obtain ⟨y', hy', hg'⟩ := h' H enc w base spare held fuel cs (fun g hg => hx g (by simp [hg]))
  refine ⟨(y, y'), ⟨_, _, ?_, hy, hy'⟩, hg, hg'⟩
  show (cs.drop off).take (d.sz + d'.sz) = _
  rw [List.take_add, List.drop_drop, ho']
theorem opens_struct {P : Program} {t : TypeId} {fs : Array Field} {α β : Type} {d : Kd α} {G : α → Prop} (f : β → α) (g : α → β) (hfg : ∀ x, f (g x) = x) (ht : P.underlying t = some (.struct fs)) (hc : P.cellsOf t = d.sz) (h : OpensFs P fs.toList 0 d G) :
    Opens P t (Kd.iso d f) (fun y => G (f y)) := by
  intro H enc w base spare held fuel cs x hx
  obtain ⟨xs, n, _, _, hl, hlen, hf⟩ := DataW.trod_struct ht hx
  obtain ⟨y, hy, hg⟩ := h H enc w base spare held n cs (fun q hq => by
    obtain ⟨i, hi⟩ := List.getElem?_of_mem hq
    have hi' : fs[i]? = some q := by simpa using hi
    have h1 := hf i q hi'
    have hil : i < xs.length := by rw [hlen]; exact (Array.getElem?_eq_some_iff.1 hi').1
    rw [List.getElem?_eq_getElem hil] at h1
    exact ⟨_, h1⟩)
  rw [List.drop_zero, ← hc, ← hl, List.take_length] at hy
  exact ⟨g y, by show d.K w (f (g y)) cs; rw [hfg]; exact hy, by show G (f (g y)); rw [hfg]; exact hg⟩
end Go.Proofs.YtadablpppkjdbaaDoorW.PrintWords
end

section
namespace Go.Proofs.YtadablpppkjdbaaDoor.B
open Go.RowKit Go.Proofs.YtadablpppkjdbaaDoorW.PrintWords Go.Proofs.YtadablpppkjdbaaDoorW.PrintLast Go.Proofs.YtadablpppkjdbaaDoorW.PrintMore
attribute [local go_sem] max2_int min2_int max_two min_two max_three min_three max_four min_four
set_option maxRecDepth 100000
theorem opens53 : Opens Tryd.prog 53 k53 good53 := opens_struct (fun x : S53 => (x.f0, x.f1, x.f2, x.f3)) (fun y => (⟨y.1, y.2.1, y.2.2.1, y.2.2.2⟩ : S53)) (fun _ => rfl) Tryd.underlying53 (by kernel_rfl) (opensFs_cons rfl (by kernel_rfl) rfl (opens_string Tryd.underlying9) (opensFs_cons rfl (by kernel_rfl) rfl (opens_int Tryd.underlying3) (opensFs_cons rfl (by kernel_rfl) rfl (opens_int Tryd.underlying3) (opensFs_one rfl (by kernel_rfl) (opens_int Tryd.underlying3)))))
end Go.Proofs.YtadablpppkjdbaaDoor.B
end
