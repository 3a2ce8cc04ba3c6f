/- A part of the proof that FnCertificates returns true at every input: plain functions, contracts and lemmas. No conditions. -/
import Derived.Test.YtkfhejklnmkfmaaDoorQCertificatesf
import Derived.ChangeArms
import Derived.DataReads
import Derived.WideShapes
set_option linter.unusedVariables false
set_option linter.unusedSimpArgs false
set_option linter.unusedSectionVars false
section
namespace Go.Proofs.YtkfhejklnmkfmaaDoorW.PrintWords
open Go.RowKit
def Opens (P : Program) (t : TypeId) {α : Type} (d : Kd α) (G : α → Prop) : Prop :=
 ∀ (H : Type) (enc : TypeId × Value → H) (w : World) (base : Nat) (spare : Nat → Bool) (held : Bool) (fuel : Nat) (cs : List Value) (x : DataW H × List MemPlace),
  DataW.trod enc P w base spare held fuel t cs = some x → ∃ y : α,d.K w y cs ∧ G y
theorem opens_int {P : Program} {t : TypeId} {k : IntKind} (ht : P.underlying t = some (.int k)) : Opens P t (Kd.int k) (fun n => (Lit.int k n).wf = true) := by
 intro H enc w base spare held fuel cs x h
 obtain ⟨n,rfl,_,hw⟩ := DataW.trod_int ht h
 exact ⟨n,rfl,hw⟩
theorem opens_list {α : Type} (Q : Nat → α → Prop) : ∀ n : Nat,(∀ i,i < n → ∃ y,Q i y) → ∃ l : List α,l.length = n ∧ ∀ i y,l[i]? = some y → Q i y
 | 0,_ => ⟨[],rfl,fun i y h => by simp at h⟩
 | n + 1,h => by
  obtain ⟨l,hl,hq⟩ := opens_list Q n (fun i hi => h i (by omega))
  obtain ⟨y,hy⟩ := h n (by omega)
  refine ⟨l ++ [y],by simp [hl],fun i z hz => ?_⟩
  rcases Nat.lt_trichotomy i n with hi | hi | hi
  ·rw [List.getElem?_append_left (by omega)] at hz
   exact hq i z hz
  ·subst hi
   rw [List.getElem?_append_right (by omega)] at hz
   simp [hl] at hz
   exact hz ▸ hy
  ·rw [List.getElem?_append_right (by omega)] at hz
   have : (([y] : List α)[i - l.length]?) = none := by simp;omega
   rw [this] at hz
   cases hz
theorem opens_slice {P : Program} {t e : TypeId} {α : Type} {d : Kd α} {G : α → Prop} (ht : P.underlying t = some (.slice e)) (hc : P.cellsOf e = d.sz) (h : Opens P e d G) :
  Opens P t (Kd.slice e d) (fun l => l.length ≤ 9223372036854775807 ∧ ∀ y ∈ l,G y) := by
 intro H enc w base spare held fuel cs x hx
 rcases DataW.trod_slice ht hx with ⟨rfl,_⟩ | ⟨a,len,cap,elems,rest,n,_,rfl,_,hb,hl,hm,hlen,hel,_,_⟩
 ·exact ⟨[],⟨none,0,rfl,Nat.le_refl _,rfl,by simp,fun hn => absurd hn (by simp)⟩,by simp,by simp⟩
 ·unfold maxLen at hm
  have hev : ∀ i,i < len → ∃ y : α,(∃ c,w.cells? base (a.add (i * P.cellsOf e)) (P.cellsOf e) = some c ∧ d.K w y c) ∧ G y := by
   intro i hi
   have h1 := hel i hi
   rw [List.getElem?_eq_getElem (by omega : i < elems.length),Option.bind_eq_some_iff] at h1
   obtain ⟨c,hc1,hc2⟩ := h1
   obtain ⟨y,hy,hg⟩ := h H enc w base spare held n c _ hc2
   exact ⟨y,⟨c,hc1,hy⟩,hg⟩
  obtain ⟨l,hll,hq⟩ := opens_list _ len hev
  subst hll
  refine ⟨l,⟨some a,cap,rfl,hl,rfl,by omega,fun _ => ⟨a,rfl,fun j p hp => ?_⟩⟩,by omega,fun y hy => ?_⟩
  ·obtain ⟨⟨c,hc1,hk⟩,_⟩ := hq j p hp
   refine ⟨c,d.K_len hk,hk,fun i u hu => ?_⟩
   have h2 := World.cells?_some hc1
   have hi : i < P.cellsOf e := by rw [← h2.2.1];exact (List.getElem?_eq_some_iff.1 hu).1
   have h3 := h2.2.2 i hi
   rw [hu] at h3
   rw [← h3,hc]
   congr 1
   generalize j * d.sz = m
   unfold Addr.add
   by_cases h0 : m = 0 <;> by_cases h1 : i = 0 <;> simp [h0,h1,Nat.add_assoc]
  ·obtain ⟨i,hi⟩ := List.getElem?_of_mem hy
   exact (hq i y hi).2
end Go.Proofs.YtkfhejklnmkfmaaDoorW.PrintWords
end

section
namespace Go.Proofs.YtkfhejklnmkfmaaDoor.A
open Go.RowKit Go.Proofs.YtkfhejklnmkfmaaDoorW.PrintWords Go.Proofs.YtkfhejklnmkfmaaDoorW.PrintLast Go.Proofs.YtkfhejklnmkfmaaDoorW.PrintMore
attribute [local go_sem] max2_int min2_int max_two min_two max_three min_three max_four min_four
end Go.Proofs.YtkfhejklnmkfmaaDoor.A
end
