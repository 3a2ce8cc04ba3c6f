/- A part of the proof that FnExactCertOK returns true at every input: plain functions, contracts and lemmas. No conditions. -/
import Derived.Test.YtbhegbhdenngbaaGreatDoorQCertOKf
import Derived.ChangeArms
import Derived.DataReads
import Derived.WideShapes
set_option linter.unusedVariables false
set_option linter.unusedSimpArgs false
set_option linter.unusedSectionVars false
section
namespace Go.Proofs.YtbhegbhdenngbaaGreatDoorW.PrintWords
open Go.RowKit
def Opens (P : Program) (t : TypeId) {α : Type} (d : Kd α) (G : α → Prop) : Prop :=
 ∀ (H : Type) (enc : TypeId × Value → H) (w : World) (base : Nat) (spare : Nat → Bool) (held : Bool) (fuel : Nat) (cs : List Value) (x : DataW H × List MemPlace),
  DataW.trod enc P w base spare held fuel t cs = some x → ∃ y : α,d.K w y cs ∧ G y
theorem opens_int {P : Program} {t : TypeId} {k : IntKind} (ht : P.underlying t = some (.int k)) : Opens P t (Kd.int k) (fun n => (Lit.int k n).wf = true) := by
 intro H enc w base spare held fuel cs x h
 obtain ⟨n,rfl,_,hw⟩ := DataW.trod_int ht h
 exact ⟨n,rfl,hw⟩
theorem opens_string {P : Program} {t : TypeId} (ht : P.underlying t = some .string) : Opens P t Kd.string (fun s => s.size ≤ 9223372036854775807) := by
 intro H enc w base spare held fuel cs x h
 obtain ⟨n,rfl,_,hw⟩ := DataW.trod_string ht h
 exact ⟨n,rfl,by unfold maxLen at hw;omega⟩
theorem opens_list {α : Type} (Q : Nat → α → Prop) : ∀ n : Nat,(∀ i,i < n → ∃ y,Q i y) → ∃ l : List α,l.length = n ∧ ∀ i y,l[i]? = some y → Q i y
 | 0,_ => ⟨[],rfl,fun i y h => by simp at h⟩
 | n + 1,h => by
  obtain ⟨l,hl,hq⟩ := opens_list Q n (fun i hi => h i (by omega))
  obtain ⟨y,hy⟩ := h n (by omega)
  refine ⟨l ++ [y],by simp [hl],fun i z hz => ?_⟩
  rcases Nat.lt_trichotomy i n with hi | hi | hi
  ·rw [List.getElem?_append_left (by omega)] at hz
   exact hq i z hz
  ·subst hi
   rw [List.getElem?_append_right (by omega)] at hz
   simp [hl] at hz
   exact hz ▸ hy
  ·rw [List.getElem?_append_right (by omega)] at hz
   have : (([y] : List α)[i - l.length]?) = none := by simp;omega
   rw [this] at hz
   cases hz
theorem opens_slice {P : Program} {t e : TypeId} {α : Type} {d : Kd α} {G : α → Prop} (ht : P.underlying t = some (.slice e)) (hc : P.cellsOf e = d.sz) (h : Opens P e d G) :
  Opens P t (Kd.slice e d) (fun l => l.length ≤ 9223372036854775807 ∧ ∀ y ∈ l,G y) := by
 intro H enc w base spare held fuel cs x hx
 rcases DataW.trod_slice ht hx with ⟨rfl,_⟩ | ⟨a,len,cap,elems,rest,n,_,rfl,_,hb,hl,hm,hlen,hel,_,_⟩
 ·exact ⟨[],⟨none,0,rfl,Nat.le_refl _,rfl,by simp,fun hn => absurd hn (by simp)⟩,by simp,by simp⟩
 ·unfold maxLen at hm
  have hev : ∀ i,i < len → ∃ y : α,(∃ c,w.cells? base (a.add (i * P.cellsOf e)) (P.cellsOf e) = some c ∧ d.K w y c) ∧ G y := by
   intro i hi
   have h1 := hel i hi
   rw [List.getElem?_eq_getElem (by omega : i < elems.length),Option.bind_eq_some_iff] at h1
   obtain ⟨c,hc1,hc2⟩ := h1
   obtain ⟨y,hy,hg⟩ := h H enc w base spare held n c _ hc2
   exact ⟨y,⟨c,hc1,hy⟩,hg⟩
  obtain ⟨l,hll,hq⟩ := opens_list _ len hev
  subst hll
  refine ⟨l,⟨some a,cap,rfl,hl,rfl,by omega,fun _ => ⟨a,rfl,fun j p hp => ?_⟩⟩,by omega,fun y hy => ?_⟩
  ·obtain ⟨⟨c,hc1,hk⟩,_⟩ := hq j p hp
   refine ⟨c,d.K_len hk,hk,fun i u hu => ?_⟩
   have h2 := World.cells?_some hc1
   have hi : i < P.cellsOf e := by rw [← h2.2.1];exact (List.getElem?_eq_some_iff.1 hu).1
   have h3 := h2.2.2 i hi
   rw [hu] at h3
   rw [← h3,hc]
   congr 1
   generalize j * d.sz = m
   unfold Addr.add
   by_cases h0 : m = 0 <;> by_cases h1 : i = 0 <;> simp [h0,h1,Nat.add_assoc]
  ·obtain ⟨i,hi⟩ := List.getElem?_of_mem hy
   exact (hq i y hi).2
def OpensFs (P : Program) (fs : List Field) (off : Nat) {α : Type} (d : Kd α) (G : α → Prop) : Prop :=
 ∀ (H : Type) (enc : TypeId × Value → H) (w : World) (base : Nat) (spare : Nat → Bool) (held : Bool) (fuel : Nat) (cs : List Value),
  (∀ f ∈ fs,∃ x,DataW.trod enc P w base spare held fuel f.type ((cs.drop f.offset).take (P.cellsOf f.type)) = some x) → ∃ y : α,d.K w y ((cs.drop off).take d.sz) ∧ G y
theorem opensFs_one {P : Program} {f : Field} {off : Nat} {α : Type} {d : Kd α} {G : α → Prop} (ho : f.offset = off) (hc : P.cellsOf f.type = d.sz) (h : Opens P f.type d G) : OpensFs P [f] off d G := by
 intro H enc w base spare held fuel cs hx
 obtain ⟨x,hx⟩ := hx f (by simp)
 rw [ho,hc] at hx
 exact h H enc w base spare held fuel _ x hx
theorem opensFs_cons {P : Program} {f : Field} {fs : List Field} {off off' : Nat} {α β : Type} {d : Kd α} {d' : Kd β} {G : α → Prop} {G' : β → Prop} (ho : f.offset = off) (hc : P.cellsOf f.type = d.sz) (ho' : off' = off + d.sz) (h : Opens P f.type d G) (h' : OpensFs P fs off' d' G') :
  OpensFs P (f :: fs) off (Kd.pair d d') (fun y => G y.1 ∧ G' y.2) := by
 intro H enc w base spare held fuel cs hx
 obtain ⟨y,hy,hg⟩ := opensFs_one ho hc h H enc w base spare held fuel cs (fun g hg => hx g (by simp at hg;simp [hg]))
 obtain ⟨y',hy',hg'⟩ := h' H enc w base spare held fuel cs (fun g hg => hx g (by simp [hg]))
 refine ⟨(y,y'),⟨_,_,?_,hy,hy'⟩,hg,hg'⟩
 show (cs.drop off).take (d.sz + d'.sz) = _
 rw [List.take_add,List.drop_drop,ho']
theorem opens_struct {P : Program} {t : TypeId} {fs : Array Field} {α β : Type} {d : Kd α} {G : α → Prop} (f : β → α) (g : α → β) (hfg : ∀ x,f (g x) = x) (ht : P.underlying t = some (.struct fs)) (hc : P.cellsOf t = d.sz) (h : OpensFs P fs.toList 0 d G) :
  Opens P t (Kd.iso d f) (fun y => G (f y)) := by
 intro H enc w base spare held fuel cs x hx
 obtain ⟨xs,n,_,_,hl,hlen,hf⟩ := DataW.trod_struct ht hx
 obtain ⟨y,hy,hg⟩ := h H enc w base spare held n cs (fun q hq => by
  obtain ⟨i,hi⟩ := List.getElem?_of_mem hq
  have hi' : fs[i]? = some q := by simpa using hi
  have h1 := hf i q hi'
  have hil : i < xs.length := by rw [hlen];exact (Array.getElem?_eq_some_iff.1 hi').1
  rw [List.getElem?_eq_getElem hil] at h1
  exact ⟨_,h1⟩)
 rw [List.drop_zero,← hc,← hl,List.take_length] at hy
 exact ⟨g y,by show d.K w (f (g y)) cs;rw [hfg];exact hy,by show G (f (g y));rw [hfg];exact hg⟩
end Go.Proofs.YtbhegbhdenngbaaGreatDoorW.PrintWords
end

section
namespace Go.Proofs.YtbhegbhdenngbaaGreatDoor.A
open Go.RowKit Go.Proofs.YtbhegbhdenngbaaGreatDoorW.PrintWords Go.Proofs.YtbhegbhdenngbaaGreatDoorW.PrintLast Go.Proofs.YtbhegbhdenngbaaGreatDoorW.PrintMore
attribute [local go_sem] max2_int min2_int max_two min_two max_three min_three max_four min_four
set_option maxRecDepth 100000
theorem opens46 : Opens Tryz.prog 46 k46 good46 := opens_struct (fun x : S46 => (x.f0,x.f1,x.f2,x.f3,x.f4,x.f5,x.f6)) (fun y => (⟨y.1,y.2.1,y.2.2.1,y.2.2.2.1,y.2.2.2.2.1,y.2.2.2.2.2.1,y.2.2.2.2.2.2⟩ : S46)) (fun _ => rfl) Tryz.underlying46 (by kernel_rfl) (opensFs_cons rfl (by kernel_rfl) rfl (opens_int Tryz.underlying3) (opensFs_cons rfl (by kernel_rfl) rfl (opens_int Tryz.underlying3) (opensFs_cons rfl (by kernel_rfl) rfl (opens_int Tryz.underlying3) (opensFs_cons rfl (by kernel_rfl) rfl (opens_int Tryz.underlying3) (opensFs_cons rfl (by kernel_rfl) rfl (opens_string Tryz.underlying9) (opensFs_cons rfl (by kernel_rfl) rfl (opens_string Tryz.underlying9) (opensFs_one rfl (by kernel_rfl) (opens_string Tryz.underlying9))))))))
theorem opens24 : Opens Tryz.prog 24 k24 good24 := opens_struct (fun x : S24 => (x.f0,x.f1)) (fun y => (⟨y.1,y.2⟩ : S24)) (fun _ => rfl) Tryz.underlying24 (by kernel_rfl) (opensFs_cons rfl (by kernel_rfl) rfl (opens_string Tryz.underlying9) (opensFs_one rfl (by kernel_rfl) (opens_slice Tryz.underlying22 (by kernel_rfl) opens46)))
end Go.Proofs.YtbhegbhdenngbaaGreatDoor.A
end
