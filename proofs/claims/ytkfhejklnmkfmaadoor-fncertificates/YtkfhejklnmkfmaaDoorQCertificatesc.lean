/- A part of the proof that FnCertificates returns true at every input: plain functions, contracts and lemmas. No conditions. -/
import Derived.Test.YtkfhejklnmkfmaaDoorQCertificatesb
import Derived.Lib.SlBy
import Derived.Lib.Walk
import Derived.StillTailTactics
import Derived.Shelf.Strconv.Itoa3
import Derived.Lib.AppendIntMem
set_option linter.unusedVariables false
set_option linter.unusedSimpArgs false
set_option linter.unusedSectionVars false
set_option maxHeartbeats 8000000
set_option maxRecDepth 100000
section
namespace Go.Proofs.YtkfhejklnmkfmaaDoor.A
open Go.RowKit Go.Proofs.YtkfhejklnmkfmaaDoorW.PrintWords Go.Proofs.YtkfhejklnmkfmaaDoorW.PrintLast Go.Proofs.YtkfhejklnmkfmaaDoorW.PrintMore
abbrev k1_ := @blk_drewN
abbrev k2_ := @blk_drew
abbrev k3_ := @blk_alloc
abbrev b1_ := @below_alloc
abbrev b2_ := @pw_below_drewN
abbrev b3_ := @below_drew1
abbrev r1_ := @Kd.R_alloc
abbrev r2_ := @Kd.R_drewN
abbrev r3_ := @Kd.R_drew
theorem d1_ {α : Type _} (l : List α) (i : Nat) : (l.drop i).length = l.length - i := List.length_drop
theorem d2_ {α : Type _} (l : List α) (i : Nat) : (l.take i).length = min i l.length := List.length_take
theorem o1_ {p : Prop} [Decidable p] (h : decide p = true) : p := of_decide_eq_true h
theorem e3_ (l : List UInt8) : (l == []) = l.isEmpty := mp_beq_nil l
theorem e4_ (l : List UInt8) : (l != []) = !l.isEmpty := mp_bne_nil l
theorem am_ {p : Prop} (h : p) : Aside0 p := ⟨h⟩
theorem p1_ {α : Type _} (l : List α) (i : Nat) (a : α) : l.toArray.setIfInBounds i a = (l.set i a).toArray := List.setIfInBounds_toArray ..
theorem p2_ {α : Type _} (x : α) (xs : List α) (a : α) : (x :: xs).set 0 a = a :: xs := List.set_cons_zero
theorem p3_ {α : Type _} (x : α) (xs : List α) (i : Nat) (a : α) : (x :: xs).set (i + 1) a = x :: xs.set i a := List.set_cons_succ
theorem m1_ {α β : Type _} (f : α → β) (l : List α) : l.toArray.map f = (l.map f).toArray := List.map_toArray
theorem m2_ {α β : Type _} (f : α → β) (a : α) (l : List α) : (a :: l).map f = f a :: l.map f := List.map_cons
theorem m3_ {α β : Type _} (f : α → β) : ([] : List α).map f = [] := List.map_nil
attribute [local go_sem] max2_int min2_int max_two min_two max_three min_three max_four min_four
def errW : Option Int → Value
 | none => .nilIface
 | some c => .iface 0 (.int .i64 c)
theorem errW_none : errW none = .nilIface := rfl
theorem errW_some (c : Int) : errW (some c) = .iface 0 (.int .i64 c) := rfl
theorem e1_ : errW none = .nilIface := rfl
theorem e2_ (c : Int) : errW (some c) = .iface 0 (.int .i64 c) := rfl
theorem info3 : (Tryd.prog.info? 3).map (fun i => (i.zero,i.size,i.bytes)) = some (some (.int .i64 0),1,8) := by kernel_rfl
theorem info5 : (Tryd.prog.info? 5).map (fun i => (i.zero,i.size,i.bytes)) = some (some (.int .u8 0),1,1) := by kernel_rfl
theorem info9 : (Tryd.prog.info? 9).map (fun i => (i.zero,i.size,i.bytes)) = some (some (.string ⟨#[]⟩),1,16) := by kernel_rfl
theorem info37 : (Tryd.prog.info? 37).map (fun i => (i.zero,i.size,i.bytes)) = some (some (.agg #[(.int .i64 0),(.slice none 0 0),(.slice none 0 0),(.slice none 0 0)]),4,80) := by kernel_rfl
theorem info79 : (Tryd.prog.info? 79).map (fun i => (i.zero,i.size,i.bytes)) = some (some (.int .u32 0),1,4) := by kernel_rfl
def k37 : Kd S37 := Kd.iso (Kd.pair (Kd.int .i64) (Kd.pair (Kd.slice 9 Kd.string) (Kd.pair (Kd.slice 9 Kd.string) (Kd.slice 9 Kd.string)))) (fun x : S37 => (x.f0,x.f1,x.f2,x.f3))
theorem k37_open {w : World} {x : S37} {cs : List Value} (h : k37.K w x cs) : ∃ A1 c1 A2 c2 A3 c3,cs = [.int .i64 x.f0,.slice A1 x.f1.length c1,.slice A2 x.f2.length c2,.slice A3 x.f3.length c3] ∧ x.f1.length ≤ c1 ∧ Kd.string.C w A1 x.f1.length x.f1 ∧ x.f2.length ≤ c2 ∧ Kd.string.C w A2 x.f2.length x.f2 ∧ x.f3.length ≤ c3 ∧ Kd.string.C w A3 x.f3.length x.f3 := by
 obtain ⟨_,_,rfl,rfl,⟨_,_,rfl,⟨A1,c1,rfl,l1,g1⟩,⟨_,_,rfl,⟨A2,c2,rfl,l2,g2⟩,⟨A3,c3,rfl,l3,g3⟩⟩⟩⟩ := h
 exact ⟨A1,c1,A2,c2,A3,c3,rfl,l1,g1,l2,g2,l3,g3⟩
theorem k37_openM {w : World} {base : Nat} {ok : Nat → Prop} {x : S37} {cs : List Value} (h : k37.M w base ok x cs) : ∃ v1 v2 v3,cs = [.int .i64 x.f0,v1,v2,v3] ∧ Kd.string.R 9 w base ok v1 x.f1 ∧ Kd.string.R 9 w base ok v2 x.f2 ∧ Kd.string.R 9 w base ok v3 x.f3 := by
 obtain ⟨_,_,rfl,rfl,⟨_,_,rfl,⟨v1,rfl,g1⟩,⟨_,_,rfl,⟨v2,rfl,g2⟩,⟨v3,rfl,g3⟩⟩⟩⟩ := h
 exact ⟨v1,v2,v3,rfl,g1,g2,g3⟩
theorem k37_mkM (w : World) (base : Nat) (ok : Nat → Prop) (x : S37) {v1 : Value} (g1 : Kd.string.R 9 w base ok v1 x.f1) {v2 : Value} (g2 : Kd.string.R 9 w base ok v2 x.f2) {v3 : Value} (g3 : Kd.string.R 9 w base ok v3 x.f3) : k37.M w base ok x [.int .i64 x.f0,v1,v2,v3] := ⟨[.int .i64 x.f0],[v1,v2,v3],rfl,rfl,⟨[v1],[v2,v3],rfl,⟨v1,rfl,g1⟩,⟨[v2],[v3],rfl,⟨v2,rfl,g2⟩,⟨v3,rfl,g3⟩⟩⟩⟩
theorem at_T37 {w : World} {A : Option Addr} {n : Nat} {xs : List S37} (h : Kd.C k37 w A n xs) (i : Int) (h0 : 0 ≤ i) (h1 : i < n) : ∃ ad A1 c1 A2 c2 A3 c3,A = some ad ∧ w.cell? (ad.add (i.toNat * 4)) = some (.int .i64 (rd_T37 xs i).f0) ∧ w.cell? ⟨(ad.add (i.toNat * 4)).block,(ad.add (i.toNat * 4)).off + 1,none⟩ = some (.slice A1 (rd_T37 xs i).f1.length c1) ∧ w.cell? ⟨(ad.add (i.toNat * 4)).block,(ad.add (i.toNat * 4)).off + 2,none⟩ = some (.slice A2 (rd_T37 xs i).f2.length c2) ∧ w.cell? ⟨(ad.add (i.toNat * 4)).block,(ad.add (i.toNat * 4)).off + 3,none⟩ = some (.slice A3 (rd_T37 xs i).f3.length c3) ∧ (rd_T37 xs i).f1.length ≤ c1 ∧ Kd.string.C w A1 (rd_T37 xs i).f1.length (rd_T37 xs i).f1 ∧ (rd_T37 xs i).f2.length ≤ c2 ∧ Kd.string.C w A2 (rd_T37 xs i).f2.length (rd_T37 xs i).f2 ∧ (rd_T37 xs i).f3.length ≤ c3 ∧ Kd.string.C w A3 (rd_T37 xs i).f3.length (rd_T37 xs i).f3 := by
 obtain ⟨ad,c,e,_,hK,hc0⟩ := Kd.C_get h z37 i h0 h1
 have hc : ∀ j u,c[j]? = some u → w.cell? (ad.add (i.toNat * 4 + j)) = some u := hc0
 obtain ⟨A1,c1,A2,c2,A3,c3,rfl,l1,g1,l2,g2,l3,g3⟩ := k37_open hK
 exact ⟨ad,A1,c1,A2,c2,A3,c3,e,hc 0 _ rfl,by rw [← add_field _ _ 1 (by omega)];exact hc 1 _ rfl,by rw [← add_field _ _ 2 (by omega)];exact hc 2 _ rfl,by rw [← add_field _ _ 3 (by omega)];exact hc 3 _ rfl,l1,g1,l2,g2,l3,g3⟩
def IsS63 (w0 W : World) (g : Nat) (f0 : List Int) (f1 : Int) (f2 : Int) : Prop := ∃ A0 c0,W.heap[g]? = some (.cells #[.slice A0 f0.length c0,.int .i64 f1,.int .i64 f2] 63 (0,0)) ∧ w0.heap.size ≤ g ∧ Kd.C (Kd.int .u8) w0 A0 f0.length f0
theorem IsS63.grown {w0 W : World} {g : Nat} {f0 : List Int} {f1 : Int} {f2 : Int} {W1 : World} {row : Option Nat} (h : IsS63 w0 W g f0 f1 f2) (hw : W.grownBy W1 row) (hne : some g ≠ row) : IsS63 w0 W1 g f0 f1 f2 := by
 obtain ⟨A0,c0,hb,hg,hr0⟩ := h
 exact ⟨A0,c0,blk_grown hb hw hne,hg,hr0⟩
theorem IsS63.kept {w0 W : World} {g : Nat} {f0 : List Int} {f1 : Int} {f2 : Int} {W1 : World} {S : Nat → Prop} (h : IsS63 w0 W g f0 f1 f2) (hk : Kept W W1 S) (hne : ¬ S g) : IsS63 w0 W1 g f0 f1 f2 := by
 obtain ⟨A0,c0,hb,hg,hr0⟩ := h
 exact ⟨A0,c0,blk_kept hb hk hne,hg,hr0⟩
theorem IsS63.below {w0 W : World} {g : Nat} {f0 : List Int} {f1 : Int} {f2 : Int} {W1 : World} (h : IsS63 w0 W g f0 f1 f2) (hw : Below W.heap.size W W1) : IsS63 w0 W1 g f0 f1 f2 := h.grown (grown_of_below hw none) (by simp)
theorem IsS63.alloc {w0 W : World} {g : Nat} {f0 : List Int} {f1 : Int} {f2 : Int} (h : IsS63 w0 W g f0 f1 f2) (o : Obj) : IsS63 w0 (W.alloc o) g f0 f1 f2 := h.below (below_alloc (Below.refl _ _) o)
theorem IsS63.drewN {w0 W : World} {g : Nat} {f0 : List Int} {f1 : Int} {f2 : Int} (h : IsS63 w0 W g f0 f1 f2) (m : Nat) : IsS63 w0 (W.drewN m) g f0 f1 f2 := h
theorem IsS63.drew {w0 W : World} {g : Nat} {f0 : List Int} {f1 : Int} {f2 : Int} (h : IsS63 w0 W g f0 f1 f2) : IsS63 w0 W.drew g f0 f1 f2 := h
theorem IsS63.at_ {w0 W : World} {g : Nat} {f0 : List Int} {f1 : Int} {f2 : Int} {w' : World} {m : Nat} (hq : W.drewN m = w') (h : IsS63 w0 W g f0 f1 f2) : IsS63 w0 w' g f0 f1 f2 := by subst hq;exact IsS63.drewN h m
theorem IsS63.apart {w0 W : World} {g : Nat} {f0 : List Int} {f1 : Int} {f2 : Int} {α : Type} {d : Kd α} {e : Nat} {base : Nat} {ok : Nat → Prop} {v : Value} {xs : List α} (h : IsS63 w0 W g f0 f1 f2) (ho : d.R e W base ok v xs) (ht : ∀ q,q ∈ e :: d.E → q ≠ 63) : d.R e W base (fun k => ok k ∧ k ≠ g) v xs := by
 obtain ⟨A0,c0,hb,hg,hr0⟩ := h
 exact Kd.R_types ho hb ht
theorem IsS63.own_ne {w0 W : World} {g : Nat} {f0 : List Int} {f1 : Int} {f2 : Int} {α : Type} {d : Kd α} {e : Nat} {base : Nat} {ok : Nat → Prop} {v : Value} {xs : List α} (h : IsS63 w0 W g f0 f1 f2) (ho : d.R e W base ok v xs) (ht : e ≠ 63) : some g ≠ v.ownBlock := by
 obtain ⟨A0,c0,hb,hg,hr0⟩ := h
 exact Kd.R_ne ho hb ht
theorem IsS63.lt {w0 W : World} {g : Nat} {f0 : List Int} {f1 : Int} {f2 : Int} (h : IsS63 w0 W g f0 f1 f2) : g < W.heap.size := by
 obtain ⟨A0,c0,hb,hg,hr0⟩ := h
 exact blk_lt hb
theorem IsS63.ge {w0 W : World} {g : Nat} {f0 : List Int} {f1 : Int} {f2 : Int} (h : IsS63 w0 W g f0 f1 f2) : w0.heap.size ≤ g := by
 obtain ⟨A0,c0,hb,hg,hr0⟩ := h
 exact hg
theorem IsS63.ne_blk {w0 W : World} {g : Nat} {f0 : List Int} {f1 : Int} {f2 : Int} {a : Nat} {cs : Array Value} {t : TypeId} {fr : Nat × Nat} (h : IsS63 w0 W g f0 f1 f2) (hb2 : W.heap[a]? = some (.cells cs t fr)) (ht : t ≠ 63) : g ≠ a := by
 obtain ⟨A0,c0,hb,hg,hr0⟩ := h
 rintro rfl
 rw [hb] at hb2
 injection hb2 with hb2
 injection hb2 with _ ht2
 exact ht ht2.symm
theorem IsS63.far {w0 W : World} {g : Nat} {f0 : List Int} {f1 : Int} {f2 : Int} {p : Addr} (h : IsS63 w0 W g f0 f1 f2) (hne : g ≠ p.block) (u : Value) : IsS63 w0 (W.setCell p u) g f0 f1 f2 := by
 obtain ⟨A0,c0,hb,hg,hr0⟩ := h
 exact ⟨A0,c0,blk_far hb hne u,hg,hr0⟩
theorem cellS63_0 {W : World} {g : Nat} {A0 : Option Addr} {c0 : Nat} {f0 : List Int} {f1 : Int} {f2 : Int} (h : W.heap[g]? = some (.cells #[.slice A0 f0.length c0,.int .i64 f1,.int .i64 f2] 63 (0,0))) : W.cell? ⟨g,0,none⟩ = some (.slice A0 f0.length c0) := (blk_cell h 0).trans rfl
theorem cellS63_1 {W : World} {g : Nat} {A0 : Option Addr} {c0 : Nat} {f0 : List Int} {f1 : Int} {f2 : Int} (h : W.heap[g]? = some (.cells #[.slice A0 f0.length c0,.int .i64 f1,.int .i64 f2] 63 (0,0))) : W.cell? ⟨g,1,none⟩ = some (.int .i64 f1) := (blk_cell h 1).trans rfl
theorem IsS63.set_1 {w0 W : World} {g : Nat} {f0 : List Int} {f1 : Int} {f2 : Int} (h : IsS63 w0 W g f0 f1 f2) (x : Int) : IsS63 w0 (W.setCell ⟨g,1,none⟩ (.int .i64 x)) g f0 x f2 := by
 obtain ⟨A0,c0,hb,hg,hr0⟩ := h
 exact ⟨A0,c0,by simpa using blk_set hb 1 (.int .i64 x),hg,hr0⟩
theorem cellS63_2 {W : World} {g : Nat} {A0 : Option Addr} {c0 : Nat} {f0 : List Int} {f1 : Int} {f2 : Int} (h : W.heap[g]? = some (.cells #[.slice A0 f0.length c0,.int .i64 f1,.int .i64 f2] 63 (0,0))) : W.cell? ⟨g,2,none⟩ = some (.int .i64 f2) := (blk_cell h 2).trans rfl
theorem IsS63.set_2 {w0 W : World} {g : Nat} {f0 : List Int} {f1 : Int} {f2 : Int} (h : IsS63 w0 W g f0 f1 f2) (x : Int) : IsS63 w0 (W.setCell ⟨g,2,none⟩ (.int .i64 x)) g f0 f1 x := by
 obtain ⟨A0,c0,hb,hg,hr0⟩ := h
 exact ⟨A0,c0,by simpa using blk_set hb 2 (.int .i64 x),hg,hr0⟩
theorem zl_ {w W0 W : World} (b : Aside0 (Below w.heap.size w W0)) (h : Below w.heap.size w W := by repeat (first | (with_reducible first | exact HB.out | apply below_alloc | apply pw_below_drewN | apply below_drew1 | refine below_set ?_ (Aside0.out (by with_reducible assumption)) | refine below_set ?_ (IsS63.ge (Aside0.out (by with_reducible assumption)))) | exact HB.out)) : Below w.heap.size w W := h
theorem zs_ {w W0 W W1 : World} (b : Aside0 (Below w.heap.size w W0)) (hb : Below W.heap.size W W1) (h : Below w.heap.size w W := by repeat (first | (with_reducible first | exact HB.out | apply below_alloc | apply pw_below_drewN | apply below_drew1 | refine below_set ?_ (Aside0.out (by with_reducible assumption)) | refine below_set ?_ (IsS63.ge (Aside0.out (by with_reducible assumption)))) | exact HB.out)) : Aside0 (Below w.heap.size w W1) := ⟨below_step h hb⟩
theorem zw_ {w W0 W : World} {g : Nat} (b : Aside0 (Below w.heap.size w W0)) (hg : g = W.heap.size) (h : Below w.heap.size w W := by repeat (first | (with_reducible first | exact HB.out | apply below_alloc | apply pw_below_drewN | apply below_drew1 | refine below_set ?_ (Aside0.out (by with_reducible assumption)) | refine below_set ?_ (IsS63.ge (Aside0.out (by with_reducible assumption)))) | exact HB.out)) : Aside0 (w.heap.size ≤ g) := ⟨by rw [hg];exact below_size h⟩
theorem zt_ {p : Prop} (h : p := by first | rfl | (simp [errW_none,errW_some] <;> rfl) | (simp [*,errW_none,errW_some] <;> rfl) | (simp [mp_beq_nil,mp_bne_nil];done) | (simp [*,mp_beq_nil,mp_bne_nil];done)) : p := h
theorem zc4 {w : World} {g : Nat} {t : TypeId} {a0 a1 a2 a3 : Value} (h : Aside0 (w.heap[g]? = some (.cells #[a0,a1,a2,a3] t (0,0)))) : w.cell? ⟨g,0,none⟩ = some a0 ∧ w.cell? ⟨g,1,none⟩ = some a1 ∧ w.cell? ⟨g,2,none⟩ = some a2 ∧ w.cell? ⟨g,3,none⟩ = some a3 ∧ w.frozen? ⟨g,0,none⟩ = false ∧ w.frozen? ⟨g,1,none⟩ = false ∧ w.frozen? ⟨g,2,none⟩ = false ∧ w.frozen? ⟨g,3,none⟩ = false := ⟨(blk_cell h.out 0).trans rfl,(blk_cell h.out 1).trans rfl,(blk_cell h.out 2).trans rfl,(blk_cell h.out 3).trans rfl,blk_frozen h.out 0,blk_frozen h.out 1,blk_frozen h.out 2,blk_frozen h.out 3⟩
theorem zc6 {w : World} {g : Nat} {t : TypeId} {a0 a1 a2 a3 a4 a5 : Value} (h : Aside0 (w.heap[g]? = some (.cells #[a0,a1,a2,a3,a4,a5] t (0,0)))) : w.cell? ⟨g,0,none⟩ = some a0 ∧ w.cell? ⟨g,1,none⟩ = some a1 ∧ w.cell? ⟨g,2,none⟩ = some a2 ∧ w.cell? ⟨g,3,none⟩ = some a3 ∧ w.cell? ⟨g,4,none⟩ = some a4 ∧ w.cell? ⟨g,5,none⟩ = some a5 ∧ w.frozen? ⟨g,0,none⟩ = false ∧ w.frozen? ⟨g,1,none⟩ = false ∧ w.frozen? ⟨g,2,none⟩ = false ∧ w.frozen? ⟨g,3,none⟩ = false ∧ w.frozen? ⟨g,4,none⟩ = false ∧ w.frozen? ⟨g,5,none⟩ = false := ⟨(blk_cell h.out 0).trans rfl,(blk_cell h.out 1).trans rfl,(blk_cell h.out 2).trans rfl,(blk_cell h.out 3).trans rfl,(blk_cell h.out 4).trans rfl,(blk_cell h.out 5).trans rfl,blk_frozen h.out 0,blk_frozen h.out 1,blk_frozen h.out 2,blk_frozen h.out 3,blk_frozen h.out 4,blk_frozen h.out 5⟩
theorem zi63 {w0 W : World} {g : Nat} {f0 : List Int} {f1 : Int} {f2 : Int} {W' : World} {f0' : List Int} {f1' : Int} {f2' : Int} (b : Aside0 (IsS63 w0 W g f0 f1 f2)) (m : IsS63 w0 W g f0 f1 f2 → IsS63 w0 W' g f0' f1' f2' := by intro h_;repeat (first | (with_reducible first | exact h_ | apply IsS63.alloc | apply IsS63.drewN | apply IsS63.drew | apply IsS63.set_1 | apply IsS63.set_2 | refine IsS63.far ?_ (Aside0.out (by with_reducible assumption)) _) | exact h_)) : IsS63 w0 W' g f0' f1' f2' := m b.out
theorem zh_ {w W0 W : World} {g : Nat} {row : Option Nat} (k : Aside0 (KeepBut w W0 g row)) (h : KeepBut w W g row := by repeat (first | (with_reducible first | exact HK.out | apply KeepBut.set_ | apply keep_drewN | apply keep_drew | apply keep_alloc | refine keep_far ?_ (Aside0.out (by with_reducible assumption)) _) | exact HK.out)) : KeepBut w W g row := h
end Go.Proofs.YtkfhejklnmkfmaaDoor.A
end

section
namespace Go.Proofs.YtkfhejklnmkfmaaDoor.A
open Go.RowKit Go.Proofs.YtkfhejklnmkfmaaDoorW.PrintWords Go.Proofs.YtkfhejklnmkfmaaDoorW.PrintLast Go.Proofs.YtkfhejklnmkfmaaDoorW.PrintMore
section
variable {P : Program} {ops : Array Oper} {rest : List Oper} {o : Oper} {a : Act} {Q : Exit → Act → World → Prop}
theorem rows_event {W : World} {N : Tmp} {cs : Array Value} {n : Nat} {t : TypeId}
  (h : ∀ g,g = W.heap.size → ∀ w1,w1.heap[g]? = some (.cells cs t (0,0)) → Below W.heap.size W w1 → wpList P ops Q rest (a.put o.dst (.slice (some ⟨g,0,none⟩) n n)) w1)
  (hrun : (execOp a.eval o).run P W = .ok (.value (.slice (some ⟨W.heap.size,0,none⟩) n n)) (W.alloc (.cells cs t (0,0)))) (hd : o.dst = some N := by rfl) (hgd : o.guard = none := by rfl) : wpList P ops Q (o :: rest) a W :=
 Kd.event_run hgd hrun (h _ rfl _ (blk_new W _) (below_alloc (Below.refl _ _) _))
end
theorem rowat_of {l y : List Int} (h : Yz.f l = some y) : ∃ t,Yy.f l 0 4 = some t ∧ 0 ≤ t ∧ t < 4 ∧ [[0,1],[0,2],[1,3],[2,3]].getD t.toNat [] = y := by
 obtain ⟨t,e,h⟩ := Option.bind_eq_some_iff.mp h
 by_cases c : 0 ≤ t ∧ t < 4
 ·rw [if_pos c] at h
  exact ⟨t,e,c.1,c.2,Option.some.inj h⟩
 ·rw [if_neg c] at h
  cases h
theorem pick4 {α : Type} {d : Kd α} {e tt base g : Nat} {W : World} {ok : Nat → Prop} {v0 v1 v2 v3 : Value} {x0 x1 x2 x3 y : List α} (h0 : d.R e W base ok v0 x0) (h1 : d.R e W base ok v1 x1) (h2 : d.R e W base ok v2 x2) (h3 : d.R e W base ok v3 x3)
  (hb : W.heap[g]? = some (.cells #[v0,v1,v2,v3] tt (0,0))) {t : Int} (t0 : 0 ≤ t) (t1 : t < 4) (hy : [x0,x1,x2,x3].getD t.toNat [] = y) : ∃ v,W.cell? ⟨g,t.toNat,none⟩ = some v ∧ d.R e W base ok v y := by
 obtain ⟨n,rfl⟩ := Int.eq_ofNat_of_zero_le t0
 have hn : n < 4 := by omega
 simp only [Int.ofNat_eq_natCast,Int.toNat_natCast] at hy ⊢
 subst hy
 match n,hn with
 | 0,_ => exact ⟨v0,(blk_cell hb 0).trans rfl,h0⟩
 | 1,_ => exact ⟨v1,(blk_cell hb 1).trans rfl,h1⟩
 | 2,_ => exact ⟨v2,(blk_cell hb 2).trans rfl,h2⟩
 | 3,_ => exact ⟨v3,(blk_cell hb 3).trans rfl,h3⟩
end Go.Proofs.YtkfhejklnmkfmaaDoor.A
end

section
namespace Go.Proofs.YtkfhejklnmkfmaaDoor.A
open Go.RowKit Go.Proofs.YtkfhejklnmkfmaaDoorW.PrintWords Go.Proofs.YtkfhejklnmkfmaaDoorW.PrintLast Go.Proofs.YtkfhejklnmkfmaaDoorW.PrintMore
structure Au (W : World) (g : Nat) (l : List Int) : Prop where
  cell : ∀ j,j < l.length → W.cell? ⟨g,j,none⟩ = some (.int .u32 (l.getD j 0))
  free : ∀ j,j < l.length → W.frozen? ⟨g,j,none⟩ = false
theorem Au.at {W W' : World} {g : Nat} {l : List Int} (h : Au W g l) (e : W'.heap[g]? = W.heap[g]?) : Au W' g l :=
  ⟨fun j hj => (World.cell?_of_block (a := ⟨g,j,none⟩) e).trans (h.cell j hj),fun j hj => (World.frozen?_of_block (a := ⟨g,j,none⟩) e).trans (h.free j hj)⟩
theorem Au.of_row {W : World} {g : Nat} (l : List Int) {e : Nat} (h : W.heap[g]? = some (.cells (l.map (Value.int .u32)).toArray e (0,0))) : Au W g l := by
  refine ⟨fun j hj => ?_,fun j hj => ?_⟩
  · unfold World.cell?
    rw [h]
    simp [List.getD,List.getElem?_eq_getElem hj]
  · unfold World.frozen?
    rw [h]
    simp
theorem Au.set {W : World} {g : Nat} {l : List Int} (h : Au W g l) (j : Nat) (hj : j < l.length) (x : Int) : Au (W.setCell ⟨g,j,none⟩ (.int .u32 x)) g (l.set j x) := by
  refine ⟨fun i hi => ?_,fun i hi => ?_⟩
  · rw [List.length_set] at hi
    by_cases c : i = j
    · subst c
      rw [World.cell?_setCell_same _ _ _ (h.cell i hi)]
      simp [List.getD,hi]
    · rw [World.cell?_setCell_other _ _ _ _ (by simp <;> omega),h.cell i hi]
      simp [List.getD,List.getElem?_set,Ne.symm c]
  · rw [List.length_set] at hi
    rw [World.frozen?_setCell]
    exact h.free i hi
theorem setCell_old (W : World) (a : Addr) (v : Value) (k : Nat) (hk : k ≠ a.block) : (W.setCell a v).heap[k]? = W.heap[k]? := by
  simp [World.setCell,Array.getElem?_modify,Ne.symm hk]
theorem Au.far {W : World} {g g' : Nat} {l : List Int} (h : Au W g l) (hg : g ≠ g') (j : Nat) (v : Value) : Au (W.setCell ⟨g',j,none⟩ v) g l :=
  h.at (setCell_old W _ v g hg)
theorem Au.drew {W : World} {g : Nat} {l : List Int} (h : Au W g l) : Au W.drew g l := h.at rfl
theorem Au.drewN {W : World} {g : Nat} {l : List Int} (h : Au W g l) (n : Nat) : Au (W.drewN n) g l := h.at rfl
theorem Au.setCells {W : World} {g : Nat} {l : List Int} (h : Au W g l) (l' : List Int) (hl : l'.length = l.length) : Au (W.setCells g 0 (l'.map (Value.int .u32))) g l' := by
  refine ⟨fun j hj => ?_,fun j hj => ?_⟩
  · have := World.cell?_setCells_in g (l'.map (Value.int .u32)) 0 W (fun i hi => by rw [Nat.zero_add,h.cell i (by simpa [hl] using hi)];rfl) j (by simpa using hj)
    rw [Nat.zero_add] at this
    rw [this]
    simp [List.getD,hj]
  · rw [World.frozen?_setCells]
    exact h.free j (by omega)
structure Bk (w W : World) (n : Nat) (lh lr lw : List Int) : Prop where
  hh : Au W n lh
  hr : Au W (n + 1) lr
  hw : Au W (n + 2) lw
  below : Below n w W
  size : W.heap.size = n + 3
theorem w64id (x : Int) (h1 : -9223372036854775808 ≤ x) (h2 : x ≤ 9223372036854775807) : IntKind.i64.wrap x = x := by rw [IntKind.wrap_i64];omega
theorem alloc_at (W : World) (o : Obj) (k : Nat) : (W.alloc o).heap[k]? = if k = W.heap.size then some o else W.heap[k]? := by
  simp [World.alloc,-World.alloc_eq,Array.getElem?_push]
theorem alloc_sz (W : World) (o : Obj) : (W.alloc o).heap.size = W.heap.size + 1 := by simp [World.alloc,-World.alloc_eq]
theorem Bk.start (w : World) (h a b : List Int) (t1 t2 t3 : Nat) :
    Bk w (((w.alloc (.cells (h.map (Value.int .u32)).toArray t1)).alloc (.cells (a.map (Value.int .u32)).toArray t2)).alloc (.cells (b.map (Value.int .u32)).toArray t3)) w.heap.size h a b := by
  refine ⟨Au.of_row (e := t1) _ ?_,Au.of_row (e := t2) _ ?_,Au.of_row (e := t3) _ ?_,⟨rfl,rfl,rfl,?_,fun k hk => ?_⟩,?_⟩
  · rw [alloc_at,alloc_at,alloc_at,alloc_sz,alloc_sz,if_neg (by omega),if_neg (by omega),if_pos rfl]
  · rw [alloc_at,alloc_at,alloc_sz,alloc_sz,if_neg (by omega),if_pos rfl]
  · rw [alloc_at,alloc_sz,alloc_sz,if_pos rfl]
  · rw [alloc_sz,alloc_sz,alloc_sz];omega
  · rw [alloc_at,alloc_at,alloc_at,alloc_sz,alloc_sz,if_neg (by omega),if_neg (by omega),if_neg (by omega)]
  · rw [alloc_sz,alloc_sz,alloc_sz]
theorem below_drew_h {w W : World} {n : Nat} (h : Below n w W) : Below n w W.drew := ⟨h.os,h.tape,h.output,h.size,h.block⟩
theorem below_set_h {w W : World} {n g j : Nat} {v : Value} (h : Below n w W) (hg : n ≤ g) : Below n w (W.setCell ⟨g,j,none⟩ v) :=
  ⟨h.os,h.tape,h.output,by simpa [World.setCell] using h.size,fun k hk => (setCell_old W _ v k (by dsimp only;omega)).trans (h.block k hk)⟩
theorem Bk.word {w W : World} {n : Nat} {lh lr lw : List Int} (h : Bk w W n lh lr lw) (j : Nat) (hj : j < lw.length) (x : Int) : Bk w (W.setCell ⟨n + 2,j,none⟩ (.int .u32 x)) n lh lr (lw.set j x) :=
  ⟨h.hh.far (by omega) j _,h.hr.far (by omega) j _,h.hw.set j hj x,below_set_h h.below (by omega),by simpa [World.setCell] using h.size⟩
theorem Bk.drew {w W : World} {n : Nat} {lh lr lw : List Int} (h : Bk w W n lh lr lw) : Bk w W.drew n lh lr lw :=
  ⟨h.hh.drew,h.hr.drew,h.hw.drew,below_drew_h h.below,h.size⟩
theorem Bk.old {w W : World} {n : Nat} {lh lr lw : List Int} (h : Bk w W n lh lr lw) {g j : Nat} {v : Value} (hg : g < n) (hc : w.cell? ⟨g,j,none⟩ = some v) : W.cell? ⟨g,j,none⟩ = some v :=
  (World.cell?_of_block (a := ⟨g,j,none⟩) (h.below.block g hg)).trans hc
theorem Bk.drewN {w W : World} {n : Nat} {lh lr lw : List Int} (h : Bk w W n lh lr lw) (m : Nat) : Bk w (W.drewN m) n lh lr lw :=
  ⟨h.hh.drewN m,h.hr.drewN m,h.hw.drewN m,⟨h.below.os,h.below.tape,h.below.output,h.below.size,h.below.block⟩,h.size⟩
structure Bk2 (w W : World) (n : Nat) (lh lr lw la : List Int) : Prop where
  hh : Au W n lh
  hr : Au W (n + 1) lr
  hw : Au W (n + 2) lw
  ha : Au W (n + 3) la
  below : Below n w W
theorem Bk2.start {w W : World} {n : Nat} {lh lr lw : List Int} (h : Bk w W n lh lr lw) (la : List Int) (t : Nat) : Bk2 w (W.alloc (.cells (la.map (Value.int .u32)).toArray t)) n lh lr lw la := by
  have hs := h.size
  have e : ∀ k,k < n + 3 → (W.alloc (.cells (la.map (Value.int .u32)).toArray t)).heap[k]? = W.heap[k]? := fun k hk => by rw [alloc_at,if_neg (by omega)]
  refine ⟨h.hh.at (e _ (by omega)),h.hr.at (e _ (by omega)),h.hw.at (e _ (by omega)),Au.of_row (e := t) _ ?_,⟨h.below.os,h.below.tape,h.below.output,?_,fun k hk => (e k (by omega)).trans (h.below.block k hk)⟩⟩
  · rw [alloc_at,if_pos (by omega)]
  · rw [alloc_sz];have := h.below.size;omega
theorem Bk2.drewN {w W : World} {n : Nat} {lh lr lw la : List Int} (h : Bk2 w W n lh lr lw la) (m : Nat) : Bk2 w (W.drewN m) n lh lr lw la :=
  ⟨h.hh.drewN m,h.hr.drewN m,h.hw.drewN m,h.ha.drewN m,⟨h.below.os,h.below.tape,h.below.output,h.below.size,h.below.block⟩⟩
theorem Bk2.drew {w W : World} {n : Nat} {lh lr lw la : List Int} (h : Bk2 w W n lh lr lw la) : Bk2 w W.drew n lh lr lw la :=
  ⟨h.hh.drew,h.hr.drew,h.hw.drew,h.ha.drew,below_drew_h h.below⟩
theorem Bk2.set {w W : World} {n : Nat} {lh lr lw la : List Int} (h : Bk2 w W n lh lr lw la) (j : Nat) (hj : j < la.length) (x : Int) : Bk2 w (W.setCell ⟨n + 3,j,none⟩ (.int .u32 x)) n lh lr lw (la.set j x) :=
  ⟨h.hh.far (by omega) j _,h.hr.far (by omega) j _,h.hw.far (by omega) j _,h.ha.set j hj x,below_set_h h.below (by omega)⟩
theorem Bk2.head {w W : World} {n : Nat} {lh lr lw la : List Int} (h : Bk2 w W n lh lr lw la) (j : Nat) (hj : j < lh.length) (x : Int) : Bk2 w (W.setCell ⟨n,j,none⟩ (.int .u32 x)) n (lh.set j x) lr lw la :=
  ⟨h.hh.set j hj x,h.hr.far (by omega) j _,h.hw.far (by omega) j _,h.ha.far (by omega) j _,below_set_h h.below (by omega)⟩
theorem Bk2.out {w W : World} {n : Nat} {lh lr lw la : List Int} (h : Bk2 w W n lh lr lw la) (j : Nat) (hj : j < lr.length) (x : Int) : Bk2 w (W.setCell ⟨n + 1,j,none⟩ (.int .u32 x)) n lh (lr.set j x) lw la :=
  ⟨h.hh.far (by omega) j _,h.hr.set j hj x,h.hw.far (by omega) j _,h.ha.far (by omega) j _,below_set_h h.below (by omega)⟩
theorem Bk2.old {w W : World} {n : Nat} {lh lr lw la : List Int} (h : Bk2 w W n lh lr lw la) {g j : Nat} {v : Value} (hg : g < n) (hc : w.cell? ⟨g,j,none⟩ = some v) : W.cell? ⟨g,j,none⟩ = some v :=
  (World.cell?_of_block (a := ⟨g,j,none⟩) (h.below.block g hg)).trans hc
theorem Au.eight {W : World} {g : Nat} {a0 a1 a2 a3 a4 a5 a6 a7 : Int} (h : Au W g [a0,a1,a2,a3,a4,a5,a6,a7]) :
    (W.cell? ⟨g,0,none⟩ = some (.int .u32 a0) ∧ W.cell? ⟨g,1,none⟩ = some (.int .u32 a1) ∧ W.cell? ⟨g,2,none⟩ = some (.int .u32 a2) ∧ W.cell? ⟨g,3,none⟩ = some (.int .u32 a3) ∧ W.cell? ⟨g,4,none⟩ = some (.int .u32 a4) ∧ W.cell? ⟨g,5,none⟩ = some (.int .u32 a5) ∧ W.cell? ⟨g,6,none⟩ = some (.int .u32 a6) ∧ W.cell? ⟨g,7,none⟩ = some (.int .u32 a7)) ∧
    (W.frozen? ⟨g,0,none⟩ = false ∧ W.frozen? ⟨g,1,none⟩ = false ∧ W.frozen? ⟨g,2,none⟩ = false ∧ W.frozen? ⟨g,3,none⟩ = false ∧ W.frozen? ⟨g,4,none⟩ = false ∧ W.frozen? ⟨g,5,none⟩ = false ∧ W.frozen? ⟨g,6,none⟩ = false ∧ W.frozen? ⟨g,7,none⟩ = false) :=
  ⟨⟨h.cell 0 (by simp),h.cell 1 (by simp),h.cell 2 (by simp),h.cell 3 (by simp),h.cell 4 (by simp),h.cell 5 (by simp),h.cell 6 (by simp),h.cell 7 (by simp)⟩,
   ⟨h.free 0 (by simp),h.free 1 (by simp),h.free 2 (by simp),h.free 3 (by simp),h.free 4 (by simp),h.free 5 (by simp),h.free 6 (by simp),h.free 7 (by simp)⟩⟩
theorem eight {l : List Int} (h : l.length = 8) : ∃ a0 a1 a2 a3 a4 a5 a6 a7,l = [a0,a1,a2,a3,a4,a5,a6,a7] := by
  match l,h with
  | [a0,a1,a2,a3,a4,a5,a6,a7],_ => exact ⟨a0,a1,a2,a3,a4,a5,a6,a7,rfl⟩
theorem u32w_h (x : Int) : IntKind.u32.wrap x = x % 4294967296 := by unfold IntKind.wrap;simp [IntKind.bits,IntKind.signed]
theorem or_comm_h (k : IntKind) (x y : Int) : Go.bits .or k x y = Go.bits .or k y x := by
 unfold Go.bits
 simp only [BitVec.or_comm]
def turnH (x n : Int) : Int := Go.bits .or .u32 (shr .u32 x n) (shl .u32 x (32 - n))
theorem sturn2 (x : Int) : ZA.f x 2 = some (turnH x 2) := by
 unfold ZA.f
 rw [if_pos (by decide),show IntKind.u64.wrap (32 - 2) = 30 from by kernel_rfl,if_pos (by decide)]
 rfl
theorem sturn6 (x : Int) : ZA.f x 6 = some (turnH x 6) := by
 unfold ZA.f
 rw [if_pos (by decide),show IntKind.u64.wrap (32 - 6) = 26 from by kernel_rfl,if_pos (by decide)]
 rfl
theorem sturn7 (x : Int) : ZA.f x 7 = some (turnH x 7) := by
 unfold ZA.f
 rw [if_pos (by decide),show IntKind.u64.wrap (32 - 7) = 25 from by kernel_rfl,if_pos (by decide)]
 rfl
theorem sturn11 (x : Int) : ZA.f x 11 = some (turnH x 11) := by
 unfold ZA.f
 rw [if_pos (by decide),show IntKind.u64.wrap (32 - 11) = 21 from by kernel_rfl,if_pos (by decide)]
 rfl
theorem sturn13 (x : Int) : ZA.f x 13 = some (turnH x 13) := by
 unfold ZA.f
 rw [if_pos (by decide),show IntKind.u64.wrap (32 - 13) = 19 from by kernel_rfl,if_pos (by decide)]
 rfl
theorem sturn17 (x : Int) : ZA.f x 17 = some (turnH x 17) := by
 unfold ZA.f
 rw [if_pos (by decide),show IntKind.u64.wrap (32 - 17) = 15 from by kernel_rfl,if_pos (by decide)]
 rfl
theorem sturn18 (x : Int) : ZA.f x 18 = some (turnH x 18) := by
 unfold ZA.f
 rw [if_pos (by decide),show IntKind.u64.wrap (32 - 18) = 14 from by kernel_rfl,if_pos (by decide)]
 rfl
theorem sturn19 (x : Int) : ZA.f x 19 = some (turnH x 19) := by
 unfold ZA.f
 rw [if_pos (by decide),show IntKind.u64.wrap (32 - 19) = 13 from by kernel_rfl,if_pos (by decide)]
 rfl
theorem sturn22 (x : Int) : ZA.f x 22 = some (turnH x 22) := by
 unfold ZA.f
 rw [if_pos (by decide),show IntKind.u64.wrap (32 - 22) = 10 from by kernel_rfl,if_pos (by decide)]
 rfl
theorem sturn25 (x : Int) : ZA.f x 25 = some (turnH x 25) := by
 unfold ZA.f
 rw [if_pos (by decide),show IntKind.u64.wrap (32 - 25) = 7 from by kernel_rfl,if_pos (by decide)]
 rfl
theorem sturn_same (a0 : Int) (a1 : Int) (r : Int) (w : World) (h : ZA.f a0 a1 = some r) :
  Calls Tryd.prog 81 #[.int .u32 a0,.int .u64 a1] w fun e w' => e = .returned (.int .u32 r) ∧ w' = w := by
 have H : (if 0 ≤ a1 then (if 0 ≤ (IntKind.u64.wrap (32 - a1)) then (some (Go.bits .or .u32 (shr .u32 a0 a1) (shl .u32 a0 (IntKind.u64.wrap (32 - a1))))) else (none)) else (none)) = some r := h
 clear h
 by_cases c3 : 0 ≤ a1
 ·rw [if_pos c3] at H
  have c3b0 := eq_true c3
  have c3b1 : decide (0 ≤ a1) = true := decide_eq_true c3
  clear c3
  obtain ⟨ji4,hji4⟩ : ∃ j_ : Int,(shr .u32 a0 a1) = j_ := ⟨_,rfl⟩
  replace H : (if 0 ≤ (IntKind.u64.wrap (32 - a1)) then (some (Go.bits .or .u32 (ji4) (shl .u32 a0 (IntKind.u64.wrap (32 - a1))))) else (none)) = some r := by first | (rw [hji4] at H;exact H) | (simp only [hji4] at H ⊢;exact H)
  have hji4_ : (a0 / 2 ^ min a1.toNat 32) = ji4 := hji4
  have hji4z : a1 ≤ 32 → (a0 / 2 ^ a1.toNat) = ji4 := shr_small hji4
  obtain ⟨ji5,hji5⟩ : ∃ j_ : Int,(IntKind.u64.wrap (32 - a1)) = j_ := ⟨_,rfl⟩
  replace H : (if 0 ≤ (ji5) then (some (Go.bits .or .u32 (ji4) (shl .u32 a0 (ji5)))) else (none)) = some r := by first | (rw [hji5] at H;exact H) | (simp only [hji5] at H ⊢;exact H)
  by_cases c6 : 0 ≤ (ji5)
  ·rw [if_pos c6] at H
   have c6b0 := eq_true c6
   have c6b1 : decide (0 ≤ (ji5)) = true := decide_eq_true c6
   clear c6
   obtain ⟨ji7,hji7⟩ : ∃ j_ : Int,(shl .u32 a0 (ji5)) = j_ := ⟨_,rfl⟩
   replace H : (some (Go.bits .or .u32 (ji4) (ji7))) = some r := by first | (rw [hji7] at H;exact H) | (simp only [hji7] at H ⊢;exact H)
   have hji7_ : (IntKind.u32.wrap (a0 * 2 ^ min (ji5).toNat 32)) = ji7 := hji7
   have hji7z : (ji5) ≤ 32 → (IntKind.u32.wrap (a0 * 2 ^ (ji5).toNat)) = ji7 := shl_small hji7
   obtain rfl := Option.some.inj H
   go_enter Tryd.func81,Tryd.ntmps81
   go_wp2
   go_ret
   exact ⟨by first | rfl | (simp;done) | (simp only [← hji4,← hji5,← hji7] <;> (first | rfl | simp)) | (simp [*];done),rfl⟩
  ·rw [if_neg c6] at H
   exact absurd H (by simp)
 ·rw [if_neg c3] at H
  exact absurd H (by simp)
theorem stn2 (x : Int) (w : World) : Calls Tryd.prog 81 #[.int .u32 x,.int .u64 2] w fun e w' => e = .returned (.int .u32 (turnH x 2)) ∧ w' = w := sturn_same x 2 _ w (sturn2 x)
theorem stn6 (x : Int) (w : World) : Calls Tryd.prog 81 #[.int .u32 x,.int .u64 6] w fun e w' => e = .returned (.int .u32 (turnH x 6)) ∧ w' = w := sturn_same x 6 _ w (sturn6 x)
theorem stn7 (x : Int) (w : World) : Calls Tryd.prog 81 #[.int .u32 x,.int .u64 7] w fun e w' => e = .returned (.int .u32 (turnH x 7)) ∧ w' = w := sturn_same x 7 _ w (sturn7 x)
theorem stn11 (x : Int) (w : World) : Calls Tryd.prog 81 #[.int .u32 x,.int .u64 11] w fun e w' => e = .returned (.int .u32 (turnH x 11)) ∧ w' = w := sturn_same x 11 _ w (sturn11 x)
theorem stn13 (x : Int) (w : World) : Calls Tryd.prog 81 #[.int .u32 x,.int .u64 13] w fun e w' => e = .returned (.int .u32 (turnH x 13)) ∧ w' = w := sturn_same x 13 _ w (sturn13 x)
theorem stn17 (x : Int) (w : World) : Calls Tryd.prog 81 #[.int .u32 x,.int .u64 17] w fun e w' => e = .returned (.int .u32 (turnH x 17)) ∧ w' = w := sturn_same x 17 _ w (sturn17 x)
theorem stn18 (x : Int) (w : World) : Calls Tryd.prog 81 #[.int .u32 x,.int .u64 18] w fun e w' => e = .returned (.int .u32 (turnH x 18)) ∧ w' = w := sturn_same x 18 _ w (sturn18 x)
theorem stn19 (x : Int) (w : World) : Calls Tryd.prog 81 #[.int .u32 x,.int .u64 19] w fun e w' => e = .returned (.int .u32 (turnH x 19)) ∧ w' = w := sturn_same x 19 _ w (sturn19 x)
theorem stn22 (x : Int) (w : World) : Calls Tryd.prog 81 #[.int .u32 x,.int .u64 22] w fun e w' => e = .returned (.int .u32 (turnH x 22)) ∧ w' = w := sturn_same x 22 _ w (sturn22 x)
theorem stn25 (x : Int) (w : World) : Calls Tryd.prog 81 #[.int .u32 x,.int .u64 25] w fun e w' => e = .returned (.int .u32 (turnH x 25)) ∧ w' = w := sturn_same x 25 _ w (sturn25 x)
theorem w64n (x : Int) (h1 : -9223372036854775808 ≤ x) (h2 : x ≤ 9223372036854775807) : wrap64 x = x := (i64_w x).symm.trans (w64id x h1 h2)
def word4 (x0 x1 x2 x3 : Int) : Int := Go.bits .or .u32 (Go.bits .or .u32 (Go.bits .or .u32 (IntKind.u32.wrap (IntKind.u32.wrap x0 * 16777216)) (IntKind.u32.wrap (IntKind.u32.wrap x1 * 65536))) (IntKind.u32.wrap (IntKind.u32.wrap x2 * 256))) (IntKind.u32.wrap x3)
theorem step0 (h bs ks ws : List Int) (i : Nat) (r : List Int) (hb : bs.length = 64) (hw : ws.length = 64) (hi : i < 16) (H : Ze.lv0 h bs ks ws i = some r) :
  Ze.lv0 h bs ks (ws.set i (word4 (bs.getD (4 * i) 0) (bs.getD (4 * i + 1) 0) (bs.getD (4 * i + 2) 0) (bs.getD (4 * i + 3) 0))) ((i + 1 : Nat) : Int) = some r := by
 have c1 : (i : Int) < 16 := by omega
 have c2 : (0 : Int) ≤ 4 * (i : Int) := by omega
 have c3 : 4 * (i : Int) < (bs.length : Int) := by omega
 have c4 : (0 : Int) ≤ 4 * (i : Int) + 1 := by omega
 have c5 : 4 * (i : Int) + 1 < (bs.length : Int) := by omega
 have c6 : (0 : Int) ≤ 4 * (i : Int) + 2 := by omega
 have c7 : 4 * (i : Int) + 2 < (bs.length : Int) := by omega
 have c8 : (0 : Int) ≤ 4 * (i : Int) + 3 := by omega
 have c9 : 4 * (i : Int) + 3 < (bs.length : Int) := by omega
 have d1 : (0 : Int) ≤ (i : Int) := by omega
 have d2 : (i : Int) < (ws.length : Int) := by omega
 have e0 : (4 * (i : Int)).toNat = 4 * i := by omega
 have e1 : (4 * (i : Int) + 1).toNat = 4 * i + 1 := by omega
 have e2 : (4 * (i : Int) + 2).toNat = 4 * i + 2 := by omega
 have e3 : (4 * (i : Int) + 3).toNat = 4 * i + 3 := by omega
 have w : wrap64 ((i : Int) + 1) = ((i + 1 : Nat) : Int) := by rw [w64n _ (by omega) (by omega)];omega
 have w0 : wrap64 (4 * (i : Int)) = 4 * (i : Int) := w64n _ (by omega) (by omega)
 have w1 : wrap64 (4 * (i : Int) + 1) = 4 * (i : Int) + 1 := w64n _ (by omega) (by omega)
 have w2 : wrap64 (4 * (i : Int) + 2) = 4 * (i : Int) + 2 := w64n _ (by omega) (by omega)
 have w3 : wrap64 (4 * (i : Int) + 3) = 4 * (i : Int) + 3 := w64n _ (by omega) (by omega)
 rw [Ze.lv0_eq] at H
 simp only [w,w0,w1,w2,w3,if_pos c1,if_pos c2,if_pos c3,if_pos c4,if_pos c5,if_pos c6,if_pos c7,if_pos c8,if_pos c9,if_pos d1,if_pos d2,rd,e0,e1,e2,e3,Int.toNat_natCast] at H
 simpa only [word4,u32w_h] using H
theorem exit0 (h bs ks ws : List Int) (r : List Int) (i : Int) (hi : ¬ i < 16) (H : Ze.lv0 h bs ks ws i = some r) : Ze.lv1 h ks ws ((16 : Nat) : Int) = some r := by
 rw [Ze.lv0_eq,if_neg hi] at H
 rw [show ((16 : Nat) : Int) = 16 from rfl]
 exact H
def wordX (a b c d : Int) : Int := (a + b + c + d) % 4294967296
def sig (x p q s : Int) : Int := Go.bits .xor .u32 (Go.bits .xor .u32 (turnH x p) (turnH x q)) s
theorem sub_nat (i k : Nat) (h : k ≤ i) : ((i : Int) - (k : Int)).toNat = i - k := by omega
theorem wsub (i k : Nat) (hk : k ≤ i) (hi : i ≤ 64) : wrap64 ((i : Int) - (k : Int)) = (i : Int) - (k : Int) := w64n _ (by omega) (by omega)
theorem wadd (i : Nat) (hi : i ≤ 64) : wrap64 ((i : Int) + 1) = ((i + 1 : Nat) : Int) := by rw [w64n _ (by omega) (by omega)];omega
theorem step1 (h ks ws : List Int) (i : Nat) (r : List Int) (hw : ws.length = 64) (h16 : 16 ≤ i) (hi : i < 64) (H : Ze.lv1 h ks ws i = some r) :
  Ze.lv1 h ks (ws.set i (wordX (ws.getD (i - 16) 0) (sig (ws.getD (i - 15) 0) 7 18 (ws.getD (i - 15) 0 / 8)) (ws.getD (i - 7) 0) (sig (ws.getD (i - 2) 0) 17 19 (ws.getD (i - 2) 0 / 1024)))) ((i + 1 : Nat) : Int) = some r := by
 have g1 : 15 ≤ i := by omega
 have g2 : 2 ≤ i := by omega
 have g3 : 7 ≤ i := by omega
 have g4 : i ≤ 64 := by omega
 have c1 : (i : Int) < 64 := by omega
 have c2 : (0 : Int) ≤ (i : Int) - 15 := by omega
 have c3 : (i : Int) - 15 < (ws.length : Int) := by omega
 have c4 : (0 : Int) ≤ (i : Int) - 2 := by omega
 have c5 : (i : Int) - 2 < (ws.length : Int) := by omega
 have c6 : (0 : Int) ≤ (i : Int) - 16 := by omega
 have c7 : (i : Int) - 16 < (ws.length : Int) := by omega
 have c8 : (0 : Int) ≤ (i : Int) - 7 := by omega
 have c9 : (i : Int) - 7 < (ws.length : Int) := by omega
 have d1 : (0 : Int) ≤ (i : Int) := by omega
 have d2 : (i : Int) < (ws.length : Int) := by omega
 have e0 : ((i : Int) - 15).toNat = i - 15 := sub_nat i 15 g1
 have e1 : ((i : Int) - 2).toNat = i - 2 := sub_nat i 2 g2
 have e2 : ((i : Int) - 16).toNat = i - 16 := sub_nat i 16 h16
 have e3 : ((i : Int) - 7).toNat = i - 7 := sub_nat i 7 g3
 have w : wrap64 ((i : Int) + 1) = ((i + 1 : Nat) : Int) := wadd i g4
 have w1 : wrap64 ((i : Int) - 15) = (i : Int) - 15 := wsub i 15 g1 g4
 have w2 : wrap64 ((i : Int) - 2) = (i : Int) - 2 := wsub i 2 g2 g4
 have w3 : wrap64 ((i : Int) - 16) = (i : Int) - 16 := wsub i 16 h16 g4
 have w4 : wrap64 ((i : Int) - 7) = (i : Int) - 7 := wsub i 7 g3 g4
 rw [Ze.lv1_eq] at H
 simp only [w,w1,w2,w3,w4,if_pos c1,if_pos c2,if_pos c3,if_pos c4,if_pos c5,if_pos c6,if_pos c7,if_pos c8,if_pos c9,if_pos d1,if_pos d2,ZA.v,sturn7,sturn18,sturn17,sturn19,Option.bind_some,rd,e0,e1,e2,e3,Int.toNat_natCast] at H
 simpa only [wordX,sig,u32w_h,Int.emod_add_emod] using H
theorem exit1 (h ks ws : List Int) (r : List Int) (hh : h.length = 8) (i : Int) (hi : ¬ i < 64) (H : Ze.lv1 h ks ws i = some r) : Ze.lv2 h ks ws h ((0 : Nat) : Int) = some r := by
 rw [Ze.lv1_eq,if_neg hi,Option.bind_some,if_pos (by simp;omega),List.nil_append] at H
 rw [show ((0 : Nat) : Int) = 0 from rfl]
 exact H
theorem ch_bv (n : Nat) (o e f g : BitVec n) (ho : o = BitVec.allOnes n) : (e &&& f) ^^^ ((o ^^^ e) &&& g) = (e &&& f) ||| ((o ^^^ e) &&& g) := by
 subst ho
 apply BitVec.eq_of_getLsbD_eq
 intro j hj
 simp only [BitVec.getLsbD_xor,BitVec.getLsbD_and,BitVec.getLsbD_or,BitVec.getLsbD_allOnes,hj,decide_true]
 cases e.getLsbD j <;> cases f.getLsbD j <;> cases g.getLsbD j <;> rfl
theorem bits_of (b : BitVec IntKind.u32.bits) : BitVec.ofInt IntKind.u32.bits (IntKind.u32.wrap (b.toNat : Int)) = b := by
 have := b.isLt
 rw [show (2 ^ IntKind.u32.bits : Nat) = 4294967296 from rfl] at this
 rw [u32w_h,Int.emod_eq_of_lt (by omega) (by omega)]
 simp
theorem and_back (x y : Int) : BitVec.ofInt IntKind.u32.bits (Go.bits .and .u32 x y) = BitVec.ofInt IntKind.u32.bits x &&& BitVec.ofInt IntKind.u32.bits y := bits_of _
theorem xor_back (x y : Int) : BitVec.ofInt IntKind.u32.bits (Go.bits .xor .u32 x y) = BitVec.ofInt IntKind.u32.bits x ^^^ BitVec.ofInt IntKind.u32.bits y := bits_of _
theorem ch_eq (e f g : Int) : Go.bits .xor .u32 (Go.bits .and .u32 e f) (Go.bits .and .u32 (Go.bits .xor .u32 4294967295 e) g) = Go.bits .or .u32 (Go.bits .and .u32 e f) (Go.bits .and .u32 (Go.bits .xor .u32 4294967295 e) g) := by
 have h : ∀ x y : Int,BitVec.ofInt IntKind.u32.bits x ^^^ BitVec.ofInt IntKind.u32.bits y = BitVec.ofInt IntKind.u32.bits x ||| BitVec.ofInt IntKind.u32.bits y → Go.bits .xor .u32 x y = Go.bits .or .u32 x y := by
  intro x y h
  show IntKind.u32.wrap ((BitVec.ofInt IntKind.u32.bits x ^^^ BitVec.ofInt IntKind.u32.bits y).toNat : Int) = IntKind.u32.wrap ((BitVec.ofInt IntKind.u32.bits x ||| BitVec.ofInt IntKind.u32.bits y).toNat : Int)
  rw [h]
 apply h
 rw [and_back,and_back,xor_back]
 exact ch_bv _ _ _ _ _ (by decide)
def pF (a7 e f g k x : Int) : Int := (a7 + sig e 6 11 (turnH e 25) + Go.bits .or .u32 (Go.bits .and .u32 e f) (Go.bits .and .u32 (Go.bits .xor .u32 4294967295 e) g) + k + x)
def qF (a b c : Int) : Int := (sig a 2 13 (turnH a 22) + Go.bits .xor .u32 (Go.bits .xor .u32 (Go.bits .and .u32 a b) (Go.bits .and .u32 a c)) (Go.bits .and .u32 b c))
theorem step2 (h ks ws : List Int) (a0 a1 a2 a3 a4 a5 a6 a7 : Int) (i : Nat) (r : List Int) (hw : ws.length = 64) (hk : ks.length = 64) (hi : i < 64) (H : Ze.lv2 h ks ws [a0,a1,a2,a3,a4,a5,a6,a7] i = some r) :
  Ze.lv2 h ks ws [(pF a7 a4 a5 a6 (ks.getD i 0) (ws.getD i 0) + qF a0 a1 a2) % 4294967296,a0,a1,a2,(a3 + pF a7 a4 a5 a6 (ks.getD i 0) (ws.getD i 0)) % 4294967296,a4,a5,a6] ((i + 1 : Nat) : Int) = some r := by
 have c1 : (i : Int) < 64 := by omega
 have c7 : (0 : Int) ≤ (i : Int) := by omega
 have c8 : (i : Int) < (ks.length : Int) := by omega
 have c9 : (i : Int) < (ws.length : Int) := by omega
 have w : wrap64 ((i : Int) + 1) = ((i + 1 : Nat) : Int) := wadd i (by omega)
 have l : ([a0,a1,a2,a3,a4,a5,a6,a7] : List Int).length = 8 := rfl
 rw [Ze.lv2_eq] at H
 have k0 : (4 : Int) < ((8 : Nat) : Int) := by decide
 have k1 : (0 : Int) < ((8 : Nat) : Int) := by decide
 have k2 : (7 : Int) < ((8 : Nat) : Int) := by decide
 have k3 : (5 : Int) < ((8 : Nat) : Int) := by decide
 have k4 : (6 : Int) < ((8 : Nat) : Int) := by decide
 have k5 : (1 : Int) < ((8 : Nat) : Int) := by decide
 have k6 : (2 : Int) < ((8 : Nat) : Int) := by decide
 have k7 : (3 : Int) < ((8 : Nat) : Int) := by decide
 have r0 : rd [a0,a1,a2,a3,a4,a5,a6,a7] 0 = a0 := rfl
 have r1 : rd [a0,a1,a2,a3,a4,a5,a6,a7] 1 = a1 := rfl
 have r2 : rd [a0,a1,a2,a3,a4,a5,a6,a7] 2 = a2 := rfl
 have r3 : rd [a0,a1,a2,a3,a4,a5,a6,a7] 3 = a3 := rfl
 have r4 : rd [a0,a1,a2,a3,a4,a5,a6,a7] 4 = a4 := rfl
 have r5 : rd [a0,a1,a2,a3,a4,a5,a6,a7] 5 = a5 := rfl
 have r6 : rd [a0,a1,a2,a3,a4,a5,a6,a7] 6 = a6 := rfl
 have r7 : rd [a0,a1,a2,a3,a4,a5,a6,a7] 7 = a7 := rfl
 have rk : rd ks (i : Int) = ks.getD i 0 := by simp [rd]
 have rw_ : rd ws (i : Int) = ws.getD i 0 := by simp [rd]
 simp only [l,w,r0,r1,r2,r3,r4,r5,r6,r7,rk,rw_,if_pos c1,if_pos c7,if_pos c8,if_pos c9,if_pos k0,if_pos k1,if_pos k2,if_pos k3,if_pos k4,if_pos k5,if_pos k6,if_pos k7,ZA.v,sturn6,sturn11,sturn25,sturn2,sturn13,sturn22,Option.bind_some,ch_eq] at H
 simpa only [pF,qF,sig,u32w_h,Int.emod_add_emod,Int.add_emod_emod] using H
theorem u32max_h : IntKind.u32.max = 4294967295 := by decide
def pW (a7 e f g k x : Int) : Int := IntKind.u32.wrap (IntKind.u32.wrap (IntKind.u32.wrap (IntKind.u32.wrap (a7 + sig e 6 11 (turnH e 25)) + Go.bits .or .u32 (Go.bits .and .u32 e f) (Go.bits .and .u32 (Go.bits .xor .u32 IntKind.u32.max e) g)) + k) + x)
def qW (a b c : Int) : Int := IntKind.u32.wrap (sig a 2 13 (turnH a 22) + Go.bits .xor .u32 (Go.bits .xor .u32 (Go.bits .and .u32 a b) (Go.bits .and .u32 a c)) (Go.bits .and .u32 b c))
theorem step2w (h ks ws : List Int) (a0 a1 a2 a3 a4 a5 a6 a7 : Int) (i : Nat) (r : List Int) (hw : ws.length = 64) (hk : ks.length = 64) (hi : i < 64) (xk xw xp xq : Int) (hxk : ks.getD i 0 = xk) (hxw : ws.getD i 0 = xw) (hp : pW a7 a4 a5 a6 xk xw = xp) (hq : qW a0 a1 a2 = xq) (H : Ze.lv2 h ks ws [a0,a1,a2,a3,a4,a5,a6,a7] i = some r) :
  Ze.lv2 h ks ws [(xp + xq) % 4294967296,a0,a1,a2,(a3 + xp) % 4294967296,a4,a5,a6] ((i + 1 : Nat) : Int) = some r := by
 have := step2 h ks ws a0 a1 a2 a3 a4 a5 a6 a7 i r hw hk hi H
 rw [hxk,hxw] at this
 rw [← this,← hp,← hq]
 simp only [pW,qW,pF,qF,u32w_h,u32max_h,Int.emod_add_emod,Int.add_emod_emod]
def pX (a7 e f g k x : Int) : Int := IntKind.u32.wrap (IntKind.u32.wrap (IntKind.u32.wrap (IntKind.u32.wrap (a7 + sig e 6 11 (turnH e 25)) + Go.bits .xor .u32 (Go.bits .and .u32 e f) (Go.bits .and .u32 (Go.bits .xor .u32 IntKind.u32.max e) g)) + k) + x)
theorem pX_eq (a7 e f g k x : Int) : pX a7 e f g k x = pW a7 e f g k x := by
 unfold pX pW
 rw [u32max_h,ch_eq]
theorem exit2 (h ks ws v : List Int) (r : List Int) (i : Int) (hi : ¬ i < 64) (H : Ze.lv2 h ks ws v i = some r) : Ze.lv3 h v ((0 : Nat) : Int) = some r := by
 rw [Ze.lv2_eq,if_neg hi] at H
 rw [show ((0 : Nat) : Int) = 0 from rfl]
 exact H
theorem step3 (h v : List Int) (i : Nat) (r : List Int) (hh : h.length = 8) (hv : v.length = 8) (hi : i < 8) (H : Ze.lv3 h v i = some r) :
  Ze.lv3 (h.set i (IntKind.u32.wrap (h.getD i 0 + v.getD i 0))) v ((i + 1 : Nat) : Int) = some r := by
 have g0 : (i : Int) < 8 := by omega
 have g1 : (0 : Int) ≤ i := by omega
 have g2 : (i : Int) < (h.length : Int) := by omega
 have g3 : (i : Int) < (v.length : Int) := by omega
 have w : wrap64 ((i : Int) + 1) = ((i + 1 : Nat) : Int) := wadd i (by omega)
 have r0 : rd h (i : Int) = h.getD i 0 := by simp [rd]
 have r1 : rd v (i : Int) = v.getD i 0 := by simp [rd]
 rw [Ze.lv3_eq,w,if_pos g0,if_pos g1,if_pos g2,if_pos g3,r0,r1] at H
 simpa only [u32w_h,Int.toNat_natCast] using H
theorem exit3 (h v : List Int) (r : List Int) (i : Int) (hi : ¬ i < 8) (H : Ze.lv3 h v i = some r) : h = r := by
 rw [Ze.lv3_eq,if_neg hi] at H
 exact Option.some.inj H
theorem start0 (h bs ks : List Int) (r : List Int) (H : Ze.v h bs ks = some r) : Ze.lv0 h bs ks (List.replicate 64 0) ((0 : Nat) : Int) = some r := by
 rw [Ze.v_eq] at H
 split at H
 ·rw [if_pos (by omega)] at H
  rw [show ((0 : Nat) : Int) = 0 from rfl]
  exact H
 ·cases H
theorem rot_same (a0 : Int) (a1 : Int) (r : Int) (w : World) (h : YA.f a0 a1 = some r) :
  Calls Tryd.prog 82 #[.int .u32 a0,.int .i64 a1] w fun e w' => e = .returned (.int .u32 r) ∧ w' = w := by
 have H : (if 0 ≤ (Go.bits .and .u64 (IntKind.u64.wrap (a1)) 31) then (if 0 ≤ (IntKind.u64.wrap (32 - (Go.bits .and .u64 (IntKind.u64.wrap (a1)) 31))) then (some (Go.bits .or .u32 (shl .u32 a0 (Go.bits .and .u64 (IntKind.u64.wrap (a1)) 31)) (shr .u32 a0 (IntKind.u64.wrap (32 - (Go.bits .and .u64 (IntKind.u64.wrap (a1)) 31)))))) else (none)) else (none)) = some r := h
 clear h
 obtain ⟨ji3,hji3⟩ : ∃ j_ : Int,(Go.bits .and .u64 (IntKind.u64.wrap (a1)) 31) = j_ := ⟨_,rfl⟩
 replace H : (if 0 ≤ (ji3) then (if 0 ≤ (IntKind.u64.wrap (32 - (ji3))) then (some (Go.bits .or .u32 (shl .u32 a0 (ji3)) (shr .u32 a0 (IntKind.u64.wrap (32 - (ji3)))))) else (none)) else (none)) = some r := by first | (rw [hji3] at H;exact H) | (simp only [hji3] at H ⊢;exact H)
 by_cases c4 : 0 ≤ (ji3)
 ·rw [if_pos c4] at H
  have c4b0 := eq_true c4
  have c4b1 : decide (0 ≤ (ji3)) = true := decide_eq_true c4
  clear c4
  obtain ⟨ji5,hji5⟩ : ∃ j_ : Int,(shl .u32 a0 (ji3)) = j_ := ⟨_,rfl⟩
  replace H : (if 0 ≤ (IntKind.u64.wrap (32 - (ji3))) then (some (Go.bits .or .u32 (ji5) (shr .u32 a0 (IntKind.u64.wrap (32 - (ji3)))))) else (none)) = some r := by first | (rw [hji5] at H;exact H) | (simp only [hji5] at H ⊢;exact H)
  have hji5_ : (IntKind.u32.wrap (a0 * 2 ^ min (ji3).toNat 32)) = ji5 := hji5
  have hji5z : (ji3) ≤ 32 → (IntKind.u32.wrap (a0 * 2 ^ (ji3).toNat)) = ji5 := shl_small hji5
  obtain ⟨ji6,hji6⟩ : ∃ j_ : Int,(IntKind.u64.wrap (32 - (ji3))) = j_ := ⟨_,rfl⟩
  replace H : (if 0 ≤ (ji6) then (some (Go.bits .or .u32 (ji5) (shr .u32 a0 (ji6)))) else (none)) = some r := by first | (rw [hji6] at H;exact H) | (simp only [hji6] at H ⊢;exact H)
  by_cases c7 : 0 ≤ (ji6)
  ·rw [if_pos c7] at H
   have c7b0 := eq_true c7
   have c7b1 : decide (0 ≤ (ji6)) = true := decide_eq_true c7
   clear c7
   obtain ⟨ji8,hji8⟩ : ∃ j_ : Int,(shr .u32 a0 (ji6)) = j_ := ⟨_,rfl⟩
   replace H : (some (Go.bits .or .u32 (ji5) (ji8))) = some r := by first | (rw [hji8] at H;exact H) | (simp only [hji8] at H ⊢;exact H)
   have hji8_ : (a0 / 2 ^ min (ji6).toNat 32) = ji8 := hji8
   have hji8z : (ji6) ≤ 32 → (a0 / 2 ^ (ji6).toNat) = ji8 := shr_small hji8
   obtain rfl := Option.some.inj H
   go_enter Tryd.func82,Tryd.ntmps82
   go_wp2
   go_ret
   exact ⟨by first | rfl | (simp;done) | (simp only [← hji3,← hji5,← hji6,← hji8] <;> (first | rfl | simp)) | (simp [*];done),rfl⟩
  ·rw [if_neg c7] at H
   exact absurd H (by simp)
 ·rw [if_neg c4] at H
  exact absurd H (by simp)
theorem turned_same (a0 : Int) (a1 : Int) (r : Int) (w : World) (h : YB.f a0 a1 = some r) :
  Calls Tryd.prog 77 #[.int .u32 a0,.int .i64 a1] w fun e w' => e = .returned (.int .u32 r) ∧ w' = w := by
 have H : ((YA.f a0 (wrap64 (-a1))).bind fun t209 => (some t209)) = some r := h
 clear h
 replace H := Option.bind_eq_some_iff.mp H
 obtain ⟨t209,A30,H⟩ := H
 replace H : (some t209) = some r := H
 have A3 := Aside0.mk A30
 clear A30
 obtain rfl := Option.some.inj H
 go_enter Tryd.func77,Tryd.ntmps77
 go_wp2_with (first | ((with_reducible refine gate_callee (f := 82) rfl ?_);refine goesL_ (some 8) rfl rfl Tryd.func82 (by kernel_rfl) rfl #[.int .u32 a0,.int .i64 (wrap64 (-a1))] rfl (by (try simp only [List.map_toArray,List.map_cons,List.map_nil]);first | done | rfl | (simp only [List.length_drop,List.length_take];rfl)) ?_;(with_reducible refine (rot_same a0 (wrap64 (-a1)) t209 _ A3.out).mono ?_);rintro e w' ⟨rfl,rfl⟩;refine ⟨_,rfl,?_⟩))
 go_ret
 exact ⟨by first | rfl | (simp;done) | (simp [*];done),rfl⟩
theorem turned_f (x n s : Int) (h1 : Go.bits .and .u64 (IntKind.u64.wrap (wrap64 (-n))) 31 = s) (h2 : IntKind.u64.wrap (32 - s) = n) (h3 : 32 - n = s) (h4 : 0 ≤ s) (h5 : 0 ≤ n) : YB.f x n = some (turnH x n) := by
 unfold YB.f YA.f
 rw [h1,h2,if_pos h4,if_pos h5,Option.bind_some,turnH,or_comm_h,h3]
theorem turned_at (x n s : Int) (w : World) (h1 : Go.bits .and .u64 (IntKind.u64.wrap (wrap64 (-n))) 31 = s) (h2 : IntKind.u64.wrap (32 - s) = n) (h3 : 32 - n = s) (h4 : 0 ≤ s) (h5 : 0 ≤ n) :
  Calls Tryd.prog 77 #[.int .u32 x,.int .i64 n] w fun e w' => e = .returned (.int .u32 (turnH x n)) ∧ w' = w :=
 turned_same x n _ w (turned_f x n s h1 h2 h3 h4 h5)
theorem turn2 (x : Int) (w : World) : Calls Tryd.prog 77 #[.int .u32 x,.int .i64 2] w fun e w' => e = .returned (.int .u32 (turnH x 2)) ∧ w' = w := turned_at x 2 30 w (by kernel_rfl) (by kernel_rfl) (by decide) (by decide) (by decide)
theorem turn6 (x : Int) (w : World) : Calls Tryd.prog 77 #[.int .u32 x,.int .i64 6] w fun e w' => e = .returned (.int .u32 (turnH x 6)) ∧ w' = w := turned_at x 6 26 w (by kernel_rfl) (by kernel_rfl) (by decide) (by decide) (by decide)
theorem turn7 (x : Int) (w : World) : Calls Tryd.prog 77 #[.int .u32 x,.int .i64 7] w fun e w' => e = .returned (.int .u32 (turnH x 7)) ∧ w' = w := turned_at x 7 25 w (by kernel_rfl) (by kernel_rfl) (by decide) (by decide) (by decide)
theorem turn11 (x : Int) (w : World) : Calls Tryd.prog 77 #[.int .u32 x,.int .i64 11] w fun e w' => e = .returned (.int .u32 (turnH x 11)) ∧ w' = w := turned_at x 11 21 w (by kernel_rfl) (by kernel_rfl) (by decide) (by decide) (by decide)
theorem turn13 (x : Int) (w : World) : Calls Tryd.prog 77 #[.int .u32 x,.int .i64 13] w fun e w' => e = .returned (.int .u32 (turnH x 13)) ∧ w' = w := turned_at x 13 19 w (by kernel_rfl) (by kernel_rfl) (by decide) (by decide) (by decide)
theorem turn17 (x : Int) (w : World) : Calls Tryd.prog 77 #[.int .u32 x,.int .i64 17] w fun e w' => e = .returned (.int .u32 (turnH x 17)) ∧ w' = w := turned_at x 17 15 w (by kernel_rfl) (by kernel_rfl) (by decide) (by decide) (by decide)
theorem turn18 (x : Int) (w : World) : Calls Tryd.prog 77 #[.int .u32 x,.int .i64 18] w fun e w' => e = .returned (.int .u32 (turnH x 18)) ∧ w' = w := turned_at x 18 14 w (by kernel_rfl) (by kernel_rfl) (by decide) (by decide) (by decide)
theorem turn19 (x : Int) (w : World) : Calls Tryd.prog 77 #[.int .u32 x,.int .i64 19] w fun e w' => e = .returned (.int .u32 (turnH x 19)) ∧ w' = w := turned_at x 19 13 w (by kernel_rfl) (by kernel_rfl) (by decide) (by decide) (by decide)
theorem turn22 (x : Int) (w : World) : Calls Tryd.prog 77 #[.int .u32 x,.int .i64 22] w fun e w' => e = .returned (.int .u32 (turnH x 22)) ∧ w' = w := turned_at x 22 10 w (by kernel_rfl) (by kernel_rfl) (by decide) (by decide) (by decide)
theorem turn25 (x : Int) (w : World) : Calls Tryd.prog 77 #[.int .u32 x,.int .i64 25] w fun e w' => e = .returned (.int .u32 (turnH x 25)) ∧ w' = w := turned_at x 25 7 w (by kernel_rfl) (by kernel_rfl) (by decide) (by decide) (by decide)
theorem res121 (tmps : Array Value) (W : World) (g : Nat) (h4 : tmps.getD 4 undef = .pointer (some ⟨g,0,none⟩)) (b0 b1 b2 b3 b4 b5 b6 b7 : Int)
  (r0 : W.cell? ⟨g,0,none⟩ = some (.int .u32 b0)) (r1 : W.cell? ⟨g,1,none⟩ = some (.int .u32 b1)) (r2 : W.cell? ⟨g,2,none⟩ = some (.int .u32 b2)) (r3 : W.cell? ⟨g,3,none⟩ = some (.int .u32 b3))
  (r4 : W.cell? ⟨g,4,none⟩ = some (.int .u32 b4)) (r5 : W.cell? ⟨g,5,none⟩ = some (.int .u32 b5)) (r6 : W.cell? ⟨g,6,none⟩ = some (.int .u32 b6)) (r7 : W.cell? ⟨g,7,none⟩ = some (.int .u32 b7)) :
  (results Tryd.f65 tmps).run Tryd.prog W = .ok (.agg #[.int .u32 b0,.int .u32 b1,.int .u32 b2,.int .u32 b3,.int .u32 b4,.int .u32 b5,.int .u32 b6,.int .u32 b7]) W := by
 have h4' : tmps[4]?.getD undef = .pointer (some ⟨g,0,none⟩) := by simpa using h4
 have hres : Tryd.f65.results = #[.cell 4 80] := rfl
 simp only [results,hres,List.mapM_toArray,List.mapM_cons,List.mapM_nil,h4,asAddr]
 go_simp
set_option maxHeartbeats 4000000 in
set_option maxRecDepth 100000 in
theorem block_walk (h0 h1 h2 h3 h4 h5 h6 h7 : Int) (gb ob cb : Nat) (bs ks r : List Int) (w : World) (hgb : gb < w.heap.size) (hbl : bs.length = 64) (hob : ob < 1000000000000)
  (hb : ∀ j,j < 64 → w.cell? ⟨gb,ob + j,none⟩ = some (.int .u8 (bs.getD j 0))) (hL : ∀ j,j < 64 → w.cell? ⟨0,j,none⟩ = some (.int .u32 (ks.getD j 0))) (hkl : ks.length = 64) (H : Ze.v [h0,h1,h2,h3,h4,h5,h6,h7] bs ks = some r) :
  Calls Tryd.prog 65 #[.agg #[.int .u32 h0,.int .u32 h1,.int .u32 h2,.int .u32 h3,.int .u32 h4,.int .u32 h5,.int .u32 h6,.int .u32 h7],.slice (some ⟨gb,ob,none⟩) 64 cb] w fun e w' => e = .returned (.agg (r.map (Value.int .u32)).toArray) ∧ Below w.heap.size w w' ∧ r.length = 8 := by
 have HB := Aside0.mk hb
 have HL := Aside0.mk hL
 clear hb hL
 have H0 := Aside0.mk (start0 _ _ _ _ H)
 clear H
 go_enter Tryd.func65,Tryd.ntmps65
 go_wp2
 generalize hn : w.heap.size = n at *
 generalize hW : World.alloc _ _ = W3
 have F := Aside0.mk (show Bk w W3 n [h0,h1,h2,h3,h4,h5,h6,h7] (List.replicate 8 0) (List.replicate 64 0) from by subst hn;subst hW;exact Bk.start w [h0,h1,h2,h3,h4,h5,h6,h7] (List.replicate 8 0) (List.replicate 64 0) 80 80 88)
 clear hW
 simp only [Nat.add_assoc,Nat.reduceAdd]
 go_loopg [16] 16 (fun gg v16 wr => ∃ (i : Nat) (ws : List Int),i ≤ 16 ∧ gg + i = 16 ∧ v16 = .int .i64 (i : Int) ∧ ws.length = 64 ∧ Aside0 (Ze.lv0 [h0,h1,h2,h3,h4,h5,h6,h7] bs ks ws (i : Int) = some r) ∧ Aside0 (Bk w wr n [h0,h1,h2,h3,h4,h5,h6,h7] (List.replicate 8 0) ws))
 case atStart => exact ⟨0,_,by omega,rfl,rfl,List.length_replicate,H0,F⟩
 case round =>
  clear F H0
  obtain ⟨i,ws,hi,hg,rfl,hws,H0,F⟩ := hrel
  by_cases hlt : i < 16
  ·have c1 : ((i : Int) < 16) := by omega
   obtain ⟨q0,hq0⟩ : ∃ q,q = 4 * i := ⟨_,rfl⟩
   obtain ⟨q1,hq1⟩ : ∃ q,q = 4 * i + 1 := ⟨_,rfl⟩
   obtain ⟨q2,hq2⟩ : ∃ q,q = 4 * i + 2 := ⟨_,rfl⟩
   obtain ⟨q3,hq3⟩ : ∃ q,q = 4 * i + 3 := ⟨_,rfl⟩
   have w0 : IntKind.i64.wrap (4 * (i : Int)) = (q0 : Int) := (w64id _ (by omega) (by omega)).trans (by omega)
   have w1 : IntKind.i64.wrap ((q0 : Int) + 1) = (q1 : Int) := (w64id _ (by omega) (by omega)).trans (by omega)
   have w2 : IntKind.i64.wrap ((q0 : Int) + 2) = (q2 : Int) := (w64id _ (by omega) (by omega)).trans (by omega)
   have w3 : IntKind.i64.wrap ((q0 : Int) + 3) = (q3 : Int) := (w64id _ (by omega) (by omega)).trans (by omega)
   have b0 := F.out.old hgb (HB.out q0 (by omega))
   have b1 := F.out.old hgb (HB.out q1 (by omega))
   have b2 := F.out.old hgb (HB.out q2 (by omega))
   have b3 := F.out.old hgb (HB.out q3 (by omega))
   have e0 : (q0 : Int) < 64 := by omega
   have e1 : (q1 : Int) < 64 := by omega
   have e2 : (q2 : Int) < 64 := by omega
   have e3 : (q3 : Int) < 64 := by omega
   have ei : (i : Int) < 64 := by omega
   have z0 := F.out.hw.cell i (by omega)
   have z1 := F.out.hw.free i (by omega)
   have H1 := Aside0.mk (step0 _ _ _ _ _ _ hbl hws hlt H0.out)
   rw [← hq1,← hq2,← hq3,← hq0] at H1
   generalize hx0 : bs.getD q0 0 = x0 at b0 H1
   generalize hx1 : bs.getD q1 0 = x1 at b1 H1
   generalize hx2 : bs.getD q2 0 = x2 at b2 H1
   generalize hx3 : bs.getD q3 0 = x3 at b3 H1
   generalize ws.getD i 0 = xi at z0
   clear hq0 hq1 hq2 hq3 hx0 hx1 hx2 hx3
   go_wp2
   go_still_tail 35,(by kernel_rfl)
   change wpList _ _ _ _ _ wr.drew
   have z2 : wr.drew.cell? ⟨n + 2,i,none⟩ = some (.int .u32 xi) := z0
   have z3 : wr.drew.frozen? ⟨n + 2,i,none⟩ = false := z1
   have F2 := Aside0.mk (F.out.drew.word i (by omega) (word4 x0 x1 x2 x3))
   generalize wr.drew = w4 at z2 z3 F2 ⊢
   clear z0 z1 b0 b1 b2 b3 F
   go_wp2
   go_roundg (16 - (i + 1))
   case measure => omega
   case rel => exact ⟨i + 1,_,by omega,by omega,by go_num,by rw [List.length_set];exact hws,H1,F2⟩
  ·have hlt2 : ¬ ((i : Int) < 16) := by omega
   have H1 := Aside0.mk (exit0 _ _ _ _ _ _ hlt2 H0.out)
   clear H0
   go_wp2
   go_loopg [7] 48 (fun gg v7 wr => ∃ (i : Nat) (ws : List Int),i ≤ 64 ∧ 16 ≤ i ∧ gg + i = 64 ∧ v7 = .int .i64 (i : Int) ∧ ws.length = 64 ∧ Aside0 (Ze.lv1 [h0,h1,h2,h3,h4,h5,h6,h7] ks ws (i : Int) = some r) ∧ Aside0 (Bk w wr n [h0,h1,h2,h3,h4,h5,h6,h7] (List.replicate 8 0) ws))
   case atStart => exact ⟨16,ws,by omega,by omega,rfl,rfl,hws,H1,F⟩
   case round =>
    clear F H1 hlt2 hlt hi hws
    obtain ⟨i,ws,hi,h16,hg,rfl,hws,H0,F⟩ := hrel
    by_cases hlt : i < 64
    ·have c1 : ((i : Int) < 64) := by omega
     obtain ⟨q0,hq0⟩ : ∃ q,q = i - 16 := ⟨_,rfl⟩
     obtain ⟨q1,hq1⟩ : ∃ q,q = i - 15 := ⟨_,rfl⟩
     obtain ⟨q2,hq2⟩ : ∃ q,q = i - 7 := ⟨_,rfl⟩
     obtain ⟨q3,hq3⟩ : ∃ q,q = i - 2 := ⟨_,rfl⟩
     have w0 : IntKind.i64.wrap ((i : Int) - 16) = (q0 : Int) := (w64id _ (by omega) (by omega)).trans (by omega)
     have w1 : IntKind.i64.wrap ((i : Int) - 15) = (q1 : Int) := by clear w0;exact (w64id _ (by omega) (by omega)).trans (by omega)
     have w2 : IntKind.i64.wrap ((i : Int) - 7) = (q2 : Int) := by clear w0 w1;exact (w64id _ (by omega) (by omega)).trans (by omega)
     have w3 : IntKind.i64.wrap ((i : Int) - 2) = (q3 : Int) := by clear w0 w1 w2;exact (w64id _ (by omega) (by omega)).trans (by omega)
     have g0 : q0 < ws.length := by clear w0 w1 w2 w3;omega
     have g1 : q1 < ws.length := by clear w0 w1 w2 w3;omega
     have g2 : q2 < ws.length := by clear w0 w1 w2 w3;omega
     have g3 : q3 < ws.length := by clear w0 w1 w2 w3;omega
     have g4 : i < ws.length := by clear w0 w1 w2 w3;omega
     have b0 := F.out.hw.cell q0 g0
     have b1 := F.out.hw.cell q1 g1
     have b2 := F.out.hw.cell q2 g2
     have b3 := F.out.hw.cell q3 g3
     have e0 : (q0 : Int) < 64 := by clear w0 w1 w2 w3;omega
     have e1 : (q1 : Int) < 64 := by clear w0 w1 w2 w3;omega
     have e2 : (q2 : Int) < 64 := by clear w0 w1 w2 w3;omega
     have e3 : (q3 : Int) < 64 := by clear w0 w1 w2 w3;omega
     have z0 := F.out.hw.cell i g4
     have z1 := F.out.hw.free i g4
     have H1 := Aside0.mk (step1 _ _ _ _ _ hws h16 hlt H0.out)
     rw [← hq0,← hq1,← hq2,← hq3] at H1
     generalize hx0 : ws.getD q0 0 = x0 at b0 H1
     generalize hx1 : ws.getD q1 0 = x1 at b1 H1
     generalize hx2 : ws.getD q2 0 = x2 at b2 H1
     generalize hx3 : ws.getD q3 0 = x3 at b3 H1
     generalize ws.getD i 0 = xi at z0
     clear hq0 hq1 hq2 hq3 hx0 hx1 hx2 hx3 g0 g1 g2 g3 H0
     go_wp2
     go_quiet (fail)
     have F3 := Aside0.mk (F.out.drewN nq)
     have b0_ : (wr.drewN nq).cell? _ = _ := b0
     have b1_ : (wr.drewN nq).cell? _ = _ := b1
     have b2_ : (wr.drewN nq).cell? _ = _ := b2
     have b3_ : (wr.drewN nq).cell? _ = _ := b3
     have z0_ : (wr.drewN nq).cell? _ = _ := z0
     have z1_ : (wr.drewN nq).frozen? _ = _ := z1
     clear b0 b1 b2 b3 z0 z1 F
     generalize wr.drewN nq = w5 at b0_ b1_ b2_ b3_ z0_ z1_ F3 ⊢
     go_wp2
     refine wp_region_still_tail 29 (by kernel_rfl) (by kernel_rfl) ?_
     simp only [List.take_succ_cons,List.take_zero,List.drop_succ_cons,List.drop_zero]
     repeat still_step
     still_call (turn7 _ _)
     repeat still_step
     still_call (turn18 _ _)
     repeat still_step
     still_call (turn17 _ _)
     repeat still_step
     still_call (turn19 _ _)
     repeat still_step
     refine wpStill_nil ?_
     change wpList _ _ _ _ _ w5.drew
     have z2 : w5.drew.cell? ⟨n + 2,i,none⟩ = some (.int .u32 xi) := z0_
     have z3 : w5.drew.frozen? ⟨n + 2,i,none⟩ = false := z1_
     have F2 := Aside0.mk (F3.out.drew.word i g4 (wordX x0 (sig x1 7 18 (x1 / 8)) x2 (sig x3 17 19 (x3 / 1024))))
     generalize w5.drew = w4 at z2 z3 F2 ⊢
     clear z0_ z1_ b0_ b1_ b2_ b3_ F3 w0 w1 w2 w3
     go_wp2
     go_roundg (64 - (i + 1))
     case measure => omega
     case rel => exact ⟨i + 1,_,by omega,by omega,by omega,by go_num,by rw [List.length_set];exact hws,H1,F2⟩
    ·have hlt2 : ¬ ((i : Int) < 64) := by omega
     have H1 := Aside0.mk (exit1 _ _ _ _ rfl _ hlt2 H0.out)
     clear H0
     obtain ⟨⟨a0,a1,a2,a3,a4,a5,a6,a7⟩,-⟩ := F.out.hh.eight
     have hsz := F.out.size
     go_wp2
     have F2 : Aside0 (Bk2 w (wr.alloc (.cells #[.int .u32 h0,.int .u32 h1,.int .u32 h2,.int .u32 h3,.int .u32 h4,.int .u32 h5,.int .u32 h6,.int .u32 h7] 80)) n [h0,h1,h2,h3,h4,h5,h6,h7] (List.replicate 8 0) ws [h0,h1,h2,h3,h4,h5,h6,h7]) := Aside0.mk (Bk2.start F.out [h0,h1,h2,h3,h4,h5,h6,h7] 80)
     generalize World.alloc _ _ = w5 at F2 ⊢
     clear a0 a1 a2 a3 a4 a5 a6 a7 hsz F
     go_loopg [97] 64 (fun gg v97 wr => ∃ (i : Nat) (a0 a1 a2 a3 a4 a5 a6 a7 : Int),i ≤ 64 ∧ gg + i = 64 ∧ v97 = .int .i64 (i : Int) ∧ Aside0 (Ze.lv2 [h0,h1,h2,h3,h4,h5,h6,h7] ks ws [a0,a1,a2,a3,a4,a5,a6,a7] (i : Int) = some r) ∧ Aside0 (Bk2 w wr n [h0,h1,h2,h3,h4,h5,h6,h7] (List.replicate 8 0) ws [a0,a1,a2,a3,a4,a5,a6,a7]))
     case atStart => exact ⟨0,h0,h1,h2,h3,h4,h5,h6,h7,by omega,rfl,rfl,H1,F2⟩
     case round =>
      clear F2 H1 hlt2 hlt hi h16
      obtain ⟨i,a0,a1,a2,a3,a4,a5,a6,a7,hi,hg,rfl,H0,F⟩ := hrel
      by_cases hlt : i < 64
      ·have c1 : ((i : Int) < 64) := by omega
       obtain ⟨⟨c0,d1,d2,d3,d4,d5,d6,d7⟩,-⟩ := F.out.ha.eight
       have bk := F.out.old (by omega) (HL.out i (by omega))
       have bw := F.out.hw.cell i (by omega)
       obtain ⟨xk,hxk⟩ : ∃ x,ks.getD i 0 = x := ⟨_,rfl⟩
       obtain ⟨xw,hxw⟩ : ∃ x,ws.getD i 0 = x := ⟨_,rfl⟩
       rw [hxk] at bk
       rw [hxw] at bw
       have HX := Aside0.mk (And.intro hxk hxw)
       clear hxk hxw
       go_wp2
       refine wp_region_still_lit (by kernel_rfl) (by kernel_rfl) ?_
       repeat still_step
       still_call (turn6 _ _)
       repeat still_step
       still_call (turn11 _ _)
       repeat still_step
       still_call (turn25 _ _)
       repeat still_step
       refine wpStill_nil ?_
       have F3 := Aside0.mk F.out.drew
       have c0_ : wr.drew.cell? _ = _ := c0
       have d1_ : wr.drew.cell? _ = _ := d1
       have d2_ : wr.drew.cell? _ = _ := d2
       have d3_ : wr.drew.cell? _ = _ := d3
       have d4_ : wr.drew.cell? _ = _ := d4
       have d5_ : wr.drew.cell? _ = _ := d5
       have d6_ : wr.drew.cell? _ = _ := d6
       have d7_ : wr.drew.cell? _ = _ := d7
       clear c0 d1 d2 d3 d4 d5 d6 d7 bk bw F
       generalize hxp : IntKind.u32.wrap (IntKind.u32.wrap (_ + xk) + xw) = xp
       have hp : pW a7 a4 a5 a6 xk xw = xp := hxp
       have HP := Aside0.mk hp
       clear hxp hp
       rw [show ({ heap := wr.heap,tape := wr.tape,drawn := wr.drawn + 1,os := wr.os,output := wr.output } : World) = wr.drew from rfl]
       generalize wr.drew = w6 at c0_ d1_ d2_ d3_ d4_ d5_ d6_ d7_ F3 ⊢
       go_wp2
       refine wp_region_still_lit (by kernel_rfl) (by kernel_rfl) ?_
       repeat still_step
       still_call (turn2 _ _)
       repeat still_step
       still_call (turn13 _ _)
       repeat still_step
       still_call (turn22 _ _)
       repeat still_step
       refine wpStill_nil ?_
       obtain ⟨⟨c0,d1,d2,d3,d4,d5,d6,d7⟩,⟨f0,f1,f2,f3,f4,f5,f6,f7⟩⟩ := F3.out.drew.ha.eight
       have F4 := Aside0.mk F3.out.drew
       clear c0_ d1_ d2_ d3_ d4_ d5_ d6_ d7_ F3
       generalize hxq : IntKind.u32.wrap (_ + Go.bits .xor .u32 _ (Go.bits .and .u32 a1 a2)) = xq
       have hq : qW a0 a1 a2 = xq := hxq
       have HQ := Aside0.mk hq
       clear hxq hq
       rw [show ({ heap := w6.heap,tape := w6.tape,drawn := w6.drawn + 1,os := w6.os,output := w6.output } : World) = w6.drew from rfl]
       generalize w6.drew = w7 at c0 d1 d2 d3 d4 d5 d6 d7 f0 f1 f2 f3 f4 f5 f6 f7 F4 ⊢
       have H1 := Aside0.mk (step2w _ _ _ _ _ _ _ _ _ _ _ _ _ hws hkl hlt xk xw xp xq HX.out.1 HX.out.2 HP.out HQ.out H0.out)
       clear H0
       go_wp2
       go_roundg (64 - (i + 1))
       case measure => omega
       case rel =>
        have F5 := ((((((((F4.out.set 0 (by simp) ((xp + xq) % 4294967296)).set 1 (by simp) a0).set 2 (by simp) a1).set 3 (by simp) a2).set 4 (by simp) ((a3 + xp) % 4294967296)).set 5 (by simp) a4).set 6 (by simp) a5).set 7 (by simp) a6)
        exact ⟨i + 1,_,_,_,_,_,_,_,_,by omega,by omega,by go_num,H1,⟨F5⟩⟩
      ·have hlt2 : ¬ ((i : Int) < 64) := by omega
       have H1 := Aside0.mk (exit2 _ _ _ _ _ _ hlt2 H0.out)
       clear H0
       go_wp2
       go_loopg [182] 8 (fun gg v182 wr => ∃ (i : Nat) (lh : List Int),i ≤ 8 ∧ gg + i = 8 ∧ v182 = .int .i64 (i : Int) ∧ lh.length = 8 ∧ Aside0 (Ze.lv3 lh [a0,a1,a2,a3,a4,a5,a6,a7] (i : Int) = some r) ∧ Aside0 (Bk2 w wr n lh (List.replicate 8 0) ws [a0,a1,a2,a3,a4,a5,a6,a7]))
       case atStart => exact ⟨0,_,by omega,rfl,rfl,rfl,H1,F⟩
       case round =>
        clear F H1 hlt2 hlt hi
        obtain ⟨i,lh,hi,hg,rfl,hlh,H0,F⟩ := hrel
        by_cases hlt : i < 8
        ·have c1 : ((i : Int) < 8) := by omega
         have H1 := Aside0.mk (step3 _ _ _ _ hlh rfl hlt H0.out)
         have b0 := F.out.hh.cell i (by omega)
         have b1 := F.out.ha.cell i (by simpa using hlt)
         have z1 := F.out.hh.free i (by omega)
         clear H0
         obtain ⟨x0,hx0⟩ : ∃ x,lh.getD i 0 = x := ⟨_,rfl⟩
         obtain ⟨x1,hx1⟩ : ∃ x,([a0,a1,a2,a3,a4,a5,a6,a7] : List Int).getD i 0 = x := ⟨_,rfl⟩
         rw [hx0] at b0 H1
         rw [hx1] at b1 H1
         rw [u32w_h] at H1
         clear hx0 hx1
         go_wp2
         refine wp_region_still_tail 8 (by kernel_rfl) (by kernel_rfl) ?_
         simp only [List.take_succ_cons,List.take_zero,List.drop_succ_cons,List.drop_zero]
         repeat still_step
         refine wpStill_nil ?_
         change wpList _ _ _ _ _ wr.drew
         have z2 : wr.drew.cell? ⟨n,i,none⟩ = some (.int .u32 x0) := b0
         have z3 : wr.drew.frozen? ⟨n,i,none⟩ = false := z1
         have F2 := Aside0.mk (F.out.drew.head i (by omega) ((x0 + x1) % 4294967296))
         generalize wr.drew = w4 at z2 z3 F2 ⊢
         clear z1 b0 b1 F
         go_wp2
         go_roundg (8 - (i + 1))
         case measure => omega
         case rel => exact ⟨i + 1,_,by omega,by omega,by go_num,by rw [List.length_set];exact hlh,H1,F2⟩
        ·have hlt2 : ¬ ((i : Int) < 8) := by omega
         have e := exit3 _ _ _ _ hlt2 H0.out
         subst e
         clear H0
         obtain ⟨b0,b1,b2,b3,b4,b5,b6,b7,rfl⟩ := eight hlh
         obtain ⟨⟨c0,d1,d2,d3,d4,d5,d6,d7⟩,-⟩ := F.out.hh.eight
         obtain ⟨⟨k0,k1,k2,k3,k4,k5,k6,k7⟩,⟨f0,f1,f2,f3,f4,f5,f6,f7⟩⟩ := Au.eight (show Au wr (n + 1) [0,0,0,0,0,0,0,0] from F.out.hr)
         go_wp2
         have F5 := (((((((F.out.out 0 (by simp) b0).out 1 (by simp) b1).out 2 (by simp) b2).out 3 (by simp) b3).out 4 (by simp) b4).out 5 (by simp) b5).out 6 (by simp) b6).out 7 (by simp) b7
         obtain ⟨⟨r0,r1,r2,r3,r4,r5,r6,r7⟩,-⟩ := F5.hr.eight
         have hbl := F5.below
         clear c0 d1 d2 d3 d4 d5 d6 d7 k0 k1 k2 k3 k4 k5 k6 k7 f0 f1 f2 f3 f4 f5 f6 f7 F F5
         (try simp only [Exit.inBlock,Exit.then])
         generalize World.setCell (World.setCell (World.setCell (World.setCell (World.setCell (World.setCell (World.setCell (World.setCell wr _ _) _ _) _ _) _ _) _ _) _ _) _ _) _ _ = W8 at hbl r0 r1 r2 r3 r4 r5 r6 r7 ⊢
         refine bodyPost_ret (res121 _ _ (n + 1) (by rfl) _ _ _ _ _ _ _ _ r0 r1 r2 r3 r4 r5 r6 r7) rfl ?_
         first | exact ⟨rfl,hbl,rfl⟩ | exact ⟨rfl,hbl⟩
def hashIV : List Int := [1779033703,3144134277,1013904242,2773480762,1359893119,2600822924,528734635,1541459225]
def roundKs : List Int := [1116352408,1899447441,3049323471,3921009573,961987163,1508970993,2453635748,2870763221,3624381080,310598401,607225278,1426881987,1925078388,2162078206,2614888103,3248222580,3835390401,4022224774,264347078,604807628,770255983,1249150122,1555081692,1996064986,2554220882,2821834349,2952996808,3210313671,3336571891,3584528711,113926993,338241895,666307205,773529912,1294757372,1396182291,1695183700,1986661051,2177026350,2456956037,2730485921,2820302411,3259730800,3345764771,3516065817,3600352804,4094571909,275423344,430227734,506948616,659060556,883997877,958139571,1322822218,1537002063,1747873779,1955562222,2024104815,2227730452,2361852424,2428436474,2756734187,3204031479,3329325298]
theorem hstart (x : List Int) (r : ByteArray) (hx : x.length ≤ 40000000) (H : Zb.v x = some r) : Zb.lv0 x hashIV (x ++ [128]) = some r := by
 rw [Zb.v_eq,Option.bind_some,if_pos (by simp;omega),Option.bind_some,if_pos (by simp;omega),List.nil_append] at H
 exact H
theorem hpad (x h all : List Int) (r : ByteArray) (ha : all.length < 140737488355328) (hc : all.length % 64 ≠ 56) (H : Zb.lv0 x h all = some r) : Zb.lv0 x h (all ++ [0]) = some r := by
 rw [Zb.lv0_eq,if_neg (by omega),if_pos ha] at H
 exact H
theorem hpadded (x h all : List Int) (r : ByteArray) (hc : all.length % 64 = 56) (H : Zb.lv0 x h all = some r) : Zb.lv1 x h all 7 = some r := by
 rw [Zb.lv0_eq,if_pos (by omega)] at H
 exact H
theorem shr_at (n : Int) (k : Nat) (hk : k ≤ 56) : shr .i64 n (k : Int) = n / 2 ^ k := by
 unfold shr
 rw [Int.toNat_natCast,Nat.min_eq_left (by show k ≤ 64;omega)]
def be8 (n : Int) : List Int := [n / 256 / 256 / 256 / 256 / 256 / 256 / 256 % 256,n / 256 / 256 / 256 / 256 / 256 / 256 % 256,n / 256 / 256 / 256 / 256 / 256 % 256,n / 256 / 256 / 256 / 256 % 256,n / 256 / 256 / 256 % 256,n / 256 / 256 % 256,n / 256 % 256,n % 256]
theorem number8 (n : Int) : Zl.v n 8 = some (strOfNums (be8 n)) := by
 have w8 : wrap64 (8 - 1) = 7 := w64n _ (by omega) (by omega)
 have w7 : wrap64 (7 - 1) = 6 := w64n _ (by omega) (by omega)
 have w6 : wrap64 (6 - 1) = 5 := w64n _ (by omega) (by omega)
 have w5 : wrap64 (5 - 1) = 4 := w64n _ (by omega) (by omega)
 have w4 : wrap64 (4 - 1) = 3 := w64n _ (by omega) (by omega)
 have w3 : wrap64 (3 - 1) = 2 := w64n _ (by omega) (by omega)
 have w2 : wrap64 (2 - 1) = 1 := w64n _ (by omega) (by omega)
 have w0 : wrap64 (1 - 1) = 0 := w64n _ (by omega) (by omega)
 have w1 : wrap64 (0 - 1) = -1 := w64n _ (by omega) (by omega)
 rw [Zl.v_eq,if_pos (by decide),if_pos (by decide),w8]
 rw [Zl.lv0_eq,if_pos (by decide),if_pos (by decide),if_pos (by simp),w7]
 rw [Zl.lv0_eq,if_pos (by decide),if_pos (by decide),if_pos (by simp),w6]
 rw [Zl.lv0_eq,if_pos (by decide),if_pos (by decide),if_pos (by simp),w5]
 rw [Zl.lv0_eq,if_pos (by decide),if_pos (by decide),if_pos (by simp),w4]
 rw [Zl.lv0_eq,if_pos (by decide),if_pos (by decide),if_pos (by simp),w3]
 rw [Zl.lv0_eq,if_pos (by decide),if_pos (by decide),if_pos (by simp),w2]
 rw [Zl.lv0_eq,if_pos (by decide),if_pos (by decide),if_pos (by simp),w0]
 rw [Zl.lv0_eq,if_pos (by decide),if_pos (by decide),if_pos (by simp),w1,Zl.lv0_eq,if_neg (by decide)]
 rfl
def be4 (n : Int) : List Int := [n / 256 / 256 / 256 % 256,n / 256 / 256 % 256,n / 256 % 256,n % 256]
theorem number4 (n : Int) : Zl.v n 4 = some (strOfNums (be4 n)) := by
 have w4 : wrap64 (4 - 1) = 3 := w64n _ (by omega) (by omega)
 have w3 : wrap64 (3 - 1) = 2 := w64n _ (by omega) (by omega)
 have w2 : wrap64 (2 - 1) = 1 := w64n _ (by omega) (by omega)
 have w0 : wrap64 (1 - 1) = 0 := w64n _ (by omega) (by omega)
 have w1 : wrap64 (0 - 1) = -1 := w64n _ (by omega) (by omega)
 rw [Zl.v_eq,if_pos (by decide),if_pos (by decide),w4]
 rw [Zl.lv0_eq,if_pos (by decide),if_pos (by decide),if_pos (by simp),w3]
 rw [Zl.lv0_eq,if_pos (by decide),if_pos (by decide),if_pos (by simp),w2]
 rw [Zl.lv0_eq,if_pos (by decide),if_pos (by decide),if_pos (by simp),w0]
 rw [Zl.lv0_eq,if_pos (by decide),if_pos (by decide),if_pos (by simp),w1,Zl.lv0_eq,if_neg (by decide)]
 rfl
theorem hlen_step (x h all : List Int) (r : ByteArray) (k : Nat) (hk : k < 8) (ha : all.length < 140737488355328) (H : Zb.lv1 x h all (k : Int) = some r) :
  Zb.lv1 x h (all ++ [wrap64 (8 * (x.length : Int)) / 2 ^ (8 * k) % 256]) ((k : Int) - 1) = some r := by
 have e1 : wrap64 (8 * (k : Int)) = ((8 * k : Nat) : Int) := by rw [w64n _ (by omega) (by omega)];omega
 have e2 : IntKind.u64.wrap ((8 * k : Nat) : Int) = ((8 * k : Nat) : Int) := by
  clear e1
  unfold IntKind.wrap
  simp [IntKind.bits,IntKind.signed]
  omega
 have e3 : (0 : Int) ≤ ((8 * k : Nat) : Int) := by clear e1 e2;omega
 have e4 : (k : Int) ≥ 0 := by clear e1 e2;omega
 have e5 : wrap64 ((k : Int) - 1) = (k : Int) - 1 := by clear e1 e2;exact w64n _ (by omega) (by omega)
 rw [Zb.lv1_eq,e1,e2,e5,if_pos e4,if_pos e3,if_pos ha,shr_at _ _ (by clear e1 e2 e5;omega)] at H
 exact H
theorem hlen_end (x h all : List Int) (r : ByteArray) (H : Zb.lv1 x h all (-1) = some r) : Zb.lv2 h all roundKs ((64 * 0 : Nat) : Int) = some r := by
 rw [Zb.lv1_eq,if_neg (by decide),Ys.v_eq,Option.bind_some] at H
 exact H
theorem hlen (x h all : List Int) (r : ByteArray) (ha : all.length < 100000000) (hx : x.length ≤ 40000000) (H : Zb.lv1 x h all 7 = some r) :
  Zb.lv2 h (all ++ be8 (wrap64 (8 * (x.length : Int)))) roundKs ((64 * 0 : Nat) : Int) = some r := by
 generalize hn : wrap64 (8 * (x.length : Int)) = n
 have h7 := hlen_step x h _ r 7 (by decide) (by omega) H
 have h6 := hlen_step x h _ r 6 (by decide) (by simp;omega) h7
 have h5 := hlen_step x h _ r 5 (by decide) (by simp;omega) h6
 have h4 := hlen_step x h _ r 4 (by decide) (by simp;omega) h5
 have h3 := hlen_step x h _ r 3 (by decide) (by simp;omega) h4
 have h2 := hlen_step x h _ r 2 (by decide) (by simp;omega) h3
 have h1 := hlen_step x h _ r 1 (by decide) (by simp;omega) h2
 have h0 := hlen_step x h _ r 0 (by decide) (by simp;omega) h1
 have he := hlen_end x h _ r h0
 rw [hn] at he
 simp only [List.append_assoc,List.cons_append,List.nil_append] at he
 have v2 : n / 256 / 256 = n / 65536 := by omega
 have v3 : n / 256 / 256 / 256 = n / 16777216 := by omega
 have v4 : n / 256 / 256 / 256 / 256 = n / 4294967296 := by omega
 have v5 : n / 256 / 256 / 256 / 256 / 256 = n / 1099511627776 := by omega
 have v6 : n / 256 / 256 / 256 / 256 / 256 / 256 = n / 281474976710656 := by omega
 have v7 : n / 256 / 256 / 256 / 256 / 256 / 256 / 256 = n / 72057594037927936 := by omega
 unfold be8
 rw [v7,v6,v5,v4,v3,v2]
 simpa using he
theorem hround (hv all : List Int) (r : ByteArray) (m K : Nat) (hl : all.length = 64 * K) (hK : K ≤ 2000000) (hm : m < K) (H : Zb.lv2 hv all roundKs ((64 * m : Nat) : Int) = some r) :
  ∃ h',Ze.v hv ((all.take (64 * m + 64)).drop (64 * m)) roundKs = some h' ∧ Zb.lv2 h' all roundKs ((64 * (m + 1) : Nat) : Int) = some r := by
 have e1 : wrap64 (((64 * m : Nat) : Int) + 64) = ((64 * (m + 1) : Nat) : Int) := by rw [w64n _ (by omega) (by omega)];omega
 have g1 : ((64 * m : Nat) : Int) < (all.length : Int) := by clear e1;omega
 have g2 : (0 : Int) ≤ ((64 * m : Nat) : Int) := by clear e1;omega
 have g3 : ((64 * m : Nat) : Int) ≤ ((64 * (m + 1) : Nat) : Int) := by clear e1;omega
 have g4 : ((64 * (m + 1) : Nat) : Int) ≤ (all.length : Int) := by clear e1;omega
 rw [Zb.lv2_eq,e1,if_pos g1,if_pos g2,if_pos g3,if_pos g4,Int.toNat_natCast,Int.toNat_natCast] at H
 obtain ⟨h',e,H⟩ := Option.bind_eq_some_iff.1 H
 exact ⟨h',e,H⟩
theorem hrounds (hv all : List Int) (r : ByteArray) (i : Int) (hi : ¬ i < (all.length : Int)) (H : Zb.lv2 hv all roundKs i = some r) : Zb.lv3 hv [] ((0 : Nat) : Int) = some r := by
 rw [Zb.lv2_eq,if_neg hi] at H
 rw [show ((0 : Nat) : Int) = 0 from rfl]
 exact H
theorem hout (hv o : List Int) (r : ByteArray) (i : Nat) (hh : hv.length = 8) (hi : i < 8) (ho : o.length ≤ 1000) (H : Zb.lv3 hv o (i : Int) = some r) :
  Zb.lv3 hv (o ++ be4 (hv.getD i 0)) ((i + 1 : Nat) : Int) = some r := by
 have g1 : (i : Int) < 8 := by omega
 have g2 : (0 : Int) ≤ (i : Int) := by omega
 have g3 : (i : Int) < (hv.length : Int) := by omega
 have e1 : wrap64 ((i : Int) + 1) = ((i + 1 : Nat) : Int) := wadd i (by omega)
 have e2 : rd hv (i : Int) = hv.getD i 0 := by simp [rd]
 rw [Zb.lv3_eq,e1,if_pos g1,if_pos g2,if_pos g3,Option.bind_some,if_pos (by simp;omega),e2] at H
 have v2 : hv.getD i 0 / 256 / 256 = hv.getD i 0 / 65536 := by clear e1 e2;omega
 have v3 : hv.getD i 0 / 256 / 256 / 256 = hv.getD i 0 / 16777216 := by clear e1 e2 v2;omega
 unfold be4
 rw [v3,v2]
 exact H
theorem hdone (hv o : List Int) (r : ByteArray) (i : Int) (hi : ¬ i < 8) (H : Zb.lv3 hv o i = some r) : strOfNums o = r := by
 rw [Zb.lv3_eq,if_neg hi] at H
 exact Option.some.inj H
theorem be8_len (n : Int) : (be8 n).length = 8 := by unfold be8;rfl
theorem be4_len (n : Int) : (be4 n).length = 4 := by unfold be4;rfl
theorem bytes_num (l : List Int) (h : ∀ x ∈ l,0 ≤ x ∧ x < 256) : bytesOf (strOfNums l) = l := by
 unfold bytesOf
 rw [strOfNums_data,List.map_map]
 conv => rhs;rw [← List.map_id l]
 apply List.map_congr_left
 intro x hx
 have := h x hx
 simp only [Function.comp_apply,id]
 rw [UInt8.toNat_ofNat_of_lt' (by show x.toNat < 256;omega)]
 omega
theorem num8 (n : Int) : ∃ k y,Zl.f k n 8 = some y ∧ bytesOf y = be8 n ∧ y.size = 8 := by
 obtain ⟨k,hk⟩ := (Zl.v_lim n 8).at_ (strOfNums (be8 n)) (number8 n)
 have hb : bytesOf (strOfNums (be8 n)) = be8 n := bytes_num _ (by
  intro x hx
  unfold be8 at hx
  simp only [List.mem_cons,List.not_mem_nil,or_false] at hx
  rcases hx with rfl | rfl | rfl | rfl | rfl | rfl | rfl | rfl <;> omega)
 exact ⟨k,_,hk,hb,by rw [← bytesOf_length,hb,be8_len]⟩
theorem num4 (n : Int) : ∃ k y,Zl.f k n 4 = some y ∧ bytesOf y = be4 n ∧ y.size = 4 := by
 obtain ⟨k,hk⟩ := (Zl.v_lim n 4).at_ (strOfNums (be4 n)) (number4 n)
 have hb : bytesOf (strOfNums (be4 n)) = be4 n := bytes_num _ (by
  intro x hx
  unfold be4 at hx
  simp only [List.mem_cons,List.not_mem_nil,or_false] at hx
  rcases hx with rfl | rfl | rfl | rfl <;> omega)
 exact ⟨k,_,hk,hb,by rw [← bytesOf_length,hb,be4_len]⟩
structure Ih (w W : World) (n g cap gh : Nat) (al hv : List Int) : Prop where
 hs : Hs w W n g cap al
 ha : Au W gh hv
 ne : g ≠ gh
 mine : n ≤ gh
 lt : gh < W.heap.size
theorem Ih.start {w W : World} {n g cap : Nat} {al : List Int} (h : Hs w W n g cap al) (hv : List Int) (t : Nat) : Ih w (W.alloc (.cells (hv.map (Value.int .u32)).toArray t)) n g cap W.heap.size al hv := by
 have h1 := h.lt
 have h2 := h.mine
 refine ⟨h.alloc _,Au.of_row (e := t) _ ?_,by omega,by omega,by rw [alloc_sz];omega⟩
 rw [alloc_at,if_pos rfl]
theorem Ih.on {w W W' : World} {n g cap gh : Nat} {al hv : List Int} (h : Ih w W n g cap gh al hv) (b : Below W.heap.size W W') : Ih w W' n g cap gh al hv :=
 ⟨h.hs.on b,h.ha.at (b.block gh h.lt),h.ne,h.mine,Nat.lt_of_lt_of_le h.lt b.size⟩
theorem Ih.drew {w W : World} {n g cap gh : Nat} {al hv : List Int} (h : Ih w W n g cap gh al hv) : Ih w W.drew n g cap gh al hv :=
 h.on ⟨rfl,rfl,rfl,Nat.le_refl _,fun _ _ => rfl⟩
theorem Ih.set {w W : World} {n g cap gh : Nat} {al hv : List Int} (h : Ih w W n g cap gh al hv) (j : Nat) (hj : j < hv.length) (x : Int) : Ih w (W.setCell ⟨gh,j,none⟩ (.int .u32 x)) n g cap gh al (hv.set j x) := by
 have hs : (W.setCell ⟨gh,j,none⟩ (.int .u32 x)).heap.size = W.heap.size := by simp [World.setCell]
 exact ⟨⟨h.hs.row.at (setCell_old W _ _ g h.ne),h.hs.mine,by rw [hs];exact h.hs.lt,below_set_h h.hs.below h.mine⟩,h.ha.set j hj x,h.ne,h.mine,by rw [hs];exact h.lt⟩
theorem cut64 (al : List Int) (o j : Nat) (hj : j < 64) : ((al.take (o + 64)).drop o).getD j 0 = al.getD (o + j) 0 := by
 simp only [List.getD,List.getElem?_drop,List.getElem?_take]
 rw [if_pos (by omega)]
theorem str_add (a b : List Int) : strOfNums a ++ strOfNums b = strOfNums (a ++ b) := by
 apply ByteArray.ext
 apply Array.toList_inj.1
 rw [ByteArray.data_append,Array.toList_append,strOfNums_data,strOfNums_data,strOfNums_data,List.map_append]
theorem be4_wrap (x : Int) : be4 (wrap64 x) = be4 x := by
 rw [← i64_w,IntKind.wrap_i64]
 unfold be4
 have h : ∀ a b : Int,a % 4294967296 = b % 4294967296 → a / 256 / 256 / 256 % 256 = b / 256 / 256 / 256 % 256 ∧ a / 256 / 256 % 256 = b / 256 / 256 % 256 ∧ a / 256 % 256 = b / 256 % 256 ∧ a % 256 = b % 256 := by
  intro a b h
  refine ⟨by omega,by omega,by omega,by omega⟩
 obtain ⟨h1,h2,h3,h4⟩ := h ((x + 9223372036854775808) % 18446744073709551616 - 9223372036854775808) x (by omega)
 rw [h1,h2,h3,h4]
theorem str_back (s : ByteArray) : strOfNums (bytesOf s) = s := by
 apply ByteArray.ext
 apply Array.toList_inj.1
 rw [strOfNums_data]
 unfold bytesOf
 rw [List.map_map]
 conv => rhs;rw [← List.map_id s.data.toList]
 apply List.map_congr_left
 intro x hx
 simp
theorem num4s (x : Int) : ∃ k y,Zl.f k (wrap64 x) 4 = some y ∧ y = strOfNums (be4 x) ∧ y.size = 4 := by
 obtain ⟨k,y,h1,h2,h3⟩ := num4 (wrap64 x)
 exact ⟨k,y,h1,by rw [← str_back y,h2,be4_wrap],h3⟩
theorem strsz (l : List Int) : (strOfNums l).size = l.length := by
 show (strOfNums l).data.size = _
 simp [strOfNums]
end Go.Proofs.YtkfhejklnmkfmaaDoor.A
end

section
namespace Go.Proofs.YtkfhejklnmkfmaaDoor.A
open Go.RowKit Go.Proofs.YtkfhejklnmkfmaaDoorW.PrintWords Go.Proofs.YtkfhejklnmkfmaaDoorW.PrintLast Go.Proofs.YtkfhejklnmkfmaaDoorW.PrintMore
attribute [local go_sem] max2_int min2_int max_two min_two max_three min_three max_four min_four
theorem Zl.calls (k : Nat) (a0 : Int) (a1 : Int) (r : ByteArray) (w : World) (h : Zl.f k a0 a1 = some r) :
  Calls Tryd.prog 47 #[.int .i64 a0,.int .i64 a1] w fun e w' => e = .returned (.string r) ∧ Below w.heap.size w w' := by
 have HB := am_ (Below.refl w.heap.size w)
 have H : (if 0 ≤ a1 then (if (a1 : Int).toNat ≤ 281474976710656 then (Zl.l0 k a0 (List.replicate (a1 : Int).toNat 0) (wrap64 (a1 - 1))) else (none)) else (none)) = some r := h
 clear h
 by_cases c3 : 0 ≤ a1
 case neg =>
  rw [if_neg c3] at H
  exact absurd H (by simp)
 rw [if_pos c3] at H
 have c3b0 := eq_true c3
 have c3b1 := decide_eq_true c3
 clear c3
 by_cases c4 : (a1 : Int).toNat ≤ 281474976710656
 case neg =>
  rw [if_neg c4] at H
  exact absurd H (by simp)
 rw [if_pos c4] at H
 have c4b0 := eq_true c4
 have c4b1 := decide_eq_true c4
 clear c4
 obtain ⟨y170,hy170⟩ : ∃ y_ : List Int,y_ = (List.replicate (a1 : Int).toNat 0) := ⟨_,rfl⟩
 replace H : (Zl.l0 k a0 y170 (wrap64 (a1 - 1))) = some r := by first | (rw [hy170];with_reducible exact H) | (have H2_ := (Option.bind_some _ _).symm.trans H;rw [hy170];with_reducible exact H2_) | (have H2_ := (Option.bind_some _ _).symm.trans H;with_reducible exact H2_) | with_reducible exact H | (rw [hy170];exact H) | exact H
 have Ny170 := am_ hy170
 clear hy170
 have H' := am_ H
 clear H
 go_enter Tryd.func47,Tryd.ntmps47
 go_wp2_with (first | ((with_reducible refine gate_dst (N := 8) rfl ?_);refine Kd.R_make (Kd.int .u8) _ 5 rfl (N := 8) rfl 22 _ _ rfl a1 rfl rfl Tryd.underlying22 (.int .u8 0) 1 info5 rfl (by decide) (by omega) 0 (ok := fun _ => True) (okp := fun _ => True) rfl (fun _ hk => hk) trivial (zo_) (Nat.le_trans (Nat.mul_le_mul_right _ (zo_ : a1.toNat ≤ 281474976710656)) (by omega)) (Below.refl _ _) (Nat.le_refl _) ?_;intro v171 w5 ho6 hb hg_ hnew_;clear hg_ hnew_;(first | rw [← Ny170.out] at ho6 | (simp only [Int.reduceToNat] at ho6;rw [← Ny170.out] at ho6));have HO172 := am_ (Kd.R_lower ho6 (below_size (zl_ HB)));replace HB := zs_ HB hb;clear hb ho6))
 go_loopg [0,6] k (fun kq v0 v6 w' => ∃ (x0_1 : Int) (x5_1 : List Int) (x6_1 : Int),v0 = .int .i64 x0_1 ∧ v6 = .int .i64 x6_1 ∧ Aside0 (Zl.l0 kq x0_1 x5_1 x6_1 = some r) ∧ Aside0 (kq ≤ k) ∧ Aside0 (Kd.R (Kd.int .u8) 5 w' w.heap.size (fun _ => True) v171 x5_1) ∧ Aside0 (Below w.heap.size w w'))
 case atStart => exact ⟨(a0),(y170),(wrap64 (a1 - 1)),(by first | rfl | (simp;done) | (simp [*];done)),(by first | rfl | (simp;done) | (simp [*];done)),H',⟨Nat.le_refl _⟩,⟨zr HO172⟩,⟨zl_ HB⟩⟩
 case round =>
  clear H'
  try clear p2
  try clear c3
  try clear c3b0
  try clear c3b1
  try clear c4
  try clear c4b0
  try clear c4b1
  try clear p6
  obtain ⟨x0_1,x5_1,x6_1,rfl,rfl,HA,HK1,HO_5,HB⟩ := hrel
  cases gk with
  | zero => exact absurd HA.out (by simp [Zl.l0])
  | succ k1 =>
   have H := HA.out
   clear HA
   simp only [Zl.l0] at H
   by_cases c7 : x6_1 ≥ 0
   case neg =>
    rw [if_neg c7] at H
    have c7b0 : decide (0 ≤ x6_1) = false := decide_eq_false c7
    clear c7
    obtain rfl := Option.some.inj H
    have hcv13 := own_string (P := Tryd.prog) Tryd.underlying22 Tryd.underlying5 Tryd.underlying9 (Kd.own_of_R HO_5.out)
    go_wp2
    go_ret
    exact ⟨zt_,zl_ HB⟩
   rw [if_pos c7] at H
   have c7b0 : decide (0 ≤ x6_1) = true := decide_eq_true c7
   clear c7
   by_cases c8 : 0 ≤ x6_1
   case neg =>
    rw [if_neg c8] at H
    exact absurd H (by simp)
   rw [if_pos c8] at H
   have c8b0 := decide_eq_true c8
   clear c8
   by_cases c9 : x6_1 < (x5_1.length : Int)
   case neg =>
    rw [if_neg c9] at H
    exact absurd H (by simp)
   rw [if_pos c9] at H
   have c9b0 := decide_eq_true c9
   clear c9
   obtain ⟨y173,hy173⟩ : ∃ y_ : List Int,y_ = (x5_1.set (x6_1 : Int).toNat ((x0_1) % 256)) := ⟨_,rfl⟩
   replace H : (Zl.l0 k1 (x0_1 / 256) y173 (wrap64 (x6_1 - 1))) = some r := by first | (rw [hy173];with_reducible exact H) | (have H2_ := (Option.bind_some _ _).symm.trans H;rw [hy173];with_reducible exact H2_) | (have H2_ := (Option.bind_some _ _).symm.trans H;with_reducible exact H2_) | with_reducible exact H | (rw [hy173];exact H) | exact H
   have Ny173 := am_ hy173
   clear hy173
   have H' := am_ H
   clear H
   have p10 : 0 ≤ (x6_1 : Int) := zo_
   have q10 : (x6_1 : Int) < ((x5_1.length : Int) : Int) := zo_
   obtain ⟨go10,co10,eo10,gb10,gl10,cl10,HG10⟩ := Kd.R_form HO_5.out (by omega)
   (first | cases eo10 | (injection eo10 with ea_ en_ ec_;(first | subst ea_ | (injection ea_ with ea_;subst ea_));subst ec_;clear en_))
   have GB10 := am_ gb10
   have GG10 := am_ HG10
   clear gb10 gl10 HG10
   obtain ⟨hx10_0,hf10_0⟩ := Kd.R_celln 0 HO_5.out (x6_1 : Int) p10 q10
   replace p10 := eq_true p10
   replace q10 := eq_true q10
   have HP11 := Kd.R_putg HO_5.out (x6_1 : Int) ((x0_1) % 256)
   go_wp2_with (first | ((with_reducible refine gate_store (t := 5) (p := 19) rfl ?_);refine store_event (t := 5) (p := 19) (v := ?vo_w12) (w1 := (wr.setCell ⟨go10,(x6_1 : Int).toNat,none⟩ (.int .u8 ((x0_1) % 256)))) ?hg ?ho ?hn ?hr ?_;(case ho => rfl);(case hg => rfl);(case hn => rfl);(case hr => first | (go_simp;done) | (go_simp;rfl));intro w12 hw;have hg : wr.grownBy w12 (some go10) := (by rw [hw];exact HP11.2);have hp_ : Kd.R (Kd.int .u8) 5 w12 w.heap.size (fun _ => True) (.slice (some ⟨go10,0,none⟩) x5_1.length co10) y173 := (by rw [hw,Ny173.out];exact HP11.1);clear HP11;replace HO_5 := am_ (hp_);replace HB := am_ ((by rw [hw];exact below_set (HB.out) GB10.out : Below w.heap.size w w12));clear hg hw hp_))
   go_roundg k1
   case measure => have := HK1.out;omega
   case rel => exact ⟨(x0_1 / 256),(y173),(wrap64 (x6_1 - 1)),(by first | rfl | (simp;done) | (simp [*];done)),(by first | rfl | (simp;done) | (simp [*];done)),H',⟨by have := HK1.out;omega⟩,⟨zr HO_5⟩,⟨zl_ HB⟩⟩
end Go.Proofs.YtkfhejklnmkfmaaDoor.A
end

section
namespace Go.Proofs.YtkfhejklnmkfmaaDoor.A
open Go.RowKit Go.Proofs.YtkfhejklnmkfmaaDoorW.PrintWords Go.Proofs.YtkfhejklnmkfmaaDoorW.PrintLast Go.Proofs.YtkfhejklnmkfmaaDoorW.PrintMore
set_option maxRecDepth 100000 in
theorem idx122 (a0 a1 a2 a3 a4 a5 a6 a7 : Int) (W : World) (i : Nat) (hi : i < 8) : Sem.run Tryd.prog (Instr.index 80 (Value.agg #[.int .u32 a0,.int .u32 a1,.int .u32 a2,.int .u32 a3,.int .u32 a4,.int .u32 a5,.int .u32 a6,.int .u32 a7]) (Value.int .i64 (i : Int))) W = .ok (.int .u32 (([a0,a1,a2,a3,a4,a5,a6,a7] : List Int).getD i 0)) W := by
 match i,hi with
 | 0,_ => go_simp;rfl
 | 1,_ => go_simp;rfl
 | 2,_ => go_simp;rfl
 | 3,_ => go_simp;rfl
 | 4,_ => go_simp;rfl
 | 5,_ => go_simp;rfl
 | 6,_ => go_simp;rfl
 | 7,_ => go_simp;rfl
set_option maxHeartbeats 400000 in
set_option maxRecDepth 100000 in
theorem hash_walk (s r : ByteArray) (w : World) (hL : ∀ j,j < 64 → w.cell? ⟨0,j,none⟩ = some (.int .u32 (roundKs.getD j 0))) (hs : s.size ≤ 40000000) (H : Zb.v (bytesOf s) = some r) :
  Calls Tryd.prog 44 #[.string s] w fun e w' => e = .returned (.string r) ∧ Below w.heap.size w w' := by
 have h0 : 0 < w.heap.size := World.block_lt_of_cell? w _ (hL 0 (by decide))
 have HL := Aside0.mk hL
 have hxl : (bytesOf s).length = s.size := bytesOf_length s
 have H0 := Aside0.mk (hstart _ _ (by omega) H)
 have HX := Aside0.mk hxl
 clear hL H hxl
 go_enter Tryd.func44,Tryd.ntmps44
 go_wp2_with (first | ((with_reducible refine gate_dst (N := 9) rfl ?_);refine conv_hs 5 rfl 9 22 _ rfl s rfl Tryd.underlying9 Tryd.underlying22 Tryd.underlying5 ?_;intro g cap w1 F0;have F := Aside0.mk F0;clear F0) | ((with_reducible refine gate_builtin (b := .append) (xs := #[.tmp 9,.tmp 10]) rfl ?_);at_builtin;refine append1_hs (l := bytesOf s) 22 5 rfl (.tmp 9) (.tmp 10) rfl Tryd.underlying22 info5 128 (by rw [bytesOf_length];rfl) rfl F.out (by rw [bytesOf_length];omega) ?_;clear F;intro g' cap' w2 F0;have F := Aside0.mk F0;clear F0))
 have HG := Aside0.mk h0
 clear h0
 go_loopg [3] (56 + 64 - (s.size + 1) % 64) (fun gg v3 wr => ∃ (g cap : Nat) (l : List Int),(l.length + gg) % 64 = 56 ∧ l.length + gg ≤ 41000000 ∧ v3 = .slice (some ⟨g,0,none⟩) l.length cap ∧ Aside0 (Zb.lv0 (bytesOf s) hashIV l = some r) ∧ Aside0 (Hs w wr w.heap.size g cap l))
 case atStart => exact ⟨_,_,bytesOf s ++ [128],by rw [List.length_append,HX.out,List.length_singleton];omega,by rw [List.length_append,HX.out,List.length_singleton];omega,by simp,H0,F⟩
 case round =>
  clear F H0
  obtain ⟨g3,cap3,l,hm,hle,rfl,H0,F⟩ := hrel
  by_cases c : l.length % 64 = 56
  ·have c1 : ((l.length : Int).tmod 64 = 56) := by rw [Int.tmod_eq_emod_of_nonneg (by omega)];omega
   have H1 := Aside0.mk (hlen _ _ _ _ (by omega) (by have := HX.out;omega) (hpadded _ _ _ _ c H0.out))
   obtain ⟨ky,y,hky,hby,hys⟩ := num8 (wrap64 (8 * ((bytesOf s).length : Int)))
   rw [← hby] at H1
   have hw8 : wrap64 (8 * (s.size : Int)) = 8 * (s.size : Int) := by clear hky hby H1;exact w64n _ (by omega) (by omega)
   rw [HX.out,hw8] at hky
   clear hw8
   have HK := Aside0.mk hky
   clear hky hby H0
   have hlw : (8 * (s.size : Int)) ≤ 9223372036854775807 := by omega
   go_wp2_with (first | (go_at_call 47;with_reducible refine (Zl.calls ky _ _ y _ HK.out).mono ?_;rintro e w5 ⟨rfl,hb5⟩;have HB5 := Aside0.mk hb5;clear hb5) | ((with_reducible refine gate_builtin (b := .append) (xs := #[.tmp 19,.tmp 23]) rfl ?_);at_builtin;refine appendS_hs (l := l) 22 9 5 rfl (.tmp 19) (.tmp 23) rfl Tryd.underlying22 Tryd.underlying9 info5 y (by rfl) rfl (by omega) (F.out.on HB5.out) (by omega) ?_;clear F HB5;intro g' cap' w2 F0;have F := Aside0.mk F0;clear F0))
   have HA : (l ++ bytesOf y).length = l.length + 8 := by rw [List.length_append,bytesOf_length,hys]
   rw [show (bytesOf y).length = 8 by rw [bytesOf_length,hys]]
   have FI : Aside0 (Ih w (w2.alloc (.cells #[.int .u32 1779033703,.int .u32 3144134277,.int .u32 1013904242,.int .u32 2773480762,.int .u32 1359893119,.int .u32 2600822924,.int .u32 528734635,.int .u32 1541459225] 80)) w.heap.size g' cap' w2.heap.size (l ++ bytesOf y) hashIV) := Aside0.mk (Ih.start F.out hashIV 80)
   clear F
   generalize w2.alloc _ = w6 at FI ⊢
   generalize w2.heap.size = gh at FI ⊢
   rw [← HA]
   generalize l ++ bytesOf y = al at HA H1 FI ⊢
   obtain ⟨K,hK⟩ : ∃ K,al.length = 64 * K := ⟨al.length / 64,by omega⟩
   have hKb : K ≤ 2000000 := by omega
   have hcap := FI.out.hs.row.room
   rw [hK] at hcap ⊢
   have HN := Aside0.mk hK
   clear HA hm hle hlw c1 c hK
   go_loopg [3] K (fun gg v3 wr => ∃ (m o ln cp : Nat) (hv : List Int),gg + m = K ∧ (0 < gg → o = 64 * m ∧ cp + o = cap') ∧ ln = 64 * gg ∧ v3 = .slice (some ⟨g',o,none⟩) ln cp ∧ hv.length = 8 ∧ Aside0 (Zb.lv2 hv al roundKs ((64 * m : Nat) : Int) = some r) ∧ Aside0 (Ih w wr w.heap.size g' cap' gh al hv))
   case atStart => exact ⟨0,0,_,_,_,by omega,fun _ => ⟨rfl,rfl⟩,rfl,rfl,rfl,H1,FI⟩
   case round =>
    clear FI H1
    obtain ⟨m,o,ln,cp,hv,hgm,hoc,hln,rfl,hh,H1,FI⟩ := hrel
    by_cases c : 0 < gk
    ·obtain ⟨ho,hcp⟩ := hoc c
     have c1 : ((ln : Int) > 0) := by omega
     have c2 : (64 : Int) ≤ (ln : Int) := by omega
     have c3 : (64 : Int) ≤ (cp : Int) := by omega
     obtain ⟨h',e1,H2⟩ := hround hv al r m K HN.out hKb (by omega) H1.out
     have H2 := Aside0.mk H2
     rw [← ho] at e1
     have E1 := Aside0.mk e1
     have HO := Aside0.mk (And.intro ho (And.intro hln (And.intro hcp hgm)))
     clear e1 H1 ho hln hcp hgm hoc
     obtain ⟨a0,a1,a2,a3,a4,a5,a6,a7,rfl⟩ := eight hh
     obtain ⟨⟨c0,d1,d2,d3,d4,d5,d6,d7⟩,-⟩ := FI.out.ha.eight
     go_wp2
     refine wp_region_still_tail 3 (by kernel_rfl) (by kernel_rfl) ?_
     simp only [List.take_succ_cons,List.take_zero,List.drop_succ_cons,List.drop_zero]
     repeat still_step
     refine wpStill_nil ?_
     change wpList _ _ _ _ _ wr.drew
     have F3 := Aside0.mk FI.out.drew
     clear c0 d1 d2 d3 d4 d5 d6 d7 FI
     generalize wr.drew = w7 at F3 ⊢
     have hb7 : ∀ j,j < 64 → w7.cell? ⟨g',o + j,none⟩ = some (.int .u8 (((al.take (o + 64)).drop o).getD j 0)) := fun j hj => by
      rw [cut64 al o j hj]
      exact F3.out.hs.row.cell (o + j) (by have := HN.out;have := HO.out;omega)
     have hl7 : ∀ j,j < 64 → w7.cell? ⟨0,j,none⟩ = some (.int .u32 (roundKs.getD j 0)) := fun j hj =>
      (World.cell?_of_block (a := ⟨0,j,none⟩) (F3.out.hs.below.block 0 HG.out)).trans (HL.out j hj)
     have hbl7 : ((al.take (o + 64)).drop o).length = 64 := by have := HN.out;have := HO.out;rw [List.length_drop,List.length_take];omega
     have HC := Aside0.mk (block_walk a0 a1 a2 a3 a4 a5 a6 a7 g' o cp _ roundKs h' w7 F3.out.hs.lt hbl7 (by have := HO.out;omega) hb7 hl7 rfl E1.out)
     clear hb7 hl7 hbl7
     go_wp2_with (go_at_call 65;with_reducible refine HC.out.mono ?_;rintro e w8 ⟨rfl,hb8,h8⟩;have HB8 := Aside0.mk hb8;clear hb8)
     have F8 := Aside0.mk (F3.out.on HB8.out)
     clear F3 HB8 HC
     obtain ⟨b0,b1,b2,b3,b4,b5,b6,b7,rfl⟩ := eight h8
     obtain ⟨⟨c0,d1,d2,d3,d4,d5,d6,d7⟩,⟨f0,f1,f2,f3,f4,f5,f6,f7⟩⟩ := F8.out.ha.eight
     simp only [List.map_cons,List.map_nil]
     have hlc : (ln : Int) ≤ (cp : Int) := by have := HO.out;omega
     have hst : Sem.run Tryd.prog (storeCells ⟨gh,0,none⟩ [.int .u32 b0,.int .u32 b1,.int .u32 b2,.int .u32 b3,.int .u32 b4,.int .u32 b5,.int .u32 b6,.int .u32 b7]) w8 = .ok () ((((((((w8.setCell ⟨gh,0,none⟩ (.int .u32 b0)).setCell ⟨gh,1,none⟩ (.int .u32 b1)).setCell ⟨gh,2,none⟩ (.int .u32 b2)).setCell ⟨gh,3,none⟩ (.int .u32 b3)).setCell ⟨gh,4,none⟩ (.int .u32 b4)).setCell ⟨gh,5,none⟩ (.int .u32 b5)).setCell ⟨gh,6,none⟩ (.int .u32 b6)).setCell ⟨gh,7,none⟩ (.int .u32 b7)) := by
      have := run_storeCells_cells (P := Tryd.prog) gh 0 [.int .u32 b0,.int .u32 b1,.int .u32 b2,.int .u32 b3,.int .u32 b4,.int .u32 b5,.int .u32 b6,.int .u32 b7] 0 w8 (fun j hj => by simp only [Nat.zero_add];rw [F8.out.ha.cell j (by simpa using hj)];rfl) (fun j hj => by simp only [Nat.zero_add];exact F8.out.ha.free j (by simpa using hj)) (fun v hv => by simp only [List.mem_cons,List.not_mem_nil,or_false] at hv;rcases hv with rfl | rfl | rfl | rfl | rfl | rfl | rfl | rfl <;> rfl)
      exact this
     have F9 := Aside0.mk ((((((((F8.out.set 0 (by simp) b0).set 1 (by simp) b1).set 2 (by simp) b2).set 3 (by simp) b3).set 4 (by simp) b4).set 5 (by simp) b5).set 6 (by simp) b6).set 7 (by simp) b7)
     clear c0 d1 d2 d3 d4 d5 d6 d7 f0 f1 f2 f3 f4 f5 f6 f7
     rw [hst]
     clear hst
     generalize World.setCell (World.setCell (World.setCell (World.setCell (World.setCell (World.setCell (World.setCell (World.setCell w8 _ _) _ _) _ _) _ _) _ _) _ _) _ _) _ _ = w9 at F9 ⊢
     by_cases hc64 : cp = 64
     ·have hl0 : ln = 64 := by have := HO.out;omega
      subst hc64
      subst hl0
      go_wp2
      go_roundg (gk - 1)
      case measure => omega
      case rel =>
       have := HO.out
       exact ⟨m + 1,o,0,0,[b0,b1,b2,b3,b4,b5,b6,b7],by omega,by omega,by omega,rfl,rfl,H2,F9⟩
     ·have hc65 : (64 : Int) < (cp : Int) := by omega
      go_wp2
      go_roundg (gk - 1)
      case measure => omega
      case rel =>
       have := HO.out
       exact ⟨m + 1,o + 64,ln - 64,cp - 64,[b0,b1,b2,b3,b4,b5,b6,b7],by omega,by omega,by omega,rfl,rfl,H2,F9⟩
    ·have hk0 : gk = 0 := by omega
     subst hk0
     have hln0 : ln = 0 := by omega
     subst hln0
     have H2 := Aside0.mk (hrounds hv al r _ (by have := HN.out;omega) H1.out)
     obtain ⟨a0,a1,a2,a3,a4,a5,a6,a7,rfl⟩ := eight hh
     obtain ⟨⟨c0,d1,d2,d3,d4,d5,d6,d7⟩,-⟩ := FI.out.ha.eight
     have hbel := Aside0.mk FI.out.hs.below
     clear H1 hoc hln FI
     go_wp2
     clear c0 d1 d2 d3 d4 d5 d6 d7
     go_loopg [5,36] 8 (fun gg v5 v36 wr => ∃ (i : Nat) (ol : List Int),i ≤ 8 ∧ gg + i = 8 ∧ v36 = .int .i64 (i : Int) ∧ v5 = .string (strOfNums ol) ∧ ol.length = 4 * i ∧ Aside0 (Zb.lv3 [a0,a1,a2,a3,a4,a5,a6,a7] ol (i : Int) = some r) ∧ Aside0 (Below w.heap.size w wr))
     case atStart => exact ⟨0,[],by omega,by omega,rfl,rfl,rfl,H2,hbel⟩
     case round =>
      clear H2 hbel
      obtain ⟨i,ol,hi,hg,rfl,rfl,hol,H2,hbel⟩ := hrel
      by_cases hlt : i < 8
      ·have c1 : ((i : Int) < 8) := by omega
       have H3 := Aside0.mk (hout _ _ _ _ rfl hlt (by omega) H2.out)
       clear H2
       have hix := idx122 a0 a1 a2 a3 a4 a5 a6 a7 wr i hlt
       obtain ⟨x,hx⟩ : ∃ x,([a0,a1,a2,a3,a4,a5,a6,a7] : List Int).getD i 0 = x := ⟨_,rfl⟩
       rw [hx] at hix H3
       clear hx
       obtain ⟨ky4,y4,hk4,hy4,hs4⟩ := num4s x
       have HK4 := Aside0.mk hk4
       have HY4 := Aside0.mk hy4
       clear hk4 hy4
       have hso : (strOfNums ol).size = ol.length := strsz ol
       have hcat : (strOfNums ol).size + y4.size ≤ 9223372036854775807 := by omega
       have hcat2 : ((strOfNums ol).size : Int) + (y4.size : Int) ≤ 9223372036854775807 := by omega
       have hcat3 : ¬ (9223372036854775807 < ((strOfNums ol).size : Int) + (y4.size : Int)) := by omega
       clear hso
       go_wp2_with (go_at_call 47;with_reducible refine (Zl.calls ky4 _ _ y4 _ HK4.out).mono ?_;rintro e w5 ⟨rfl,hb5⟩;have HB5 := Aside0.mk hb5;clear hb5)
       go_roundg (8 - (i + 1))
       case measure => omega
       case rel => exact ⟨i + 1,_,by omega,by omega,by go_num,by rw [HY4.out,str_add],by rw [List.length_append,be4_len];omega,H3,⟨(hbel.out).trans (HB5.out.mono hbel.out.size)⟩⟩
      ·have hlt2 : ¬ ((i : Int) < 8) := by omega
       have e := hdone _ _ _ _ hlt2 H2.out
       subst e
       go_wp2
       go_ret
       exact ⟨rfl,hbel.out⟩
  ·have c1 : ¬ ((l.length : Int).tmod 64 = 56) := by rw [Int.tmod_eq_emod_of_nonneg (by omega)];omega
   have H1 := Aside0.mk (hpad _ _ _ _ (by omega) c H0.out)
   clear H0
   go_wp2_with (first | ((with_reducible refine gate_builtin (b := .append) (xs := #[.tmp 16,.tmp 17]) rfl ?_);at_builtin;refine append1_hs (l := l) 22 5 rfl (.tmp 16) (.tmp 17) rfl Tryd.underlying22 info5 0 (by rfl) rfl F.out (by omega) ?_;clear F;intro g' cap' w2 F0;have F := Aside0.mk F0;clear F0))
   have hgk : 1 ≤ gk := by omega
   go_roundg (gk - 1)
   case measure => omega
   case rel => exact ⟨_,_,_,by rw [List.length_append,List.length_singleton];omega,by rw [List.length_append,List.length_singleton];omega,by simp,H1,F⟩
structure Laid (w : World) : Prop where
 cells : ∀ j,j < 64 → w.cell? ⟨0,j,none⟩ = some (.int .u32 (roundKs.getD j 0))
theorem Laid.on {w W : World} (h : Laid w) (b : Below w.heap.size w W) : Laid W :=
 ⟨fun j hj => (World.cell?_of_block (a := ⟨0,j,none⟩) (b.block 0 (World.block_lt_of_cell? w _ (h.cells 0 (by decide))))).trans (h.cells j hj)⟩
end Go.Proofs.YtkfhejklnmkfmaaDoor.A
end

section
namespace Go.Proofs.YtkfhejklnmkfmaaDoor.A
open Go.RowKit Go.Proofs.YtkfhejklnmkfmaaDoorW.PrintWords Go.Proofs.YtkfhejklnmkfmaaDoorW.PrintLast Go.Proofs.YtkfhejklnmkfmaaDoorW.PrintMore
attribute [local go_sem] max2_int min2_int max_two min_two max_three min_three max_four min_four
theorem ZD.calls (k : Nat) (a0 : ByteArray) (r : ByteArray) (w : World) (hL : Laid w) (h : ZD.f k a0 = some r) :
  Calls Tryd.prog 44 #[.string a0] w fun e w' => e = .returned (.string r) ∧ Below w.heap.size w w' := by
 unfold ZD.f at h
 by_cases c : a0.size ≤ 40000000
 case neg =>
  rw [if_neg c] at h
  cases h
 rw [if_pos c] at h
 exact hash_walk a0 r w hL.cells c ((Zb.v_lim _).up k r h)
theorem Zk.calls (k : Nat) (a0 : ByteArray) (r : ByteArray) (w : World) (h : Zk.f k a0 = some r) :
  Calls Tryd.prog 64 #[.string a0] w fun e w' => e = .returned (.string r) ∧ Below w.heap.size w w' := by
 have HB := am_ (Below.refl w.heap.size w)
 have hz_ : a0.size ≤ 1000000 := Decidable.byContradiction (fun hc => by rw [Zk.f,if_neg hc] at h;cases h)
 have H : (Zk.l0 k a0 (([] : List Int)) (a0.size : Int) 0) = some r := by rw [Zk.f,if_pos hz_] at h;exact h
 clear h
 obtain ⟨y270,hy270⟩ : ∃ y_ : List Int,y_ = (([] : List Int)) := ⟨_,rfl⟩
 replace H : (Zk.l0 k a0 y270 (a0.size : Int) 0) = some r := by first | (rw [hy270];with_reducible exact H) | (have H2_ := (Option.bind_some _ _).symm.trans H;rw [hy270];with_reducible exact H2_) | (have H2_ := (Option.bind_some _ _).symm.trans H;with_reducible exact H2_) | with_reducible exact H | (rw [hy270];exact H) | exact H
 have Ny270 := am_ hy270
 clear hy270
 have H' := am_ H
 clear H
 go_enter Tryd.func64,Tryd.ntmps64
 go_wp2_with (first | ((with_reducible refine gate_dst (N := 9) rfl ?_);refine Kd.R_room _ 5 rfl (N := 9) rfl 22 _ _ rfl .i64 .i64 (8 * a0.size) rfl ?hy Tryd.underlying22 info5 (by omega) (Below.refl _ _) (Nat.le_refl _) ?_;(case hy => show Value.int .i64 (8 * (a0.size : Int)) = Value.int .i64 ((8 * a0.size : Nat) : Int);rw [Int.natCast_mul];rfl);intro v271 w2 ho3 hb hg_ hnew_;clear hg_ hnew_;(first | rw [← Ny270.out] at ho3 | (simp only [Int.reduceToNat] at ho3;rw [← Ny270.out] at ho3));have HO272 := am_ (Kd.R_lower ho3 (below_size (zl_ HB)));replace HB := zs_ HB hb;clear hb ho3))
 go_loopg [3,12] k (fun kq v3 v12 w' => ∃ (x3_1 : List Int) (x12_1 : Int),v12 = .int .i64 x12_1 ∧ Aside0 (Zk.l0 kq a0 x3_1 (a0.size : Int) x12_1 = some r) ∧ Aside0 (kq ≤ k) ∧ Aside0 (Kd.R (Kd.int .u8) 5 w' w.heap.size (fun _ => True) v3 x3_1) ∧ Aside0 (Below w.heap.size w w'))
 case atStart => exact ⟨(y270),(0),(by first | rfl | (simp;done) | (simp [*];done)),H',⟨Nat.le_refl _⟩,⟨zr HO272⟩,⟨zl_ HB⟩⟩
 case round =>
  clear H'
  try clear p2
  obtain ⟨x3_1,x12_1,rfl,HA,HK1,HO_3,HB⟩ := hrel
  cases gk with
  | zero => exact absurd HA.out (by simp [Zk.l0])
  | succ k1 =>
   have H := HA.out
   clear HA
   simp only [Zk.l0] at H
   by_cases c4 : x12_1 < (a0.size : Int)
   case neg =>
    rw [if_neg c4] at H
    have c4b0 := decide_eq_false c4
    clear c4
    obtain rfl := Option.some.inj H
    have hcv13 := own_string (P := Tryd.prog) Tryd.underlying22 Tryd.underlying5 Tryd.underlying9 (Kd.own_of_R HO_3.out)
    go_wp2
    go_ret
    exact ⟨zt_,zl_ HB⟩
   rw [if_pos c4] at H
   have c4b0 := decide_eq_true c4
   clear c4
   have H' := am_ H
   clear H
   go_wp2
   go_loopg [3,5] k1 (fun kq v3 v5 w' => ∃ (x3_2 : List Int) (x5_2 : Int),v5 = .int .i64 x5_2 ∧ Aside0 (Zk.l1 kq a0 x3_2 x12_1 x5_2 (a0.size : Int) x12_1 = some r) ∧ Aside0 (kq ≤ k1) ∧ Aside0 (Kd.R (Kd.int .u8) 5 w' w.heap.size (fun _ => True) v3 x3_2) ∧ Aside0 (Below w.heap.size w w'))
   case atStart => exact ⟨(x3_1),(7),(by first | rfl | (simp;done) | (simp [*];done)),H',⟨Nat.le_refl _⟩,⟨zr HO_3⟩,⟨zl_ HB⟩⟩
   case round =>
    clear H'
    try clear p2
    try clear c4
    try clear c4b0
    try clear p2
    obtain ⟨x3_2,x5_2,rfl,HA,HK2,HO_3,HB⟩ := hrel
    cases gk with
    | zero => exact absurd HA.out (by simp [Zk.l1])
    | succ k2 =>
     have H := HA.out
     clear HA
     simp only [Zk.l1] at H
     by_cases c5 : x5_2 ≥ 0
     case neg =>
      rw [if_neg c5] at H
      have c5b0 : decide (0 ≤ x5_2) = false := decide_eq_false c5
      clear c5
      have H' := am_ H
      clear H
      go_wp2
      go_roundg k2
      case measure => have := HK1.out;have := HK2.out;omega
      case rel => exact ⟨(x3_2),(wrap64 (x12_1 + 1)),(by first | rfl | (simp;done) | (simp [*];done)),H',⟨by have := HK1.out;have := HK2.out;omega⟩,⟨zr HO_3⟩,⟨zl_ HB⟩⟩
     rw [if_pos c5] at H
     have c5b0 : decide (0 ≤ x5_2) = true := decide_eq_true c5
     clear c5
     by_cases c6 : 0 ≤ x12_1
     case neg =>
      rw [if_neg c6] at H
      exact absurd H (by simp)
     rw [if_pos c6] at H
     have c6b0 := decide_eq_true c6
     clear c6
     by_cases c7 : x12_1 < (a0.size : Int)
     case neg =>
      rw [if_neg c7] at H
      exact absurd H (by simp)
     rw [if_pos c7] at H
     have c7b0 := decide_eq_true c7
     clear c7
     by_cases c9 : 0 ≤ x5_2
     case neg =>
      rw [if_neg c9] at H
      exact absurd H (by simp)
     rw [if_pos c9] at H
     have c9b0 := eq_true c9
     have c9b1 := decide_eq_true c9
     clear c9
     obtain ⟨ji10,hji10⟩ : ∃ j_ : Int,(shr .u8 (bt a0 x12_1) x5_2) = j_ := ⟨_,rfl⟩
     replace H : (if x3_2.length < 140737488355328 then (Zk.l1 k2 a0 (x3_2 ++ [(48 + (Go.bits .and .u8 (ji10) 1)) % 256]) x12_1 (wrap64 (x5_2 - 1)) (a0.size : Int) x12_1) else (none)) = some r := by first | (rw [hji10] at H;exact H) | (simp only [hji10] at H ⊢;exact H)
     have hji10_ : ((bt a0 x12_1) / 2 ^ min x5_2.toNat 8) = ji10 := hji10
     have hji10z : x5_2 ≤ 8 → ((bt a0 x12_1) / 2 ^ x5_2.toNat) = ji10 := shr_small hji10
     by_cases c11 : x3_2.length < 140737488355328
     case neg =>
      rw [if_neg c11] at H
      exact absurd H (by simp)
     rw [if_pos c11] at H
     have LMc11 := am_ c11
     clear c11
     obtain ⟨y273,hy273⟩ : ∃ y_ : List Int,y_ = (x3_2 ++ [(48 + (Go.bits .and .u8 (ji10) 1)) % 256]) := ⟨_,rfl⟩
     replace H : (Zk.l1 k2 a0 y273 x12_1 (wrap64 (x5_2 - 1)) (a0.size : Int) x12_1) = some r := by first | (rw [hy273];with_reducible exact H) | (have H2_ := (Option.bind_some _ _).symm.trans H;rw [hy273];with_reducible exact H2_) | (have H2_ := (Option.bind_some _ _).symm.trans H;with_reducible exact H2_) | with_reducible exact H | (rw [hy273];exact H) | exact H
     have Ny273 := am_ hy273
     clear hy273
     have H' := am_ H
     clear H
     have p8 : 0 ≤ (x12_1 : Int) := zo_
     have q8 : x12_1 < (a0.size : Int) := zo_
     have hx8 := bt_at a0 x12_1
     replace p8 := eq_true p8
     replace q8 := eq_true q8
     go_wp2_with (first | ((with_reducible refine gate_builtin (b := .append) (xs := #[.tmp 19,.tmp 27]) rfl ?_);at_builtin;refine Kd.R_append (Kd.int .u8) (w0 := w) w.heap.size rfl (.tmp 19) (.tmp 27) 22 5 (.int .u8 0) 1 rfl Tryd.underlying22 info5 rfl (by decide) (by omega) u3 x3_2 ((48 + (Go.bits .and .u8 (ji10) 1)) % 256) [.int .u8 ((48 + (Go.bits .and .u8 (ji10) 1)) % 256)] (fun _ => True) (fun _ => False) rfl rfl ?aP (fun _ hk => hk.elim) ?aF ?aO ?aB ?aS ?aL ?_;(case aP => exact rfl);(case aB => exact (zl_ HB));(case aF => exact (fun _ _ => trivial));(case aO => exact (zr HO_3));(case aS => exact (below_size (zl_ HB)));(case aL => have := LMc11.out;omega);intro v274 w12 ho hb hg hat;rw [← Ny273.out] at ho;replace HB := am_ (hb);have HO275 := am_ (ho);clear HO_3;clear ho hb hg hat))
     go_roundg k2
     case measure => have := HK1.out;have := HK2.out;omega
     case rel => exact ⟨(y273),(wrap64 (x5_2 - 1)),(by first | rfl | (simp;done) | (simp [*];done)),H',⟨by have := HK1.out;have := HK2.out;omega⟩,⟨zr HO275⟩,⟨zl_ HB⟩⟩
theorem ZJ.calls (k : Nat) (a0 : ByteArray) (r : ByteArray) (w : World) (hL : Laid w) (h : ZJ.f k a0 = some r) :
  Calls Tryd.prog 42 #[.string a0] w fun e w' => e = .returned (.string r) ∧ Below w.heap.size w w' := by
 have HLD := am_ hL
 clear hL
 have HB := am_ (Below.refl w.heap.size w)
 have H : (if 6 + a0.size ≤ 9223372036854775807 then ((ZD.f k ((⟨#[100,105,103,101,115,116]⟩ : ByteArray) ++ a0)).bind fun t276 => ((Zk.f k t276).bind fun t277 => (if 0 ≤ 32 then (if 32 ≤ (t277.size : Int) then (some (t277.extract 0 32)) else (none)) else (none)))) else (none)) = some r := h
 clear h
 by_cases c2 : 6 + a0.size ≤ 9223372036854775807
 case neg =>
  rw [if_neg c2] at H
  exact absurd H (by simp)
 rw [if_pos c2] at H
 have c2b0 := eq_true c2
 have c2b1 := decide_eq_true c2
 try have c2b2 : (9223372036854775807 < 6 + a0.size) = False := eq_false (Nat.not_lt.2 c2)
 replace H := Option.bind_eq_some_iff.mp H
 obtain ⟨t276,A30,H⟩ := H
 try dsimp only at H
 have A3 := am_ A30
 clear A30
 replace H := Option.bind_eq_some_iff.mp H
 obtain ⟨t277,A40,H⟩ := H
 try dsimp only at H
 have A4 := am_ A40
 clear A40
 by_cases c5 : 0 ≤ 32
 case neg =>
  rw [if_neg c5] at H
  exact absurd H (by simp)
 rw [if_pos c5] at H
 have c5b0 := eq_true c5
 have c5b1 := decide_eq_true c5
 clear c5
 by_cases c6 : 32 ≤ (t277.size : Int)
 case neg =>
  rw [if_neg c6] at H
  exact absurd H (by simp)
 rw [if_pos c6] at H
 have c6b0 := eq_true c6
 have c6b1 := decide_eq_true c6
 clear c6
 obtain rfl := Option.some.inj H
 go_enter Tryd.func42,Tryd.ntmps42
 go_wp2_with (first | ((with_reducible refine gate_callee (f := 44) rfl ?_);refine zgl (some 5) Tryd.func44 #[.string ((⟨#[100,105,103,101,115,116]⟩ : ByteArray) ++ a0)] ?_;(with_reducible refine (ZD.calls k ((⟨#[100,105,103,101,115,116]⟩ : ByteArray) ++ a0) t276 _ ?side1 A3.out).mono ?_);(case side1 => exact HLD.out.on (zl_ HB));rintro e w7 ⟨rfl,hb⟩;refine ⟨_,rfl,?_⟩;replace HB := zs_ HB hb;(try clear hb);(try clear hi)) | ((with_reducible refine gate_callee (f := 64) rfl ?_);refine zgl (some 6) Tryd.func64 #[.string t276] ?_;(with_reducible refine (Zk.calls k t276 t277 _ A4.out).mono ?_);rintro e w8 ⟨rfl,hb⟩;refine ⟨_,rfl,?_⟩;replace HB := zs_ HB hb;(try clear hb)))
 go_ret
 exact ⟨zt_,zl_ HB⟩
theorem ZT.calls (k : Nat) (a0 : ByteArray) (a1 : ByteArray) (r : ByteArray) (w : World) (hL : Laid w) (h : ZT.f k a0 a1 = some r) :
  Calls Tryd.prog 67 #[.string a0,.string a1] w fun e w' => e = .returned (.string r) ∧ Below w.heap.size w w' := by
 have HLD := am_ hL
 clear hL
 have HB := am_ (Below.refl w.heap.size w)
 have H : (if 4 + a0.size ≤ 9223372036854775807 then (if ((⟨#[110,111,100,101]⟩ : ByteArray) ++ a0).size + a1.size ≤ 9223372036854775807 then ((ZD.f k (((⟨#[110,111,100,101]⟩ : ByteArray) ++ a0) ++ a1)).bind fun t291 => (some t291)) else (none)) else (none)) = some r := h
 clear h
 by_cases c3 : 4 + a0.size ≤ 9223372036854775807
 case neg =>
  rw [if_neg c3] at H
  exact absurd H (by simp)
 rw [if_pos c3] at H
 have c3b0 := eq_true c3
 have c3b1 := decide_eq_true c3
 try have c3b2 : (9223372036854775807 < 4 + a0.size) = False := eq_false (Nat.not_lt.2 c3)
 by_cases c4 : ((⟨#[110,111,100,101]⟩ : ByteArray) ++ a0).size + a1.size ≤ 9223372036854775807
 case neg =>
  rw [if_neg c4] at H
  exact absurd H (by simp)
 rw [if_pos c4] at H
 have c4b0 := eq_true c4
 have c4b1 := decide_eq_true c4
 try have c4b2 : (9223372036854775807 < ((⟨#[110,111,100,101]⟩ : ByteArray) ++ a0).size + a1.size) = False := eq_false (Nat.not_lt.2 c4)
 (try have c4b3 := c4b2;simp only [ByteArray.size_append,show (⟨#[110,111,100,101]⟩ : ByteArray).size = 4 from rfl] at c4b3)
 replace H := Option.bind_eq_some_iff.mp H
 obtain ⟨t291,A50,H⟩ := H
 try dsimp only at H
 have A5 := am_ A50
 clear A50
 obtain rfl := Option.some.inj H
 go_enter Tryd.func67,Tryd.ntmps67
 go_wp2_with (first | ((with_reducible refine gate_callee (f := 44) rfl ?_);refine zgl (some 9) Tryd.func44 #[.string (((⟨#[110,111,100,101]⟩ : ByteArray) ++ a0) ++ a1)] ?_;(with_reducible refine (ZD.calls k (((⟨#[110,111,100,101]⟩ : ByteArray) ++ a0) ++ a1) t291 _ ?side1 A5.out).mono ?_);(case side1 => exact HLD.out.on (zl_ HB));rintro e w6 ⟨rfl,hb⟩;refine ⟨_,rfl,?_⟩;replace HB := zs_ HB hb;(try clear hb)))
 go_ret
 exact ⟨zt_,zl_ HB⟩
def Zd.T6 : Bool × List (List Nat × List Nat) := (true,[([],[]),([],[]),([1],[1]),([],[]),([2,3],[2,3]),([4],[4]),([5],[5]),([],[]),([7],[7]),([],[]),([8,9],[8,9]),([10],[10]),([6,11],[6,11]),([0,12],[0,12]),([13,6,0,1,2,3,4,5,6,7,8,9,10,11,12,13],[0,13])])
def Zd.B6 : List Nat := [0,0,2,0,14,30,62,0,128,0,896,1920,4094,8191,16383]
theorem Zd.tab6 : rtab .any (opsOf Tryd.f52 6) = Zd.T6 := by kernel_rfl
theorem Zd.bits6 : waitsOk Zd.T6.2 Zd.B6 = true := by kernel_rfl
def Zd.T7 : Bool × List (List Nat × List Nat) := (true,[([],[]),([],[]),([1],[1]),([],[]),([2,3],[2,3]),([4],[4]),([],[]),([6],[6]),([],[]),([7,8],[7,8]),([9],[9]),([10],[10]),([5,11],[5,11]),([0,12],[0,12]),([13,11,0,1,2,3,4,5,6,7,8,9,10,11,12,13],[0,13])])
def Zd.B7 : List Nat := [0,0,2,0,14,30,0,64,0,448,960,1984,4094,8191,16383]
theorem Zd.tab7 : rtab .any (opsOf Tryd.f52 7) = Zd.T7 := by kernel_rfl
theorem Zd.bits7 : waitsOk Zd.T7.2 Zd.B7 = true := by kernel_rfl
theorem Zd.calls (k : Nat) (a0_0 : Int) (A0_1 : Option Addr) (c0_1 : Nat) (l0_1 : List ByteArray) (A0_2 : Option Addr) (c0_2 : Nat) (l0_2 : List ByteArray) (A0_3 : Option Addr) (c0_3 : Nat) (l0_3 : List ByteArray) (a1 : ByteArray) (r : ByteArray) (w : World) (hr0_1 : Kd.C Kd.string w A0_1 l0_1.length l0_1) (hc0_1 : l0_1.length ≤ c0_1) (hr0_2 : Kd.C Kd.string w A0_2 l0_2.length l0_2) (hc0_2 : l0_2.length ≤ c0_2) (hr0_3 : Kd.C Kd.string w A0_3 l0_3.length l0_3) (hc0_3 : l0_3.length ≤ c0_3) (hL : Laid w) (h : Zd.f k a0_0 l0_1 l0_2 l0_3 a1 = some r) :
  Calls Tryd.prog 52 #[.agg #[.int .i64 a0_0,.slice A0_1 l0_1.length c0_1,.slice A0_2 l0_2.length c0_2,.slice A0_3 l0_3.length c0_3],.string a1] w fun e w' => e = .returned (.string r) ∧ Below w.heap.size w w' := by
 have hu37 := Tryd.underlying37
 have HR0_1 := am_ hr0_1
 have HC0_1 := am_ hc0_1
 clear hr0_1 hc0_1
 have HR0_2 := am_ hr0_2
 have HC0_2 := am_ hc0_2
 clear hr0_2 hc0_2
 have HR0_3 := am_ hr0_3
 have HC0_3 := am_ hc0_3
 clear hr0_3 hc0_3
 have HLD := am_ hL
 clear hL
 have HB := am_ (Below.refl w.heap.size w)
 have H : ((ZJ.f k a1).bind fun t361 => (if t361.size ≤ 140737488355328 then ((some (bytesOf t361 : List Int)).bind fun y362 => (Zd.l0 k (⟨#[107,101,121]⟩ : ByteArray) y362 (y362.length : Int) 0 a0_0 l0_1 l0_2 l0_3)) else (none))) = some r := h
 clear h
 replace H := Option.bind_eq_some_iff.mp H
 obtain ⟨t361,A30,H⟩ := H
 try dsimp only at H
 have A3 := am_ A30
 clear A30
 by_cases c4 : t361.size ≤ 140737488355328
 case neg =>
  rw [if_neg c4] at H
  exact absurd H (by simp)
 rw [if_pos c4] at H
 have c4b0 := eq_true c4
 have c4b1 := decide_eq_true c4
 clear c4
 obtain ⟨y362,hy362⟩ : ∃ y_ : List Int,y_ = (bytesOf t361) := ⟨_,rfl⟩
 replace H : (Zd.l0 k (⟨#[107,101,121]⟩ : ByteArray) y362 (y362.length : Int) 0 a0_0 l0_1 l0_2 l0_3) = some r := by first | (rw [hy362];with_reducible exact H) | (have H2_ := (Option.bind_some _ _).symm.trans H;rw [hy362];with_reducible exact H2_) | (have H2_ := (Option.bind_some _ _).symm.trans H;with_reducible exact H2_) | with_reducible exact H | (rw [hy362];exact H) | exact H
 have Ny362 := am_ hy362
 clear hy362
 have H' := am_ H
 clear H
 go_enter Tryd.func52,Tryd.ntmps52
 go_wp2_with (first | ((with_reducible refine gate_dst (N := 2) rfl ?_);refine zbx (N := 2) (cs := #[.int .i64 a0_0,.slice A0_1 l0_1.length c0_1,.slice A0_2 l0_2.length c0_2,.slice A0_3 l0_3.length c0_3]) (t := 37) ?_;intro gb360 hg w5 hbox hb;have BK360 := am_ (hbox);have GW360 := zw_ HB hg;have GE360 := zw_ HB hg;replace HB := zs_ HB hb;clear hb hbox hg) | ((with_reducible refine gate_callee (f := 42) rfl ?_);refine zgl (some 13) Tryd.func42 #[.string a1] ?_;(with_reducible refine (ZJ.calls k a1 t361 _ ?side1 A3.out).mono ?_);(case side1 => exact HLD.out.on (zl_ HB));rintro e w6 ⟨rfl,hb⟩;refine ⟨_,rfl,?_⟩;replace BK360 := zb BK360 hb;replace HB := zs_ HB hb;(try clear hb);(try clear hi)) | ((with_reducible refine gate_dst (N := 14) rfl ?_);refine Kd.V_conv (Kd.int .u8) rfl _ 5 rfl (N := 14) rfl 9 22 _ rfl t361 rfl Tryd.underlying9 Tryd.underlying22 Tryd.underlying5 (ok := fun k_ => w6.heap.size ≤ k_) (okp := fun _ => False) (fun _ hk => hk.elim) (Nat.le_refl _) (by have := o1_ (by first | (with_reducible assumption) | assumption : decide (t361.size ≤ 140737488355328) = true);omega) (Below.refl _ _) (Nat.le_refl _) ?_;intro v363 w7 ho8 hb hg_ hnew_;clear hg_ hnew_;(first | rw [← Ny362.out] at ho8 | (simp only [Int.reduceToNat] at ho8;rw [← Ny362.out] at ho8));have HO364 := am_ (Kd.V_lower (Kd.V_mono (ok' := fun k_ => k_ ≠ gb360) ho8 (fun k_ hk_ => (Kd.freshB (g := gb360) (o := .cells #[.int .i64 a0_0,.slice A0_1 l0_1.length c0_1,.slice A0_2 l0_2.length c0_2,.slice A0_3 l0_3.length c0_3] 37 (0,0)) (zk BK360) k_ hk_))) (below_size (zl_ HB)));replace BK360 := zb BK360 hb;replace HB := zs_ HB hb;clear hb ho8;obtain ⟨Ao9,co9,eo9⟩ := Kd.V_slice HO364.out;subst eo9))
 go_loopg [5,16] k (fun kq v5 v16 w' => ∃ (x5_1 : ByteArray) (x16_1 : Int),v5 = .string x5_1 ∧ v16 = .int .i64 x16_1 ∧ Aside0 (Zd.l0 kq x5_1 y362 (y362.length : Int) x16_1 a0_0 l0_1 l0_2 l0_3 = some r) ∧ Aside0 (kq ≤ k) ∧ Aside0 (Kd.V (Kd.int .u8) 5 w' w.heap.size (fun k_ => k_ ≠ gb360) (.slice Ao9 y362.length co9) y362) ∧ Aside0 (w'.heap[gb360]? = some (.cells #[.int .i64 a0_0,(.slice A0_1 l0_1.length c0_1),(.slice A0_2 l0_2.length c0_2),(.slice A0_3 l0_3.length c0_3)] 37 (0,0))) ∧ Aside0 (Below w.heap.size w w'))
 case atStart => exact ⟨((⟨#[107,101,121]⟩ : ByteArray)),(0),(by first | rfl | (simp;done) | (simp [*];done)),(by first | rfl | (simp;done) | (simp [*];done)),H',⟨Nat.le_refl _⟩,⟨by (with_reducible repeat (first | apply Kd.V_alloc | apply Kd.V_drewN | apply Kd.V_drew));exact HO364.out⟩,⟨by (with_reducible repeat (first | apply k1_ | apply k2_ | apply k3_));exact BK360.out⟩,⟨zl_ HB⟩⟩
 case round =>
  clear H'
  try clear p2
  try clear c4
  try clear c4b0
  try clear c4b1
  try clear c5
  obtain ⟨x5_1,x16_1,rfl,rfl,HA,HK1,HO_14,BK360,HB⟩ := hrel
  cases gk with
  | zero => exact absurd HA.out (by simp [Zd.l0])
  | succ k1 =>
   have H := HA.out
   clear HA
   simp only [Zd.l0] at H
   by_cases c10 : x16_1 < (y362.length : Int)
   case neg =>
    rw [if_neg c10] at H
    have c10b0 := decide_eq_false c10
    clear c10
    replace H := Option.bind_eq_some_iff.mp H
    obtain ⟨t372,A280,H⟩ := H
    try dsimp only at H
    have A28 := am_ A280
    clear A280
    have H' := am_ H
    clear H
    try go_wp2
    replace HO_14 := am_ (Kd.V_drew HO_14.out)
    replace BK360 := am_ (blk_drew BK360.out)
    replace HB := am_ (below_drew1 HB.out)
    refine start_ (n := 6) (S := fun w' => w'.cell? ⟨gb360,0,none⟩ = some (.int .i64 a0_0) ∧ w'.cell? ⟨gb360,1,none⟩ = some (.slice A0_1 l0_1.length c0_1) ∧ w'.cell? ⟨gb360,2,none⟩ = some (.slice A0_2 l0_2.length c0_2) ∧ w'.cell? ⟨gb360,3,none⟩ = some (.slice A0_3 l0_3.length c0_3)) (ds := []) #[false,false,false,false,false,false] (by kernel_rfl) rfl rfl ⟨(blk_cell BK360.out 0).trans rfl,(blk_cell BK360.out 1).trans rfl,(blk_cell BK360.out 2).trans rfl,(blk_cell BK360.out 3).trans rfl⟩ (fun hHeld => ?_)
    generalize wr.drew = w29 at HO_14 BK360 HB hHeld ⊢
    refine pure_ (i := 0) (N := some 52) (v := ?_) (a' := ?_) #[true,false,false,false,false,false] rfl rfl (by kernel_rfl) (fun _ _ _ h => h) (Or.inl ⟨by rfl,?_⟩) ?_ ?_
    rotate_left
    ·intro w'
     go_simp
     with_reducible rfl
    rotate_left
    ·simp only [Act.put,p1_,p2_,p3_,i64_w,i32_w]
     rfl
    refine pure_ (i := 2) (N := some 54) (v := ?_) (a' := ?_) #[true,false,true,false,false,false] rfl rfl (by kernel_rfl) (fun _ _ _ h => h) (Or.inl ⟨by rfl,?_⟩) ?_ ?_
    rotate_left
    ·intro w'
     go_simp
     with_reducible rfl
    rotate_left
    ·simp only [Act.put,p1_,p2_,p3_,i64_w,i32_w]
     rfl
    refine take_ (i := 3) (N := some 55) (v := ?_) (a' := ?_) #[true,false,true,true,false,false] rfl rfl (by kernel_rfl) (fun _ _ _ h => h) (Or.inl ⟨by rfl,?_⟩) hHeld ?_ ?_
    rotate_left
    ·rintro w' ⟨s0,s1,s2,s3⟩
     go_simp
     with_reducible rfl
    rotate_left
    ·simp only [Act.put,p1_,p2_,p3_,i64_w,i32_w]
     rfl
    refine one_ (i := 1) (N := some 53) #[true,true,true,true,false,false] rfl rfl (by kernel_rfl) (by decide) (fun K hK => ?_)
    refine zgo Tryd.func44 #[.string x5_1] ?_
    with_reducible refine (ZD.calls k1 x5_1 t372 _ ?side1 A28.out).mono ?_
    (case side1 => exact HLD.out.on (zl_ HB))
    rintro e w30 ⟨rfl,hb⟩
    refine ⟨_,rfl,?_⟩
    replace BK360 := zb BK360 hb
    replace HB := zs_ HB hb
    try clear hb
    refine hK.out _ _ ⟨(blk_cell BK360.out 0).trans rfl,(blk_cell BK360.out 1).trans rfl,(blk_cell BK360.out 2).trans rfl,(blk_cell BK360.out 3).trans rfl⟩ (fun hHeld => ?_)
    clear hK K
    refine nm_ ?_
    refine pure_ (i := 4) (N := some 8) (v := ?_) (a' := ?_) #[true,true,true,true,true,false] rfl rfl (by kernel_rfl) (fun _ _ _ h => h) (Or.inl ⟨by rfl,?_⟩) ?_ ?_
    rotate_left
    ·intro w'
     go_simp
     with_reducible rfl
    rotate_left
    ·simp only [Act.put,p1_,p2_,p3_,i64_w,i32_w]
     rfl
    refine pure_ (i := 5) (N := some 9) (v := ?_) (a' := ?_) #[true,true,true,true,true,true] rfl rfl (by kernel_rfl) (fun _ _ _ h => h) (Or.inl ⟨by rfl,?_⟩) ?_ ?_
    rotate_left
    ·intro w'
     go_simp
     with_reducible rfl
    rotate_left
    ·simp only [Act.put,p1_,p2_,p3_,i64_w,i32_w]
     rfl
    refine done_ (by kernel_rfl) ?_
    obtain ⟨hcz31_0,hcz31_1,hcz31_2,hcz31_3,hfz31_0,hfz31_1,hfz31_2,hfz31_3⟩ := zc4 BK360
    try go_wp2
    go_loopg [8,9,59] k1 (fun kq v8 v9 v59 w' => ∃ (x8_2 : ByteArray) (x9_2 : Int) (x59_2 : Int),v8 = .string x8_2 ∧ v9 = .int .i64 x9_2 ∧ v59 = .int .i64 x59_2 ∧ Aside0 (Zd.l1 kq x8_2 x9_2 l0_3 (l0_3.length : Int) x59_2 = some r) ∧ Aside0 (kq ≤ k1) ∧ Aside0 (w'.heap[gb360]? = some (.cells #[.int .i64 a0_0,(.slice A0_1 l0_1.length c0_1),(.slice A0_2 l0_2.length c0_2),(.slice A0_3 l0_3.length c0_3)] 37 (0,0))) ∧ Aside0 (Below w.heap.size w w'))
    case atStart => exact ⟨(t372),(a0_0),(0),(by first | rfl | (simp;done) | (simp [*];done)),(by first | rfl | (simp;done) | (simp [*];done)),(by first | rfl | (simp;done) | (simp [*];done)),H',⟨Nat.le_refl _⟩,⟨by (with_reducible repeat (first | apply k1_ | apply k2_ | apply k3_));exact BK360.out⟩,⟨zl_ HB⟩⟩
    case round =>
     clear H'
     try clear c1
     try clear c2
     try clear p2
     try clear p3
     try clear q3
     try clear hx3
     try clear c4
     try clear c4b0
     try clear c4b1
     try clear c5
     try clear p6
     try clear c10
     try clear c10b0
     try clear c11
     try clear c11b0
     try clear c12
     try clear c12b0
     try clear c13
     try clear c13b0
     try clear c13b1
     try clear c14
     try clear c14b0
     try clear c16
     try clear c16b0
     try clear c17
     try clear c17b0
     try clear c17b1
     try clear c17b2
     try clear c18
     try clear c18b0
     try clear c18b1
     try clear c18b2
     try clear c21
     try clear c21b0
     try clear c22
     try clear c22b0
     try clear c24
     try clear c24b0
     try clear c24b1
     try clear c24b2
     try clear c25
     try clear c25b0
     try clear c25b1
     try clear c25b2
     try clear hcz31_0
     try clear hcz31_1
     try clear hcz31_2
     try clear hcz31_3
     try clear hfz31_0
     try clear hfz31_1
     try clear hfz31_2
     try clear hfz31_3
     try clear hx365_0
     try clear hx366_0
     try clear hx368_0
     try clear hx369_0
     try clear hx370_0
     try clear p2
     try clear p365
     try clear p366
     try clear p368
     try clear p369
     try clear p370
     try clear q365
     try clear q366
     try clear q368
     try clear q369
     try clear q370
     obtain ⟨x8_2,x9_2,x59_2,rfl,rfl,rfl,HA,HK2,BK360,HB⟩ := hrel
     cases gk with
     | zero => exact absurd HA.out (by simp [Zd.l1])
     | succ k2 =>
      have H := HA.out
      clear HA
      simp only [Zd.l1] at H
      by_cases c32 : x59_2 < (l0_3.length : Int)
      case neg =>
       rw [if_neg c32] at H
       have c32b0 := decide_eq_false c32
       clear c32
       obtain rfl := Option.some.inj H
       go_wp2
       go_ret
       exact ⟨zt_,zl_ HB⟩
      rw [if_pos c32] at H
      have c32b0 := decide_eq_true c32
      clear c32
      by_cases c33 : 0 ≤ x59_2
      case neg =>
       rw [if_neg c33] at H
       exact absurd H (by simp)
      rw [if_pos c33] at H
      have c33b0 := decide_eq_true c33
      clear c33
      by_cases c34 : x59_2 < (l0_3.length : Int)
      case neg =>
       rw [if_neg c34] at H
       exact absurd H (by simp)
      rw [if_pos c34] at H
      have c34b0 := decide_eq_true c34
      clear c34
      by_cases c35 : (Int.tmod x9_2 2) = 0
      case neg =>
       rw [if_neg c35] at H
       have c35b0 := beq_eq_false_iff_ne.mpr c35
       have c35b1 := bne_iff_ne.mpr c35
       replace H := Option.bind_eq_some_iff.mp H
       obtain ⟨t375,A380,H⟩ := H
       try dsimp only at H
       have A38 := am_ A380
       clear A380
       have H' := am_ H
       clear H
       have p373 : 0 ≤ (x59_2 : Int) := zo_
       have q373 : x59_2 < (l0_3.length : Int) := zo_
       obtain ⟨ad373,e373,hx373_0⟩ := Kd.at_string HR0_3.out x59_2 p373 q373
       cases e373
       replace hx373_0 := zx_ HB hx373_0
       replace p373 := eq_true p373
       replace q373 := eq_true q373
       go_wp2_with (first | ((with_reducible refine gate_callee (f := 67) rfl ?_);refine zgl (some 71) Tryd.func67 #[.string (rdOf ByteArray.empty l0_3 x59_2),.string x8_2] ?_;(with_reducible refine (ZT.calls k2 (rdOf ByteArray.empty l0_3 x59_2) x8_2 t375 _ ?side1 A38.out).mono ?_);(case side1 => exact HLD.out.on (zl_ HB));rintro e w39 ⟨rfl,hb⟩;refine ⟨_,rfl,?_⟩;replace BK360 := zb BK360 hb;replace HB := zs_ HB hb;(try clear hb)))
       go_roundg k2
       case measure => have := HK1.out;have := HK2.out;omega
       case rel => exact ⟨(t375),(wrap64 (Int.tdiv x9_2 2)),(wrap64 (x59_2 + 1)),(by first | rfl | (simp;done) | (simp [*];done)),(by first | rfl | (simp;done) | (simp [*];done)),(by first | rfl | (simp;done) | (simp [*];done)),H',⟨by have := HK1.out;have := HK2.out;omega⟩,⟨by (with_reducible repeat (first | apply k1_ | apply k2_ | apply k3_));exact BK360.out⟩,⟨zl_ HB⟩⟩
      rw [if_pos c35] at H
      have c35b0 := beq_iff_eq.mpr c35
      have c35b1 := bne_eq_false_iff_eq.mpr c35
      clear c35
      replace H := Option.bind_eq_some_iff.mp H
      obtain ⟨t374,A360,H⟩ := H
      try dsimp only at H
      have A36 := am_ A360
      clear A360
      have H' := am_ H
      clear H
      have p373 : 0 ≤ (x59_2 : Int) := zo_
      have q373 : x59_2 < (l0_3.length : Int) := zo_
      obtain ⟨ad373,e373,hx373_0⟩ := Kd.at_string HR0_3.out x59_2 p373 q373
      cases e373
      replace hx373_0 := zx_ HB hx373_0
      replace p373 := eq_true p373
      replace q373 := eq_true q373
      go_wp2_with (first | ((with_reducible refine gate_callee (f := 67) rfl ?_);refine zgl (some 68) Tryd.func67 #[.string x8_2,.string (rdOf ByteArray.empty l0_3 x59_2)] ?_;(with_reducible refine (ZT.calls k2 x8_2 (rdOf ByteArray.empty l0_3 x59_2) t374 _ ?side1 A36.out).mono ?_);(case side1 => exact HLD.out.on (zl_ HB));rintro e w37 ⟨rfl,hb⟩;refine ⟨_,rfl,?_⟩;replace BK360 := zb BK360 hb;replace HB := zs_ HB hb;(try clear hb)))
      go_roundg k2
      case measure => have := HK1.out;have := HK2.out;omega
      case rel => exact ⟨(t374),(wrap64 (Int.tdiv x9_2 2)),(wrap64 (x59_2 + 1)),(by first | rfl | (simp;done) | (simp [*];done)),(by first | rfl | (simp;done) | (simp [*];done)),(by first | rfl | (simp;done) | (simp [*];done)),H',⟨by have := HK1.out;have := HK2.out;omega⟩,⟨by (with_reducible repeat (first | apply k1_ | apply k2_ | apply k3_));exact BK360.out⟩,⟨zl_ HB⟩⟩
   rw [if_pos c10] at H
   have c10b0 := decide_eq_true c10
   clear c10
   by_cases c11 : 0 ≤ x16_1
   case neg =>
    rw [if_neg c11] at H
    exact absurd H (by simp)
   rw [if_pos c11] at H
   have c11b0 := decide_eq_true c11
   clear c11
   by_cases c12 : x16_1 < (y362.length : Int)
   case neg =>
    rw [if_neg c12] at H
    exact absurd H (by simp)
   rw [if_pos c12] at H
   have c12b0 := decide_eq_true c12
   clear c12
   by_cases c13 : (rd y362 x16_1) = 48
   case neg =>
    rw [if_neg c13] at H
    have c13b0 := beq_eq_false_iff_ne.mpr c13
    have c13b1 := bne_iff_ne.mpr c13
    by_cases c21 : x16_1 < (l0_2.length : Int)
    case neg =>
     rw [if_neg c21] at H
     exact absurd H (by simp)
    rw [if_pos c21] at H
    have c21b0 := decide_eq_true c21
    clear c21
    by_cases c22 : x16_1 < (l0_1.length : Int)
    case neg =>
     rw [if_neg c22] at H
     exact absurd H (by simp)
    rw [if_pos c22] at H
    have c22b0 := decide_eq_true c22
    clear c22
    replace H := Option.bind_eq_some_iff.mp H
    obtain ⟨t371,A230,H⟩ := H
    try dsimp only at H
    have A23 := am_ A230
    clear A230
    by_cases c24 : (rdOf ByteArray.empty l0_2 x16_1).size + t371.size ≤ 9223372036854775807
    case neg =>
     rw [if_neg c24] at H
     exact absurd H (by simp)
    rw [if_pos c24] at H
    have c24b0 := eq_true c24
    have c24b1 := decide_eq_true c24
    try have c24b2 : (9223372036854775807 < (rdOf ByteArray.empty l0_2 x16_1).size + t371.size) = False := eq_false (Nat.not_lt.2 c24)
    by_cases c25 : x5_1.size + ((rdOf ByteArray.empty l0_2 x16_1) ++ t371).size ≤ 9223372036854775807
    case neg =>
     rw [if_neg c25] at H
     exact absurd H (by simp)
    rw [if_pos c25] at H
    have c25b0 := eq_true c25
    have c25b1 := decide_eq_true c25
    try have c25b2 : (9223372036854775807 < x5_1.size + ((rdOf ByteArray.empty l0_2 x16_1) ++ t371).size) = False := eq_false (Nat.not_lt.2 c25)
    (try have c25b3 := c25b2;simp only [ByteArray.size_append] at c25b3)
    have H' := am_ H
    clear H
    have p365 : 0 ≤ (x16_1 : Int) := zo_
    have q365 : x16_1 < (y362.length : Int) := zo_
    obtain ⟨ad365,e365,hx365_0⟩ := Kd.at_int (Kd.V_reads' HO_14.out).2.2 x16_1 p365 q365
    cases e365
    replace p365 := eq_true p365
    replace q365 := eq_true q365
    try go_wp2
    replace HO_14 := am_ (Kd.V_drew HO_14.out)
    replace BK360 := am_ (blk_drew BK360.out)
    replace HB := am_ (below_drew1 HB.out)
    have p369 : 0 ≤ (x16_1 : Int) := zo_
    have q369 : x16_1 < (l0_2.length : Int) := zo_
    obtain ⟨ad369,e369,hx369_0⟩ := Kd.at_string HR0_2.out x16_1 p369 q369
    have hw369_0 := hx369_0
    cases e369
    replace hx369_0 := zx_ HB hx369_0
    replace p369 := eq_true p369
    replace q369 := eq_true q369
    have p370 : 0 ≤ (x16_1 : Int) := zo_
    have q370 : x16_1 < (l0_1.length : Int) := zo_
    obtain ⟨ad370,e370,hx370_0⟩ := Kd.at_string HR0_1.out x16_1 p370 q370
    have hw370_0 := hx370_0
    cases e370
    replace hx370_0 := zx_ HB hx370_0
    replace p370 := eq_true p370
    replace q370 := eq_true q370
    refine start_ (n := 15) (S := fun w' => w'.cell? ⟨gb360,0,none⟩ = some (.int .i64 a0_0) ∧ w'.cell? ⟨gb360,1,none⟩ = some (.slice (some ad370) l0_1.length c0_1) ∧ w'.cell? ⟨gb360,2,none⟩ = some (.slice (some ad369) l0_2.length c0_2) ∧ w'.cell? ⟨gb360,3,none⟩ = some (.slice A0_3 l0_3.length c0_3) ∧ w'.cell? (ad369.add (x16_1).toNat) = some (.string (rdOf ByteArray.empty l0_2 x16_1)) ∧ w'.cell? (ad370.add (x16_1).toNat) = some (.string (rdOf ByteArray.empty l0_1 x16_1))) (ds := []) #[false,false,false,false,false,false,false,false,false,false,false,false,false,false,false] (by kernel_rfl) rfl rfl ⟨(blk_cell BK360.out 0).trans rfl,(blk_cell BK360.out 1).trans rfl,(blk_cell BK360.out 2).trans rfl,(blk_cell BK360.out 3).trans rfl,(zx_ HB hw369_0),(zx_ HB hw370_0)⟩ (fun hHeld => ?_);refine with_tabW Zd.tab7 Zd.bits7 (fun HT_ HW_ => ?_)
    generalize wr.drew = w26 at HO_14 BK360 HB hx369_0 hx370_0 hHeld ⊢
    refine pu_ 0 37 HT_ ?_
    refine pu_ 1 38 HT_ ?_
    refine pu_ 3 40 HT_ ?_
    refine pu_ 6 43 HT_ ?_
    refine pu_ 8 45 HT_ ?_
    refine tk_ 2 39 HT_ HW_ hHeld ?_
    refine pu_ 4 41 HT_ ?_
    refine tk_ 5 42 HT_ HW_ hHeld ?_
    refine tk_ 7 44 HT_ HW_ hHeld ?_
    refine pu_ 9 46 HT_ ?_
    refine tk_ 10 47 HT_ HW_ hHeld ?_
    refine zon 11 (N := some 48) HT_ (fun K hK => ?_)
    refine zgo Tryd.func44 #[.string (rdOf ByteArray.empty l0_1 x16_1)] ?_
    with_reducible refine (ZD.calls k1 (rdOf ByteArray.empty l0_1 x16_1) t371 _ ?side1 A23.out).mono ?_
    (case side1 => exact HLD.out.on (zl_ HB))
    rintro e w27 ⟨rfl,hb⟩
    refine ⟨_,rfl,?_⟩
    replace HO_14 := am_ (Kd.V_below (by (with_reducible repeat (first | apply Kd.V_alloc | apply Kd.V_drewN | apply Kd.V_drew));exact HO_14.out) hb)
    replace BK360 := zb BK360 hb
    replace HB := zs_ HB hb
    try clear hb
    refine hK.out _ _ ⟨(blk_cell BK360.out 0).trans rfl,(blk_cell BK360.out 1).trans rfl,(blk_cell BK360.out 2).trans rfl,(blk_cell BK360.out 3).trans rfl,(zx_ HB hw369_0),(zx_ HB hw370_0)⟩ (fun hHeld => ?_)
    clear hK K
    refine nm_ ?_
    refine pu_ 12 49 HT_ ?_
    refine pu_ 13 50 HT_ ?_
    refine pu_ 14 5 HT_ ?_
    refine done_ (done_of HT_.out (by kernel_rfl)) ?_
    try go_wp2
    go_roundg k1
    case measure => have := HK1.out;omega
    case rel => exact ⟨(x5_1 ++ ((rdOf ByteArray.empty l0_2 x16_1) ++ t371)),(wrap64 (x16_1 + 1)),(by first | rfl | (simp;done) | (simp [*];done)),(by first | rfl | (simp;done) | (simp [*];done)),H',⟨by have := HK1.out;omega⟩,⟨by (with_reducible repeat (first | apply Kd.V_alloc | apply Kd.V_drewN | apply Kd.V_drew));exact HO_14.out⟩,⟨by (with_reducible repeat (first | apply k1_ | apply k2_ | apply k3_));exact BK360.out⟩,⟨zl_ HB⟩⟩
   rw [if_pos c13] at H
   have c13b0 := beq_iff_eq.mpr c13
   have c13b1 := bne_eq_false_iff_eq.mpr c13
   clear c13
   by_cases c14 : x16_1 < (l0_1.length : Int)
   case neg =>
    rw [if_neg c14] at H
    exact absurd H (by simp)
   rw [if_pos c14] at H
   have c14b0 := decide_eq_true c14
   clear c14
   replace H := Option.bind_eq_some_iff.mp H
   obtain ⟨t367,A150,H⟩ := H
   try dsimp only at H
   have A15 := am_ A150
   clear A150
   by_cases c16 : x16_1 < (l0_2.length : Int)
   case neg =>
    rw [if_neg c16] at H
    exact absurd H (by simp)
   rw [if_pos c16] at H
   have c16b0 := decide_eq_true c16
   clear c16
   by_cases c17 : t367.size + (rdOf ByteArray.empty l0_2 x16_1).size ≤ 9223372036854775807
   case neg =>
    rw [if_neg c17] at H
    exact absurd H (by simp)
   rw [if_pos c17] at H
   have c17b0 := eq_true c17
   have c17b1 := decide_eq_true c17
   try have c17b2 : (9223372036854775807 < t367.size + (rdOf ByteArray.empty l0_2 x16_1).size) = False := eq_false (Nat.not_lt.2 c17)
   by_cases c18 : x5_1.size + (t367 ++ (rdOf ByteArray.empty l0_2 x16_1)).size ≤ 9223372036854775807
   case neg =>
    rw [if_neg c18] at H
    exact absurd H (by simp)
   rw [if_pos c18] at H
   have c18b0 := eq_true c18
   have c18b1 := decide_eq_true c18
   try have c18b2 : (9223372036854775807 < x5_1.size + (t367 ++ (rdOf ByteArray.empty l0_2 x16_1)).size) = False := eq_false (Nat.not_lt.2 c18)
   (try have c18b3 := c18b2;simp only [ByteArray.size_append] at c18b3)
   have H' := am_ H
   clear H
   have p365 : 0 ≤ (x16_1 : Int) := zo_
   have q365 : x16_1 < (y362.length : Int) := zo_
   obtain ⟨ad365,e365,hx365_0⟩ := Kd.at_int (Kd.V_reads' HO_14.out).2.2 x16_1 p365 q365
   cases e365
   replace p365 := eq_true p365
   replace q365 := eq_true q365
   try go_wp2
   replace HO_14 := am_ (Kd.V_drew HO_14.out)
   replace BK360 := am_ (blk_drew BK360.out)
   replace HB := am_ (below_drew1 HB.out)
   have p366 : 0 ≤ (x16_1 : Int) := zo_
   have q366 : x16_1 < (l0_1.length : Int) := zo_
   obtain ⟨ad366,e366,hx366_0⟩ := Kd.at_string HR0_1.out x16_1 p366 q366
   have hw366_0 := hx366_0
   cases e366
   replace hx366_0 := zx_ HB hx366_0
   replace p366 := eq_true p366
   replace q366 := eq_true q366
   have p368 : 0 ≤ (x16_1 : Int) := zo_
   have q368 : x16_1 < (l0_2.length : Int) := zo_
   obtain ⟨ad368,e368,hx368_0⟩ := Kd.at_string HR0_2.out x16_1 p368 q368
   have hw368_0 := hx368_0
   cases e368
   replace hx368_0 := zx_ HB hx368_0
   replace p368 := eq_true p368
   replace q368 := eq_true q368
   refine start_ (n := 15) (S := fun w' => w'.cell? ⟨gb360,0,none⟩ = some (.int .i64 a0_0) ∧ w'.cell? ⟨gb360,1,none⟩ = some (.slice (some ad366) l0_1.length c0_1) ∧ w'.cell? ⟨gb360,2,none⟩ = some (.slice (some ad368) l0_2.length c0_2) ∧ w'.cell? ⟨gb360,3,none⟩ = some (.slice A0_3 l0_3.length c0_3) ∧ w'.cell? (ad366.add (x16_1).toNat) = some (.string (rdOf ByteArray.empty l0_1 x16_1)) ∧ w'.cell? (ad368.add (x16_1).toNat) = some (.string (rdOf ByteArray.empty l0_2 x16_1))) (ds := []) #[false,false,false,false,false,false,false,false,false,false,false,false,false,false,false] (by kernel_rfl) rfl rfl ⟨(blk_cell BK360.out 0).trans rfl,(blk_cell BK360.out 1).trans rfl,(blk_cell BK360.out 2).trans rfl,(blk_cell BK360.out 3).trans rfl,(zx_ HB hw366_0),(zx_ HB hw368_0)⟩ (fun hHeld => ?_);refine with_tabW Zd.tab6 Zd.bits6 (fun HT_ HW_ => ?_)
   generalize wr.drew = w19 at HO_14 BK360 HB hx366_0 hx368_0 hHeld ⊢
   refine pu_ 0 23 HT_ ?_
   refine pu_ 1 24 HT_ ?_
   refine pu_ 3 26 HT_ ?_
   refine pu_ 7 30 HT_ ?_
   refine pu_ 9 32 HT_ ?_
   refine tk_ 2 25 HT_ HW_ hHeld ?_
   refine pu_ 4 27 HT_ ?_
   refine tk_ 5 28 HT_ HW_ hHeld ?_
   refine tk_ 8 31 HT_ HW_ hHeld ?_
   refine pu_ 10 33 HT_ ?_
   refine tk_ 11 34 HT_ HW_ hHeld ?_
   refine zon 6 (N := some 29) HT_ (fun K hK => ?_)
   refine zgo Tryd.func44 #[.string (rdOf ByteArray.empty l0_1 x16_1)] ?_
   with_reducible refine (ZD.calls k1 (rdOf ByteArray.empty l0_1 x16_1) t367 _ ?side1 A15.out).mono ?_
   (case side1 => exact HLD.out.on (zl_ HB))
   rintro e w20 ⟨rfl,hb⟩
   refine ⟨_,rfl,?_⟩
   replace HO_14 := am_ (Kd.V_below (by (with_reducible repeat (first | apply Kd.V_alloc | apply Kd.V_drewN | apply Kd.V_drew));exact HO_14.out) hb)
   replace BK360 := zb BK360 hb
   replace HB := zs_ HB hb
   try clear hb
   refine hK.out _ _ ⟨(blk_cell BK360.out 0).trans rfl,(blk_cell BK360.out 1).trans rfl,(blk_cell BK360.out 2).trans rfl,(blk_cell BK360.out 3).trans rfl,(zx_ HB hw366_0),(zx_ HB hw368_0)⟩ (fun hHeld => ?_)
   clear hK K
   refine nm_ ?_
   refine pu_ 12 35 HT_ ?_
   refine pu_ 13 36 HT_ ?_
   refine pu_ 14 5 HT_ ?_
   refine done_ (done_of HT_.out (by kernel_rfl)) ?_
   try go_wp2
   go_roundg k1
   case measure => have := HK1.out;omega
   case rel => exact ⟨(x5_1 ++ (t367 ++ (rdOf ByteArray.empty l0_2 x16_1))),(wrap64 (x16_1 + 1)),(by first | rfl | (simp;done) | (simp [*];done)),(by first | rfl | (simp;done) | (simp [*];done)),H',⟨by have := HK1.out;omega⟩,⟨by (with_reducible repeat (first | apply Kd.V_alloc | apply Kd.V_drewN | apply Kd.V_drew));exact HO_14.out⟩,⟨by (with_reducible repeat (first | apply k1_ | apply k2_ | apply k3_));exact BK360.out⟩,⟨zl_ HB⟩⟩
theorem Yo.calls (a0 : ByteArray) (r : Bool) (w : World) (h : Yo.f a0 = some r) :
  Calls Tryd.prog 50 #[.string a0] w fun e w' => e = .returned (.bool r) ∧ Drawn0 w w' := by
 have H : (some ((a0.size : Int) == 32)) = some r := h
 clear h
 obtain rfl := Option.some.inj H
 go_enter Tryd.func50,Tryd.ntmps50
 go_wp2
 go_ret
 exact ⟨by first | rfl | (simp;done) | (simp [*];done),by repeat (first | exact Drawn0.refl _ | apply Drawn0.step)⟩
theorem Ye.calls (a0 : ByteArray) (r : Bool) (w : World) (h : Ye.f a0 = some r) :
  Calls Tryd.prog 71 #[.string a0] w fun e w' => e = .returned (.bool r) ∧ Drawn0 w w' := by
 have H : ((Yo.f a0).bind fun t358 => (some (!t358))) = some r := h
 clear h
 replace H := Option.bind_eq_some_iff.mp H
 obtain ⟨t358,A20,H⟩ := H
 try dsimp only at H
 have A2 := am_ A20
 clear A20
 obtain rfl := Option.some.inj H
 go_enter Tryd.func71,Tryd.ntmps71
 go_wp2_with (first | ((with_reducible refine gate_callee (f := 50) rfl ?_);refine zgl (some 4) Tryd.func50 #[.string a0] ?_;(with_reducible refine (Yo.calls a0 t358 _ A2.out).mono ?_);rintro e w' ⟨rfl,⟨nd,rfl⟩⟩;refine ⟨_,rfl,?_⟩))
 go_ret
 exact ⟨by first | rfl | (simp;done) | (simp [*];done),by repeat (first | exact Drawn0.refl _ | apply Drawn0.step)⟩
theorem contains_impl_areHashes_1_pred (s : ByteArray) : Ye.f s = some ((Ye.f s).getD false) := rfl
set_option maxHeartbeats 2000000 in
theorem contains_impl_areHashes_1_ix (A0 : Option Addr) (c0 : Nat) (l0 : List ByteArray) (w : World) (hr0 : Kd.C Kd.string w A0 l0.length l0) :
  Calls Tryd.prog 79 #[.slice A0 l0.length c0,.func (.func 71) #[] #[]] w fun e w' => e = .returned (.int .i64 (Lib.idxBy (fun _ y => (Ye.f y).getD false) l0 default)) ∧ ∃ q,w' = w.drewN q := by
 have hlen : l0.length ≤ 9223372036854775807 := hr0.2.1
 have HR0 := am_ hr0
 clear hr0
 have hcl : ∀ (s : ByteArray) (W : World),Calls Tryd.prog 71 #[.string s] W fun e w' => e = .returned (.bool ((Ye.f s).getD false)) ∧ ∃ q,w' = W.drewN q := fun s W => (Ye.calls s _ W (contains_impl_areHashes_1_pred s)).mono fun e w' h => ⟨h.1,h.2.out⟩
 generalize hp : (fun s => (Ye.f s).getD false) = p at *
 have hp2 : ∀ s,(Ye.f s).getD false = p s := fun s => congrFun hp s
 simp only [hp2] at hcl ⊢
 clear hp hp2
 have HCL := am_ hcl
 clear hcl
 go_enter Tryd.func79,Tryd.ntmps79
 go_wp2
 go_loopg [5,8] l0.length (fun gg _ s8 wr => ∃ kk q : Nat,kk ≤ l0.length ∧ l0.length - kk ≤ gg ∧ s8 = .int .i64 kk ∧ wr = w.drewN q ∧ Aside0 (∀ j,j < kk → p l0[j]! = false))
 case atStart => exact ⟨0,0,Nat.zero_le _,by omega,rfl,rfl,⟨fun j hj => absurd hj (Nat.not_lt_zero _)⟩⟩
 case round =>
  obtain ⟨kk,q,hkk,hg,rfl,rfl,HA⟩ := hrel
  by_cases hlt : kk < l0.length
  case neg =>
   have hltz : ¬ (kk : Int) < (l0.length : Int) := by omega
   have hk : kk = l0.length := by omega
   subst hk
   go_wp2
   go_ret
   refine ⟨?_,_,rfl⟩
   have hh := Lib.idxBy_miss (fun _ y => p y) l0 l0.length default (fun j hj => HA.out j hj)
   rw [List.take_length] at hh
   rw [hh]
   rfl
  have hltz : (kk : Int) < (l0.length : Int) := by omega
  obtain ⟨ad,e0,hcell0⟩ := Kd.at_string HR0.out (kk : Int) (by omega) hltz
  subst e0
  have hcell : w.cell? (ad.add kk) = some (.string l0[kk]!) := by
   rw [Int.toNat_natCast] at hcell0
   rw [hcell0]
   simp [rdOf,List.getD,getElem!_def,List.getElem?_eq_getElem hlt]
  clear hcell0
  generalize hy : l0[kk]! = y at hcell
  have HB := am_ hy
  clear hy
  cases hq : p y with
  | true =>
   have hcall := fun W => HCL.out y W
   rw [hq] at hcall
   have HC2 := am_ hcall
   clear hcall
   go_wp2_with (go_at_call 71;refine (HC2.out _).mono ?_;rintro e w' ⟨rfl,q',rfl⟩)
   go_ret
   refine ⟨?_,_,rfl⟩
   have hh := Lib.idxBy_hit (fun _ y => p y) l0 l0.length kk default hlt (Nat.le_refl _) (by show p l0[kk]! = true;rw [HB.out];exact hq) HA.out
   rw [List.take_length] at hh
   rw [hh]
   rfl
  | false =>
   have hcall := fun W => HCL.out y W
   rw [hq] at hcall
   have HC2 := am_ hcall
   clear hcall
   go_wp2_with (go_at_call 71;refine (HC2.out _).mono ?_;rintro e w' ⟨rfl,q',rfl⟩)
   go_roundg (l0.length - (kk + 1))
   case measure => omega
   case rel =>
    refine ⟨kk + 1,_,by omega,by omega,by go_num,rfl,⟨fun j hj => ?_⟩⟩
    by_cases e : j = kk
    case neg =>
     exact HA.out j (by omega)
    subst e
    rw [HB.out];exact hq
theorem Yj.calls (A0 : Option Addr) (c0 : Nat) (l0 : List ByteArray) (r : Bool) (w : World) (hr0 : Kd.C Kd.string w A0 l0.length l0) (hc0 : l0.length ≤ c0) (h : Yj.f l0 = some r) :
  Calls Tryd.prog 69 #[.slice A0 l0.length c0,.func (.func 71) #[] #[]] w fun e w' => e = .returned (.bool r) ∧ Drawn0 w w' := by
 have hr : (decide (0 ≤ Lib.idxBy (fun _ y => (Ye.f y).getD false) l0 default)) = r := by
  rw [Lib.idxBy_nonneg_iff (fun _ y => (Ye.f y).getD false) l0 default]
  exact Option.some.inj h
 have hix := fun W (hW : Kd.C Kd.string W A0 l0.length l0) => contains_impl_areHashes_1_ix A0 c0 l0 W hW
 generalize Lib.idxBy (fun _ y => (Ye.f y).getD false) l0 default = i at hr hix
 subst hr
 have HR0 := am_ hr0
 have HIX := am_ hix
 clear hr0 hc0 h hix
 go_enter Tryd.func69,Tryd.ntmps69
 go_wp2_with (go_at_call 79;refine (HIX.out _ HR0.out).mono ?_;rintro e w' ⟨rfl,q,rfl⟩)
 go_ret
 exact ⟨rfl,⟨⟨_,rfl⟩⟩⟩
theorem Ya.calls (A0 : Option Addr) (c0 : Nat) (l0 : List ByteArray) (a1 : Int) (r : Bool) (w : World) (hr0 : Kd.C Kd.string w A0 l0.length l0) (hc0 : l0.length ≤ c0) (h : Ya.f l0 a1 = some r) :
  Calls Tryd.prog 51 #[.slice A0 l0.length c0,.int .i64 a1] w fun e w' => e = .returned (.bool r) ∧ Drawn0 w w' := by
 have HR0 := am_ hr0
 have HC0 := am_ hc0
 clear hr0 hc0
 have H : (if (l0.length : Int) = a1 then ((Yj.f l0).bind fun t359 => (some (!t359))) else (some false)) = some r := h
 clear h
 by_cases c3 : (l0.length : Int) = a1
 case neg =>
  rw [if_neg c3] at H
  have c3b0 := beq_eq_false_iff_ne.mpr c3
  have c3b1 := bne_iff_ne.mpr c3
  obtain rfl := Option.some.inj H
  go_enter Tryd.func51,Tryd.ntmps51
  go_wp2
  go_ret
  exact ⟨by first | rfl | (simp;done) | (simp [*];done),by repeat (first | exact Drawn0.refl _ | apply Drawn0.step)⟩
 rw [if_pos c3] at H
 have c3b0 := beq_iff_eq.mpr c3
 have c3b1 := bne_eq_false_iff_eq.mpr c3
 clear c3
 replace H := Option.bind_eq_some_iff.mp H
 obtain ⟨t359,A40,H⟩ := H
 try dsimp only at H
 have A4 := am_ A40
 clear A40
 obtain rfl := Option.some.inj H
 go_enter Tryd.func51,Tryd.ntmps51
 go_wp2_with (first | (go_at_call 69;(with_reducible refine (Yj.calls _ _ l0  t359 _ ?side1 ?side2 A4.out).mono ?_);(case side1 => repeat (first | exact HR0.out | (with_reducible refine Kd.C_alloc ?_ _) | (with_reducible refine Kd.C_drewN ?_ _) | (with_reducible refine Kd.C_drew ?_)));(case side2 => exact HC0.out);rintro e w' ⟨rfl,⟨nd,rfl⟩⟩))
 go_ret
 exact ⟨by first | rfl | (simp;done) | (simp [*];done),by repeat (first | exact Drawn0.refl _ | apply Drawn0.step)⟩
theorem Yl.calls (a0 : ByteArray) (r : Bool) (w : World) (h : Yl.f a0 = some r) :
  Calls Tryd.prog 70 #[.string a0] w fun e w' => e = .returned (.bool r) ∧ Drawn0 w w' := by
 have H : (some (decide ((a0.size : Int) > 65536))) = some r := h
 clear h
 obtain rfl := Option.some.inj H
 go_enter Tryd.func70,Tryd.ntmps70
 go_wp2
 go_ret
 exact ⟨by first | rfl | (simp;done) | (simp [*];done),by repeat (first | exact Drawn0.refl _ | apply Drawn0.step)⟩
theorem contains_impl_areLong_1_pred (s : ByteArray) : Yl.f s = some ((Yl.f s).getD false) := rfl
set_option maxHeartbeats 2000000 in
theorem contains_impl_areLong_1_ix (A0 : Option Addr) (c0 : Nat) (l0 : List ByteArray) (w : World) (hr0 : Kd.C Kd.string w A0 l0.length l0) :
  Calls Tryd.prog 79 #[.slice A0 l0.length c0,.func (.func 70) #[] #[]] w fun e w' => e = .returned (.int .i64 (Lib.idxBy (fun _ y => (Yl.f y).getD false) l0 default)) ∧ ∃ q,w' = w.drewN q := by
 have hlen : l0.length ≤ 9223372036854775807 := hr0.2.1
 have HR0 := am_ hr0
 clear hr0
 have hcl : ∀ (s : ByteArray) (W : World),Calls Tryd.prog 70 #[.string s] W fun e w' => e = .returned (.bool ((Yl.f s).getD false)) ∧ ∃ q,w' = W.drewN q := fun s W => (Yl.calls s _ W (contains_impl_areLong_1_pred s)).mono fun e w' h => ⟨h.1,h.2.out⟩
 generalize hp : (fun s => (Yl.f s).getD false) = p at *
 have hp2 : ∀ s,(Yl.f s).getD false = p s := fun s => congrFun hp s
 simp only [hp2] at hcl ⊢
 clear hp hp2
 have HCL := am_ hcl
 clear hcl
 go_enter Tryd.func79,Tryd.ntmps79
 go_wp2
 go_loopg [5,8] l0.length (fun gg _ s8 wr => ∃ kk q : Nat,kk ≤ l0.length ∧ l0.length - kk ≤ gg ∧ s8 = .int .i64 kk ∧ wr = w.drewN q ∧ Aside0 (∀ j,j < kk → p l0[j]! = false))
 case atStart => exact ⟨0,0,Nat.zero_le _,by omega,rfl,rfl,⟨fun j hj => absurd hj (Nat.not_lt_zero _)⟩⟩
 case round =>
  obtain ⟨kk,q,hkk,hg,rfl,rfl,HA⟩ := hrel
  by_cases hlt : kk < l0.length
  case neg =>
   have hltz : ¬ (kk : Int) < (l0.length : Int) := by omega
   have hk : kk = l0.length := by omega
   subst hk
   go_wp2
   go_ret
   refine ⟨?_,_,rfl⟩
   have hh := Lib.idxBy_miss (fun _ y => p y) l0 l0.length default (fun j hj => HA.out j hj)
   rw [List.take_length] at hh
   rw [hh]
   rfl
  have hltz : (kk : Int) < (l0.length : Int) := by omega
  obtain ⟨ad,e0,hcell0⟩ := Kd.at_string HR0.out (kk : Int) (by omega) hltz
  subst e0
  have hcell : w.cell? (ad.add kk) = some (.string l0[kk]!) := by
   rw [Int.toNat_natCast] at hcell0
   rw [hcell0]
   simp [rdOf,List.getD,getElem!_def,List.getElem?_eq_getElem hlt]
  clear hcell0
  generalize hy : l0[kk]! = y at hcell
  have HB := am_ hy
  clear hy
  cases hq : p y with
  | true =>
   have hcall := fun W => HCL.out y W
   rw [hq] at hcall
   have HC2 := am_ hcall
   clear hcall
   go_wp2_with (go_at_call 70;refine (HC2.out _).mono ?_;rintro e w' ⟨rfl,q',rfl⟩)
   go_ret
   refine ⟨?_,_,rfl⟩
   have hh := Lib.idxBy_hit (fun _ y => p y) l0 l0.length kk default hlt (Nat.le_refl _) (by show p l0[kk]! = true;rw [HB.out];exact hq) HA.out
   rw [List.take_length] at hh
   rw [hh]
   rfl
  | false =>
   have hcall := fun W => HCL.out y W
   rw [hq] at hcall
   have HC2 := am_ hcall
   clear hcall
   go_wp2_with (go_at_call 70;refine (HC2.out _).mono ?_;rintro e w' ⟨rfl,q',rfl⟩)
   go_roundg (l0.length - (kk + 1))
   case measure => omega
   case rel =>
    refine ⟨kk + 1,_,by omega,by omega,by go_num,rfl,⟨fun j hj => ?_⟩⟩
    by_cases e : j = kk
    case neg =>
     exact HA.out j (by omega)
    subst e
    rw [HB.out];exact hq
theorem Ym.calls (A0 : Option Addr) (c0 : Nat) (l0 : List ByteArray) (r : Bool) (w : World) (hr0 : Kd.C Kd.string w A0 l0.length l0) (hc0 : l0.length ≤ c0) (h : Ym.f l0 = some r) :
  Calls Tryd.prog 69 #[.slice A0 l0.length c0,.func (.func 70) #[] #[]] w fun e w' => e = .returned (.bool r) ∧ Drawn0 w w' := by
 have hr : (decide (0 ≤ Lib.idxBy (fun _ y => (Yl.f y).getD false) l0 default)) = r := by
  rw [Lib.idxBy_nonneg_iff (fun _ y => (Yl.f y).getD false) l0 default]
  exact Option.some.inj h
 have hix := fun W (hW : Kd.C Kd.string W A0 l0.length l0) => contains_impl_areLong_1_ix A0 c0 l0 W hW
 generalize Lib.idxBy (fun _ y => (Yl.f y).getD false) l0 default = i at hr hix
 subst hr
 have HR0 := am_ hr0
 have HIX := am_ hix
 clear hr0 hc0 h hix
 go_enter Tryd.func69,Tryd.ntmps69
 go_wp2_with (go_at_call 79;refine (HIX.out _ HR0.out).mono ?_;rintro e w' ⟨rfl,q,rfl⟩)
 go_ret
 exact ⟨rfl,⟨⟨_,rfl⟩⟩⟩
theorem Yq.calls (A0 : Option Addr) (c0 : Nat) (l0 : List ByteArray) (r : Bool) (w : World) (hr0 : Kd.C Kd.string w A0 l0.length l0) (hc0 : l0.length ≤ c0) (h : Yq.f l0 = some r) :
  Calls Tryd.prog 49 #[.slice A0 l0.length c0] w fun e w' => e = .returned (.bool r) ∧ Drawn0 w w' := by
 have HR0 := am_ hr0
 have HC0 := am_ hc0
 clear hr0 hc0
 have H : ((Ym.f l0).bind fun t357 => (some t357)) = some r := h
 clear h
 replace H := Option.bind_eq_some_iff.mp H
 obtain ⟨t357,A20,H⟩ := H
 try dsimp only at H
 have A2 := am_ A20
 clear A20
 obtain rfl := Option.some.inj H
 go_enter Tryd.func49,Tryd.ntmps49
 go_wp2_with (first | ((with_reducible refine gate_callee (f := 69) rfl ?_);refine zgl (some 4) Tryd.func69 #[.slice A0 l0.length c0,.func (.func 70) #[] #[]] ?_;(with_reducible refine (Ym.calls _ _ l0  t357 _ ?side1 ?side2 A2.out).mono ?_);(case side1 => repeat (first | exact HR0.out | (with_reducible refine Kd.C_alloc ?_ _) | (with_reducible refine Kd.C_drewN ?_ _) | (with_reducible refine Kd.C_drew ?_)));(case side2 => exact HC0.out);rintro e w' ⟨rfl,⟨nd,rfl⟩⟩;refine ⟨_,rfl,?_⟩))
 go_ret
 exact ⟨by first | rfl | (simp;done) | (simp [*];done),by repeat (first | exact Drawn0.refl _ | apply Drawn0.step)⟩
theorem ZH.calls (a0 : Int) (a1 : Int) (a2 : Int) (r : Bool) (w : World) (h : ZH.f a0 a1 a2 = some r) :
  Calls Tryd.prog 27 #[.int .i64 a0,.int .i64 a1,.int .i64 a2] w fun e w' => e = .returned (.bool r) ∧ Drawn0 w w' := by
 have H : (if a0 ≥ a1 then (some (decide (a0 ≤ a2))) else (some false)) = some r := h
 clear h
 by_cases c4 : a0 ≥ a1
 ·rw [if_pos c4] at H
  have c4b0 : decide (a1 ≤ a0) = true := decide_eq_true c4
  clear c4
  obtain rfl := Option.some.inj H
  go_enter Tryd.func27,Tryd.ntmps27
  go_wp2
  go_ret
  exact ⟨by first | rfl | (simp;done) | (simp [*];done),by repeat (first | exact Drawn0.refl _ | apply Drawn0.step)⟩
 rw [if_neg c4] at H
 have c4b0 : decide (a1 ≤ a0) = false := decide_eq_false c4
 clear c4
 obtain rfl := Option.some.inj H
 go_enter Tryd.func27,Tryd.ntmps27
 go_wp2
 go_ret
 exact ⟨by first | rfl | (simp;done) | (simp [*];done),by repeat (first | exact Drawn0.refl _ | apply Drawn0.step)⟩
theorem ZW.calls (a0 : Int) (r : Bool) (w : World) (h : ZW.f a0 = some r) :
  Calls Tryd.prog 19 #[.int .i64 a0] w fun e w' => e = .returned (.bool r) ∧ Drawn0 w w' := by
 have H : ((ZH.f a0 0 7).bind fun t159 => (some t159)) = some r := h
 clear h
 replace H := Option.bind_eq_some_iff.mp H
 obtain ⟨t159,A20,H⟩ := H
 try dsimp only at H
 have A2 := am_ A20
 clear A20
 obtain rfl := Option.some.inj H
 go_enter Tryd.func19,Tryd.ntmps19
 go_wp2_with (first | ((with_reducible refine gate_callee (f := 27) rfl ?_);refine zgl (some 4) Tryd.func27 #[.int .i64 a0,.int .i64 0,.int .i64 7] ?_;(with_reducible refine (ZH.calls a0 0 7 t159 _ A2.out).mono ?_);rintro e w' ⟨rfl,⟨nd,rfl⟩⟩;refine ⟨_,rfl,?_⟩))
 go_ret
 exact ⟨by first | rfl | (simp;done) | (simp [*];done),by repeat (first | exact Drawn0.refl _ | apply Drawn0.step)⟩
theorem Zi.calls (k : Nat) (a0 : ByteArray) (a1 : ByteArray) (a2_0 : Int) (A2_1 : Option Addr) (c2_1 : Nat) (l2_1 : List ByteArray) (A2_2 : Option Addr) (c2_2 : Nat) (l2_2 : List ByteArray) (A2_3 : Option Addr) (c2_3 : Nat) (l2_3 : List ByteArray) (r : Int) (w : World) (hr2_1 : Kd.C Kd.string w A2_1 l2_1.length l2_1) (hc2_1 : l2_1.length ≤ c2_1) (hr2_2 : Kd.C Kd.string w A2_2 l2_2.length l2_2) (hc2_2 : l2_2.length ≤ c2_2) (hr2_3 : Kd.C Kd.string w A2_3 l2_3.length l2_3) (hc2_3 : l2_3.length ≤ c2_3) (hL : Laid w) (h : Zi.f k a0 a1 a2_0 l2_1 l2_2 l2_3 = some r) :
  Calls Tryd.prog 25 #[.string a0,.string a1,.agg #[.int .i64 a2_0,.slice A2_1 l2_1.length c2_1,.slice A2_2 l2_2.length c2_2,.slice A2_3 l2_3.length c2_3]] w fun e w' => e = .returned (.int .i64 r) ∧ Below w.heap.size w w' := by
 have hu37 := Tryd.underlying37
 have HR2_1 := am_ hr2_1
 have HC2_1 := am_ hc2_1
 clear hr2_1 hc2_1
 have HR2_2 := am_ hr2_2
 have HC2_2 := am_ hc2_2
 clear hr2_2 hc2_2
 have HR2_3 := am_ hr2_3
 have HC2_3 := am_ hc2_3
 clear hr2_3 hc2_3
 have HLD := am_ hL
 clear hL
 have HB := am_ (Below.refl w.heap.size w)
 have H : ((Yq.f (([a0] : List ByteArray))).bind fun t380 => (if t380 = true then (Zi.j0 k a0 a1 true a2_0 l2_1 l2_2 l2_3) else (Zi.j0 k a0 a1 (decide ((a1.size : Int) > 65530)) a2_0 l2_1 l2_2 l2_3))) = some r := h
 clear h
 have HC4 := am_ H
 clear H
 go_enter Tryd.func25,Tryd.ntmps25
 go_upto_region 1 with (first | ((with_reducible refine gate_dst (N := 5) rfl ?_);(try (refine gate_guard (by rfl) ?_;dsimp only));refine zbx (N := 5) (cs := #[.int .i64 a2_0,.slice A2_1 l2_1.length c2_1,.slice A2_2 l2_2.length c2_2,.slice A2_3 l2_3.length c2_3]) (t := 37) ?_;intro gb376 hg w5 hbox hb;have BK376 := am_ (hbox);have GW376 := zw_ HB hg;have GE376 := zw_ HB hg;replace HB := zs_ HB hb;clear hb hbox hg))
 (try simp only [Act.put,p1_,p2_,p3_])
 go_cut [7] (fun v7 wc => ∃ (kq : Nat) (x7_3 : Bool),v7 = .bool x7_3 ∧ Aside0 (Zi.j0 kq a0 a1 x7_3 a2_0 l2_1 l2_2 l2_3 = some r) ∧ Aside0 (kq ≤ k) ∧ Aside0 (wc.heap[gb376]? = some (.cells #[.int .i64 a2_0,(.slice A2_1 l2_1.length c2_1),(.slice A2_2 l2_2.length c2_2),(.slice A2_3 l2_3.length c2_3)] 37 (0,0))) ∧ Aside0 (Below w.heap.size w wc))
 case first =>
  have H := HC4.out
  clear HC4
  obtain ⟨y377,hy377⟩ : ∃ y_ : List ByteArray,y_ = (([a0] : List ByteArray)) := ⟨_,rfl⟩
  replace H : ((Yq.f y377).bind fun t380 => (if t380 = true then (Zi.j0 k a0 a1 true a2_0 l2_1 l2_2 l2_3) else (Zi.j0 k a0 a1 (decide ((a1.size : Int) > 65530)) a2_0 l2_1 l2_2 l2_3))) = some r := by first | (rw [hy377];with_reducible exact H) | (have H2_ := (Option.bind_some _ _).symm.trans H;rw [hy377];with_reducible exact H2_) | (have H2_ := (Option.bind_some _ _).symm.trans H;with_reducible exact H2_) | with_reducible exact H | (rw [hy377];exact H) | exact H
  have Ny377 := am_ hy377
  clear hy377
  replace H := Option.bind_eq_some_iff.mp H
  obtain ⟨t380,A60,H⟩ := H
  try dsimp only at H
  have A6 := am_ A60
  clear A60
  by_cases c7 : t380 = true
  ·subst c7
   rw [if_pos rfl] at H
   have H' := am_ H
   clear H
   go_wp2_with (first | ((with_reducible refine gate_dst (N := 9) rfl ?_);(try (refine gate_guard (by rfl) ?_;dsimp only));refine Kd.R_lit Kd.string _ 9 ?hg (N := 9) ?hd (xs := ([a0] : List ByteArray)) (inner := [.string a0]) (ok := fun _ => True) (okp := fun _ => True) ?hr ?hp (fun _ hk => hk) trivial (Below.refl _ _) (Nat.le_refl _) (by simp) ?_;(case hd => rfl);(case hg => rfl);(case hr => first | (go_simp;done) | (go_simp;rfl));(case hp => exact (Reps.one (show Kd.M Kd.string _ _ _ a0 [.string a0] from rfl) (Reps.none _ _)));intro v378 w8 ho9 hb hg_ hnew_;clear hg_ hnew_;(first | rw [← Ny377.out] at ho9 | (simp only [Int.reduceToNat] at ho9;rw [← Ny377.out] at ho9));have HO379 := am_ (Kd.R_lower ho9 (below_size (zl_ HB)));replace BK376 := zb BK376 hb;replace HB := zs_ HB hb;clear hb ho9;obtain ⟨Ao10,co10,eo10⟩ := Kd.R_slice HO379.out;subst eo10) | ((with_reducible refine gate_callee (f := 49) rfl ?_);refine zgl (some 10) Tryd.func49 #[.slice Ao10 y377.length co10] ?_;(with_reducible refine (Yq.calls _ _ y377 true _ ?side1 ?side2 A6.out).mono ?_);(case side1 => repeat (first | exact (Kd.R_reads' HO379.out).2.2 | (with_reducible refine Kd.C_alloc ?_ _) | (with_reducible refine Kd.C_drewN ?_ _) | (with_reducible refine Kd.C_drew ?_)));(case side2 => exact (Kd.R_reads' HO379.out).2.1);rintro e w' ⟨rfl,⟨nd,rfl⟩⟩;refine ⟨_,rfl,?_⟩))
   go_meet
   case rel => exact ⟨_,(true),(by first | rfl | (simp;done) | (simp [*];done)),H',⟨by first | omega | exact Nat.le_refl _⟩,⟨by (with_reducible repeat (first | apply k1_ | apply k2_ | apply k3_));exact BK376.out⟩,⟨zl_ HB⟩⟩
  replace c7 := Bool.eq_false_iff.mpr c7
  subst c7
  rw [if_neg (show ¬ (false = true) by decide)] at H
  have H' := am_ H
  clear H
  go_wp2_with (first | ((with_reducible refine gate_dst (N := 9) rfl ?_);(try (refine gate_guard (by rfl) ?_;dsimp only));refine Kd.R_lit Kd.string _ 9 ?hg (N := 9) ?hd (xs := ([a0] : List ByteArray)) (inner := [.string a0]) (ok := fun _ => True) (okp := fun _ => True) ?hr ?hp (fun _ hk => hk) trivial (Below.refl _ _) (Nat.le_refl _) (by simp) ?_;(case hd => rfl);(case hg => rfl);(case hr => first | (go_simp;done) | (go_simp;rfl));(case hp => exact (Reps.one (show Kd.M Kd.string _ _ _ a0 [.string a0] from rfl) (Reps.none _ _)));intro v378 w11 ho12 hb hg_ hnew_;clear hg_ hnew_;(first | rw [← Ny377.out] at ho12 | (simp only [Int.reduceToNat] at ho12;rw [← Ny377.out] at ho12));have HO379 := am_ (Kd.R_lower ho12 (below_size (zl_ HB)));replace BK376 := zb BK376 hb;replace HB := zs_ HB hb;clear hb ho12;obtain ⟨Ao13,co13,eo13⟩ := Kd.R_slice HO379.out;subst eo13) | ((with_reducible refine gate_callee (f := 49) rfl ?_);refine zgl (some 10) Tryd.func49 #[.slice Ao13 y377.length co13] ?_;(with_reducible refine (Yq.calls _ _ y377 false _ ?side1 ?side2 A6.out).mono ?_);(case side1 => repeat (first | exact (Kd.R_reads' HO379.out).2.2 | (with_reducible refine Kd.C_alloc ?_ _) | (with_reducible refine Kd.C_drewN ?_ _) | (with_reducible refine Kd.C_drew ?_)));(case side2 => exact (Kd.R_reads' HO379.out).2.1);rintro e w' ⟨rfl,⟨nd,rfl⟩⟩;refine ⟨_,rfl,?_⟩))
  go_meet
  case rel => exact ⟨_,(decide ((a1.size : Int) > 65530)),(by first | rfl | (simp;done) | (simp [*];done)),H',⟨by first | omega | exact Nat.le_refl _⟩,⟨by (with_reducible repeat (first | apply k1_ | apply k2_ | apply k3_));exact BK376.out⟩,⟨zl_ HB⟩⟩
 case rest =>
  clear HC4
  try clear c2
  try clear p2
  try clear c4
  try clear c7
  obtain ⟨kq,x7_3,rfl,HA,HJ3,BK376,HB⟩ := hcut
  cases kq with
  | zero => exact absurd HA.out (by simp [Zi.j0])
  | succ kj3 =>
   have H := HA.out
   clear HA
   simp only [Zi.j0] at H
   by_cases c14 : x7_3 = true
   ·subst c14
    rw [if_pos rfl] at H
    obtain rfl := Option.some.inj H
    go_wp2
    go_ret
    exact ⟨zt_,zl_ HB⟩
   replace c14 := Bool.eq_false_iff.mpr c14
   subst c14
   rw [if_neg (show ¬ (false = true) by decide)] at H
   have HC15 := am_ H
   clear H
   go_upto_region 3 with (fail)
   go_cut [16] (fun v16 wc => ∃ (kq : Nat) (x16_14 : Bool),v16 = .bool x16_14 ∧ Aside0 (Zi.j1 kq a0 a1 x16_14 a2_0 l2_1 l2_2 l2_3 = some r) ∧ Aside0 (kq ≤ kj3) ∧ Aside0 (wc.heap[gb376]? = some (.cells #[.int .i64 a2_0,(.slice A2_1 l2_1.length c2_1),(.slice A2_2 l2_2.length c2_2),(.slice A2_3 l2_3.length c2_3)] 37 (0,0))) ∧ Aside0 (Below w.heap.size w wc))
   case first =>
    have H := HC15.out
    clear HC15
    replace H := Option.bind_eq_some_iff.mp H
    obtain ⟨t381,A160,H⟩ := H
    try dsimp only at H
    have A16 := am_ A160
    clear A160
    by_cases c17 : t381 = true
    case neg =>
     replace c17 := Bool.eq_false_iff.mpr c17
     subst c17
     rw [if_neg (show ¬ (false = true) by decide)] at H
     have H' := am_ H
     clear H
     go_wp2_with (first | ((with_reducible refine gate_callee (f := 50) rfl ?_);refine zgl (some 18) Tryd.func50 #[.string a0] ?_;(with_reducible refine (Yo.calls a0 false _ A16.out).mono ?_);rintro e w' ⟨rfl,⟨nd,rfl⟩⟩;refine ⟨_,rfl,?_⟩))
     go_meet
     case rel => exact ⟨_,(true),(by first | rfl | (simp;done) | (simp [*];done)),H',⟨by have := HJ3.out;first | omega | exact Nat.le_refl _⟩,⟨by (with_reducible repeat (first | apply k1_ | apply k2_ | apply k3_));exact BK376.out⟩,⟨zl_ HB⟩⟩
    subst c17
    rw [if_pos rfl] at H
    replace H := Option.bind_eq_some_iff.mp H
    obtain ⟨t382,A180,H⟩ := H
    try dsimp only at H
    have A18 := am_ A180
    clear A180
    by_cases c19 : t382 = true
    case neg =>
     replace c19 := Bool.eq_false_iff.mpr c19
     subst c19
     rw [if_neg (show ¬ (false = true) by decide)] at H
     have H' := am_ H
     clear H
     go_wp2_with (first | ((with_reducible refine gate_callee (f := 50) rfl ?_);refine zgl (some 18) Tryd.func50 #[.string a0] ?_;(with_reducible refine (Yo.calls a0 true _ A16.out).mono ?_);rintro e w' ⟨rfl,⟨nd,rfl⟩⟩;refine ⟨_,rfl,?_⟩;obtain ⟨hcz25_0,hcz25_1,hcz25_2,hcz25_3,hfz25_0,hfz25_1,hfz25_2,hfz25_3⟩ := zc4 BK376) | (go_at_call 51;(with_reducible refine (Ya.calls _ _ l2_1 32 false _ ?side1 ?side2 A18.out).mono ?_);(case side1 => repeat (first | exact (Kd.C_below HR2_1.out (zl_ HB)) | (with_reducible refine Kd.C_alloc ?_ _) | (with_reducible refine Kd.C_drewN ?_ _) | (with_reducible refine Kd.C_drew ?_)));(case side2 => exact HC2_1.out);rintro e w' ⟨rfl,⟨nd,rfl⟩⟩))
     go_meet
     case rel => exact ⟨_,(true),(by first | rfl | (simp;done) | (simp [*];done)),H',⟨by have := HJ3.out;first | omega | exact Nat.le_refl _⟩,⟨by (with_reducible repeat (first | apply k1_ | apply k2_ | apply k3_));exact BK376.out⟩,⟨zl_ HB⟩⟩
    subst c19
    rw [if_pos rfl] at H
    replace H := Option.bind_eq_some_iff.mp H
    obtain ⟨t383,A200,H⟩ := H
    try dsimp only at H
    have A20 := am_ A200
    clear A200
    by_cases c21 : t383 = true
    case neg =>
     replace c21 := Bool.eq_false_iff.mpr c21
     subst c21
     rw [if_neg (show ¬ (false = true) by decide)] at H
     have H' := am_ H
     clear H
     go_wp2_with (first | ((with_reducible refine gate_callee (f := 50) rfl ?_);refine zgl (some 18) Tryd.func50 #[.string a0] ?_;(with_reducible refine (Yo.calls a0 true _ A16.out).mono ?_);rintro e w' ⟨rfl,⟨nd,rfl⟩⟩;refine ⟨_,rfl,?_⟩;obtain ⟨hcz24_0,hcz24_1,hcz24_2,hcz24_3,hfz24_0,hfz24_1,hfz24_2,hfz24_3⟩ := zc4 BK376) | (go_at_call 51;(with_reducible refine (Ya.calls _ _ l2_1 32 true _ ?side1 ?side2 A18.out).mono ?_);(case side1 => repeat (first | exact (Kd.C_below HR2_1.out (zl_ HB)) | (with_reducible refine Kd.C_alloc ?_ _) | (with_reducible refine Kd.C_drewN ?_ _) | (with_reducible refine Kd.C_drew ?_)));(case side2 => exact HC2_1.out);rintro e w' ⟨rfl,⟨nd,rfl⟩⟩) | (go_at_call 51;(with_reducible refine (Ya.calls _ _ l2_2 32 false _ ?side1 ?side2 A20.out).mono ?_);(case side1 => repeat (first | exact (Kd.C_below HR2_2.out (zl_ HB)) | (with_reducible refine Kd.C_alloc ?_ _) | (with_reducible refine Kd.C_drewN ?_ _) | (with_reducible refine Kd.C_drew ?_)));(case side2 => exact HC2_2.out);rintro e w' ⟨rfl,⟨nd,rfl⟩⟩))
     go_meet
     case rel => exact ⟨_,(true),(by first | rfl | (simp;done) | (simp [*];done)),H',⟨by have := HJ3.out;first | omega | exact Nat.le_refl _⟩,⟨by (with_reducible repeat (first | apply k1_ | apply k2_ | apply k3_));exact BK376.out⟩,⟨zl_ HB⟩⟩
    subst c21
    rw [if_pos rfl] at H
    replace H := Option.bind_eq_some_iff.mp H
    obtain ⟨t384,A220,H⟩ := H
    try dsimp only at H
    have A22 := am_ A220
    clear A220
    have H' := am_ H
    clear H
    go_wp2_with (first | ((with_reducible refine gate_callee (f := 50) rfl ?_);refine zgl (some 18) Tryd.func50 #[.string a0] ?_;(with_reducible refine (Yo.calls a0 true _ A16.out).mono ?_);rintro e w' ⟨rfl,⟨nd,rfl⟩⟩;refine ⟨_,rfl,?_⟩;obtain ⟨hcz23_0,hcz23_1,hcz23_2,hcz23_3,hfz23_0,hfz23_1,hfz23_2,hfz23_3⟩ := zc4 BK376) | (go_at_call 51;(with_reducible refine (Ya.calls _ _ l2_1 32 true _ ?side1 ?side2 A18.out).mono ?_);(case side1 => repeat (first | exact (Kd.C_below HR2_1.out (zl_ HB)) | (with_reducible refine Kd.C_alloc ?_ _) | (with_reducible refine Kd.C_drewN ?_ _) | (with_reducible refine Kd.C_drew ?_)));(case side2 => exact HC2_1.out);rintro e w' ⟨rfl,⟨nd,rfl⟩⟩) | (go_at_call 51;(with_reducible refine (Ya.calls _ _ l2_2 32 true _ ?side1 ?side2 A20.out).mono ?_);(case side1 => repeat (first | exact (Kd.C_below HR2_2.out (zl_ HB)) | (with_reducible refine Kd.C_alloc ?_ _) | (with_reducible refine Kd.C_drewN ?_ _) | (with_reducible refine Kd.C_drew ?_)));(case side2 => exact HC2_2.out);rintro e w' ⟨rfl,⟨nd,rfl⟩⟩) | (go_at_call 51;(with_reducible refine (Ya.calls _ _ l2_3 3 t384 _ ?side1 ?side2 A22.out).mono ?_);(case side1 => repeat (first | exact (Kd.C_below HR2_3.out (zl_ HB)) | (with_reducible refine Kd.C_alloc ?_ _) | (with_reducible refine Kd.C_drewN ?_ _) | (with_reducible refine Kd.C_drew ?_)));(case side2 => exact HC2_3.out);rintro e w' ⟨rfl,⟨nd,rfl⟩⟩))
    go_meet
    case rel => exact ⟨_,(!t384),(by first | rfl | (simp;done) | (simp [*];done)),H',⟨by have := HJ3.out;first | omega | exact Nat.le_refl _⟩,⟨by (with_reducible repeat (first | apply k1_ | apply k2_ | apply k3_));exact BK376.out⟩,⟨zl_ HB⟩⟩
   case rest =>
    clear HC15
    try clear c1
    try clear c2
    try clear p2
    try clear c4
    try clear c5
    try clear c7
    try clear c14
    try clear c17
    try clear c19
    try clear c21
    try clear c25
    try clear hcz23_0
    try clear hcz23_1
    try clear hcz23_2
    try clear hcz23_3
    try clear hcz24_0
    try clear hcz24_1
    try clear hcz24_2
    try clear hcz24_3
    try clear hcz25_0
    try clear hcz25_1
    try clear hcz25_2
    try clear hcz25_3
    try clear hfz23_0
    try clear hfz23_1
    try clear hfz23_2
    try clear hfz23_3
    try clear hfz24_0
    try clear hfz24_1
    try clear hfz24_2
    try clear hfz24_3
    try clear hfz25_0
    try clear hfz25_1
    try clear hfz25_2
    try clear hfz25_3
    try clear p2
    obtain ⟨kq,x16_14,rfl,HA,HJ14,BK376,HB⟩ := hcut
    cases kq with
    | zero => exact absurd HA.out (by simp [Zi.j1])
    | succ kj14 =>
     have H := HA.out
     clear HA
     simp only [Zi.j1] at H
     by_cases c26 : x16_14 = true
     ·subst c26
      rw [if_pos rfl] at H
      obtain rfl := Option.some.inj H
      go_wp2
      go_ret
      exact ⟨zt_,zl_ HB⟩
     replace c26 := Bool.eq_false_iff.mpr c26
     subst c26
     rw [if_neg (show ¬ (false = true) by decide)] at H
     replace H := Option.bind_eq_some_iff.mp H
     obtain ⟨t385,A270,H⟩ := H
     try dsimp only at H
     have A27 := am_ A270
     clear A270
     by_cases c28 : t385 = true
     case neg =>
      replace c28 := Bool.eq_false_iff.mpr c28
      subst c28
      rw [if_neg (show ¬ (false = true) by decide)] at H
      obtain rfl := Option.some.inj H
      obtain ⟨hcz35_0,hcz35_1,hcz35_2,hcz35_3,hfz35_0,hfz35_1,hfz35_2,hfz35_3⟩ := zc4 BK376
      go_wp2_with (first | ((with_reducible refine gate_callee (f := 19) rfl ?_);refine zgl (some 41) Tryd.func19 #[.int .i64 a2_0] ?_;(with_reducible refine (ZW.calls a2_0 false _ A27.out).mono ?_);rintro e w' ⟨rfl,⟨nd,rfl⟩⟩;refine ⟨_,rfl,?_⟩))
      go_ret
      exact ⟨zt_,zl_ HB⟩
     subst c28
     rw [if_pos rfl] at H
     replace H := Option.bind_eq_some_iff.mp H
     obtain ⟨t386,A290,H⟩ := H
     try dsimp only at H
     have A29 := am_ A290
     clear A290
     by_cases c30 : t386.toList = a0.toList
     case neg =>
      rw [if_neg c30] at H
      have c30b0 := beq_eq_false_iff_ne.mpr c30
      have c30b1 := bne_iff_ne.mpr c30
      obtain rfl := Option.some.inj H
      obtain ⟨hcz33_0,hcz33_1,hcz33_2,hcz33_3,hfz33_0,hfz33_1,hfz33_2,hfz33_3⟩ := zc4 BK376
      go_wp2_with (first | ((with_reducible refine gate_callee (f := 19) rfl ?_);refine zgl (some 41) Tryd.func19 #[.int .i64 a2_0] ?_;(with_reducible refine (ZW.calls a2_0 true _ A27.out).mono ?_);rintro e w' ⟨rfl,⟨nd,rfl⟩⟩;refine ⟨_,rfl,?_⟩) | ((with_reducible refine gate_callee (f := 52) rfl ?_);refine zgl (some 46) Tryd.func52 #[.agg #[.int .i64 a2_0,.slice A2_1 l2_1.length c2_1,.slice A2_2 l2_2.length c2_2,.slice A2_3 l2_3.length c2_3],.string a1] ?_;(with_reducible refine (Zd.calls kj14 a2_0 _ _ l2_1 _ _ l2_2 _ _ l2_3 a1 t386 _ ?side1 ?side2 ?side3 ?side4 ?side5 ?side6 ?side7 A29.out).mono ?_);(case side1 => repeat (first | exact (Kd.C_below HR2_1.out (zl_ HB)) | (with_reducible refine Kd.C_alloc ?_ _) | (with_reducible refine Kd.C_drewN ?_ _) | (with_reducible refine Kd.C_drew ?_)));(case side2 => exact HC2_1.out);(case side3 => repeat (first | exact (Kd.C_below HR2_2.out (zl_ HB)) | (with_reducible refine Kd.C_alloc ?_ _) | (with_reducible refine Kd.C_drewN ?_ _) | (with_reducible refine Kd.C_drew ?_)));(case side4 => exact HC2_2.out);(case side5 => repeat (first | exact (Kd.C_below HR2_3.out (zl_ HB)) | (with_reducible refine Kd.C_alloc ?_ _) | (with_reducible refine Kd.C_drewN ?_ _) | (with_reducible refine Kd.C_drew ?_)));(case side6 => exact HC2_3.out);(case side7 => exact HLD.out.on (zl_ HB));rintro e w34 ⟨rfl,hb⟩;refine ⟨_,rfl,?_⟩;replace HB := zs_ HB hb;(try clear hb)))
      go_ret
      exact ⟨zt_,zl_ HB⟩
     rw [if_pos c30] at H
     have c30b0 := beq_iff_eq.mpr c30
     have c30b1 := bne_eq_false_iff_eq.mpr c30
     clear c30
     obtain rfl := Option.some.inj H
     obtain ⟨hcz31_0,hcz31_1,hcz31_2,hcz31_3,hfz31_0,hfz31_1,hfz31_2,hfz31_3⟩ := zc4 BK376
     go_wp2_with (first | ((with_reducible refine gate_callee (f := 19) rfl ?_);refine zgl (some 41) Tryd.func19 #[.int .i64 a2_0] ?_;(with_reducible refine (ZW.calls a2_0 true _ A27.out).mono ?_);rintro e w' ⟨rfl,⟨nd,rfl⟩⟩;refine ⟨_,rfl,?_⟩) | ((with_reducible refine gate_callee (f := 52) rfl ?_);refine zgl (some 46) Tryd.func52 #[.agg #[.int .i64 a2_0,.slice A2_1 l2_1.length c2_1,.slice A2_2 l2_2.length c2_2,.slice A2_3 l2_3.length c2_3],.string a1] ?_;(with_reducible refine (Zd.calls kj14 a2_0 _ _ l2_1 _ _ l2_2 _ _ l2_3 a1 t386 _ ?side1 ?side2 ?side3 ?side4 ?side5 ?side6 ?side7 A29.out).mono ?_);(case side1 => repeat (first | exact (Kd.C_below HR2_1.out (zl_ HB)) | (with_reducible refine Kd.C_alloc ?_ _) | (with_reducible refine Kd.C_drewN ?_ _) | (with_reducible refine Kd.C_drew ?_)));(case side2 => exact HC2_1.out);(case side3 => repeat (first | exact (Kd.C_below HR2_2.out (zl_ HB)) | (with_reducible refine Kd.C_alloc ?_ _) | (with_reducible refine Kd.C_drewN ?_ _) | (with_reducible refine Kd.C_drew ?_)));(case side4 => exact HC2_2.out);(case side5 => repeat (first | exact (Kd.C_below HR2_3.out (zl_ HB)) | (with_reducible refine Kd.C_alloc ?_ _) | (with_reducible refine Kd.C_drewN ?_ _) | (with_reducible refine Kd.C_drew ?_)));(case side6 => exact HC2_3.out);(case side7 => exact HLD.out.on (zl_ HB));rintro e w32 ⟨rfl,hb⟩;refine ⟨_,rfl,?_⟩;replace BK376 := zb BK376 hb;replace HB := zs_ HB hb;(try clear hb)))
     go_ret
     exact ⟨zt_,zl_ HB⟩
theorem Yh.calls (a0 : Int) (r : Bool) (w : World) (h : Yh.f a0 = some r) :
  Calls Tryd.prog 76 #[.int .u8 a0] w fun e w' => e = .returned (.bool r) ∧ Drawn0 w w' := by
 have H : (if a0 ≥ 97 then (if a0 ≤ 122 then (some true) else (if a0 ≥ 65 then (if a0 ≤ 90 then (some true) else (some (a0 == 95))) else (some (a0 == 95)))) else (if a0 ≥ 65 then (if a0 ≤ 90 then (some true) else (some (a0 == 95))) else (some (a0 == 95)))) = some r := h
 clear h
 by_cases c2 : a0 ≥ 97
 case neg =>
  rw [if_neg c2] at H
  have c2b0 : decide (97 ≤ a0) = false := decide_eq_false c2
  clear c2
  by_cases c6 : a0 ≥ 65
  case neg =>
   rw [if_neg c6] at H
   have c6b0 : decide (65 ≤ a0) = false := decide_eq_false c6
   clear c6
   obtain rfl := Option.some.inj H
   go_enter Tryd.func76,Tryd.ntmps76
   go_wp2
   go_ret
   exact ⟨by first | rfl | (simp;done) | (simp [*];done),by repeat (first | exact Drawn0.refl _ | apply Drawn0.step)⟩
  rw [if_pos c6] at H
  have c6b0 : decide (65 ≤ a0) = true := decide_eq_true c6
  clear c6
  by_cases c7 : a0 ≤ 90
  ·rw [if_pos c7] at H
   have c7b0 := decide_eq_true c7
   clear c7
   obtain rfl := Option.some.inj H
   go_enter Tryd.func76,Tryd.ntmps76
   go_wp2
   go_ret
   exact ⟨by first | rfl | (simp;done) | (simp [*];done),by repeat (first | exact Drawn0.refl _ | apply Drawn0.step)⟩
  rw [if_neg c7] at H
  have c7b0 := decide_eq_false c7
  clear c7
  obtain rfl := Option.some.inj H
  go_enter Tryd.func76,Tryd.ntmps76
  go_wp2
  go_ret
  exact ⟨by first | rfl | (simp;done) | (simp [*];done),by repeat (first | exact Drawn0.refl _ | apply Drawn0.step)⟩
 rw [if_pos c2] at H
 have c2b0 : decide (97 ≤ a0) = true := decide_eq_true c2
 clear c2
 by_cases c3 : a0 ≤ 122
 ·rw [if_pos c3] at H
  have c3b0 := decide_eq_true c3
  clear c3
  obtain rfl := Option.some.inj H
  go_enter Tryd.func76,Tryd.ntmps76
  go_wp2
  go_ret
  exact ⟨by first | rfl | (simp;done) | (simp [*];done),by repeat (first | exact Drawn0.refl _ | apply Drawn0.step)⟩
 rw [if_neg c3] at H
 have c3b0 := decide_eq_false c3
 clear c3
 by_cases c4 : a0 ≥ 65
 case neg =>
  rw [if_neg c4] at H
  have c4b0 : decide (65 ≤ a0) = false := decide_eq_false c4
  clear c4
  obtain rfl := Option.some.inj H
  go_enter Tryd.func76,Tryd.ntmps76
  go_wp2
  go_ret
  exact ⟨by first | rfl | (simp;done) | (simp [*];done),by repeat (first | exact Drawn0.refl _ | apply Drawn0.step)⟩
 rw [if_pos c4] at H
 have c4b0 : decide (65 ≤ a0) = true := decide_eq_true c4
 clear c4
 by_cases c5 : a0 ≤ 90
 ·rw [if_pos c5] at H
  have c5b0 := decide_eq_true c5
  clear c5
  obtain rfl := Option.some.inj H
  go_enter Tryd.func76,Tryd.ntmps76
  go_wp2
  go_ret
  exact ⟨by first | rfl | (simp;done) | (simp [*];done),by repeat (first | exact Drawn0.refl _ | apply Drawn0.step)⟩
 rw [if_neg c5] at H
 have c5b0 := decide_eq_false c5
 clear c5
 obtain rfl := Option.some.inj H
 go_enter Tryd.func76,Tryd.ntmps76
 go_wp2
 go_ret
 exact ⟨by first | rfl | (simp;done) | (simp [*];done),by repeat (first | exact Drawn0.refl _ | apply Drawn0.step)⟩
theorem Zo.calls (k : Nat) (a0 : ByteArray) (r : Bool) (w : World) (h : Zo.f k a0 = some r) :
  Calls Tryd.prog 63 #[.string a0] w fun e w' => e = .returned (.bool r) ∧ Drawn0 w w' := by
 have H : (if (a0.size : Int) < 1 then (Zo.j0 k a0 true) else (if (a0.size : Int) > 40 then (Zo.j0 k a0 true) else (if 0 < (a0.size : Int) then ((Yh.f (bt a0 0)).bind fun t149 => (Zo.j0 k a0 (!t149))) else (none)))) = some r := h
 clear h
 have HC2 := am_ H
 clear H
 go_enter Tryd.func63,Tryd.ntmps63
 go_upto_region 1 with (fail)
 go_cut [17] (fun v17 wc => ∃ (kq : Nat) (x17_1 : Bool),v17 = .bool x17_1 ∧ Aside0 (Zo.j0 kq a0 x17_1 = some r) ∧ Aside0 (kq ≤ k) ∧ Drawn0 w wc)
 case first =>
  have H := HC2.out
  clear HC2
  by_cases c3 : (a0.size : Int) < 1
  ·rw [if_pos c3] at H
   have c3b0 := decide_eq_true c3
   have c3b1 : decide (a0.size < 1) = true := decide_eq_true (by omega)
   clear c3
   (first | rw [c3b0] | (simp only [i64_w,i32_w];rw [c3b0]) | skip)
   have H' := am_ H
   clear H
   go_wp2
   go_meet
   case rel => exact ⟨_,(true),(by first | rfl | (simp;done) | (simp [*];done)),H',⟨by first | omega | exact Nat.le_refl _⟩,by repeat (first | exact Drawn0.refl _ | apply Drawn0.step)⟩
  rw [if_neg c3] at H
  have c3b0 := decide_eq_false c3
  have c3b1 : decide (a0.size < 1) = false := decide_eq_false (by omega)
  clear c3
  (first | rw [c3b0] | (simp only [i64_w,i32_w];rw [c3b0]) | skip)
  by_cases c4 : (a0.size : Int) > 40
  ·rw [if_pos c4] at H
   have c4b0 : decide (40 < (a0.size : Int)) = true := decide_eq_true c4
   have c4b1 : decide (40 < a0.size) = true := decide_eq_true (by omega)
   clear c4
   have H' := am_ H
   clear H
   go_wp2
   go_meet
   case rel => exact ⟨_,(true),(by first | rfl | (simp;done) | (simp [*];done)),H',⟨by first | omega | exact Nat.le_refl _⟩,by repeat (first | exact Drawn0.refl _ | apply Drawn0.step)⟩
  rw [if_neg c4] at H
  have c4b0 : decide (40 < (a0.size : Int)) = false := decide_eq_false c4
  have c4b1 : decide (40 < a0.size) = false := decide_eq_false (by omega)
  clear c4
  by_cases c5 : 0 < (a0.size : Int)
  case neg =>
   rw [if_neg c5] at H
   exact absurd H (by simp)
  rw [if_pos c5] at H
  have c5b0 := decide_eq_true c5
  have c5b1 : decide (0 < a0.size) = true := decide_eq_true (by omega)
  clear c5
  replace H := Option.bind_eq_some_iff.mp H
  obtain ⟨t149,A70,H⟩ := H
  try dsimp only at H
  have A7 := am_ A70
  clear A70
  have H' := am_ H
  clear H
  have p6 : 0 ≤ (0 : Int) := (by omega)
  have q6 : 0 < a0.size := (by have : (0 : Int) < (a0.size : Int) := zo_;omega)
  have hx6 : ∀ h : 0 < a0.size,((a0[0]'h).toNat : Int) = bt a0 0 := bt_at a0 0
  clear p6
  have qi6 : (0 < (a0.size : Int)) = True := eq_true (zo_)
  replace q6 := eq_true q6
  go_wp2_with (first | (go_at_call 76;(with_reducible refine (Yh.calls (bt a0 0) t149 _ A7.out).mono ?_);rintro e w' ⟨rfl,⟨nd,rfl⟩⟩))
  go_meet
  case rel => exact ⟨_,(!t149),(by first | rfl | (simp;done) | (simp [*];done)),H',⟨by first | omega | exact Nat.le_refl _⟩,by repeat (first | exact Drawn0.refl _ | apply Drawn0.step)⟩
 case rest =>
  clear HC2
  try clear p2
  try clear c3
  try clear c3b0
  try clear c3b1
  try clear c4
  try clear c4b0
  try clear c4b1
  try clear c5
  try clear c5b0
  try clear c5b1
  try clear c6
  try clear p6
  try clear q6
  try clear hx6
  try clear qi6
  try clear p6
  try clear q6
  obtain ⟨kq,x17_1,rfl,HA,HJ1,⟨mc1,rfl⟩⟩ := hcut
  cases kq with
  | zero => exact absurd HA.out (by simp [Zo.j0])
  | succ kj1 =>
   have H := HA.out
   clear HA
   simp only [Zo.j0] at H
   by_cases c8 : x17_1 = true
   ·subst c8
    rw [if_pos rfl] at H
    obtain rfl := Option.some.inj H
    go_wp2
    go_ret
    exact ⟨by first | rfl | (simp;done) | (simp [*];done),by repeat (first | exact Drawn0.refl _ | apply Drawn0.step)⟩
   replace c8 := Bool.eq_false_iff.mpr c8
   subst c8
   rw [if_neg (show ¬ (false = true) by decide)] at H
   have H' := am_ H
   clear H
   go_wp2
   go_loopg [20] kj1 (fun kq v20 w' => ∃ (x20_2 : Int),v20 = .int .i64 x20_2 ∧ Aside0 (Zo.l0 kq a0 (a0.size : Int) x20_2 = some r) ∧ Aside0 (kq ≤ kj1) ∧ Drawn0 w w')
   case atStart => exact ⟨(0),(by first | rfl | (simp;done) | (simp [*];done)),H',⟨Nat.le_refl _⟩,by repeat (first | exact Drawn0.refl _ | apply Drawn0.step)⟩
   case round =>
    clear H'
    try clear c1
    try clear p2
    try clear c3
    try clear c3b0
    try clear c3b1
    try clear c4
    try clear c4b0
    try clear c4b1
    try clear c5
    try clear c5b0
    try clear c5b1
    try clear c6
    try clear p6
    try clear q6
    try clear hx6
    try clear qi6
    try clear c8
    try clear p2
    try clear p6
    try clear q6
    obtain ⟨x20_2,rfl,HA,HK2,⟨m2,rfl⟩⟩ := hrel
    cases gk with
    | zero => exact absurd HA.out (by simp [Zo.l0])
    | succ k2 =>
     have H := HA.out
     clear HA
     simp only [Zo.l0] at H
     by_cases c9 : x20_2 < (a0.size : Int)
     case neg =>
      rw [if_neg c9] at H
      have c9b0 := decide_eq_false c9
      clear c9
      obtain rfl := Option.some.inj H
      go_wp2
      go_ret
      exact ⟨by first | rfl | (simp;done) | (simp [*];done),by repeat (first | exact Drawn0.refl _ | apply Drawn0.step)⟩
     rw [if_pos c9] at H
     have c9b0 := decide_eq_true c9
     clear c9
     by_cases c10 : 0 ≤ x20_2
     case neg =>
      rw [if_neg c10] at H
      exact absurd H (by simp)
     rw [if_pos c10] at H
     have c10b0 := decide_eq_true c10
     clear c10
     by_cases c11 : x20_2 < (a0.size : Int)
     case neg =>
      rw [if_neg c11] at H
      exact absurd H (by simp)
     rw [if_pos c11] at H
     have c11b0 := decide_eq_true c11
     clear c11
     replace H := Option.bind_eq_some_iff.mp H
     obtain ⟨t150,A130,H⟩ := H
     try dsimp only at H
     have A13 := am_ A130
     clear A130
     by_cases c14 : t150 = true
     ·subst c14
      rw [if_pos rfl] at H
      have H' := am_ H
      clear H
      have p12 : 0 ≤ (x20_2 : Int) := zo_
      have q12 : x20_2 < (a0.size : Int) := zo_
      have hx12 := bt_at a0 x20_2
      replace p12 := eq_true p12
      replace q12 := eq_true q12
      go_wp2_with (first | ((with_reducible refine gate_callee (f := 76) rfl ?_);refine zgl (some 26) Tryd.func76 #[.int .u8 (bt a0 x20_2)] ?_;(with_reducible refine (Yh.calls (bt a0 x20_2) true _ A13.out).mono ?_);rintro e w' ⟨rfl,⟨nd,rfl⟩⟩;refine ⟨_,rfl,?_⟩))
      go_roundg k2
      case measure => have := HJ1.out;have := HK2.out;omega
      case rel => exact ⟨(wrap64 (x20_2 + 1)),(by first | rfl | (simp;done) | (simp [*];done)),H',⟨by have := HJ1.out;have := HK2.out;omega⟩,by repeat (first | exact Drawn0.refl _ | apply Drawn0.step)⟩
     replace c14 := Bool.eq_false_iff.mpr c14
     subst c14
     rw [if_neg (show ¬ (false = true) by decide)] at H
     by_cases c16 : (bt a0 x20_2) < 48
     ·rw [if_pos c16] at H
      have c16b0 := decide_eq_true c16
      clear c16
      obtain rfl := Option.some.inj H
      have p12 : 0 ≤ (x20_2 : Int) := zo_
      have q12 : x20_2 < (a0.size : Int) := zo_
      have hx12 := bt_at a0 x20_2
      replace p12 := eq_true p12
      replace q12 := eq_true q12
      go_wp2_with (first | ((with_reducible refine gate_callee (f := 76) rfl ?_);refine zgl (some 26) Tryd.func76 #[.int .u8 (bt a0 x20_2)] ?_;(with_reducible refine (Yh.calls (bt a0 x20_2) false _ A13.out).mono ?_);rintro e w' ⟨rfl,⟨nd,rfl⟩⟩;refine ⟨_,rfl,?_⟩;have p15 : 0 ≤ (x20_2 : Int) := zo_;have q15 : x20_2 < (a0.size : Int) := zo_;have hx15 := bt_at a0 x20_2;replace p15 := eq_true p15;replace q15 := eq_true q15))
      go_ret
      exact ⟨by first | rfl | (simp;done) | (simp [*];done),by repeat (first | exact Drawn0.refl _ | apply Drawn0.step)⟩
     rw [if_neg c16] at H
     have c16b0 := decide_eq_false c16
     clear c16
     by_cases c18 : (bt a0 x20_2) > 57
     ·rw [if_pos c18] at H
      have c18b0 : decide (57 < (bt a0 x20_2)) = true := decide_eq_true c18
      clear c18
      obtain rfl := Option.some.inj H
      have p12 : 0 ≤ (x20_2 : Int) := zo_
      have q12 : x20_2 < (a0.size : Int) := zo_
      have hx12 := bt_at a0 x20_2
      replace p12 := eq_true p12
      replace q12 := eq_true q12
      go_wp2_with (first | ((with_reducible refine gate_callee (f := 76) rfl ?_);refine zgl (some 26) Tryd.func76 #[.int .u8 (bt a0 x20_2)] ?_;(with_reducible refine (Yh.calls (bt a0 x20_2) false _ A13.out).mono ?_);rintro e w' ⟨rfl,⟨nd,rfl⟩⟩;refine ⟨_,rfl,?_⟩;have p15 : 0 ≤ (x20_2 : Int) := zo_;have q15 : x20_2 < (a0.size : Int) := zo_;have hx15 := bt_at a0 x20_2;replace p15 := eq_true p15;replace q15 := eq_true q15;have p17 : 0 ≤ (x20_2 : Int) := zo_;have q17 : x20_2 < (a0.size : Int) := zo_;have hx17 := bt_at a0 x20_2;replace p17 := eq_true p17;replace q17 := eq_true q17))
      go_ret
      exact ⟨by first | rfl | (simp;done) | (simp [*];done),by repeat (first | exact Drawn0.refl _ | apply Drawn0.step)⟩
     rw [if_neg c18] at H
     have c18b0 : decide (57 < (bt a0 x20_2)) = false := decide_eq_false c18
     clear c18
     have H' := am_ H
     clear H
     have p12 : 0 ≤ (x20_2 : Int) := zo_
     have q12 : x20_2 < (a0.size : Int) := zo_
     have hx12 := bt_at a0 x20_2
     replace p12 := eq_true p12
     replace q12 := eq_true q12
     go_wp2_with (first | ((with_reducible refine gate_callee (f := 76) rfl ?_);refine zgl (some 26) Tryd.func76 #[.int .u8 (bt a0 x20_2)] ?_;(with_reducible refine (Yh.calls (bt a0 x20_2) false _ A13.out).mono ?_);rintro e w' ⟨rfl,⟨nd,rfl⟩⟩;refine ⟨_,rfl,?_⟩;have p15 : 0 ≤ (x20_2 : Int) := zo_;have q15 : x20_2 < (a0.size : Int) := zo_;have hx15 := bt_at a0 x20_2;replace p15 := eq_true p15;replace q15 := eq_true q15;have p17 : 0 ≤ (x20_2 : Int) := zo_;have q17 : x20_2 < (a0.size : Int) := zo_;have hx17 := bt_at a0 x20_2;replace p17 := eq_true p17;replace q17 := eq_true q17))
     go_roundg k2
     case measure => have := HJ1.out;have := HK2.out;omega
     case rel => exact ⟨(wrap64 (x20_2 + 1)),(by first | rfl | (simp;done) | (simp [*];done)),H',⟨by have := HJ1.out;have := HK2.out;omega⟩,by repeat (first | exact Drawn0.refl _ | apply Drawn0.step)⟩
theorem ZU.calls (k : Nat) (a0 : ByteArray) (r : Bool) (w : World) (h : ZU.f k a0 = some r) :
  Calls Tryd.prog 39 #[.string a0] w fun e w' => e = .returned (.bool r) ∧ Drawn0 w w' := by
 have H : (if (a0.size : Int) ≤ 12 then ((Zo.f k a0).bind fun t151 => (some t151)) else (some false)) = some r := h
 clear h
 by_cases c2 : (a0.size : Int) ≤ 12
 case neg =>
  rw [if_neg c2] at H
  have c2b0 := decide_eq_false c2
  have c2b1 : decide (a0.size ≤ 12) = false := decide_eq_false (by omega)
  clear c2
  obtain rfl := Option.some.inj H
  go_enter Tryd.func39,Tryd.ntmps39
  go_wp2
  go_ret
  exact ⟨by first | rfl | (simp;done) | (simp [*];done),by repeat (first | exact Drawn0.refl _ | apply Drawn0.step)⟩
 rw [if_pos c2] at H
 have c2b0 := decide_eq_true c2
 have c2b1 : decide (a0.size ≤ 12) = true := decide_eq_true (by omega)
 clear c2
 replace H := Option.bind_eq_some_iff.mp H
 obtain ⟨t151,A30,H⟩ := H
 try dsimp only at H
 have A3 := am_ A30
 clear A30
 obtain rfl := Option.some.inj H
 go_enter Tryd.func39,Tryd.ntmps39
 go_wp2_with (first | (go_at_call 63;(with_reducible refine (Zo.calls k a0 t151 _ A3.out).mono ?_);rintro e w' ⟨rfl,⟨nd,rfl⟩⟩))
 go_ret
 exact ⟨by first | rfl | (simp;done) | (simp [*];done),by repeat (first | exact Drawn0.refl _ | apply Drawn0.step)⟩
theorem ZI.calls (k : Nat) (a0_0 : ByteArray) (a0_1 : Int) (a0_2 : Int) (a0_3 : Int) (r : Bool) (w : World) (h : ZI.f k a0_0 a0_1 a0_2 a0_3 = some r) :
  Calls Tryd.prog 17 #[.agg #[.string a0_0,.int .i64 a0_1,.int .i64 a0_2,.int .i64 a0_3]] w fun e w' => e = .returned (.bool r) ∧ Below w.heap.size w w' := by
 have hu24 := Tryd.underlying24
 have HB := am_ (Below.refl w.heap.size w)
 have H : ((ZU.f k a0_0).bind fun t153 => (if t153 = true then ((ZH.f a0_1 0 255).bind fun t154 => (if t154 = true then ((ZH.f a0_2 1 1000000).bind fun t155 => (if t155 = true then ((ZH.f a0_3 0 2000000000).bind fun t156 => (some t156)) else (some false))) else (some false))) else (some false))) = some r := h
 clear h
 replace H := Option.bind_eq_some_iff.mp H
 obtain ⟨t153,A20,H⟩ := H
 try dsimp only at H
 have A2 := am_ A20
 clear A20
 by_cases c3 : t153 = true
 case neg =>
  replace c3 := Bool.eq_false_iff.mpr c3
  subst c3
  rw [if_neg (show ¬ (false = true) by decide)] at H
  obtain rfl := Option.some.inj H
  go_enter Tryd.func17,Tryd.ntmps17
  go_wp2_with (first | ((with_reducible refine gate_dst (N := 1) rfl ?_);refine zbx (N := 1) (cs := #[.string a0_0,.int .i64 a0_1,.int .i64 a0_2,.int .i64 a0_3]) (t := 24) ?_;intro gb152 hg w15 hbox hb;have BK152 := am_ (hbox);have GW152 := zw_ HB hg;have GE152 := zw_ HB hg;replace HB := zs_ HB hb;clear hb hbox hg;obtain ⟨hcz16_0,hcz16_1,hcz16_2,hcz16_3,hfz16_0,hfz16_1,hfz16_2,hfz16_3⟩ := zc4 BK152) | ((with_reducible refine gate_callee (f := 39) rfl ?_);refine zgl (some 5) Tryd.func39 #[.string a0_0] ?_;(with_reducible refine (ZU.calls k a0_0 false _ A2.out).mono ?_);rintro e w' ⟨rfl,⟨nd,rfl⟩⟩;refine ⟨_,rfl,?_⟩))
  go_ret
  exact ⟨zt_,zl_ HB⟩
 subst c3
 rw [if_pos rfl] at H
 replace H := Option.bind_eq_some_iff.mp H
 obtain ⟨t154,A40,H⟩ := H
 try dsimp only at H
 have A4 := am_ A40
 clear A40
 by_cases c5 : t154 = true
 case neg =>
  replace c5 := Bool.eq_false_iff.mpr c5
  subst c5
  rw [if_neg (show ¬ (false = true) by decide)] at H
  obtain rfl := Option.some.inj H
  go_enter Tryd.func17,Tryd.ntmps17
  go_wp2_with (first | ((with_reducible refine gate_dst (N := 1) rfl ?_);refine zbx (N := 1) (cs := #[.string a0_0,.int .i64 a0_1,.int .i64 a0_2,.int .i64 a0_3]) (t := 24) ?_;intro gb152 hg w13 hbox hb;have BK152 := am_ (hbox);have GW152 := zw_ HB hg;have GE152 := zw_ HB hg;replace HB := zs_ HB hb;clear hb hbox hg;obtain ⟨hcz14_0,hcz14_1,hcz14_2,hcz14_3,hfz14_0,hfz14_1,hfz14_2,hfz14_3⟩ := zc4 BK152) | ((with_reducible refine gate_callee (f := 39) rfl ?_);refine zgl (some 5) Tryd.func39 #[.string a0_0] ?_;(with_reducible refine (ZU.calls k a0_0 true _ A2.out).mono ?_);rintro e w' ⟨rfl,⟨nd,rfl⟩⟩;refine ⟨_,rfl,?_⟩) | (go_at_call 27;(with_reducible refine (ZH.calls a0_1 0 255 false _ A4.out).mono ?_);rintro e w' ⟨rfl,⟨nd,rfl⟩⟩))
  go_ret
  exact ⟨zt_,zl_ HB⟩
 subst c5
 rw [if_pos rfl] at H
 replace H := Option.bind_eq_some_iff.mp H
 obtain ⟨t155,A60,H⟩ := H
 try dsimp only at H
 have A6 := am_ A60
 clear A60
 by_cases c7 : t155 = true
 case neg =>
  replace c7 := Bool.eq_false_iff.mpr c7
  subst c7
  rw [if_neg (show ¬ (false = true) by decide)] at H
  obtain rfl := Option.some.inj H
  go_enter Tryd.func17,Tryd.ntmps17
  go_wp2_with (first | ((with_reducible refine gate_dst (N := 1) rfl ?_);refine zbx (N := 1) (cs := #[.string a0_0,.int .i64 a0_1,.int .i64 a0_2,.int .i64 a0_3]) (t := 24) ?_;intro gb152 hg w11 hbox hb;have BK152 := am_ (hbox);have GW152 := zw_ HB hg;have GE152 := zw_ HB hg;replace HB := zs_ HB hb;clear hb hbox hg;obtain ⟨hcz12_0,hcz12_1,hcz12_2,hcz12_3,hfz12_0,hfz12_1,hfz12_2,hfz12_3⟩ := zc4 BK152) | ((with_reducible refine gate_callee (f := 39) rfl ?_);refine zgl (some 5) Tryd.func39 #[.string a0_0] ?_;(with_reducible refine (ZU.calls k a0_0 true _ A2.out).mono ?_);rintro e w' ⟨rfl,⟨nd,rfl⟩⟩;refine ⟨_,rfl,?_⟩) | (go_at_call 27;(with_reducible refine (ZH.calls a0_1 0 255 true _ A4.out).mono ?_);rintro e w' ⟨rfl,⟨nd,rfl⟩⟩) | (go_at_call 27;(with_reducible refine (ZH.calls a0_2 1 1000000 false _ A6.out).mono ?_);rintro e w' ⟨rfl,⟨nd,rfl⟩⟩))
  go_ret
  exact ⟨zt_,zl_ HB⟩
 subst c7
 rw [if_pos rfl] at H
 replace H := Option.bind_eq_some_iff.mp H
 obtain ⟨t156,A80,H⟩ := H
 try dsimp only at H
 have A8 := am_ A80
 clear A80
 obtain rfl := Option.some.inj H
 go_enter Tryd.func17,Tryd.ntmps17
 go_wp2_with (first | ((with_reducible refine gate_dst (N := 1) rfl ?_);refine zbx (N := 1) (cs := #[.string a0_0,.int .i64 a0_1,.int .i64 a0_2,.int .i64 a0_3]) (t := 24) ?_;intro gb152 hg w9 hbox hb;have BK152 := am_ (hbox);have GW152 := zw_ HB hg;have GE152 := zw_ HB hg;replace HB := zs_ HB hb;clear hb hbox hg;obtain ⟨hcz10_0,hcz10_1,hcz10_2,hcz10_3,hfz10_0,hfz10_1,hfz10_2,hfz10_3⟩ := zc4 BK152) | ((with_reducible refine gate_callee (f := 39) rfl ?_);refine zgl (some 5) Tryd.func39 #[.string a0_0] ?_;(with_reducible refine (ZU.calls k a0_0 true _ A2.out).mono ?_);rintro e w' ⟨rfl,⟨nd,rfl⟩⟩;refine ⟨_,rfl,?_⟩) | (go_at_call 27;(with_reducible refine (ZH.calls a0_1 0 255 true _ A4.out).mono ?_);rintro e w' ⟨rfl,⟨nd,rfl⟩⟩) | (go_at_call 27;(with_reducible refine (ZH.calls a0_2 1 1000000 true _ A6.out).mono ?_);rintro e w' ⟨rfl,⟨nd,rfl⟩⟩) | (go_at_call 27;(with_reducible refine (ZH.calls a0_3 0 2000000000 t156 _ A8.out).mono ?_);rintro e w' ⟨rfl,⟨nd,rfl⟩⟩))
 go_ret
 exact ⟨zt_,zl_ HB⟩
theorem Yx.calls (a0 : Int) (r1 : Int) (r2 : Int) (w : World) (h : Yx.f a0 = some (r1,r2)) :
  Calls Tryd.prog 40 #[.int .i64 a0] w fun e w' => e = .returned (.tuple #[.int .i64 r1,.int .i64 r2]) ∧ Drawn0 w w' := by
 have H : (if a0 = 1 then (some (wrap64 (Int.tdiv (wrap64 (a0 - 1)) 3),0)) else (if a0 = 4 then (some (wrap64 (Int.tdiv (wrap64 (a0 - 1)) 3),0)) else (if a0 = 7 then (some (wrap64 (Int.tdiv (wrap64 (a0 - 1)) 3),0)) else (some (0,4))))) = some (r1,r2) := h
 clear h
 by_cases c2 : a0 = 1
 ·rw [if_pos c2] at H
  have c2b0 := beq_iff_eq.mpr c2
  have c2b1 := bne_eq_false_iff_eq.mpr c2
  clear c2
  simp only [Option.some.injEq,Prod.mk.injEq] at H
  obtain ⟨rfl,rfl⟩ := H
  go_enter Tryd.func40,Tryd.ntmps40
  go_wp2
  go_ret2
  exact ⟨by first | rfl | (simp;done) | (simp [*];done),by repeat (first | exact Drawn0.refl _ | apply Drawn0.step)⟩
 rw [if_neg c2] at H
 have c2b0 := beq_eq_false_iff_ne.mpr c2
 have c2b1 := bne_iff_ne.mpr c2
 by_cases c3 : a0 = 4
 ·rw [if_pos c3] at H
  have c3b0 := beq_iff_eq.mpr c3
  have c3b1 := bne_eq_false_iff_eq.mpr c3
  clear c3
  simp only [Option.some.injEq,Prod.mk.injEq] at H
  obtain ⟨rfl,rfl⟩ := H
  go_enter Tryd.func40,Tryd.ntmps40
  go_wp2
  go_ret2
  exact ⟨by first | rfl | (simp;done) | (simp [*];done),by repeat (first | exact Drawn0.refl _ | apply Drawn0.step)⟩
 rw [if_neg c3] at H
 have c3b0 := beq_eq_false_iff_ne.mpr c3
 have c3b1 := bne_iff_ne.mpr c3
 by_cases c4 : a0 = 7
 case neg =>
  rw [if_neg c4] at H
  have c4b0 := beq_eq_false_iff_ne.mpr c4
  have c4b1 := bne_iff_ne.mpr c4
  simp only [Option.some.injEq,Prod.mk.injEq] at H
  obtain ⟨rfl,rfl⟩ := H
  go_enter Tryd.func40,Tryd.ntmps40
  go_wp2
  go_ret2
  exact ⟨by first | rfl | (simp;done) | (simp [*];done),by repeat (first | exact Drawn0.refl _ | apply Drawn0.step)⟩
 rw [if_pos c4] at H
 have c4b0 := beq_iff_eq.mpr c4
 have c4b1 := bne_eq_false_iff_eq.mpr c4
 clear c4
 simp only [Option.some.injEq,Prod.mk.injEq] at H
 obtain ⟨rfl,rfl⟩ := H
 go_enter Tryd.func40,Tryd.ntmps40
 go_wp2
 go_ret2
 exact ⟨by first | rfl | (simp;done) | (simp [*];done),by repeat (first | exact Drawn0.refl _ | apply Drawn0.step)⟩
theorem ZX.calls (a0 : Int) (r : Bool) (w : World) (h : ZX.f a0 = some r) :
  Calls Tryd.prog 18 #[.int .i64 a0] w fun e w' => e = .returned (.bool r) ∧ Drawn0 w w' := by
 have H : ((Yx.f a0).bind fun bt157 => (some (bt157.2 == 0))) = some r := h
 clear h
 replace H := Option.bind_eq_some_iff.mp H
 obtain ⟨⟨t157,t158⟩,A20,H⟩ := H
 try dsimp only at H
 have A2 := am_ A20
 clear A20
 obtain rfl := Option.some.inj H
 go_enter Tryd.func18,Tryd.ntmps18
 go_wp2_with (first | ((with_reducible refine gate_callee (f := 40) rfl ?_);refine zgl (some 7) Tryd.func40 #[.int .i64 a0] ?_;(with_reducible refine (Yx.calls a0 t157 t158 _ A2.out).mono ?_);rintro e w' ⟨rfl,⟨nd,rfl⟩⟩;refine ⟨_,rfl,?_⟩))
 go_ret
 exact ⟨by first | rfl | (simp;done) | (simp [*];done),by repeat (first | exact Drawn0.refl _ | apply Drawn0.step)⟩
def Zy.T5 : Bool × List (List Nat × List Nat) := (true,[([],[]),([],[]),([],[]),([1,2],[1,2]),([3],[3]),([],[]),([],[]),([6],[6]),([5,7],[5,7]),([8],[8]),([4,9],[4,9]),([10],[10]),([0,11,10],[0,11]),([12,12,0,1,2,3,4,5,6,7,8,9,10,11,12],[0,12])])
def Zy.B5 : List Nat := [0,0,0,6,14,0,0,64,224,480,1022,2046,4095,8191]
theorem Zy.tab5 : rtab .any (opsOf Tryd.f46 5) = Zy.T5 := by kernel_rfl
theorem Zy.bits5 : waitsOk Zy.T5.2 Zy.B5 = true := by kernel_rfl
theorem Zy.calls (k : Nat) (A0 : Option Addr) (c0 : Nat) (l0 : List ByteArray) (r : List ByteArray) (w : World) (hr0 : Kd.C Kd.string w A0 l0.length l0) (hc0 : l0.length ≤ c0) (hL : Laid w) (h : Zy.f k l0 = some r) :
  Calls Tryd.prog 46 #[.slice A0 l0.length c0] w fun e w' => ∃ v0_ : Value,e = .returned (v0_) ∧ Kd.R Kd.string 9 w' w.heap.size (fun _ => True) v0_ r ∧ Below w.heap.size w w' := by
 have HR0 := am_ hr0
 have HC0 := am_ hc0
 clear hr0 hc0
 have HLD := am_ hL
 clear hL
 have HB := am_ (Below.refl w.heap.size w)
 have H : (Zy.l0 k l0 ([] : List ByteArray) 0) = some r := h
 clear h
 have H' := am_ H
 clear H
 go_enter Tryd.func46,Tryd.ntmps46
 go_wp2
 go_loopg [3,4] k (fun kq v3 v4 w' => ∃ (x3_1 : List ByteArray) (x4_1 : Int),v4 = .int .i64 x4_1 ∧ Aside0 (Zy.l0 kq l0 x3_1 x4_1 = some r) ∧ Aside0 (kq ≤ k) ∧ Aside0 (Kd.R Kd.string 9 w' w.heap.size (fun _ => True) v3 x3_1) ∧ Aside0 (Below w.heap.size w w'))
 case atStart => exact ⟨(([] : List ByteArray)),(0),(by first | rfl | (simp;done) | (simp [*];done)),H',⟨Nat.le_refl _⟩,⟨by first | exact Kd.R_nil _ _ _ _ _ | exact Kd.N_nil _ _ _ _ _ | exact Kd.V_nil _ _ _ _ _ | exact Kd.Q_nil _ _ _ _ _ | exact Kd.S_nil _ _ _ _ _⟩,⟨zl_ HB⟩⟩
 case round =>
  clear H'
  obtain ⟨x3_1,x4_1,rfl,HA,HK1,HO_3,HB⟩ := hrel
  cases gk with
  | zero => exact absurd HA.out (by simp [Zy.l0])
  | succ k1 =>
   have H := HA.out
   clear HA
   simp only [Zy.l0] at H
   by_cases c2 : x4_1 < (l0.length : Int)
   case neg =>
    rw [if_neg c2] at H
    have c2b0 := decide_eq_false c2
    clear c2
    obtain rfl := Option.some.inj H
    go_wp2
    go_ret
    exact ⟨_,zt_,zr HO_3,zl_ HB⟩
   rw [if_pos c2] at H
   have c2b0 := decide_eq_true c2
   clear c2
   by_cases c3 : 0 ≤ x4_1
   case neg =>
    rw [if_neg c3] at H
    exact absurd H (by simp)
   rw [if_pos c3] at H
   have c3b0 := decide_eq_true c3
   clear c3
   obtain ⟨ji4,hji4⟩ : ∃ j_ : Int,(wrap64 (x4_1 + 1)) = j_ := ⟨_,rfl⟩
   replace H : (if 0 ≤ (ji4) then (if (ji4) < (l0.length : Int) then ((ZT.f k1 (rdOf ByteArray.empty l0 x4_1) (rdOf ByteArray.empty l0 (ji4))).bind fun t294 => (if x3_1.length < 8796093022208 then (Zy.l0 k1 l0 (x3_1 ++ [t294]) (wrap64 (x4_1 + 2))) else (none))) else (none)) else (none)) = some r := by first | (rw [hji4] at H;exact H) | (simp only [hji4] at H ⊢;exact H)
   have hji4w : (IntKind.i64.wrap (x4_1 + 1)) = ji4 := (i64_w _).trans hji4
   by_cases c5 : 0 ≤ (ji4)
   case neg =>
    rw [if_neg c5] at H
    exact absurd H (by simp)
   rw [if_pos c5] at H
   have c5b0 := decide_eq_true c5
   clear c5
   by_cases c6 : (ji4) < (l0.length : Int)
   case neg =>
    rw [if_neg c6] at H
    exact absurd H (by simp)
   rw [if_pos c6] at H
   have c6b0 := decide_eq_true c6
   clear c6
   replace H := Option.bind_eq_some_iff.mp H
   obtain ⟨t294,A70,H⟩ := H
   try dsimp only at H
   have A7 := am_ A70
   clear A70
   by_cases c8 : x3_1.length < 8796093022208
   case neg =>
    rw [if_neg c8] at H
    exact absurd H (by simp)
   rw [if_pos c8] at H
   have LMc8 := am_ c8
   clear c8
   obtain ⟨y295,hy295⟩ : ∃ y_ : List ByteArray,y_ = (x3_1 ++ [t294]) := ⟨_,rfl⟩
   replace H : (Zy.l0 k1 l0 y295 (wrap64 (x4_1 + 2))) = some r := by first | (rw [hy295];with_reducible exact H) | (have H2_ := (Option.bind_some _ _).symm.trans H;rw [hy295];with_reducible exact H2_) | (have H2_ := (Option.bind_some _ _).symm.trans H;with_reducible exact H2_) | with_reducible exact H | (rw [hy295];exact H) | exact H
   have Ny295 := am_ hy295
   clear hy295
   have H' := am_ H
   clear H
   try go_wp2
   replace HO_3 := am_ (Kd.R_drew HO_3.out)
   replace HB := am_ (below_drew1 HB.out)
   have p292 : 0 ≤ (x4_1 : Int) := zo_
   have q292 : x4_1 < (l0.length : Int) := zo_
   obtain ⟨ad292,e292,hx292_0⟩ := Kd.at_string HR0.out x4_1 p292 q292
   have hw292_0 := hx292_0
   cases e292
   replace hx292_0 := zx_ HB hx292_0
   replace p292 := eq_true p292
   replace q292 := eq_true q292
   have p293 : 0 ≤ ((ji4) : Int) := zo_
   have q293 : (ji4) < (l0.length : Int) := zo_
   obtain ⟨ad293,e293,hx293_0⟩ := Kd.at_string HR0.out (ji4) p293 q293
   have hw293_0 := hx293_0
   obtain rfl : ad292 = ad293 := (by injection e293)
   replace hx293_0 := zx_ HB hx293_0
   replace p293 := eq_true p293
   replace q293 := eq_true q293
   refine start_ (n := 14) (S := fun w' => w'.cell? (ad292.add (x4_1).toNat) = some (.string (rdOf ByteArray.empty l0 x4_1)) ∧ w'.cell? (ad292.add ((ji4)).toNat) = some (.string (rdOf ByteArray.empty l0 (ji4)))) (ds := []) #[false,false,false,false,false,false,false,false,false,false,false,false,false,false] (by kernel_rfl) rfl rfl ⟨(zx_ HB hw292_0),(zx_ HB hw293_0)⟩ (fun hHeld => ?_);refine with_tabW Zy.tab5 Zy.bits5 (fun HT_ HW_ => ?_)
   generalize wr.drew = w9 at HO_3 HB hx292_0 hx293_0 hHeld ⊢
   refine pu_ 0 11 HT_ ?_
   refine pu_ 1 12 HT_ ?_
   refine pu_ 2 13 HT_ ?_
   refine pu_ 3 14 HT_ ?_
   refine pu_ 5 16 HT_ ?_
   refine pu_ 6 17 HT_ ?_
   refine pu_ 7 18 HT_ ?_
   refine pu_ 8 19 HT_ ?_
   refine tk_ 4 15 HT_ HW_ hHeld ?_
   refine tk_ 9 20 HT_ HW_ hHeld ?_
   refine zon 10 (N := some 21) HT_ (fun K hK => ?_)
   refine goes_ Tryd.func67 (by kernel_rfl) rfl #[.string (rdOf ByteArray.empty l0 x4_1),.string (rdOf ByteArray.empty l0 (ji4))] (by rfl) rfl rfl (by (try simp only [m1_,m2_,m3_]);first | done | (simp only [hji4];rfl) | rfl | (simp only [d1_,d2_];rfl)) ?_
   with_reducible refine (ZT.calls k1 (rdOf ByteArray.empty l0 x4_1) (rdOf ByteArray.empty l0 (ji4)) t294 _ ?side1 A7.out).mono ?_
   (case side1 => exact HLD.out.on (zl_ HB))
   rintro e w10 ⟨rfl,hb⟩
   refine ⟨_,rfl,?_⟩
   replace HO_3 := zrb HO_3 hb
   replace HB := zs_ HB hb
   try clear hb
   refine hK.out _ _ ⟨(zx_ HB hw292_0),(zx_ HB hw293_0)⟩ (fun hHeld => ?_)
   clear hK K
   refine nm_ ?_
   refine zon 11 (N := some 22) HT_ (fun K hK => ?_)
   refine value_ (w1 := ?_) (v := ?_) (by rfl) rfl ?_ ?_
   rotate_left 2
   ·go_simp
    constructor
    ·rfl
    ·rfl
   refine hK.out _ _ ⟨(World.cell?_alloc_lt _ _ _ (World.block_lt_of_cell? _ _ ((zx_ HB hw292_0)))).trans ((zx_ HB hw292_0)),(World.cell?_alloc_lt _ _ _ (World.block_lt_of_cell? _ _ ((zx_ HB hw293_0)))).trans ((zx_ HB hw293_0))⟩ (fun hHeld => ?_)
   clear hK K
   refine nm_ ?_
   refine zon 12 (N := some 23) HT_ (fun K hK => ?_)
   refine Kd.R_append_step Kd.string (w0 := w) w.heap.size (by rfl) (.tmp 11) (.tmp 22) 35 9 (.string ⟨#[]⟩) 16 rfl Tryd.underlying35 info9 rfl (by decide) (by omega) u3 x3_1 t294 [.string t294] (fun _ => True) (fun _ => False) rfl rfl ?aP (fun _ hk => hk.elim) ?aF ?aO ?aB ?aS ?aL ?_
   (case aP => exact rfl)
   (case aB => exact (zl_ HB))
   (case aF => exact (fun _ _ => trivial))
   (case aO => exact (zr HO_3))
   (case aS => exact (below_size (zl_ HB)))
   (case aL => have := LMc8.out;omega)
   intro v296 w11 ho hb hg hat
   rw [← Ny295.out] at ho
   replace HB := am_ (hb)
   have HO297 := am_ (ho)
   clear HO_3
   clear ho hb hg hat
   refine hK.out _ _ ⟨(zx_ HB hw292_0),(zx_ HB hw293_0)⟩ (fun hHeld => ?_)
   clear hK K
   refine nm_ ?_
   refine pu_ 13 3 HT_ ?_
   refine done_ (done_of HT_.out (by kernel_rfl)) ?_
   try go_wp2
   go_roundg k1
   case measure => have := HK1.out;omega
   case rel => exact ⟨(y295),(wrap64 (x4_1 + 2)),(by first | rfl | (simp;done) | (simp [*];done)),H',⟨by have := HK1.out;omega⟩,⟨zr HO297⟩,⟨zl_ HB⟩⟩
theorem ZP.calls (k : Nat) (a0 : ByteArray) (a1 : Int) (a2 : Int) (a3 : Int) (r : ByteArray) (w : World) (hL : Laid w) (h : ZP.f k a0 a1 a2 a3 = some r) :
  Calls Tryd.prog 43 #[.string a0,.int .i64 a1,.int .i64 a2,.int .i64 a3] w fun e w' => e = .returned (.string r) ∧ Below w.heap.size w w' := by
 have HLD := am_ hL
 clear hL
 have HB := am_ (Below.refl w.heap.size w)
 have H : (if 6 + a0.size ≤ 9223372036854775807 then ((Zl.f k a1 1).bind fun t278 => (if ((⟨#[115,101,99,114,101,116]⟩ : ByteArray) ++ a0).size + t278.size ≤ 9223372036854775807 then ((Zl.f k a2 1).bind fun t279 => (if (((⟨#[115,101,99,114,101,116]⟩ : ByteArray) ++ a0) ++ t278).size + t279.size ≤ 9223372036854775807 then ((Zl.f k a3 1).bind fun t280 => (if ((((⟨#[115,101,99,114,101,116]⟩ : ByteArray) ++ a0) ++ t278) ++ t279).size + t280.size ≤ 9223372036854775807 then ((ZD.f k (((((⟨#[115,101,99,114,101,116]⟩ : ByteArray) ++ a0) ++ t278) ++ t279) ++ t280)).bind fun t281 => (some t281)) else (none))) else (none))) else (none))) else (none)) = some r := h
 clear h
 by_cases c5 : 6 + a0.size ≤ 9223372036854775807
 case neg =>
  rw [if_neg c5] at H
  exact absurd H (by simp)
 rw [if_pos c5] at H
 have c5b0 := eq_true c5
 have c5b1 := decide_eq_true c5
 try have c5b2 : (9223372036854775807 < 6 + a0.size) = False := eq_false (Nat.not_lt.2 c5)
 replace H := Option.bind_eq_some_iff.mp H
 obtain ⟨t278,A60,H⟩ := H
 try dsimp only at H
 have A6 := am_ A60
 clear A60
 by_cases c7 : ((⟨#[115,101,99,114,101,116]⟩ : ByteArray) ++ a0).size + t278.size ≤ 9223372036854775807
 case neg =>
  rw [if_neg c7] at H
  exact absurd H (by simp)
 rw [if_pos c7] at H
 have c7b0 := eq_true c7
 have c7b1 := decide_eq_true c7
 try have c7b2 : (9223372036854775807 < ((⟨#[115,101,99,114,101,116]⟩ : ByteArray) ++ a0).size + t278.size) = False := eq_false (Nat.not_lt.2 c7)
 (try have c7b3 := c7b2;simp only [ByteArray.size_append,show (⟨#[115,101,99,114,101,116]⟩ : ByteArray).size = 6 from rfl] at c7b3)
 replace H := Option.bind_eq_some_iff.mp H
 obtain ⟨t279,A80,H⟩ := H
 try dsimp only at H
 have A8 := am_ A80
 clear A80
 by_cases c9 : (((⟨#[115,101,99,114,101,116]⟩ : ByteArray) ++ a0) ++ t278).size + t279.size ≤ 9223372036854775807
 case neg =>
  rw [if_neg c9] at H
  exact absurd H (by simp)
 rw [if_pos c9] at H
 have c9b0 := eq_true c9
 have c9b1 := decide_eq_true c9
 try have c9b2 : (9223372036854775807 < (((⟨#[115,101,99,114,101,116]⟩ : ByteArray) ++ a0) ++ t278).size + t279.size) = False := eq_false (Nat.not_lt.2 c9)
 (try have c9b3 := c9b2;simp only [ByteArray.size_append,show (⟨#[115,101,99,114,101,116]⟩ : ByteArray).size = 6 from rfl] at c9b3)
 replace H := Option.bind_eq_some_iff.mp H
 obtain ⟨t280,A100,H⟩ := H
 try dsimp only at H
 have A10 := am_ A100
 clear A100
 by_cases c11 : ((((⟨#[115,101,99,114,101,116]⟩ : ByteArray) ++ a0) ++ t278) ++ t279).size + t280.size ≤ 9223372036854775807
 case neg =>
  rw [if_neg c11] at H
  exact absurd H (by simp)
 rw [if_pos c11] at H
 have c11b0 := eq_true c11
 have c11b1 := decide_eq_true c11
 try have c11b2 : (9223372036854775807 < ((((⟨#[115,101,99,114,101,116]⟩ : ByteArray) ++ a0) ++ t278) ++ t279).size + t280.size) = False := eq_false (Nat.not_lt.2 c11)
 (try have c11b3 := c11b2;simp only [ByteArray.size_append,show (⟨#[115,101,99,114,101,116]⟩ : ByteArray).size = 6 from rfl] at c11b3)
 replace H := Option.bind_eq_some_iff.mp H
 obtain ⟨t281,A120,H⟩ := H
 try dsimp only at H
 have A12 := am_ A120
 clear A120
 obtain rfl := Option.some.inj H
 go_enter Tryd.func43,Tryd.ntmps43
 go_wp2_with (first | ((with_reducible refine gate_callee (f := 47) rfl ?_);refine zgl (some 12) Tryd.func47 #[.int .i64 a1,.int .i64 1] ?_;(with_reducible refine (Zl.calls k a1 1 t278 _ A6.out).mono ?_);rintro e w13 ⟨rfl,hb⟩;refine ⟨_,rfl,?_⟩;replace HB := zs_ HB hb;(try clear hb);(try clear hi)) | ((with_reducible refine gate_callee (f := 47) rfl ?_);refine zgl (some 15) Tryd.func47 #[.int .i64 a2,.int .i64 1] ?_;(with_reducible refine (Zl.calls k a2 1 t279 _ A8.out).mono ?_);rintro e w14 ⟨rfl,hb⟩;refine ⟨_,rfl,?_⟩;replace HB := zs_ HB hb;(try clear hb);(try clear hi)) | ((with_reducible refine gate_callee (f := 47) rfl ?_);refine zgl (some 18) Tryd.func47 #[.int .i64 a3,.int .i64 1] ?_;(with_reducible refine (Zl.calls k a3 1 t280 _ A10.out).mono ?_);rintro e w15 ⟨rfl,hb⟩;refine ⟨_,rfl,?_⟩;replace HB := zs_ HB hb;(try clear hb);(try clear hi)) | ((with_reducible refine gate_callee (f := 44) rfl ?_);refine zgl (some 20) Tryd.func44 #[.string (((((⟨#[115,101,99,114,101,116]⟩ : ByteArray) ++ a0) ++ t278) ++ t279) ++ t280)] ?_;(with_reducible refine (ZD.calls k (((((⟨#[115,101,99,114,101,116]⟩ : ByteArray) ++ a0) ++ t278) ++ t279) ++ t280) t281 _ ?side1 A12.out).mono ?_);(case side1 => exact HLD.out.on (zl_ HB));rintro e w16 ⟨rfl,hb⟩;refine ⟨_,rfl,?_⟩;replace HB := zs_ HB hb;(try clear hb)))
 go_ret
 exact ⟨zt_,zl_ HB⟩
theorem Zs.calls (k : Nat) (a0 : ByteArray) (a1 : Int) (r : ByteArray) (w : World) (hL : Laid w) (h : Zs.f k a0 a1 = some r) :
  Calls Tryd.prog 66 #[.string a0,.int .i64 a1] w fun e w' => e = .returned (.string r) ∧ Below w.heap.size w w' := by
 have HLD := am_ hL
 clear hL
 have HB := am_ (Below.refl w.heap.size w)
 have H : (Zs.l0 k a0 a1 (⟨#[107,101,121]⟩ : ByteArray) 0) = some r := h
 clear h
 have H' := am_ H
 clear H
 go_enter Tryd.func66,Tryd.ntmps66
 go_wp2
 go_loopg [5,7] k (fun kq v5 v7 w' => ∃ (x5_1 : ByteArray) (x7_1 : Int),v5 = .string x5_1 ∧ v7 = .int .i64 x7_1 ∧ Aside0 (Zs.l0 kq a0 a1 x5_1 x7_1 = some r) ∧ Aside0 (kq ≤ k) ∧ Aside0 (Below w.heap.size w w'))
 case atStart => exact ⟨((⟨#[107,101,121]⟩ : ByteArray)),(0),(by first | rfl | (simp;done) | (simp [*];done)),(by first | rfl | (simp;done) | (simp [*];done)),H',⟨Nat.le_refl _⟩,⟨zl_ HB⟩⟩
 case round =>
  clear H'
  try clear p2
  obtain ⟨x5_1,x7_1,rfl,rfl,HA,HK1,HB⟩ := hrel
  cases gk with
  | zero => exact absurd HA.out (by simp [Zs.l0])
  | succ k1 =>
   have H := HA.out
   clear HA
   simp only [Zs.l0] at H
   by_cases c3 : x7_1 < 32
   case neg =>
    rw [if_neg c3] at H
    have c3b0 := decide_eq_false c3
    clear c3
    replace H := Option.bind_eq_some_iff.mp H
    obtain ⟨t282,A140,H⟩ := H
    try dsimp only at H
    have A14 := am_ A140
    clear A140
    obtain rfl := Option.some.inj H
    go_wp2_with (first | ((with_reducible refine gate_callee (f := 44) rfl ?_);refine zgl (some 25) Tryd.func44 #[.string x5_1] ?_;(with_reducible refine (ZD.calls k1 x5_1 t282 _ ?side1 A14.out).mono ?_);(case side1 => exact HLD.out.on (zl_ HB));rintro e w15 ⟨rfl,hb⟩;refine ⟨_,rfl,?_⟩;replace HB := zs_ HB hb;(try clear hb)))
    go_ret
    exact ⟨zt_,zl_ HB⟩
   rw [if_pos c3] at H
   have c3b0 := decide_eq_true c3
   clear c3
   replace H := Option.bind_eq_some_iff.mp H
   obtain ⟨t283,A40,H⟩ := H
   try dsimp only at H
   have A4 := am_ A40
   clear A40
   replace H := Option.bind_eq_some_iff.mp H
   obtain ⟨t284,A50,H⟩ := H
   try dsimp only at H
   have A5 := am_ A50
   clear A50
   replace H := Option.bind_eq_some_iff.mp H
   obtain ⟨t285,A60,H⟩ := H
   try dsimp only at H
   have A6 := am_ A60
   clear A60
   replace H := Option.bind_eq_some_iff.mp H
   obtain ⟨t286,A70,H⟩ := H
   try dsimp only at H
   have A7 := am_ A70
   clear A70
   by_cases c8 : t284.size + t286.size ≤ 9223372036854775807
   case neg =>
    rw [if_neg c8] at H
    exact absurd H (by simp)
   rw [if_pos c8] at H
   have c8b0 := eq_true c8
   have c8b1 := decide_eq_true c8
   try have c8b2 : (9223372036854775807 < t284.size + t286.size) = False := eq_false (Nat.not_lt.2 c8)
   by_cases c9 : x5_1.size + (t284 ++ t286).size ≤ 9223372036854775807
   case neg =>
    rw [if_neg c9] at H
    exact absurd H (by simp)
   rw [if_pos c9] at H
   have c9b0 := eq_true c9
   have c9b1 := decide_eq_true c9
   try have c9b2 : (9223372036854775807 < x5_1.size + (t284 ++ t286).size) = False := eq_false (Nat.not_lt.2 c9)
   (try have c9b3 := c9b2;simp only [ByteArray.size_append] at c9b3)
   have H' := am_ H
   clear H
   go_wp2_with (first | ((with_reducible refine gate_callee (f := 43) rfl ?_);refine zgl (some 14) Tryd.func43 #[.string a0,.int .i64 a1,.int .i64 x7_1,.int .i64 0] ?_;(with_reducible refine (ZP.calls k1 a0 a1 x7_1 0 t283 _ ?side1 A4.out).mono ?_);(case side1 => exact HLD.out.on (zl_ HB));rintro e w10 ⟨rfl,hb⟩;refine ⟨_,rfl,?_⟩;replace HB := zs_ HB hb;(try clear hb);(try clear hi)) | ((with_reducible refine gate_callee (f := 44) rfl ?_);refine zgl (some 15) Tryd.func44 #[.string t283] ?_;(with_reducible refine (ZD.calls k1 t283 t284 _ ?side1 A5.out).mono ?_);(case side1 => exact HLD.out.on (zl_ HB));rintro e w11 ⟨rfl,hb⟩;refine ⟨_,rfl,?_⟩;replace HB := zs_ HB hb;(try clear hb);(try clear hi)) | ((with_reducible refine gate_callee (f := 43) rfl ?_);refine zgl (some 19) Tryd.func43 #[.string a0,.int .i64 a1,.int .i64 x7_1,.int .i64 1] ?_;(with_reducible refine (ZP.calls k1 a0 a1 x7_1 1 t285 _ ?side1 A6.out).mono ?_);(case side1 => exact HLD.out.on (zl_ HB));rintro e w12 ⟨rfl,hb⟩;refine ⟨_,rfl,?_⟩;replace HB := zs_ HB hb;(try clear hb);(try clear hi)) | ((with_reducible refine gate_callee (f := 44) rfl ?_);refine zgl (some 20) Tryd.func44 #[.string t285] ?_;(with_reducible refine (ZD.calls k1 t285 t286 _ ?side1 A7.out).mono ?_);(case side1 => exact HLD.out.on (zl_ HB));rintro e w13 ⟨rfl,hb⟩;refine ⟨_,rfl,?_⟩;replace HB := zs_ HB hb;(try clear hb)))
   go_roundg k1
   case measure => have := HK1.out;omega
   case rel => exact ⟨(x5_1 ++ (t284 ++ t286)),(wrap64 (x7_1 + 1)),(by first | rfl | (simp;done) | (simp [*];done)),(by first | rfl | (simp;done) | (simp [*];done)),H',⟨by have := HK1.out;omega⟩,⟨zl_ HB⟩⟩
theorem ZF.calls (k : Nat) (a0 : ByteArray) (r : List ByteArray) (w : World) (hL : Laid w) (h : ZF.f k a0 = some r) :
  Calls Tryd.prog 45 #[.string a0] w fun e w' => ∃ v0_ : Value,e = .returned (v0_) ∧ Kd.R Kd.string 9 w' w.heap.size (fun _ => True) v0_ r ∧ Below w.heap.size w w' := by
 have HLD := am_ hL
 clear hL
 have HB := am_ (Below.refl w.heap.size w)
 have H : (ZF.l0 k a0 ([] : List ByteArray) 0) = some r := h
 clear h
 have H' := am_ H
 clear H
 go_enter Tryd.func45,Tryd.ntmps45
 go_wp2
 go_loopg [3,5] k (fun kq v3 v5 w' => ∃ (x3_1 : List ByteArray) (x5_1 : Int),v5 = .int .i64 x5_1 ∧ Aside0 (ZF.l0 kq a0 x3_1 x5_1 = some r) ∧ Aside0 (kq ≤ k) ∧ Aside0 (Kd.R Kd.string 9 w' w.heap.size (fun _ => True) v3 x3_1) ∧ Aside0 (Below w.heap.size w w'))
 case atStart => exact ⟨(([] : List ByteArray)),(0),(by first | rfl | (simp;done) | (simp [*];done)),H',⟨Nat.le_refl _⟩,⟨by first | exact Kd.R_nil _ _ _ _ _ | exact Kd.N_nil _ _ _ _ _ | exact Kd.V_nil _ _ _ _ _ | exact Kd.Q_nil _ _ _ _ _ | exact Kd.S_nil _ _ _ _ _⟩,⟨zl_ HB⟩⟩
 case round =>
  clear H'
  obtain ⟨x3_1,x5_1,rfl,HA,HK1,HO_3,HB⟩ := hrel
  cases gk with
  | zero => exact absurd HA.out (by simp [ZF.l0])
  | succ k1 =>
   have H := HA.out
   clear HA
   simp only [ZF.l0] at H
   by_cases c2 : x5_1 < 8
   case neg =>
    rw [if_neg c2] at H
    have c2b0 := decide_eq_false c2
    clear c2
    obtain rfl := Option.some.inj H
    go_wp2
    go_ret
    exact ⟨_,zt_,zr HO_3,zl_ HB⟩
   rw [if_pos c2] at H
   have c2b0 := decide_eq_true c2
   clear c2
   replace H := Option.bind_eq_some_iff.mp H
   obtain ⟨t287,A30,H⟩ := H
   try dsimp only at H
   have A3 := am_ A30
   clear A30
   by_cases c4 : x3_1.length < 8796093022208
   case neg =>
    rw [if_neg c4] at H
    exact absurd H (by simp)
   rw [if_pos c4] at H
   have LMc4 := am_ c4
   clear c4
   obtain ⟨y288,hy288⟩ : ∃ y_ : List ByteArray,y_ = (x3_1 ++ [t287]) := ⟨_,rfl⟩
   replace H : (ZF.l0 k1 a0 y288 (wrap64 (x5_1 + 1))) = some r := by first | (rw [hy288];with_reducible exact H) | (have H2_ := (Option.bind_some _ _).symm.trans H;rw [hy288];with_reducible exact H2_) | (have H2_ := (Option.bind_some _ _).symm.trans H;with_reducible exact H2_) | with_reducible exact H | (rw [hy288];exact H) | exact H
   have Ny288 := am_ hy288
   clear hy288
   have H' := am_ H
   clear H
   go_wp2_with (first | ((with_reducible refine gate_callee (f := 66) rfl ?_);refine zgl (some 11) Tryd.func66 #[.string a0,.int .i64 x5_1] ?_;(with_reducible refine (Zs.calls k1 a0 x5_1 t287 _ ?side1 A3.out).mono ?_);(case side1 => exact HLD.out.on (zl_ HB));rintro e w5 ⟨rfl,hb⟩;refine ⟨_,rfl,?_⟩;replace HO_3 := zrb HO_3 hb;replace HB := zs_ HB hb;(try clear hb);(try clear hi)) | ((with_reducible refine gate_builtin (b := .append) (xs := #[.tmp 8,.tmp 12]) rfl ?_);at_builtin;refine Kd.R_append Kd.string (w0 := w) w.heap.size rfl (.tmp 8) (.tmp 12) 35 9 (.string ⟨#[]⟩) 16 rfl Tryd.underlying35 info9 rfl (by decide) (by omega) u3 x3_1 t287 [.string t287] (fun _ => True) (fun _ => False) rfl rfl ?aP (fun _ hk => hk.elim) ?aF ?aO ?aB ?aS ?aL ?_;(case aP => exact rfl);(case aB => exact (zl_ HB));(case aF => exact (fun _ _ => trivial));(case aO => exact (zr HO_3));(case aS => exact (below_size (zl_ HB)));(case aL => have := LMc4.out;omega);intro v289 w6 ho hb hg hat;rw [← Ny288.out] at ho;replace HB := am_ (hb);have HO290 := am_ (ho);clear HO_3;clear ho hb hg hat))
   go_roundg k1
   case measure => have := HK1.out;omega
   case rel => exact ⟨(y288),(wrap64 (x5_1 + 1)),(by first | rfl | (simp;done) | (simp [*];done)),H',⟨by have := HK1.out;omega⟩,⟨zr HO290⟩,⟨zl_ HB⟩⟩
theorem Zp.calls (k : Nat) (a0 : ByteArray) (r : ByteArray) (w : World) (hL : Laid w) (h : Zp.f k a0 = some r) :
  Calls Tryd.prog 26 #[.string a0] w fun e w' => e = .returned (.string r) ∧ Below w.heap.size w w' := by
 have HLD := am_ hL
 clear hL
 have HB := am_ (Below.refl w.heap.size w)
 have H : ((ZF.f k a0).bind fun t387 => (Zp.l0 k t387)) = some r := h
 clear h
 replace H := Option.bind_eq_some_iff.mp H
 obtain ⟨t387,A20,H⟩ := H
 try dsimp only at H
 have A2 := am_ A20
 clear A20
 have H' := am_ H
 clear H
 go_enter Tryd.func26,Tryd.ntmps26
 go_wp2_with (first | ((with_reducible refine gate_callee (f := 45) rfl ?_);refine zgl (some 5) Tryd.func45 #[.string a0] ?_;(with_reducible refine (ZF.calls k a0 t387 _ ?side1 A2.out).mono ?_);(case side1 => exact HLD.out.on (zl_ HB));rintro e w3 ⟨v388,rfl,ho0,hb⟩;refine ⟨_,rfl,?_⟩;have HO389 := am_ (Kd.R_lower ho0 (below_size (zl_ HB)));replace HB := zs_ HB hb;(try clear hb);(try clear ho0)))
 go_loopg [3] k (fun kq v3 w' => ∃ (x3_1 : List ByteArray),Aside0 (Zp.l0 kq x3_1 = some r) ∧ Aside0 (kq ≤ k) ∧ Aside0 (Kd.R Kd.string 9 w' w.heap.size (fun _ => True) v3 x3_1) ∧ Aside0 (Below w.heap.size w w'))
 case atStart => exact ⟨(t387),H',⟨Nat.le_refl _⟩,⟨zr HO389⟩,⟨zl_ HB⟩⟩
 case round =>
  clear H'
  try clear c2
  try clear p2
  obtain ⟨x3_1,HA,HK1,HO_3,HB⟩ := hrel
  cases gk with
  | zero => exact absurd HA.out (by simp [Zp.l0])
  | succ k1 =>
   have H := HA.out
   clear HA
   simp only [Zp.l0] at H
   by_cases c4 : (x3_1.length : Int) > 1
   case neg =>
    rw [if_neg c4] at H
    have c4b0 : decide (1 < (x3_1.length : Int)) = false := decide_eq_false c4
    have c4b1 : decide (1 < x3_1.length) = false := decide_eq_false (by omega)
    clear c4
    by_cases c8 : 0 < (x3_1.length : Int)
    case neg =>
     rw [if_neg c8] at H
     exact absurd H (by simp)
    rw [if_pos c8] at H
    have c8b0 := decide_eq_true c8
    have c8b1 : decide (0 < x3_1.length) = true := decide_eq_true (by omega)
    clear c8
    obtain rfl := Option.some.inj H
    obtain ⟨Ao9,co9,eo9⟩ := Kd.R_slice HO_3.out
    subst eo9
    have p393 : 0 ≤ (0 : Int) := (by omega)
    have q393 : 0 < (x3_1.length : Int) := zo_
    obtain ⟨ad393,e393,hx393_0⟩ := Kd.at_string (Kd.R_reads' HO_3.out).2.2 0 p393 q393
    cases e393
    have qi393 : (0 < x3_1.length) = True := eq_true (by omega)
    (try rw [show ((0 : Int)).toNat = 0 from rfl] at hx393_0)
    (try rw [Addr.add_zero'] at hx393_0)
    replace p393 := eq_true p393
    replace q393 := eq_true q393
    go_wp2
    go_ret
    exact ⟨zt_,zl_ HB⟩
   rw [if_pos c4] at H
   have c4b0 : decide (1 < (x3_1.length : Int)) = true := decide_eq_true c4
   have c4b1 : decide (1 < x3_1.length) = true := decide_eq_true (by omega)
   clear c4
   replace H := Option.bind_eq_some_iff.mp H
   obtain ⟨t390,A50,H⟩ := H
   try dsimp only at H
   have A5 := am_ A50
   clear A50
   have H' := am_ H
   clear H
   obtain ⟨Ao6,co6,eo6⟩ := Kd.R_slice HO_3.out
   subst eo6
   go_wp2_with (first | ((with_reducible refine gate_callee (f := 46) rfl ?_);refine zgl (some 10) Tryd.func46 #[.slice Ao6 x3_1.length co6] ?_;(with_reducible refine (Zy.calls k1 _ _ x3_1 t390 _ ?side1 ?side2 ?side3 A5.out).mono ?_);(case side1 => repeat (first | exact (Kd.R_reads' HO_3.out).2.2 | (with_reducible refine Kd.C_alloc ?_ _) | (with_reducible refine Kd.C_drewN ?_ _) | (with_reducible refine Kd.C_drew ?_)));(case side2 => exact (Kd.R_reads' HO_3.out).2.1);(case side3 => exact HLD.out.on (zl_ HB));rintro e w7 ⟨v391,rfl,ho0,hb⟩;refine ⟨_,rfl,?_⟩;have HO392 := am_ (Kd.R_lower (Kd.R_new' ho0 (Kd.R_lt (zr HO_3))) (below_size (zl_ HB)));replace HO_3 := am_ (Kd.R_elder' (zr HO_3) (Kd.R_base ho0) hb);replace HB := zs_ HB hb;(try clear hb);(try clear ho0)))
   go_roundg k1
   case measure => have := HK1.out;omega
   case rel => exact ⟨(t390),H',⟨by have := HK1.out;omega⟩,⟨by (with_reducible repeat (first | apply r1_ | apply r2_ | apply r3_));exact Kd.R_mono HO392.out (fun _ hk => trivial)⟩,⟨zl_ HB⟩⟩
end Go.Proofs.YtkfhejklnmkfmaaDoor.A
end

section
namespace Go.Proofs.YtkfhejklnmkfmaaDoor.A
open Go.RowKit Go.Shelf Go.Proofs.YtkfhejklnmkfmaaDoorW.PrintWords
set_option maxRecDepth 100000
def itoaLays_ren : Go.Shelf.Ren := ⟨fun | 171 => 48 | 243 => 68 | 246 => 78 | 283 => 83 | 284 => 84 | 285 => 85 | 286 => 86 | 129 => 90 | 317 => 89 | 318 => 91 | 319 => 92 | 320 => 93 | 337 => 94 | 338 => 95 | n => n,fun | 3 => 3 | 9 => 9 | 2 => 2 | 4 => 4 | 171 => 93 | 0 => 0 | 53 => 94 | 37 => 22 | 5 => 5 | 173 => 97 | 212 => 100 | 51 => 79 | 20 => 20 | 213 => 101 | 46 => 82 | 232 => 104 | 233 => 105 | n => n,fun | 17 => 1 | 18 => 2 | 19 => 3 | n => n⟩
theorem itoaLays : Go.Proofs.LaysM.n171 Tryd.prog itoaLays_ren where
 mixed := by kernel_rfl
 f129 := Tryd.func90.trans (congrArg some (by kernel_rfl))
 f171 := Tryd.func48.trans (congrArg some (by kernel_rfl))
 f243 := Tryd.func68.trans (congrArg some (by kernel_rfl))
 f246 := Tryd.func78.trans (congrArg some (by kernel_rfl))
 f283 := Tryd.func83.trans (congrArg some (by kernel_rfl))
 f284 := Tryd.func84.trans (congrArg some (by kernel_rfl))
 f285 := Tryd.func85.trans (congrArg some (by kernel_rfl))
 f286 := Tryd.func86.trans (congrArg some (by kernel_rfl))
 f317 := Tryd.func89.trans (congrArg some (by kernel_rfl))
 f318 := Tryd.func91.trans (congrArg some (by kernel_rfl))
 f319 := Tryd.func92.trans (congrArg some (by kernel_rfl))
 f320 := Tryd.func93.trans (congrArg some (by kernel_rfl))
 f337 := Tryd.func94.trans (congrArg some (by kernel_rfl))
 f338 := Tryd.func95.trans (congrArg some (by kernel_rfl))
 t0 := Tryd.underlying0
 a0 := Tryd.isAgg0
 z0 := Tryd.sizeOf0
 v0 := Tryd.zeroValue0
 t2 := Tryd.underlying2
 a2 := Tryd.isAgg2
 z2 := Tryd.sizeOf2
 v2 := Tryd.zeroValue2
 t3 := Tryd.underlying3
 a3 := Tryd.isAgg3
 z3 := Tryd.sizeOf3
 v3 := Tryd.zeroValue3
 t4 := Tryd.underlying4
 a4 := Tryd.isAgg4
 z4 := Tryd.sizeOf4
 v4 := Tryd.zeroValue4
 t5 := Tryd.underlying5
 a5 := Tryd.isAgg5
 z5 := Tryd.sizeOf5
 v5 := Tryd.zeroValue5
 t9 := Tryd.underlying9
 a9 := Tryd.isAgg9
 z9 := Tryd.sizeOf9
 v9 := Tryd.zeroValue9
 t20 := Tryd.underlying20
 a20 := Tryd.isAgg20
 z20 := Tryd.sizeOf20
 v20 := Tryd.zeroValue20
 t37 := Tryd.underlying22
 a37 := Tryd.isAgg22
 z37 := Tryd.sizeOf22
 v37 := Tryd.zeroValue22
 t46 := Tryd.underlying82
 a46 := Tryd.isAgg82
 z46 := Tryd.sizeOf82
 v46 := Tryd.zeroValue82
 t51 := Tryd.underlying79
 a51 := Tryd.isAgg79
 z51 := Tryd.sizeOf79
 v51 := Tryd.zeroValue79
 t53 := Tryd.underlying94
 a53 := Tryd.isAgg94
 z53 := Tryd.sizeOf94
 v53 := Tryd.zeroValue94
 t171 := Tryd.underlying93
 a171 := Tryd.isAgg93
 z171 := Tryd.sizeOf93
 v171 := Tryd.zeroValue93
 t173 := Tryd.underlying97
 a173 := Tryd.isAgg97
 z173 := Tryd.sizeOf97
 v173 := Tryd.zeroValue97
 t212 := Tryd.underlying100
 a212 := Tryd.isAgg100
 z212 := Tryd.sizeOf100
 v212 := Tryd.zeroValue100
 t213 := Tryd.underlying101
 a213 := Tryd.isAgg101
 z213 := Tryd.sizeOf101
 t232 := Tryd.underlying104
 a232 := Tryd.isAgg104
 z232 := Tryd.sizeOf104
 v232 := Tryd.zeroValue104
 t233 := Tryd.underlying105
 a233 := Tryd.isAgg105
 z233 := Tryd.sizeOf105
 v233 := Tryd.zeroValue105
 g17 := by kernel_rfl
 g18 := by kernel_rfl
 g19 := by kernel_rfl
 i0 := by kernel_rfl
 i2 := by kernel_rfl
 i3 := by kernel_rfl
 i4 := by kernel_rfl
 i5 := by kernel_rfl
 i9 := by kernel_rfl
 i20 := by kernel_rfl
 i37 := by kernel_rfl
 i46 := by kernel_rfl
 i51 := by kernel_rfl
 i53 := by kernel_rfl
 i171 := by kernel_rfl
 i173 := by kernel_rfl
 i212 := by kernel_rfl
 i232 := by kernel_rfl
 i233 := by kernel_rfl
 m17 := by kernel_rfl
 m18 := by kernel_rfl
 m19 := by kernel_rfl
structure LaidT (w : World) : Prop where
 tab : Lib.TabIs Tryd.prog w "internal/strconv.uint64pow10" .u64 Lib.pow10Tab
theorem LaidT.on {w W : World} (h : LaidT w) (b : Below w.heap.size w W) : LaidT W := ⟨((Lib.tabBelow_of_tabIs h.tab).on b).here⟩
theorem itoa_walk (a0 : Int) (r : ByteArray) (w : World) (hT : LaidT w) (h : Yk.f a0 = some r) :
  Calls Tryd.prog 48 #[.int .i64 a0] w fun e w' => e = .returned (.string r) ∧ Below w.heap.size w w' := by
 unfold Yk.f at h
 by_cases c : -9223372036854775808 ≤ a0 ∧ a0 ≤ 9223372036854775807
 ·rw [if_pos c] at h
  obtain rfl := Option.some.inj h
  refine Calls.mono (Any.strconv_Itoa itoaLays a0 c.1 c.2 w hT.tab) fun e w' hh => ?_
  obtain ⟨he,k,os,rfl⟩ := hh
  exact ⟨he,Lib.below_grow _ w (Nat.le_refl _) k os⟩
 ·rw [if_neg c] at h
  cases h
end Go.Proofs.YtkfhejklnmkfmaaDoor.A
end

section
namespace Go.Proofs.YtkfhejklnmkfmaaDoor.A
open Go.RowKit Go.Proofs.YtkfhejklnmkfmaaDoorW.PrintWords Go.Proofs.YtkfhejklnmkfmaaDoorW.PrintLast Go.Proofs.YtkfhejklnmkfmaaDoorW.PrintMore
attribute [local go_sem] max2_int min2_int max_two min_two max_three min_three max_four min_four
theorem Yk.calls (a0 : Int) (r : ByteArray) (w : World) (hT : LaidT w) (h : Yk.f a0 = some r) :
  Calls Tryd.prog 48 #[.int .i64 a0] w fun e w' => e = .returned (.string r) ∧ Below w.heap.size w w' := itoa_walk a0 r w hT h
def ZO.T1 : Bool × List (List Nat × List Nat) := (true,[([],[]),([0],[0]),([1],[1]),([2],[2]),([],[]),([4],[4]),([5],[5]),([3,6],[3,6]),([7],[7]),([],[]),([9],[9]),([10,6],[10]),([8,11],[8,11]),([12],[12]),([],[]),([14],[14]),([15,11],[15]),([13,16],[13,16]),([17,16,0,1,2,3,4,5,6,7,8,9,10,11,12,13,14,15,16,17],[17])])
def ZO.B1 : List Nat := [0,1,3,7,0,16,48,127,255,0,512,1648,4095,8191,0,16384,52848,131071,262143]
theorem ZO.tab1 : rtab .any (opsOf Tryd.f24 1) = ZO.T1 := by kernel_rfl
theorem ZO.bits1 : waitsOk ZO.T1.2 ZO.B1 = true := by kernel_rfl
theorem ZO.calls (a0_0 : ByteArray) (a0_1 : Int) (a0_2 : Int) (a0_3 : Int) (r : ByteArray) (w : World) (hT : LaidT w) (h : ZO.f a0_0 a0_1 a0_2 a0_3 = some r) :
  Calls Tryd.prog 24 #[.agg #[.string a0_0,.int .i64 a0_1,.int .i64 a0_2,.int .i64 a0_3]] w fun e w' => e = .returned (.string r) ∧ Below w.heap.size w w' := by
 have hu24 := Tryd.underlying24
 have HTD := am_ hT
 clear hT
 have HB := am_ (Below.refl w.heap.size w)
 have H : (if 6 + a0_0.size ≤ 9223372036854775807 then (if ((⟨#[103,114,97,110,116,32]⟩ : ByteArray) ++ a0_0).size + 1 ≤ 9223372036854775807 then ((Yk.f a0_1).bind fun t327 => (if (((⟨#[103,114,97,110,116,32]⟩ : ByteArray) ++ a0_0) ++ (⟨#[32]⟩ : ByteArray)).size + t327.size ≤ 9223372036854775807 then (if ((((⟨#[103,114,97,110,116,32]⟩ : ByteArray) ++ a0_0) ++ (⟨#[32]⟩ : ByteArray)) ++ t327).size + 1 ≤ 9223372036854775807 then ((Yk.f a0_2).bind fun t328 => (if (((((⟨#[103,114,97,110,116,32]⟩ : ByteArray) ++ a0_0) ++ (⟨#[32]⟩ : ByteArray)) ++ t327) ++ (⟨#[32]⟩ : ByteArray)).size + t328.size ≤ 9223372036854775807 then (if ((((((⟨#[103,114,97,110,116,32]⟩ : ByteArray) ++ a0_0) ++ (⟨#[32]⟩ : ByteArray)) ++ t327) ++ (⟨#[32]⟩ : ByteArray)) ++ t328).size + 1 ≤ 9223372036854775807 then ((Yk.f a0_3).bind fun t329 => (if (((((((⟨#[103,114,97,110,116,32]⟩ : ByteArray) ++ a0_0) ++ (⟨#[32]⟩ : ByteArray)) ++ t327) ++ (⟨#[32]⟩ : ByteArray)) ++ t328) ++ (⟨#[32]⟩ : ByteArray)).size + t329.size ≤ 9223372036854775807 then (some ((((((((⟨#[103,114,97,110,116,32]⟩ : ByteArray) ++ a0_0) ++ (⟨#[32]⟩ : ByteArray)) ++ t327) ++ (⟨#[32]⟩ : ByteArray)) ++ t328) ++ (⟨#[32]⟩ : ByteArray)) ++ t329)) else (none))) else (none)) else (none))) else (none)) else (none))) else (none)) else (none)) = some r := h
 clear h
 by_cases c2 : 6 + a0_0.size ≤ 9223372036854775807
 case neg =>
  rw [if_neg c2] at H
  exact absurd H (by simp)
 rw [if_pos c2] at H
 have c2b0 := eq_true c2
 have c2b1 := decide_eq_true c2
 try have c2b2 : (9223372036854775807 < 6 + a0_0.size) = False := eq_false (Nat.not_lt.2 c2)
 by_cases c3 : ((⟨#[103,114,97,110,116,32]⟩ : ByteArray) ++ a0_0).size + 1 ≤ 9223372036854775807
 case neg =>
  rw [if_neg c3] at H
  exact absurd H (by simp)
 rw [if_pos c3] at H
 have c3b0 := eq_true c3
 have c3b1 := decide_eq_true c3
 try have c3b2 : (9223372036854775807 < ((⟨#[103,114,97,110,116,32]⟩ : ByteArray) ++ a0_0).size + 1) = False := eq_false (Nat.not_lt.2 c3)
 (try have c3b3 := c3b2;simp only [ByteArray.size_append,show (⟨#[103,114,97,110,116,32]⟩ : ByteArray).size = 6 from rfl] at c3b3)
 replace H := Option.bind_eq_some_iff.mp H
 obtain ⟨t327,A40,H⟩ := H
 try dsimp only at H
 have A4 := am_ A40
 clear A40
 by_cases c5 : (((⟨#[103,114,97,110,116,32]⟩ : ByteArray) ++ a0_0) ++ (⟨#[32]⟩ : ByteArray)).size + t327.size ≤ 9223372036854775807
 case neg =>
  rw [if_neg c5] at H
  exact absurd H (by simp)
 rw [if_pos c5] at H
 have c5b0 := eq_true c5
 have c5b1 := decide_eq_true c5
 try have c5b2 : (9223372036854775807 < (((⟨#[103,114,97,110,116,32]⟩ : ByteArray) ++ a0_0) ++ (⟨#[32]⟩ : ByteArray)).size + t327.size) = False := eq_false (Nat.not_lt.2 c5)
 (try have c5b3 := c5b2;simp only [ByteArray.size_append,show (⟨#[103,114,97,110,116,32]⟩ : ByteArray).size = 6 from rfl,show (⟨#[32]⟩ : ByteArray).size = 1 from rfl] at c5b3)
 by_cases c6 : ((((⟨#[103,114,97,110,116,32]⟩ : ByteArray) ++ a0_0) ++ (⟨#[32]⟩ : ByteArray)) ++ t327).size + 1 ≤ 9223372036854775807
 case neg =>
  rw [if_neg c6] at H
  exact absurd H (by simp)
 rw [if_pos c6] at H
 have c6b0 := eq_true c6
 have c6b1 := decide_eq_true c6
 try have c6b2 : (9223372036854775807 < ((((⟨#[103,114,97,110,116,32]⟩ : ByteArray) ++ a0_0) ++ (⟨#[32]⟩ : ByteArray)) ++ t327).size + 1) = False := eq_false (Nat.not_lt.2 c6)
 (try have c6b3 := c6b2;simp only [ByteArray.size_append,show (⟨#[103,114,97,110,116,32]⟩ : ByteArray).size = 6 from rfl,show (⟨#[32]⟩ : ByteArray).size = 1 from rfl] at c6b3)
 replace H := Option.bind_eq_some_iff.mp H
 obtain ⟨t328,A70,H⟩ := H
 try dsimp only at H
 have A7 := am_ A70
 clear A70
 by_cases c8 : (((((⟨#[103,114,97,110,116,32]⟩ : ByteArray) ++ a0_0) ++ (⟨#[32]⟩ : ByteArray)) ++ t327) ++ (⟨#[32]⟩ : ByteArray)).size + t328.size ≤ 9223372036854775807
 case neg =>
  rw [if_neg c8] at H
  exact absurd H (by simp)
 rw [if_pos c8] at H
 have c8b0 := eq_true c8
 have c8b1 := decide_eq_true c8
 try have c8b2 : (9223372036854775807 < (((((⟨#[103,114,97,110,116,32]⟩ : ByteArray) ++ a0_0) ++ (⟨#[32]⟩ : ByteArray)) ++ t327) ++ (⟨#[32]⟩ : ByteArray)).size + t328.size) = False := eq_false (Nat.not_lt.2 c8)
 (try have c8b3 := c8b2;simp only [ByteArray.size_append,show (⟨#[103,114,97,110,116,32]⟩ : ByteArray).size = 6 from rfl,show (⟨#[32]⟩ : ByteArray).size = 1 from rfl] at c8b3)
 by_cases c9 : ((((((⟨#[103,114,97,110,116,32]⟩ : ByteArray) ++ a0_0) ++ (⟨#[32]⟩ : ByteArray)) ++ t327) ++ (⟨#[32]⟩ : ByteArray)) ++ t328).size + 1 ≤ 9223372036854775807
 case neg =>
  rw [if_neg c9] at H
  exact absurd H (by simp)
 rw [if_pos c9] at H
 have c9b0 := eq_true c9
 have c9b1 := decide_eq_true c9
 try have c9b2 : (9223372036854775807 < ((((((⟨#[103,114,97,110,116,32]⟩ : ByteArray) ++ a0_0) ++ (⟨#[32]⟩ : ByteArray)) ++ t327) ++ (⟨#[32]⟩ : ByteArray)) ++ t328).size + 1) = False := eq_false (Nat.not_lt.2 c9)
 (try have c9b3 := c9b2;simp only [ByteArray.size_append,show (⟨#[103,114,97,110,116,32]⟩ : ByteArray).size = 6 from rfl,show (⟨#[32]⟩ : ByteArray).size = 1 from rfl] at c9b3)
 replace H := Option.bind_eq_some_iff.mp H
 obtain ⟨t329,A100,H⟩ := H
 try dsimp only at H
 have A10 := am_ A100
 clear A100
 by_cases c11 : (((((((⟨#[103,114,97,110,116,32]⟩ : ByteArray) ++ a0_0) ++ (⟨#[32]⟩ : ByteArray)) ++ t327) ++ (⟨#[32]⟩ : ByteArray)) ++ t328) ++ (⟨#[32]⟩ : ByteArray)).size + t329.size ≤ 9223372036854775807
 case neg =>
  rw [if_neg c11] at H
  exact absurd H (by simp)
 rw [if_pos c11] at H
 have c11b0 := eq_true c11
 have c11b1 := decide_eq_true c11
 try have c11b2 : (9223372036854775807 < (((((((⟨#[103,114,97,110,116,32]⟩ : ByteArray) ++ a0_0) ++ (⟨#[32]⟩ : ByteArray)) ++ t327) ++ (⟨#[32]⟩ : ByteArray)) ++ t328) ++ (⟨#[32]⟩ : ByteArray)).size + t329.size) = False := eq_false (Nat.not_lt.2 c11)
 (try have c11b3 := c11b2;simp only [ByteArray.size_append,show (⟨#[103,114,97,110,116,32]⟩ : ByteArray).size = 6 from rfl,show (⟨#[32]⟩ : ByteArray).size = 1 from rfl] at c11b3)
 obtain rfl := Option.some.inj H
 go_enter Tryd.func24,Tryd.ntmps24
 try go_wp2_with (first | ((with_reducible refine gate_dst (N := 1) rfl ?_);refine zbx (N := 1) (cs := #[.string a0_0,.int .i64 a0_1,.int .i64 a0_2,.int .i64 a0_3]) (t := 24) ?_;intro gb326 hg w12 hbox hb;have BK326 := am_ (hbox);have GW326 := zw_ HB hg;have GE326 := zw_ HB hg;replace HB := zs_ HB hb;clear hb hbox hg))
 replace BK326 := am_ (blk_drew BK326.out)
 replace HB := am_ (below_drew1 HB.out)
 refine start_ (n := 19) (S := fun w' => w'.cell? ⟨gb326,0,none⟩ = some (.string a0_0) ∧ w'.cell? ⟨gb326,1,none⟩ = some (.int .i64 a0_1) ∧ w'.cell? ⟨gb326,2,none⟩ = some (.int .i64 a0_2) ∧ w'.cell? ⟨gb326,3,none⟩ = some (.int .i64 a0_3)) (ds := []) #[false,false,false,false,false,false,false,false,false,false,false,false,false,false,false,false,false,false,false] (by kernel_rfl) rfl rfl ⟨(blk_cell BK326.out 0).trans rfl,(blk_cell BK326.out 1).trans rfl,(blk_cell BK326.out 2).trans rfl,(blk_cell BK326.out 3).trans rfl⟩ (fun hHeld => ?_);refine with_tabW ZO.tab1 ZO.bits1 (fun HT_ HW_ => ?_)
 generalize w12.drew = w13 at BK326 HB hHeld ⊢
 refine pu_ 0 3 HT_ ?_
 refine pu_ 4 7 HT_ ?_
 refine pu_ 9 12 HT_ ?_
 refine pu_ 14 17 HT_ ?_
 refine tk_ 1 4 HT_ HW_ hHeld ?_
 refine pu_ 2 5 HT_ ?_
 refine pu_ 3 6 HT_ ?_
 refine tk_ 5 8 HT_ HW_ hHeld ?_
 refine tk_ 10 13 HT_ HW_ hHeld ?_
 refine tk_ 15 18 HT_ HW_ hHeld ?_
 refine zon 6 (N := some 9) HT_ (fun K hK => ?_)
 refine zgo Tryd.func48 #[.int .i64 a0_1] ?_
 with_reducible refine (Yk.calls a0_1 t327 _ ?side1 A4.out).mono ?_
 (case side1 => exact HTD.out.on (zl_ HB))
 rintro e w14 ⟨rfl,hb⟩
 refine ⟨_,rfl,?_⟩
 replace BK326 := zb BK326 hb
 replace HB := zs_ HB hb
 try clear hb
 refine hK.out _ _ ⟨(blk_cell BK326.out 0).trans rfl,(blk_cell BK326.out 1).trans rfl,(blk_cell BK326.out 2).trans rfl,(blk_cell BK326.out 3).trans rfl⟩ (fun hHeld => ?_)
 clear hK K
 refine nm_ ?_
 refine pu_ 7 10 HT_ ?_
 refine pu_ 8 11 HT_ ?_
 refine zon 11 (N := some 14) HT_ (fun K hK => ?_)
 refine zgo Tryd.func48 #[.int .i64 a0_2] ?_
 with_reducible refine (Yk.calls a0_2 t328 _ ?side1 A7.out).mono ?_
 (case side1 => exact HTD.out.on (zl_ HB))
 rintro e w15 ⟨rfl,hb⟩
 refine ⟨_,rfl,?_⟩
 replace BK326 := zb BK326 hb
 replace HB := zs_ HB hb
 try clear hb
 refine hK.out _ _ ⟨(blk_cell BK326.out 0).trans rfl,(blk_cell BK326.out 1).trans rfl,(blk_cell BK326.out 2).trans rfl,(blk_cell BK326.out 3).trans rfl⟩ (fun hHeld => ?_)
 clear hK K
 refine nm_ ?_
 refine pu_ 12 15 HT_ ?_
 refine pu_ 13 16 HT_ ?_
 refine zon 16 (N := some 19) HT_ (fun K hK => ?_)
 refine zgo Tryd.func48 #[.int .i64 a0_3] ?_
 with_reducible refine (Yk.calls a0_3 t329 _ ?side1 A10.out).mono ?_
 (case side1 => exact HTD.out.on (zl_ HB))
 rintro e w16 ⟨rfl,hb⟩
 refine ⟨_,rfl,?_⟩
 replace BK326 := zb BK326 hb
 replace HB := zs_ HB hb
 try clear hb
 refine hK.out _ _ ⟨(blk_cell BK326.out 0).trans rfl,(blk_cell BK326.out 1).trans rfl,(blk_cell BK326.out 2).trans rfl,(blk_cell BK326.out 3).trans rfl⟩ (fun hHeld => ?_)
 clear hK K
 refine nm_ ?_
 refine pu_ 17 20 HT_ ?_
 refine pu_ 18 2 HT_ ?_
 refine done_ (done_of HT_.out (by kernel_rfl)) ?_
 try go_wp2
 go_ret
 exact ⟨zt_,zl_ HB⟩
theorem ZG.calls (k : Nat) (A0 : Option Addr) (c0 : Nat) (l0 : List Int) (a1 : Int) (a2 : Int) (r : Bool) (w : World) (hr0 : Kd.C (Kd.int .i64) w A0 l0.length l0) (hc0 : l0.length ≤ c0) (h : ZG.f k l0 a1 a2 = some r) :
  Calls Tryd.prog 41 #[.slice A0 l0.length c0,.int .i64 a1,.int .i64 a2] w fun e w' => e = .returned (.bool r) ∧ Drawn0 w w' := by
 have HR0 := am_ hr0
 have HC0 := am_ hc0
 clear hr0 hc0
 have H : (ZG.l0 k l0 a1 a2 l0 (l0.length : Int) 0) = some r := h
 clear h
 have H' := am_ H
 clear H
 go_enter Tryd.func41,Tryd.ntmps41
 go_wp2
 go_loopg [11] k (fun kq v11 w' => ∃ (x11_1 : Int),v11 = .int .i64 x11_1 ∧ Aside0 (ZG.l0 kq l0 a1 a2 l0 (l0.length : Int) x11_1 = some r) ∧ Aside0 (kq ≤ k) ∧ Drawn0 w w')
 case atStart => exact ⟨(0),(by first | rfl | (simp;done) | (simp [*];done)),H',⟨Nat.le_refl _⟩,by repeat (first | exact Drawn0.refl _ | apply Drawn0.step)⟩
 case round =>
  clear H'
  try clear p2
  obtain ⟨x11_1,rfl,HA,HK1,⟨m1,rfl⟩⟩ := hrel
  cases gk with
  | zero => exact absurd HA.out (by simp [ZG.l0])
  | succ k1 =>
   have H := HA.out
   clear HA
   simp only [ZG.l0] at H
   by_cases c4 : x11_1 < (l0.length : Int)
   case neg =>
    rw [if_neg c4] at H
    have c4b0 := decide_eq_false c4
    clear c4
    obtain rfl := Option.some.inj H
    go_wp2
    go_ret
    exact ⟨by first | rfl | (simp;done) | (simp [*];done),by repeat (first | exact Drawn0.refl _ | apply Drawn0.step)⟩
   rw [if_pos c4] at H
   have c4b0 := decide_eq_true c4
   clear c4
   by_cases c5 : 0 ≤ x11_1
   case neg =>
    rw [if_neg c5] at H
    exact absurd H (by simp)
   rw [if_pos c5] at H
   have c5b0 := decide_eq_true c5
   clear c5
   by_cases c6 : x11_1 < (l0.length : Int)
   case neg =>
    rw [if_neg c6] at H
    exact absurd H (by simp)
   rw [if_pos c6] at H
   have c6b0 := decide_eq_true c6
   clear c6
   replace H := Option.bind_eq_some_iff.mp H
   obtain ⟨t161,A70,H⟩ := H
   try dsimp only at H
   have A7 := am_ A70
   clear A70
   by_cases c8 : t161 = true
   case neg =>
    replace c8 := Bool.eq_false_iff.mpr c8
    subst c8
    rw [if_neg (show ¬ (false = true) by decide)] at H
    obtain rfl := Option.some.inj H
    have p160 : 0 ≤ (x11_1 : Int) := zo_
    have q160 : x11_1 < (l0.length : Int) := zo_
    obtain ⟨ad160,e160,hx160_0⟩ := Kd.at_int HR0.out x11_1 p160 q160
    cases e160
    replace p160 := eq_true p160
    replace q160 := eq_true q160
    go_wp2_with (first | ((with_reducible refine gate_callee (f := 27) rfl ?_);refine zgl (some 19) Tryd.func27 #[.int .i64 (rd l0 x11_1),.int .i64 a1,.int .i64 a2] ?_;(with_reducible refine (ZH.calls (rd l0 x11_1) a1 a2 false _ A7.out).mono ?_);rintro e w' ⟨rfl,⟨nd,rfl⟩⟩;refine ⟨_,rfl,?_⟩))
    go_ret
    exact ⟨by first | rfl | (simp;done) | (simp [*];done),by repeat (first | exact Drawn0.refl _ | apply Drawn0.step)⟩
   subst c8
   rw [if_pos rfl] at H
   by_cases c9 : x11_1 > 0
   case neg =>
    rw [if_neg c9] at H
    have c9b0 : decide (0 < x11_1) = false := decide_eq_false c9
    clear c9
    have H' := am_ H
    clear H
    have p160 : 0 ≤ (x11_1 : Int) := zo_
    have q160 : x11_1 < (l0.length : Int) := zo_
    obtain ⟨ad160,e160,hx160_0⟩ := Kd.at_int HR0.out x11_1 p160 q160
    cases e160
    replace p160 := eq_true p160
    replace q160 := eq_true q160
    go_wp2_with (first | ((with_reducible refine gate_callee (f := 27) rfl ?_);refine zgl (some 19) Tryd.func27 #[.int .i64 (rd l0 x11_1),.int .i64 a1,.int .i64 a2] ?_;(with_reducible refine (ZH.calls (rd l0 x11_1) a1 a2 true _ A7.out).mono ?_);rintro e w' ⟨rfl,⟨nd,rfl⟩⟩;refine ⟨_,rfl,?_⟩))
    go_roundg k1
    case measure => have := HK1.out;omega
    case rel => exact ⟨(wrap64 (x11_1 + 1)),(by first | rfl | (simp;done) | (simp [*];done)),H',⟨by have := HK1.out;omega⟩,by repeat (first | exact Drawn0.refl _ | apply Drawn0.step)⟩
   rw [if_pos c9] at H
   have c9b0 : decide (0 < x11_1) = true := decide_eq_true c9
   clear c9
   obtain ⟨ji10,hji10⟩ : ∃ j_ : Int,(wrap64 (x11_1 - 1)) = j_ := ⟨_,rfl⟩
   replace H : (if 0 ≤ (ji10) then (if (ji10) < (l0.length : Int) then (if (rd l0 (ji10)) ≥ (rd l0 x11_1) then (some false) else (ZG.l0 k1 l0 a1 a2 l0 (l0.length : Int) (wrap64 (x11_1 + 1)))) else (none)) else (none)) = some r := by first | (rw [hji10] at H;exact H) | (simp only [hji10] at H ⊢;exact H)
   (try rw [hji10] at A7)
   have hji10w : (IntKind.i64.wrap (x11_1 - 1)) = ji10 := (i64_w _).trans hji10
   by_cases c11 : 0 ≤ (ji10)
   case neg =>
    rw [if_neg c11] at H
    exact absurd H (by simp)
   rw [if_pos c11] at H
   have c11b0 := decide_eq_true c11
   clear c11
   by_cases c12 : (ji10) < (l0.length : Int)
   case neg =>
    rw [if_neg c12] at H
    exact absurd H (by simp)
   rw [if_pos c12] at H
   have c12b0 := decide_eq_true c12
   clear c12
   by_cases c13 : (rd l0 (ji10)) ≥ (rd l0 x11_1)
   ·rw [if_pos c13] at H
    have c13b0 : decide ((rd l0 x11_1) ≤ (rd l0 (ji10))) = true := decide_eq_true c13
    clear c13
    obtain rfl := Option.some.inj H
    have p160 : 0 ≤ (x11_1 : Int) := zo_
    have q160 : x11_1 < (l0.length : Int) := zo_
    obtain ⟨ad160,e160,hx160_0⟩ := Kd.at_int HR0.out x11_1 p160 q160
    cases e160
    replace p160 := eq_true p160
    replace q160 := eq_true q160
    go_wp2_with (first | ((with_reducible refine gate_callee (f := 27) rfl ?_);refine zgl (some 19) Tryd.func27 #[.int .i64 (rd l0 x11_1),.int .i64 a1,.int .i64 a2] ?_;(with_reducible refine (ZH.calls (rd l0 x11_1) a1 a2 true _ A7.out).mono ?_);rintro e w' ⟨rfl,⟨nd,rfl⟩⟩;refine ⟨_,rfl,?_⟩;have p162 : 0 ≤ ((ji10) : Int) := zo_;have q162 : (ji10) < (l0.length : Int) := zo_;obtain ⟨ad162,e162,hx162_0⟩ := Kd.at_int HR0.out (ji10) p162 q162;obtain rfl : ad160 = ad162 := (by injection e162);replace p162 := eq_true p162;replace q162 := eq_true q162))
    go_ret
    exact ⟨by first | rfl | (simp;done) | (simp only [← hji10] <;> (first | rfl | simp)) | (simp [*];done),by repeat (first | exact Drawn0.refl _ | apply Drawn0.step)⟩
   rw [if_neg c13] at H
   have c13b0 : decide ((rd l0 x11_1) ≤ (rd l0 (ji10))) = false := decide_eq_false c13
   clear c13
   have H' := am_ H
   clear H
   have p160 : 0 ≤ (x11_1 : Int) := zo_
   have q160 : x11_1 < (l0.length : Int) := zo_
   obtain ⟨ad160,e160,hx160_0⟩ := Kd.at_int HR0.out x11_1 p160 q160
   cases e160
   replace p160 := eq_true p160
   replace q160 := eq_true q160
   go_wp2_with (first | ((with_reducible refine gate_callee (f := 27) rfl ?_);refine zgl (some 19) Tryd.func27 #[.int .i64 (rd l0 x11_1),.int .i64 a1,.int .i64 a2] ?_;(with_reducible refine (ZH.calls (rd l0 x11_1) a1 a2 true _ A7.out).mono ?_);rintro e w' ⟨rfl,⟨nd,rfl⟩⟩;refine ⟨_,rfl,?_⟩;have p162 : 0 ≤ ((ji10) : Int) := zo_;have q162 : (ji10) < (l0.length : Int) := zo_;obtain ⟨ad162,e162,hx162_0⟩ := Kd.at_int HR0.out (ji10) p162 q162;obtain rfl : ad160 = ad162 := (by injection e162);replace p162 := eq_true p162;replace q162 := eq_true q162))
   go_roundg k1
   case measure => have := HK1.out;omega
   case rel => exact ⟨(wrap64 (x11_1 + 1)),(by first | rfl | (simp;done) | (simp [*];done)),H',⟨by have := HK1.out;omega⟩,by repeat (first | exact Drawn0.refl _ | apply Drawn0.step)⟩
theorem ZL.calls (k : Nat) (a0 : Int) (A1 : Option Addr) (c1 : Nat) (l1 : List Int) (r : Bool) (w : World) (hr1 : Kd.C (Kd.int .i64) w A1 l1.length l1) (hc1 : l1.length ≤ c1) (h : ZL.f k a0 l1 = some r) :
  Calls Tryd.prog 20 #[.int .i64 a0,.slice A1 l1.length c1] w fun e w' => e = .returned (.bool r) ∧ Drawn0 w w' := by
 have HR1 := am_ hr1
 have HC1 := am_ hc1
 clear hr1 hc1
 have H : (if (l1.length : Int) = (wrap64 ((wrap64 (Int.tdiv (wrap64 (a0 - 1)) 3)) + 1)) then ((ZG.f k l1 0 (wrap64 (a0 - 1))).bind fun t163 => (some t163)) else (some false)) = some r := h
 clear h
 by_cases c3 : (l1.length : Int) = (wrap64 ((wrap64 (Int.tdiv (wrap64 (a0 - 1)) 3)) + 1))
 case neg =>
  rw [if_neg c3] at H
  have c3b0 := beq_eq_false_iff_ne.mpr c3
  have c3b1 := bne_iff_ne.mpr c3
  obtain rfl := Option.some.inj H
  go_enter Tryd.func20,Tryd.ntmps20
  go_wp2
  go_ret
  exact ⟨by first | rfl | (simp;done) | (simp [*];done),by repeat (first | exact Drawn0.refl _ | apply Drawn0.step)⟩
 rw [if_pos c3] at H
 have c3b0 := beq_iff_eq.mpr c3
 have c3b1 := bne_eq_false_iff_eq.mpr c3
 clear c3
 replace H := Option.bind_eq_some_iff.mp H
 obtain ⟨t163,A40,H⟩ := H
 try dsimp only at H
 have A4 := am_ A40
 clear A40
 obtain rfl := Option.some.inj H
 go_enter Tryd.func20,Tryd.ntmps20
 go_wp2_with (first | (go_at_call 41;(with_reducible refine (ZG.calls k _ _ l1 0 (wrap64 (a0 - 1)) t163 _ ?side1 ?side2 A4.out).mono ?_);(case side1 => repeat (first | exact HR1.out | (with_reducible refine Kd.C_alloc ?_ _) | (with_reducible refine Kd.C_drewN ?_ _) | (with_reducible refine Kd.C_drew ?_)));(case side2 => exact HC1.out);rintro e w' ⟨rfl,⟨nd,rfl⟩⟩))
 go_ret
 exact ⟨by first | rfl | (simp;done) | (simp [*];done),by repeat (first | exact Drawn0.refl _ | apply Drawn0.step)⟩
theorem ZE.calls (k : Nat) (a0 : Int) (r : ByteArray) (w : World) (hL : Laid w) (h : ZE.f k a0 = some r) :
  Calls Tryd.prog 23 #[.int .i64 a0] w fun e w' => e = .returned (.string r) ∧ Below w.heap.size w w' := by
 have HLD := am_ hL
 clear hL
 have HB := am_ (Below.refl w.heap.size w)
 have H : ((Zl.f k a0 1).bind fun t324 => (if 9 + t324.size ≤ 9223372036854775807 then ((ZD.f k ((⟨#[110,111,100,101,32,115,101,101,100]⟩ : ByteArray) ++ t324)).bind fun t325 => (some t325)) else (none))) = some r := h
 clear h
 replace H := Option.bind_eq_some_iff.mp H
 obtain ⟨t324,A20,H⟩ := H
 try dsimp only at H
 have A2 := am_ A20
 clear A20
 by_cases c3 : 9 + t324.size ≤ 9223372036854775807
 case neg =>
  rw [if_neg c3] at H
  exact absurd H (by simp)
 rw [if_pos c3] at H
 have c3b0 := eq_true c3
 have c3b1 := decide_eq_true c3
 try have c3b2 : (9223372036854775807 < 9 + t324.size) = False := eq_false (Nat.not_lt.2 c3)
 replace H := Option.bind_eq_some_iff.mp H
 obtain ⟨t325,A40,H⟩ := H
 try dsimp only at H
 have A4 := am_ A40
 clear A40
 obtain rfl := Option.some.inj H
 go_enter Tryd.func23,Tryd.ntmps23
 go_wp2_with (first | ((with_reducible refine gate_callee (f := 47) rfl ?_);refine zgl (some 4) Tryd.func47 #[.int .i64 a0,.int .i64 1] ?_;(with_reducible refine (Zl.calls k a0 1 t324 _ A2.out).mono ?_);rintro e w5 ⟨rfl,hb⟩;refine ⟨_,rfl,?_⟩;replace HB := zs_ HB hb;(try clear hb);(try clear hi)) | ((with_reducible refine gate_callee (f := 44) rfl ?_);refine zgl (some 6) Tryd.func44 #[.string ((⟨#[110,111,100,101,32,115,101,101,100]⟩ : ByteArray) ++ t324)] ?_;(with_reducible refine (ZD.calls k ((⟨#[110,111,100,101,32,115,101,101,100]⟩ : ByteArray) ++ t324) t325 _ ?side1 A4.out).mono ?_);(case side1 => exact HLD.out.on (zl_ HB));rintro e w6 ⟨rfl,hb⟩;refine ⟨_,rfl,?_⟩;replace HB := zs_ HB hb;(try clear hb)))
 go_ret
 exact ⟨zt_,zl_ HB⟩
end Go.Proofs.YtkfhejklnmkfmaaDoor.A
end
