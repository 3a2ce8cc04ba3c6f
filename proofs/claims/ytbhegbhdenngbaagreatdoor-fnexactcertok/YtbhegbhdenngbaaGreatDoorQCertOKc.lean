/- A part of the proof that FnExactCertOK returns true at every input: plain functions, contracts and lemmas. No conditions. -/
import Derived.Test.YtbhegbhdenngbaaGreatDoorQCertOKb
import Derived.Lib.SlBy
import Derived.Lib.Walk
import Derived.StillTailTactics
import Derived.RangeFuncBox
import Derived.RangeFuncLeaves
import Derived.Shelf.Abstract
import Derived.OwnWalkIn
import Derived.TacticsInMore
import Derived.LoopNIn
import Derived.LoopIn
set_option linter.unusedVariables false
set_option linter.unusedSimpArgs false
set_option linter.unusedSectionVars false
set_option maxHeartbeats 8000000
set_option maxRecDepth 100000
section
namespace Go.Proofs.YtbhegbhdenngbaaGreatDoor.A
open Go.RowKit Go.Proofs.YtbhegbhdenngbaaGreatDoorW.PrintWords Go.Proofs.YtbhegbhdenngbaaGreatDoorW.PrintLast Go.Proofs.YtbhegbhdenngbaaGreatDoorW.PrintMore
abbrev k1_ := @blk_drewN
abbrev k2_ := @blk_drew
abbrev k3_ := @blk_alloc
abbrev b1_ := @below_alloc
abbrev b2_ := @pw_below_drewN
abbrev b3_ := @below_drew1
abbrev r1_ := @Kd.R_alloc
abbrev r2_ := @Kd.R_drewN
abbrev r3_ := @Kd.R_drew
theorem d1_ {α : Type _} (l : List α) (i : Nat) : (l.drop i).length = l.length - i := List.length_drop
theorem d2_ {α : Type _} (l : List α) (i : Nat) : (l.take i).length = min i l.length := List.length_take
theorem o1_ {p : Prop} [Decidable p] (h : decide p = true) : p := of_decide_eq_true h
theorem e3_ (l : List UInt8) : (l == []) = l.isEmpty := mp_beq_nil l
theorem e4_ (l : List UInt8) : (l != []) = !l.isEmpty := mp_bne_nil l
theorem am_ {p : Prop} (h : p) : Aside0 p := ⟨h⟩
theorem p1_ {α : Type _} (l : List α) (i : Nat) (a : α) : l.toArray.setIfInBounds i a = (l.set i a).toArray := List.setIfInBounds_toArray ..
theorem p2_ {α : Type _} (x : α) (xs : List α) (a : α) : (x :: xs).set 0 a = a :: xs := List.set_cons_zero
theorem p3_ {α : Type _} (x : α) (xs : List α) (i : Nat) (a : α) : (x :: xs).set (i + 1) a = x :: xs.set i a := List.set_cons_succ
theorem m1_ {α β : Type _} (f : α → β) (l : List α) : l.toArray.map f = (l.map f).toArray := List.map_toArray
theorem m2_ {α β : Type _} (f : α → β) (a : α) (l : List α) : (a :: l).map f = f a :: l.map f := List.map_cons
theorem m3_ {α β : Type _} (f : α → β) : ([] : List α).map f = [] := List.map_nil
attribute [local go_sem] max2_int min2_int max_two min_two max_three min_three max_four min_four
def errW : Option Int → Value
 | none => .nilIface
 | some c => .iface 0 (.int .i64 c)
theorem errW_none : errW none = .nilIface := rfl
theorem errW_some (c : Int) : errW (some c) = .iface 0 (.int .i64 c) := rfl
theorem e1_ : errW none = .nilIface := rfl
theorem e2_ (c : Int) : errW (some c) = .iface 0 (.int .i64 c) := rfl
theorem info3 : (Tryz.prog.info? 3).map (fun i => (i.zero,i.size,i.bytes)) = some (some (.int .i64 0),1,8) := by kernel_rfl
theorem info5 : (Tryz.prog.info? 5).map (fun i => (i.zero,i.size,i.bytes)) = some (some (.int .u8 0),1,1) := by kernel_rfl
theorem info40 : (Tryz.prog.info? 40).map (fun i => (i.zero,i.size,i.bytes)) = some (some (.agg #[(.int .i64 0),(.int .i64 0),(.int .i64 0),(.int .i64 0),(.string ⟨#[]⟩),(.string ⟨#[]⟩),(.string ⟨#[]⟩)]),7,80) := by kernel_rfl
theorem info69 : (Tryz.prog.info? 69).map (fun i => (i.zero,i.size,i.bytes)) = some (some (.int .u32 0),1,4) := by kernel_rfl
theorem info76 : (Tryz.prog.info? 76).map (fun i => (i.zero,i.size,i.bytes)) = some (some (.agg #[(.int .i64 0),(.int .i64 0),(.string ⟨#[]⟩)]),3,32) := by kernel_rfl
def k46 : Kd S46 := Kd.iso (Kd.pair (Kd.int .i64) (Kd.pair (Kd.int .i64) (Kd.pair (Kd.int .i64) (Kd.pair (Kd.int .i64) (Kd.pair Kd.string (Kd.pair Kd.string Kd.string)))))) (fun x : S46 => (x.f0,x.f1,x.f2,x.f3,x.f4,x.f5,x.f6))
theorem k46_open {w : World} {x : S46} {cs : List Value} (h : k46.K w x cs) : cs = [.int .i64 x.f0,.int .i64 x.f1,.int .i64 x.f2,.int .i64 x.f3,.string x.f4,.string x.f5,.string x.f6] := by
 obtain ⟨_,_,rfl,rfl,⟨_,_,rfl,rfl,⟨_,_,rfl,rfl,⟨_,_,rfl,rfl,⟨_,_,rfl,rfl,⟨_,_,rfl,rfl,rfl⟩⟩⟩⟩⟩⟩ := h
 exact rfl
theorem at_T46 {w : World} {A : Option Addr} {n : Nat} {xs : List S46} (h : Kd.C k46 w A n xs) (i : Int) (h0 : 0 ≤ i) (h1 : i < n) : ∃ ad ,A = some ad ∧ w.cell? (ad.add (i.toNat * 7)) = some (.int .i64 (rd_T46 xs i).f0) ∧ w.cell? ⟨(ad.add (i.toNat * 7)).block,(ad.add (i.toNat * 7)).off + 1,none⟩ = some (.int .i64 (rd_T46 xs i).f1) ∧ w.cell? ⟨(ad.add (i.toNat * 7)).block,(ad.add (i.toNat * 7)).off + 2,none⟩ = some (.int .i64 (rd_T46 xs i).f2) ∧ w.cell? ⟨(ad.add (i.toNat * 7)).block,(ad.add (i.toNat * 7)).off + 3,none⟩ = some (.int .i64 (rd_T46 xs i).f3) ∧ w.cell? ⟨(ad.add (i.toNat * 7)).block,(ad.add (i.toNat * 7)).off + 4,none⟩ = some (.string (rd_T46 xs i).f4) ∧ w.cell? ⟨(ad.add (i.toNat * 7)).block,(ad.add (i.toNat * 7)).off + 5,none⟩ = some (.string (rd_T46 xs i).f5) ∧ w.cell? ⟨(ad.add (i.toNat * 7)).block,(ad.add (i.toNat * 7)).off + 6,none⟩ = some (.string (rd_T46 xs i).f6) := by
 obtain ⟨ad,c,e,_,hK,hc0⟩ := Kd.C_get h z46 i h0 h1
 have hc : ∀ j u,c[j]? = some u → w.cell? (ad.add (i.toNat * 7 + j)) = some u := hc0
 obtain rfl := k46_open hK
 exact ⟨ad,e,hc 0 _ rfl,by rw [← add_field _ _ 1 (by omega)];exact hc 1 _ rfl,by rw [← add_field _ _ 2 (by omega)];exact hc 2 _ rfl,by rw [← add_field _ _ 3 (by omega)];exact hc 3 _ rfl,by rw [← add_field _ _ 4 (by omega)];exact hc 4 _ rfl,by rw [← add_field _ _ 5 (by omega)];exact hc 5 _ rfl,by rw [← add_field _ _ 6 (by omega)];exact hc 6 _ rfl⟩
def k76 : Kd S76 := Kd.iso (Kd.pair (Kd.int .i64) (Kd.pair (Kd.int .i64) Kd.string)) (fun x : S76 => (x.f0,x.f1,x.f2))
theorem k76_open {w : World} {x : S76} {cs : List Value} (h : k76.K w x cs) : cs = [.int .i64 x.f0,.int .i64 x.f1,.string x.f2] := by
 obtain ⟨_,_,rfl,rfl,⟨_,_,rfl,rfl,rfl⟩⟩ := h
 exact rfl
theorem k76_mkM (w : World) (base : Nat) (ok : Nat → Prop) (x : S76)  : k76.M w base ok x [.int .i64 x.f0,.int .i64 x.f1,.string x.f2] := ⟨[.int .i64 x.f0],[.int .i64 x.f1,.string x.f2],rfl,rfl,⟨[.int .i64 x.f1],[.string x.f2],rfl,rfl,rfl⟩⟩
theorem at_T76 {w : World} {A : Option Addr} {n : Nat} {xs : List S76} (h : Kd.C k76 w A n xs) (i : Int) (h0 : 0 ≤ i) (h1 : i < n) : ∃ ad ,A = some ad ∧ w.cell? (ad.add (i.toNat * 3)) = some (.int .i64 (rd_T76 xs i).f0) ∧ w.cell? ⟨(ad.add (i.toNat * 3)).block,(ad.add (i.toNat * 3)).off + 1,none⟩ = some (.int .i64 (rd_T76 xs i).f1) ∧ w.cell? ⟨(ad.add (i.toNat * 3)).block,(ad.add (i.toNat * 3)).off + 2,none⟩ = some (.string (rd_T76 xs i).f2) := by
 obtain ⟨ad,c,e,_,hK,hc0⟩ := Kd.C_get h z76 i h0 h1
 have hc : ∀ j u,c[j]? = some u → w.cell? (ad.add (i.toNat * 3 + j)) = some u := hc0
 obtain rfl := k76_open hK
 exact ⟨ad,e,hc 0 _ rfl,by rw [← add_field _ _ 1 (by omega)];exact hc 1 _ rfl,by rw [← add_field _ _ 2 (by omega)];exact hc 2 _ rfl⟩
def k40 : Kd S40 := Kd.iso (Kd.pair (Kd.int .i64) (Kd.pair (Kd.int .i64) (Kd.pair (Kd.int .i64) (Kd.pair (Kd.int .i64) (Kd.pair Kd.string (Kd.pair Kd.string Kd.string)))))) (fun x : S40 => (x.f0,x.f1,x.f2,x.f3,x.f4,x.f5,x.f6))
theorem k40_open {w : World} {x : S40} {cs : List Value} (h : k40.K w x cs) : cs = [.int .i64 x.f0,.int .i64 x.f1,.int .i64 x.f2,.int .i64 x.f3,.string x.f4,.string x.f5,.string x.f6] := by
 obtain ⟨_,_,rfl,rfl,⟨_,_,rfl,rfl,⟨_,_,rfl,rfl,⟨_,_,rfl,rfl,⟨_,_,rfl,rfl,⟨_,_,rfl,rfl,rfl⟩⟩⟩⟩⟩⟩ := h
 exact rfl
theorem k40_openM {w : World} {base : Nat} {ok : Nat → Prop} {x : S40} {cs : List Value} (h : k40.M w base ok x cs) : cs = [.int .i64 x.f0,.int .i64 x.f1,.int .i64 x.f2,.int .i64 x.f3,.string x.f4,.string x.f5,.string x.f6] := by
 obtain ⟨_,_,rfl,rfl,⟨_,_,rfl,rfl,⟨_,_,rfl,rfl,⟨_,_,rfl,rfl,⟨_,_,rfl,rfl,⟨_,_,rfl,rfl,rfl⟩⟩⟩⟩⟩⟩ := h
 exact rfl
theorem k40_mkM (w : World) (base : Nat) (ok : Nat → Prop) (x : S40)  : k40.M w base ok x [.int .i64 x.f0,.int .i64 x.f1,.int .i64 x.f2,.int .i64 x.f3,.string x.f4,.string x.f5,.string x.f6] := ⟨[.int .i64 x.f0],[.int .i64 x.f1,.int .i64 x.f2,.int .i64 x.f3,.string x.f4,.string x.f5,.string x.f6],rfl,rfl,⟨[.int .i64 x.f1],[.int .i64 x.f2,.int .i64 x.f3,.string x.f4,.string x.f5,.string x.f6],rfl,rfl,⟨[.int .i64 x.f2],[.int .i64 x.f3,.string x.f4,.string x.f5,.string x.f6],rfl,rfl,⟨[.int .i64 x.f3],[.string x.f4,.string x.f5,.string x.f6],rfl,rfl,⟨[.string x.f4],[.string x.f5,.string x.f6],rfl,rfl,⟨[.string x.f5],[.string x.f6],rfl,rfl,rfl⟩⟩⟩⟩⟩⟩
theorem at_T40 {w : World} {A : Option Addr} {n : Nat} {xs : List S40} (h : Kd.C k40 w A n xs) (i : Int) (h0 : 0 ≤ i) (h1 : i < n) : ∃ ad ,A = some ad ∧ w.cell? (ad.add (i.toNat * 7)) = some (.int .i64 (rd_T40 xs i).f0) ∧ w.cell? ⟨(ad.add (i.toNat * 7)).block,(ad.add (i.toNat * 7)).off + 1,none⟩ = some (.int .i64 (rd_T40 xs i).f1) ∧ w.cell? ⟨(ad.add (i.toNat * 7)).block,(ad.add (i.toNat * 7)).off + 2,none⟩ = some (.int .i64 (rd_T40 xs i).f2) ∧ w.cell? ⟨(ad.add (i.toNat * 7)).block,(ad.add (i.toNat * 7)).off + 3,none⟩ = some (.int .i64 (rd_T40 xs i).f3) ∧ w.cell? ⟨(ad.add (i.toNat * 7)).block,(ad.add (i.toNat * 7)).off + 4,none⟩ = some (.string (rd_T40 xs i).f4) ∧ w.cell? ⟨(ad.add (i.toNat * 7)).block,(ad.add (i.toNat * 7)).off + 5,none⟩ = some (.string (rd_T40 xs i).f5) ∧ w.cell? ⟨(ad.add (i.toNat * 7)).block,(ad.add (i.toNat * 7)).off + 6,none⟩ = some (.string (rd_T40 xs i).f6) := by
 obtain ⟨ad,c,e,_,hK,hc0⟩ := Kd.C_get h z40 i h0 h1
 have hc : ∀ j u,c[j]? = some u → w.cell? (ad.add (i.toNat * 7 + j)) = some u := hc0
 obtain rfl := k40_open hK
 exact ⟨ad,e,hc 0 _ rfl,by rw [← add_field _ _ 1 (by omega)];exact hc 1 _ rfl,by rw [← add_field _ _ 2 (by omega)];exact hc 2 _ rfl,by rw [← add_field _ _ 3 (by omega)];exact hc 3 _ rfl,by rw [← add_field _ _ 4 (by omega)];exact hc 4 _ rfl,by rw [← add_field _ _ 5 (by omega)];exact hc 5 _ rfl,by rw [← add_field _ _ 6 (by omega)];exact hc 6 _ rfl⟩
def k24 : Kd S24 := Kd.iso (Kd.pair Kd.string (Kd.slice 46 k46)) (fun x : S24 => (x.f0,x.f1))
theorem k24_open {w : World} {x : S24} {cs : List Value} (h : k24.K w x cs) : ∃ A1 c1,cs = [.string x.f0,.slice A1 x.f1.length c1] ∧ x.f1.length ≤ c1 ∧ k46.C w A1 x.f1.length x.f1 := by
 obtain ⟨_,_,rfl,rfl,⟨A1,c1,rfl,l1,g1⟩⟩ := h
 exact ⟨A1,c1,rfl,l1,g1⟩
def IsS92 (w0 W : World) (g : Nat) (f0 : ByteArray) (f1 : Bool) : Prop := W.heap[g]? = some (.cells #[.string f0,.bool f1] 92 (0,0)) ∧ w0.heap.size ≤ g
theorem IsS92.grown {w0 W : World} {g : Nat} {f0 : ByteArray} {f1 : Bool} {W1 : World} {row : Option Nat} (h : IsS92 w0 W g f0 f1) (hw : W.grownBy W1 row) (hne : some g ≠ row) : IsS92 w0 W1 g f0 f1 := by
 obtain ⟨hb,hg⟩ := h
 exact ⟨blk_grown hb hw hne,hg⟩
theorem IsS92.fresh {w0 W : World} {g : Nat} {f0 : ByteArray} {f1 : Bool} (h : IsS92 w0 W g f0 f1) : ∀ k,W.heap.size ≤ k → k ≠ g := by
 obtain ⟨hb,hg⟩ := h
 exact Kd.freshB hb
theorem IsS92.kept {w0 W : World} {g : Nat} {f0 : ByteArray} {f1 : Bool} {W1 : World} {S : Nat → Prop} (h : IsS92 w0 W g f0 f1) (hk : Kept W W1 S) (hne : ¬ S g) : IsS92 w0 W1 g f0 f1 := by
 obtain ⟨hb,hg⟩ := h
 exact ⟨blk_kept hb hk hne,hg⟩
theorem IsS92.below {w0 W : World} {g : Nat} {f0 : ByteArray} {f1 : Bool} {W1 : World} (h : IsS92 w0 W g f0 f1) (hw : Below W.heap.size W W1) : IsS92 w0 W1 g f0 f1 := h.grown (grown_of_below hw none) (by simp)
theorem IsS92.alloc {w0 W : World} {g : Nat} {f0 : ByteArray} {f1 : Bool} (h : IsS92 w0 W g f0 f1) (o : Obj) : IsS92 w0 (W.alloc o) g f0 f1 := h.below (below_alloc (Below.refl _ _) o)
theorem IsS92.drewN {w0 W : World} {g : Nat} {f0 : ByteArray} {f1 : Bool} (h : IsS92 w0 W g f0 f1) (m : Nat) : IsS92 w0 (W.drewN m) g f0 f1 := h
theorem IsS92.drew {w0 W : World} {g : Nat} {f0 : ByteArray} {f1 : Bool} (h : IsS92 w0 W g f0 f1) : IsS92 w0 W.drew g f0 f1 := h
theorem IsS92.at_ {w0 W : World} {g : Nat} {f0 : ByteArray} {f1 : Bool} {w' : World} {m : Nat} (hq : W.drewN m = w') (h : IsS92 w0 W g f0 f1) : IsS92 w0 w' g f0 f1 := by subst hq;exact IsS92.drewN h m
theorem IsS92.apart {w0 W : World} {g : Nat} {f0 : ByteArray} {f1 : Bool} {α : Type} {d : Kd α} {e : Nat} {base : Nat} {ok : Nat → Prop} {v : Value} {xs : List α} (h : IsS92 w0 W g f0 f1) (ho : d.R e W base ok v xs) (ht : ∀ q,q ∈ e :: d.E → q ≠ 92) : d.R e W base (fun k => ok k ∧ k ≠ g) v xs := by
 obtain ⟨hb,hg⟩ := h
 exact Kd.R_types ho hb ht
theorem IsS92.own_ne {w0 W : World} {g : Nat} {f0 : ByteArray} {f1 : Bool} {α : Type} {d : Kd α} {e : Nat} {base : Nat} {ok : Nat → Prop} {v : Value} {xs : List α} (h : IsS92 w0 W g f0 f1) (ho : d.R e W base ok v xs) (ht : e ≠ 92) : some g ≠ v.ownBlock := by
 obtain ⟨hb,hg⟩ := h
 exact Kd.R_ne ho hb ht
theorem IsS92.lt {w0 W : World} {g : Nat} {f0 : ByteArray} {f1 : Bool} (h : IsS92 w0 W g f0 f1) : g < W.heap.size := by
 obtain ⟨hb,hg⟩ := h
 exact blk_lt hb
theorem IsS92.ge {w0 W : World} {g : Nat} {f0 : ByteArray} {f1 : Bool} (h : IsS92 w0 W g f0 f1) : w0.heap.size ≤ g := by
 obtain ⟨hb,hg⟩ := h
 exact hg
theorem IsS92.far {w0 W : World} {g : Nat} {f0 : ByteArray} {f1 : Bool} {p : Addr} (h : IsS92 w0 W g f0 f1) (hne : g ≠ p.block) (u : Value) : IsS92 w0 (W.setCell p u) g f0 f1 := by
 obtain ⟨hb,hg⟩ := h
 exact ⟨blk_far hb hne u,hg⟩
theorem cellS92_0 {W : World} {g : Nat} {f0 : ByteArray} {f1 : Bool} (h : W.heap[g]? = some (.cells #[.string f0,.bool f1] 92 (0,0))) : W.cell? ⟨g,0,none⟩ = some (.string f0) := (blk_cell h 0).trans rfl
theorem IsS92.set_0 {w0 W : World} {g : Nat} {f0 : ByteArray} {f1 : Bool} (h : IsS92 w0 W g f0 f1) (x : ByteArray) : IsS92 w0 (W.setCell ⟨g,0,none⟩ (.string x)) g x f1 := by
 obtain ⟨hb,hg⟩ := h
 exact ⟨by simpa using blk_set hb 0 (.string x),hg⟩
theorem cellS92_1 {W : World} {g : Nat} {f0 : ByteArray} {f1 : Bool} (h : W.heap[g]? = some (.cells #[.string f0,.bool f1] 92 (0,0))) : W.cell? ⟨g,1,none⟩ = some (.bool f1) := (blk_cell h 1).trans rfl
theorem IsS92.set_1 {w0 W : World} {g : Nat} {f0 : ByteArray} {f1 : Bool} (h : IsS92 w0 W g f0 f1) (x : Bool) : IsS92 w0 (W.setCell ⟨g,1,none⟩ (.bool x)) g f0 x := by
 obtain ⟨hb,hg⟩ := h
 exact ⟨by simpa using blk_set hb 1 (.bool x),hg⟩
theorem IsS92.new (w0 W : World) (f0 : ByteArray) (f1 : Bool) (hB : Below w0.heap.size w0 W) : IsS92 w0 (W.alloc (.cells #[.string f0,.bool f1] 92)) W.heap.size f0 f1 := ⟨by simpa using heap_alloc_new W _,hB.size⟩
theorem zl_ {w W0 W : World} (b : Aside0 (Below w.heap.size w W0)) (h : Below w.heap.size w W := by repeat (first | (with_reducible first | exact HB.out | apply below_alloc | apply pw_below_drewN | apply below_drew1 | refine below_set ?_ (Aside0.out (by with_reducible assumption)) | refine below_set ?_ (IsS92.ge (Aside0.out (by with_reducible assumption)))) | exact HB.out)) : Below w.heap.size w W := h
theorem zs_ {w W0 W W1 : World} (b : Aside0 (Below w.heap.size w W0)) (hb : Below W.heap.size W W1) (h : Below w.heap.size w W := by repeat (first | (with_reducible first | exact HB.out | apply below_alloc | apply pw_below_drewN | apply below_drew1 | refine below_set ?_ (Aside0.out (by with_reducible assumption)) | refine below_set ?_ (IsS92.ge (Aside0.out (by with_reducible assumption)))) | exact HB.out)) : Aside0 (Below w.heap.size w W1) := ⟨below_step h hb⟩
theorem zw_ {w W0 W : World} {g : Nat} (b : Aside0 (Below w.heap.size w W0)) (hg : g = W.heap.size) (h : Below w.heap.size w W := by repeat (first | (with_reducible first | exact HB.out | apply below_alloc | apply pw_below_drewN | apply below_drew1 | refine below_set ?_ (Aside0.out (by with_reducible assumption)) | refine below_set ?_ (IsS92.ge (Aside0.out (by with_reducible assumption)))) | exact HB.out)) : Aside0 (w.heap.size ≤ g) := ⟨by rw [hg];exact below_size h⟩
theorem zt_ {p : Prop} (h : p := by first | rfl | (simp [errW_none,errW_some] <;> rfl) | (simp [*,errW_none,errW_some] <;> rfl) | (simp [mp_beq_nil,mp_bne_nil];done) | (simp [*,mp_beq_nil,mp_bne_nil];done)) : p := h
theorem zc2 {w : World} {g : Nat} {t : TypeId} {a0 a1 : Value} (h : Aside0 (w.heap[g]? = some (.cells #[a0,a1] t (0,0)))) : w.cell? ⟨g,0,none⟩ = some a0 ∧ w.cell? ⟨g,1,none⟩ = some a1 ∧ w.frozen? ⟨g,0,none⟩ = false ∧ w.frozen? ⟨g,1,none⟩ = false := ⟨(blk_cell h.out 0).trans rfl,(blk_cell h.out 1).trans rfl,blk_frozen h.out 0,blk_frozen h.out 1⟩
theorem zc3 {w : World} {g : Nat} {t : TypeId} {a0 a1 a2 : Value} (h : Aside0 (w.heap[g]? = some (.cells #[a0,a1,a2] t (0,0)))) : w.cell? ⟨g,0,none⟩ = some a0 ∧ w.cell? ⟨g,1,none⟩ = some a1 ∧ w.cell? ⟨g,2,none⟩ = some a2 ∧ w.frozen? ⟨g,0,none⟩ = false ∧ w.frozen? ⟨g,1,none⟩ = false ∧ w.frozen? ⟨g,2,none⟩ = false := ⟨(blk_cell h.out 0).trans rfl,(blk_cell h.out 1).trans rfl,(blk_cell h.out 2).trans rfl,blk_frozen h.out 0,blk_frozen h.out 1,blk_frozen h.out 2⟩
theorem zc5 {w : World} {g : Nat} {t : TypeId} {a0 a1 a2 a3 a4 : Value} (h : Aside0 (w.heap[g]? = some (.cells #[a0,a1,a2,a3,a4] t (0,0)))) : w.cell? ⟨g,0,none⟩ = some a0 ∧ w.cell? ⟨g,1,none⟩ = some a1 ∧ w.cell? ⟨g,2,none⟩ = some a2 ∧ w.cell? ⟨g,3,none⟩ = some a3 ∧ w.cell? ⟨g,4,none⟩ = some a4 ∧ w.frozen? ⟨g,0,none⟩ = false ∧ w.frozen? ⟨g,1,none⟩ = false ∧ w.frozen? ⟨g,2,none⟩ = false ∧ w.frozen? ⟨g,3,none⟩ = false ∧ w.frozen? ⟨g,4,none⟩ = false := ⟨(blk_cell h.out 0).trans rfl,(blk_cell h.out 1).trans rfl,(blk_cell h.out 2).trans rfl,(blk_cell h.out 3).trans rfl,(blk_cell h.out 4).trans rfl,blk_frozen h.out 0,blk_frozen h.out 1,blk_frozen h.out 2,blk_frozen h.out 3,blk_frozen h.out 4⟩
theorem zc7 {w : World} {g : Nat} {t : TypeId} {a0 a1 a2 a3 a4 a5 a6 : Value} (h : Aside0 (w.heap[g]? = some (.cells #[a0,a1,a2,a3,a4,a5,a6] t (0,0)))) : w.cell? ⟨g,0,none⟩ = some a0 ∧ w.cell? ⟨g,1,none⟩ = some a1 ∧ w.cell? ⟨g,2,none⟩ = some a2 ∧ w.cell? ⟨g,3,none⟩ = some a3 ∧ w.cell? ⟨g,4,none⟩ = some a4 ∧ w.cell? ⟨g,5,none⟩ = some a5 ∧ w.cell? ⟨g,6,none⟩ = some a6 ∧ w.frozen? ⟨g,0,none⟩ = false ∧ w.frozen? ⟨g,1,none⟩ = false ∧ w.frozen? ⟨g,2,none⟩ = false ∧ w.frozen? ⟨g,3,none⟩ = false ∧ w.frozen? ⟨g,4,none⟩ = false ∧ w.frozen? ⟨g,5,none⟩ = false ∧ w.frozen? ⟨g,6,none⟩ = false := ⟨(blk_cell h.out 0).trans rfl,(blk_cell h.out 1).trans rfl,(blk_cell h.out 2).trans rfl,(blk_cell h.out 3).trans rfl,(blk_cell h.out 4).trans rfl,(blk_cell h.out 5).trans rfl,(blk_cell h.out 6).trans rfl,blk_frozen h.out 0,blk_frozen h.out 1,blk_frozen h.out 2,blk_frozen h.out 3,blk_frozen h.out 4,blk_frozen h.out 5,blk_frozen h.out 6⟩
theorem zi92 {w0 W : World} {g : Nat} {f0 : ByteArray} {f1 : Bool} {W' : World} {f0' : ByteArray} {f1' : Bool} (b : Aside0 (IsS92 w0 W g f0 f1)) (m : IsS92 w0 W g f0 f1 → IsS92 w0 W' g f0' f1' := by intro h_;repeat (first | (with_reducible first | exact h_ | apply IsS92.alloc | apply IsS92.drewN | apply IsS92.drew | apply IsS92.set_0 | apply IsS92.set_1 | refine IsS92.far ?_ (Aside0.out (by with_reducible assumption)) _) | exact h_)) : IsS92 w0 W' g f0' f1' := m b.out
theorem zh_ {w W0 W : World} {g : Nat} {row : Option Nat} (k : Aside0 (KeepBut w W0 g row)) (h : KeepBut w W g row := by repeat (first | (with_reducible first | exact HK.out | apply KeepBut.set_ | apply keep_drewN | apply keep_drew | apply keep_alloc | refine keep_far ?_ (Aside0.out (by with_reducible assumption)) _) | exact HK.out)) : KeepBut w W g row := h
end Go.Proofs.YtbhegbhdenngbaaGreatDoor.A
end

section
namespace Go.Proofs.YtbhegbhdenngbaaGreatDoor.A
open Go Go.RowKit Go.Proofs.YtbhegbhdenngbaaGreatDoorW.PrintWords Go.Proofs.YtbhegbhdenngbaaGreatDoorW.PrintLast Go.Proofs.YtbhegbhdenngbaaGreatDoorW.PrintMore
set_option maxRecDepth 100000
theorem cf2 {W : World} {g : Nat} {a : Addr} {x : Option Value} {o0 o1 : Nat} {u0 u1 : Value} (h : a.block ≠ g) (e : W.cell? a = x) : ((W.setCell ⟨g,o0,none⟩ u0).setCell ⟨g,o1,none⟩ u1).cell? a = x := (cell_far (p := ⟨g,o1,none⟩) h _).trans ((cell_far (p := ⟨g,o0,none⟩) h _).trans e)
theorem cf3 {W : World} {g : Nat} {a : Addr} {x : Option Value} {o0 o1 o2 : Nat} {u0 u1 u2 : Value} (h : a.block ≠ g) (e : W.cell? a = x) : (((W.setCell ⟨g,o0,none⟩ u0).setCell ⟨g,o1,none⟩ u1).setCell ⟨g,o2,none⟩ u2).cell? a = x := (cell_far (p := ⟨g,o2,none⟩) h _).trans (cf2 h e)
theorem cf4 {W : World} {g : Nat} {a : Addr} {x : Option Value} {o0 o1 o2 o3 : Nat} {u0 u1 u2 u3 : Value} (h : a.block ≠ g) (e : W.cell? a = x) : ((((W.setCell ⟨g,o0,none⟩ u0).setCell ⟨g,o1,none⟩ u1).setCell ⟨g,o2,none⟩ u2).setCell ⟨g,o3,none⟩ u3).cell? a = x := (cell_far (p := ⟨g,o3,none⟩) h _).trans (cf3 h e)
theorem cf5 {W : World} {g : Nat} {a : Addr} {x : Option Value} {o0 o1 o2 o3 o4 : Nat} {u0 u1 u2 u3 u4 : Value} (h : a.block ≠ g) (e : W.cell? a = x) : (((((W.setCell ⟨g,o0,none⟩ u0).setCell ⟨g,o1,none⟩ u1).setCell ⟨g,o2,none⟩ u2).setCell ⟨g,o3,none⟩ u3).setCell ⟨g,o4,none⟩ u4).cell? a = x := (cell_far (p := ⟨g,o4,none⟩) h _).trans (cf4 h e)
theorem cf6 {W : World} {g : Nat} {a : Addr} {x : Option Value} {o0 o1 o2 o3 o4 o5 : Nat} {u0 u1 u2 u3 u4 u5 : Value} (h : a.block ≠ g) (e : W.cell? a = x) : ((((((W.setCell ⟨g,o0,none⟩ u0).setCell ⟨g,o1,none⟩ u1).setCell ⟨g,o2,none⟩ u2).setCell ⟨g,o3,none⟩ u3).setCell ⟨g,o4,none⟩ u4).setCell ⟨g,o5,none⟩ u5).cell? a = x := (cell_far (p := ⟨g,o5,none⟩) h _).trans (cf5 h e)
theorem cf7 {W : World} {g : Nat} {a : Addr} {x : Option Value} {o0 o1 o2 o3 o4 o5 o6 : Nat} {u0 u1 u2 u3 u4 u5 u6 : Value} (h : a.block ≠ g) (e : W.cell? a = x) : (((((((W.setCell ⟨g,o0,none⟩ u0).setCell ⟨g,o1,none⟩ u1).setCell ⟨g,o2,none⟩ u2).setCell ⟨g,o3,none⟩ u3).setCell ⟨g,o4,none⟩ u4).setCell ⟨g,o5,none⟩ u5).setCell ⟨g,o6,none⟩ u6).cell? a = x := (cell_far (p := ⟨g,o6,none⟩) h _).trans (cf6 h e)
def otherDigest (d : ByteArray) (y : S40) : Bool := !(y.f4.toList == d.toList)
set_option maxHeartbeats 2000000 in
theorem cert_cl (y : S40) (d : ByteArray) (gb : Nat) (w : World) (hg : w.heap[gb]? = some (.cells #[.string d] 9 (0,0))) :
  Calls Tryz.prog 19 #[.agg #[.int .i64 y.f0,.int .i64 y.f1,.int .i64 y.f2,.int .i64 y.f3,.string y.f4,.string y.f5,.string y.f6],.pointer (some ⟨gb,0,none⟩)] w fun e w' => e = .returned (.bool (otherDigest d y)) ∧ Below w.heap.size w w' := by
 have hu := Tryz.underlying40
 have HG := Aside0.mk hg
 clear hg
 have HB := Aside0.mk (Below.refl w.heap.size w)
 go_enter Tryz.func19,Tryz.ntmps19
 go_wp2_with (first | ((with_reducible refine gate_dst (N := 2) rfl ?_);refine zbx (N := 2) (cs := #[.int .i64 y.f0,.int .i64 y.f1,.int .i64 y.f2,.int .i64 y.f3,.string y.f4,.string y.f5,.string y.f6]) (t := 40) ?_;intro gbx hgx w3 hbox hb;have hc4 : w3.cell? ⟨gbx,4,none⟩ = some (.string y.f4) := (blk_cell hbox 4).trans rfl;have hcd : w3.cell? ⟨gb,0,none⟩ = some (.string d) := (blk_cell (blk_below HG.out hb) 0).trans rfl;replace HB := zs_ HB hb;clear hb hbox hgx))
 go_ret
 exact ⟨rfl,HB.out⟩
set_option maxHeartbeats 4000000 in
theorem cert_ix (A0 : Option Addr) (c0 : Nat) (l0 : List S40) (d : ByteArray) (gb : Nat) (w : World) (hg : w.heap[gb]? = some (.cells #[.string d] 9 (0,0))) (hr0 : Kd.C k40 w A0 l0.length l0) (hc0 : l0.length ≤ c0) :
  Calls Tryz.prog 31 #[.slice A0 l0.length c0,.func (.func 19) #[] #[.pointer (some ⟨gb,0,none⟩)]] w fun e w' => (∃ r : Int,e = .returned (.int .i64 r) ∧ decide (0 ≤ r) = l0.any (otherDigest d)) ∧ Below w.heap.size w w' := by
 have hu := Tryz.underlying40
 have hlen : (l0.length : Int) ≤ 9223372036854775807 := by have := hr0.2.1;omega
 have HR0 := Aside0.mk hr0
 have HL0 := Aside0.mk hlen
 have HC0 := Aside0.mk hc0
 have HG := Aside0.mk hg
 clear hr0 hlen hc0 hg
 go_enter Tryz.func31,Tryz.ntmps31
 go_wp2
 go_loopg [5,8] l0.length (fun gg _ s8 wr => ∃ x : Int,s8 = .int .i64 x ∧ Aside0 (0 ≤ x ∧ x ≤ l0.length ∧ ((l0.length : Int) - x).toNat ≤ gg) ∧ Aside0 (∀ j : Nat,(j : Int) < x → otherDigest d (rd_T40 l0 (j : Int)) = false) ∧ Aside0 (Below w.heap.size w wr))
 case atStart => exact ⟨0,rfl,⟨by omega⟩,⟨fun j hj => absurd hj (by omega)⟩,⟨Below.refl _ _⟩⟩
 case round =>
  obtain ⟨x,rfl,HX,HA,HB⟩ := hrel
  by_cases hlt : x < (l0.length : Int)
  ·have c0b0 : decide (x < (l0.length : Int)) = true := decide_eq_true hlt
   have p0_ : 0 ≤ x := HX.out.1
   have q0_ : x < (l0.length : Int) := hlt
   have hm_ : rd_T40 l0 x ∈ l0 := by
    unfold rd_T40
    rw [List.getD,List.getElem?_eq_getElem (by omega : x.toNat < l0.length)]
    exact List.getElem_mem _
   have HM := Aside0.mk hm_
   clear hlt hm_
   obtain ⟨ad0,e0,hx0,hx1,hx2,hx3,hx4,hx5,hx6⟩ := at_T40 HR0.out x p0_ q0_
   cases e0
   replace hx0 := zx_ HB hx0
   replace hx1 := zx_ HB hx1
   replace hx2 := zx_ HB hx2
   replace hx3 := zx_ HB hx3
   replace hx4 := zx_ HB hx4
   replace hx5 := zx_ HB hx5
   replace hx6 := zx_ HB hx6
   have HGr := Aside0.mk (blk_below HG.out HB.out)
   have HP := Aside0.mk (And.intro p0_ q0_)
   replace p0_ := eq_true p0_
   replace q0_ := eq_true q0_
   cases hq : otherDigest d (rd_T40 l0 x) with
   | true =>
    have HQ := Aside0.mk hq
    clear hq
    go_wp2_with (go_at_call 19;refine (cert_cl (rd_T40 l0 x) d gb _ HGr.out).mono ?_;rintro e w2 ⟨rfl,hb⟩;rw [HQ.out];replace HB := zs_ HB hb;clear hb)
    go_ret
    refine ⟨⟨x,rfl,?_⟩,zl_ HB⟩
    rw [decide_eq_true HP.out.1]
    exact (List.any_eq_true.2 ⟨_,HM.out,HQ.out⟩).symm
   | false =>
    have HQ := Aside0.mk hq
    clear hq
    go_wp2_with (go_at_call 19;refine (cert_cl (rd_T40 l0 x) d gb _ HGr.out).mono ?_;rintro e w2 ⟨rfl,hb⟩;rw [HQ.out];replace HB := zs_ HB hb;clear hb)
    go_roundg ((l0.length : Int) - (x + 1)).toNat
    case measure => have := HX.out;have := HP.out;omega
    case rel =>
     have hw : wrap64 (x + 1) = x + 1 := by have := HX.out;have := HP.out;have := HL0.out;unfold wrap64;omega
     refine ⟨wrap64 (x + 1),(by first | rfl | (simp;done) | (simp [*];done)),⟨by rw [hw];have := HX.out;have := HP.out;omega⟩,⟨fun j hj => ?_⟩,⟨zl_ HB⟩⟩
     rw [hw] at hj
     by_cases e : (j : Int) = x
     ·rw [e];exact HQ.out
     ·exact HA.out j (by omega)
  ·have c0b0 : decide (x < (l0.length : Int)) = false := decide_eq_false hlt
   have HE := Aside0.mk hlt
   clear hlt
   go_wp2
   go_ret
   refine ⟨⟨-1,rfl,?_⟩,zl_ HB⟩
   rw [decide_eq_false (by omega)]
   refine (List.any_eq_false.2 fun y hy => ?_).symm
   obtain ⟨j,hj,rfl⟩ := List.mem_iff_getElem.1 hy
   have := HA.out j (by have := HX.out;have := HE.out;omega)
   have e : rd_T40 l0 (j : Int) = l0[j] := by
    unfold rd_T40
    rw [List.getD,Int.toNat_natCast,List.getElem?_eq_getElem hj];rfl
   rw [e] at this
   rw [this]
   decide
theorem cert_any (A0 : Option Addr) (c0 : Nat) (l0 : List S40) (d : ByteArray) (gb : Nat) (r : Bool) (w : World) (hg : w.heap[gb]? = some (.cells #[.string d] 9 (0,0))) (hr0 : Kd.C k40 w A0 l0.length l0) (hc0 : l0.length ≤ c0) (h : Yw.f l0 d = some r) :
  Calls Tryz.prog 18 #[.slice A0 l0.length c0,.func (.func 19) #[] #[.pointer (some ⟨gb,0,none⟩)]] w fun e w' => e = .returned (.bool r) ∧ Below w.heap.size w w' := by
 have hr : l0.any (otherDigest d) = r := Option.some.inj h
 have hix := cert_ix A0 c0 l0 d gb w hg hr0 hc0
 have HIX := Aside0.mk hix
 clear hr0 hc0 h hix hg
 go_enter Tryz.func18,Tryz.ntmps18
 go_wp2_with (go_at_call 31;refine HIX.out.mono ?_;rintro e w' ⟨⟨i_,rfl,hi_⟩,hb⟩;rw [hr] at hi_;have HB := Aside0.mk hb;clear hb)
 go_ret
 exact ⟨by simp [hi_],zl_ HB⟩
end Go.Proofs.YtbhegbhdenngbaaGreatDoor.A
end

section
namespace Go.Proofs.YtbhegbhdenngbaaGreatDoor.A
open Go.RowKit Go.Proofs.YtbhegbhdenngbaaGreatDoorW.PrintWords Go.Proofs.YtbhegbhdenngbaaGreatDoorW.PrintLast Go.Proofs.YtbhegbhdenngbaaGreatDoorW.PrintMore
attribute [local go_sem] max2_int min2_int max_two min_two max_three min_three max_four min_four
theorem Yx.calls (a0 : Int) (r1 : Int) (r2 : Int) (w : World) (h : Yx.f a0 = some (r1,r2)) :
  Calls Tryz.prog 27 #[.int .i64 a0] w fun e w' => e = .returned (.tuple #[.int .i64 r1,.int .i64 r2]) ∧ Drawn0 w w' := by
 have H : (if a0 = 1 then (some (wrap64 (Int.tdiv (wrap64 (a0 - 1)) 3),0)) else (if a0 = 4 then (some (wrap64 (Int.tdiv (wrap64 (a0 - 1)) 3),0)) else (if a0 = 7 then (some (wrap64 (Int.tdiv (wrap64 (a0 - 1)) 3),0)) else (some (0,4))))) = some (r1,r2) := h
 clear h
 by_cases c2 : a0 = 1
 ·rw [if_pos c2] at H
  have c2b0 := beq_iff_eq.mpr c2
  have c2b1 := bne_eq_false_iff_eq.mpr c2
  clear c2
  simp only [Option.some.injEq,Prod.mk.injEq] at H
  obtain ⟨rfl,rfl⟩ := H
  go_enter Tryz.func27,Tryz.ntmps27
  go_wp2
  go_ret2
  exact ⟨by first | rfl | (simp;done) | (simp [*];done),by repeat (first | exact Drawn0.refl _ | apply Drawn0.step)⟩
 rw [if_neg c2] at H
 have c2b0 := beq_eq_false_iff_ne.mpr c2
 have c2b1 := bne_iff_ne.mpr c2
 by_cases c3 : a0 = 4
 ·rw [if_pos c3] at H
  have c3b0 := beq_iff_eq.mpr c3
  have c3b1 := bne_eq_false_iff_eq.mpr c3
  clear c3
  simp only [Option.some.injEq,Prod.mk.injEq] at H
  obtain ⟨rfl,rfl⟩ := H
  go_enter Tryz.func27,Tryz.ntmps27
  go_wp2
  go_ret2
  exact ⟨by first | rfl | (simp;done) | (simp [*];done),by repeat (first | exact Drawn0.refl _ | apply Drawn0.step)⟩
 rw [if_neg c3] at H
 have c3b0 := beq_eq_false_iff_ne.mpr c3
 have c3b1 := bne_iff_ne.mpr c3
 by_cases c4 : a0 = 7
 case neg =>
  rw [if_neg c4] at H
  have c4b0 := beq_eq_false_iff_ne.mpr c4
  have c4b1 := bne_iff_ne.mpr c4
  simp only [Option.some.injEq,Prod.mk.injEq] at H
  obtain ⟨rfl,rfl⟩ := H
  go_enter Tryz.func27,Tryz.ntmps27
  go_wp2
  go_ret2
  exact ⟨by first | rfl | (simp;done) | (simp [*];done),by repeat (first | exact Drawn0.refl _ | apply Drawn0.step)⟩
 rw [if_pos c4] at H
 have c4b0 := beq_iff_eq.mpr c4
 have c4b1 := bne_eq_false_iff_eq.mpr c4
 clear c4
 simp only [Option.some.injEq,Prod.mk.injEq] at H
 obtain ⟨rfl,rfl⟩ := H
 go_enter Tryz.func27,Tryz.ntmps27
 go_wp2
 go_ret2
 exact ⟨by first | rfl | (simp;done) | (simp [*];done),by repeat (first | exact Drawn0.refl _ | apply Drawn0.step)⟩
theorem ZX.calls (a0 : Int) (r : Bool) (w : World) (h : ZX.f a0 = some r) :
  Calls Tryz.prog 13 #[.int .i64 a0] w fun e w' => e = .returned (.bool r) ∧ Drawn0 w w' := by
 have H : ((Yx.f a0).bind fun bt381 => (some (bt381.2 == 0))) = some r := h
 clear h
 replace H := Option.bind_eq_some_iff.mp H
 obtain ⟨⟨t381,t382⟩,A20,H⟩ := H
 try dsimp only at H
 have A2 := am_ A20
 clear A20
 obtain rfl := Option.some.inj H
 go_enter Tryz.func13,Tryz.ntmps13
 go_wp2_with (first | ((with_reducible refine gate_callee (f := 27) rfl ?_);refine zgl (some 7) Tryz.func27 #[.int .i64 a0] ?_;(with_reducible refine (Yx.calls a0 t381 t382 _ A2.out).mono ?_);rintro e w' ⟨rfl,⟨nd,rfl⟩⟩;refine ⟨_,rfl,?_⟩))
 go_ret
 exact ⟨by first | rfl | (simp;done) | (simp [*];done),by repeat (first | exact Drawn0.refl _ | apply Drawn0.step)⟩
theorem Yv.calls (a0 : ByteArray) (r : Bool) (w : World) (h : Yv.f a0 = some r) :
  Calls Tryz.prog 67 #[.string a0] w fun e w' => e = .returned (.bool r) ∧ Drawn0 w w' := by
 have H : (some ((a0.size : Int) == 32)) = some r := h
 clear h
 obtain rfl := Option.some.inj H
 go_enter Tryz.func67,Tryz.ntmps67
 go_wp2
 go_ret
 exact ⟨by first | rfl | (simp;done) | (simp [*];done),by repeat (first | exact Drawn0.refl _ | apply Drawn0.step)⟩
theorem ZB.calls (a0 : Int) (a1 : Int) (a2 : Int) (r : Bool) (w : World) (h : ZB.f a0 a1 a2 = some r) :
  Calls Tryz.prog 66 #[.int .i64 a0,.int .i64 a1,.int .i64 a2] w fun e w' => e = .returned (.bool r) ∧ Drawn0 w w' := by
 have H : (if a0 ≥ a1 then (some (decide (a0 ≤ a2))) else (some false)) = some r := h
 clear h
 by_cases c4 : a0 ≥ a1
 ·rw [if_pos c4] at H
  have c4b0 : decide (a1 ≤ a0) = true := decide_eq_true c4
  clear c4
  obtain rfl := Option.some.inj H
  go_enter Tryz.func66,Tryz.ntmps66
  go_wp2
  go_ret
  exact ⟨by first | rfl | (simp;done) | (simp [*];done),by repeat (first | exact Drawn0.refl _ | apply Drawn0.step)⟩
 rw [if_neg c4] at H
 have c4b0 : decide (a1 ≤ a0) = false := decide_eq_false c4
 clear c4
 obtain rfl := Option.some.inj H
 go_enter Tryz.func66,Tryz.ntmps66
 go_wp2
 go_ret
 exact ⟨by first | rfl | (simp;done) | (simp [*];done),by repeat (first | exact Drawn0.refl _ | apply Drawn0.step)⟩
theorem Zn.calls (k : Nat) (a0_0 : Int) (a0_1 : Int) (a0_2 : Int) (a0_3 : Int) (a0_4 : ByteArray) (a0_5 : ByteArray) (a0_6 : ByteArray) (r : Bool) (w : World) (h : Zn.f k a0_0 a0_1 a0_2 a0_3 a0_4 a0_5 a0_6 = some r) :
  Calls Tryz.prog 43 #[.agg #[.int .i64 a0_0,.int .i64 a0_1,.int .i64 a0_2,.int .i64 a0_3,.string a0_4,.string a0_5,.string a0_6]] w fun e w' => e = .returned (.bool r) ∧ Below w.heap.size w w' := by
 have hu40 := Tryz.underlying40
 have HB := am_ (Below.refl w.heap.size w)
 have H : ((ZB.f a0_1 0 20).bind fun t520 => (if t520 = true then ((ZB.f a0_3 0 6).bind fun t521 => (if t521 = true then (if (a0_6.size : Int) = 8 then (Zn.j0 k (decide ((a0_5.size : Int) > 20000)) a0_0 a0_1 a0_2 a0_3 a0_4 a0_5 a0_6) else (Zn.j0 k true a0_0 a0_1 a0_2 a0_3 a0_4 a0_5 a0_6)) else (Zn.j0 k true a0_0 a0_1 a0_2 a0_3 a0_4 a0_5 a0_6))) else (Zn.j0 k true a0_0 a0_1 a0_2 a0_3 a0_4 a0_5 a0_6))) = some r := h
 clear h
 have HC2 := am_ H
 clear H
 go_enter Tryz.func43,Tryz.ntmps43
 go_upto_region 1 with (first | ((with_reducible refine gate_dst (N := 1) rfl ?_);(try (refine gate_guard (by rfl) ?_;dsimp only));refine zbx (N := 1) (cs := #[.int .i64 a0_0,.int .i64 a0_1,.int .i64 a0_2,.int .i64 a0_3,.string a0_4,.string a0_5,.string a0_6]) (t := 40) ?_;intro gb519 hg w3 hbox hb;have BK519 := am_ (hbox);have GW519 := zw_ HB hg;have GE519 := zw_ HB hg;replace HB := zs_ HB hb;clear hb hbox hg))
 (try simp only [Act.put,p1_,p2_,p3_])
 go_cut [24] (fun v24 wc => ∃ (kq : Nat) (x24_1 : Bool),v24 = .bool x24_1 ∧ Aside0 (Zn.j0 kq x24_1 a0_0 a0_1 a0_2 a0_3 a0_4 a0_5 a0_6 = some r) ∧ Aside0 (kq ≤ k) ∧ Aside0 (wc.heap[gb519]? = some (.cells #[.int .i64 a0_0,.int .i64 a0_1,.int .i64 a0_2,.int .i64 a0_3,.string a0_4,.string a0_5,.string a0_6] 40 (0,0))) ∧ Aside0 (Below w.heap.size w wc))
 case first =>
  have H := HC2.out
  clear HC2
  replace H := Option.bind_eq_some_iff.mp H
  obtain ⟨t520,A40,H⟩ := H
  try dsimp only at H
  have A4 := am_ A40
  clear A40
  by_cases c5 : t520 = true
  case neg =>
   replace c5 := Bool.eq_false_iff.mpr c5
   subst c5
   rw [if_neg (show ¬ (false = true) by decide)] at H
   have H' := am_ H
   clear H
   obtain ⟨hcz12_0,hcz12_1,hcz12_2,hcz12_3,hcz12_4,hcz12_5,hcz12_6,hfz12_0,hfz12_1,hfz12_2,hfz12_3,hfz12_4,hfz12_5,hfz12_6⟩ := zc7 BK519
   go_wp2_with (first | ((with_reducible refine gate_callee (f := 66) rfl ?_);refine zgl (some 5) Tryz.func66 #[.int .i64 a0_1,.int .i64 0,.int .i64 20] ?_;(with_reducible refine (ZB.calls a0_1 0 20 false _ A4.out).mono ?_);rintro e w' ⟨rfl,⟨nd,rfl⟩⟩;refine ⟨_,rfl,?_⟩))
   go_meet
   case rel => exact ⟨_,(true),(by first | rfl | (simp;done) | (simp [*];done)),H',⟨by first | omega | exact Nat.le_refl _⟩,⟨by (with_reducible repeat (first | apply k1_ | apply k2_ | apply k3_));exact BK519.out⟩,⟨zl_ HB⟩⟩
  subst c5
  rw [if_pos rfl] at H
  replace H := Option.bind_eq_some_iff.mp H
  obtain ⟨t521,A60,H⟩ := H
  try dsimp only at H
  have A6 := am_ A60
  clear A60
  by_cases c7 : t521 = true
  case neg =>
   replace c7 := Bool.eq_false_iff.mpr c7
   subst c7
   rw [if_neg (show ¬ (false = true) by decide)] at H
   have H' := am_ H
   clear H
   obtain ⟨hcz11_0,hcz11_1,hcz11_2,hcz11_3,hcz11_4,hcz11_5,hcz11_6,hfz11_0,hfz11_1,hfz11_2,hfz11_3,hfz11_4,hfz11_5,hfz11_6⟩ := zc7 BK519
   go_wp2_with (first | ((with_reducible refine gate_callee (f := 66) rfl ?_);refine zgl (some 5) Tryz.func66 #[.int .i64 a0_1,.int .i64 0,.int .i64 20] ?_;(with_reducible refine (ZB.calls a0_1 0 20 true _ A4.out).mono ?_);rintro e w' ⟨rfl,⟨nd,rfl⟩⟩;refine ⟨_,rfl,?_⟩) | (go_at_call 66;(with_reducible refine (ZB.calls a0_3 0 6 false _ A6.out).mono ?_);rintro e w' ⟨rfl,⟨nd,rfl⟩⟩))
   go_meet
   case rel => exact ⟨_,(true),(by first | rfl | (simp;done) | (simp [*];done)),H',⟨by first | omega | exact Nat.le_refl _⟩,⟨by (with_reducible repeat (first | apply k1_ | apply k2_ | apply k3_));exact BK519.out⟩,⟨zl_ HB⟩⟩
  subst c7
  rw [if_pos rfl] at H
  by_cases c8 : (a0_6.size : Int) = 8
  case neg =>
   rw [if_neg c8] at H
   have c8b0 := beq_eq_false_iff_ne.mpr c8
   have c8b1 := bne_iff_ne.mpr c8
   (first | rw [c8b0] | (simp only [i64_w,i32_w];rw [c8b0]) | skip)
   have H' := am_ H
   clear H
   obtain ⟨hcz10_0,hcz10_1,hcz10_2,hcz10_3,hcz10_4,hcz10_5,hcz10_6,hfz10_0,hfz10_1,hfz10_2,hfz10_3,hfz10_4,hfz10_5,hfz10_6⟩ := zc7 BK519
   go_wp2_with (first | ((with_reducible refine gate_callee (f := 66) rfl ?_);refine zgl (some 5) Tryz.func66 #[.int .i64 a0_1,.int .i64 0,.int .i64 20] ?_;(with_reducible refine (ZB.calls a0_1 0 20 true _ A4.out).mono ?_);rintro e w' ⟨rfl,⟨nd,rfl⟩⟩;refine ⟨_,rfl,?_⟩) | (go_at_call 66;(with_reducible refine (ZB.calls a0_3 0 6 true _ A6.out).mono ?_);rintro e w' ⟨rfl,⟨nd,rfl⟩⟩))
   go_meet
   case rel => exact ⟨_,(true),(by first | rfl | (simp;done) | (simp [*];done)),H',⟨by first | omega | exact Nat.le_refl _⟩,⟨by (with_reducible repeat (first | apply k1_ | apply k2_ | apply k3_));exact BK519.out⟩,⟨zl_ HB⟩⟩
  rw [if_pos c8] at H
  have c8b0 := beq_iff_eq.mpr c8
  have c8b1 := bne_eq_false_iff_eq.mpr c8
  clear c8
  (first | rw [c8b0] | (simp only [i64_w,i32_w];rw [c8b0]) | skip)
  have H' := am_ H
  clear H
  obtain ⟨hcz9_0,hcz9_1,hcz9_2,hcz9_3,hcz9_4,hcz9_5,hcz9_6,hfz9_0,hfz9_1,hfz9_2,hfz9_3,hfz9_4,hfz9_5,hfz9_6⟩ := zc7 BK519
  go_wp2_with (first | ((with_reducible refine gate_callee (f := 66) rfl ?_);refine zgl (some 5) Tryz.func66 #[.int .i64 a0_1,.int .i64 0,.int .i64 20] ?_;(with_reducible refine (ZB.calls a0_1 0 20 true _ A4.out).mono ?_);rintro e w' ⟨rfl,⟨nd,rfl⟩⟩;refine ⟨_,rfl,?_⟩) | (go_at_call 66;(with_reducible refine (ZB.calls a0_3 0 6 true _ A6.out).mono ?_);rintro e w' ⟨rfl,⟨nd,rfl⟩⟩))
  go_meet
  case rel => exact ⟨_,(decide ((a0_5.size : Int) > 20000)),(by first | rfl | (simp;done) | (simp [*];done)),H',⟨by first | omega | exact Nat.le_refl _⟩,⟨by (with_reducible repeat (first | apply k1_ | apply k2_ | apply k3_));exact BK519.out⟩,⟨zl_ HB⟩⟩
 case rest =>
  clear HC2
  try clear p2
  try clear c4
  try clear c5
  try clear c6
  try clear c7
  try clear c8
  try clear c8b0
  try clear c8b1
  try clear hcz10_0
  try clear hcz10_1
  try clear hcz10_2
  try clear hcz10_3
  try clear hcz10_4
  try clear hcz10_5
  try clear hcz10_6
  try clear hcz11_0
  try clear hcz11_1
  try clear hcz11_2
  try clear hcz11_3
  try clear hcz11_4
  try clear hcz11_5
  try clear hcz11_6
  try clear hcz12_0
  try clear hcz12_1
  try clear hcz12_2
  try clear hcz12_3
  try clear hcz12_4
  try clear hcz12_5
  try clear hcz12_6
  try clear hcz9_0
  try clear hcz9_1
  try clear hcz9_2
  try clear hcz9_3
  try clear hcz9_4
  try clear hcz9_5
  try clear hcz9_6
  try clear hfz10_0
  try clear hfz10_1
  try clear hfz10_2
  try clear hfz10_3
  try clear hfz10_4
  try clear hfz10_5
  try clear hfz10_6
  try clear hfz11_0
  try clear hfz11_1
  try clear hfz11_2
  try clear hfz11_3
  try clear hfz11_4
  try clear hfz11_5
  try clear hfz11_6
  try clear hfz12_0
  try clear hfz12_1
  try clear hfz12_2
  try clear hfz12_3
  try clear hfz12_4
  try clear hfz12_5
  try clear hfz12_6
  try clear hfz9_0
  try clear hfz9_1
  try clear hfz9_2
  try clear hfz9_3
  try clear hfz9_4
  try clear hfz9_5
  try clear hfz9_6
  obtain ⟨kq,x24_1,rfl,HA,HJ1,BK519,HB⟩ := hcut
  cases kq with
  | zero => exact absurd HA.out (by simp [Zn.j0])
  | succ kj1 =>
   have H := HA.out
   clear HA
   simp only [Zn.j0] at H
   by_cases c13 : x24_1 = true
   ·subst c13
    rw [if_pos rfl] at H
    obtain rfl := Option.some.inj H
    go_wp2
    go_ret
    exact ⟨zt_,zl_ HB⟩
   replace c13 := Bool.eq_false_iff.mpr c13
   subst c13
   rw [if_neg (show ¬ (false = true) by decide)] at H
   have HC14 := am_ H
   clear H
   obtain ⟨hcz15_0,hcz15_1,hcz15_2,hcz15_3,hcz15_4,hcz15_5,hcz15_6,hfz15_0,hfz15_1,hfz15_2,hfz15_3,hfz15_4,hfz15_5,hfz15_6⟩ := zc7 BK519
   go_upto_if 27 with (fail)
   go_cut [27] (fun v27 wc => ∃ (kq : Nat) (x27_13 : Bool),v27 = .bool x27_13 ∧ Aside0 (Zn.j1 kq a0_0 x27_13 a0_0 a0_1 a0_2 a0_3 a0_4 a0_5 a0_6 = some r) ∧ Aside0 (kq ≤ kj1) ∧ Aside0 (wc.heap[gb519]? = some (.cells #[.int .i64 a0_0,.int .i64 a0_1,.int .i64 a0_2,.int .i64 a0_3,.string a0_4,.string a0_5,.string a0_6] 40 (0,0))) ∧ Aside0 (Below w.heap.size w wc))
   case first =>
    have H := HC14.out
    clear HC14
    by_cases c16 : a0_0 = 1
    ·rw [if_pos c16] at H
     have c16b0 := beq_iff_eq.mpr c16
     have c16b1 := bne_eq_false_iff_eq.mpr c16
     clear c16
     (first | rw [c16b0] | (simp only [i64_w,i32_w];rw [c16b0]) | skip)
     have H' := am_ H
     clear H
     go_wp2
     go_meet
     case rel => exact ⟨_,((a0_0 == 1)),(by first | rfl | (simp;done) | (simp [*];done)),H',⟨by have := HJ1.out;first | omega | exact Nat.le_refl _⟩,⟨by (with_reducible repeat (first | apply k1_ | apply k2_ | apply k3_));exact BK519.out⟩,⟨zl_ HB⟩⟩
    rw [if_neg c16] at H
    have c16b0 := beq_eq_false_iff_ne.mpr c16
    have c16b1 := bne_iff_ne.mpr c16
    (first | rw [c16b0] | (simp only [i64_w,i32_w];rw [c16b0]) | skip)
    by_cases c17 : a0_0 = 2
    case neg =>
     rw [if_neg c17] at H
     have c17b0 := beq_eq_false_iff_ne.mpr c17
     have c17b1 := bne_iff_ne.mpr c17
     have H' := am_ H
     clear H
     go_wp2
     go_meet
     case rel => exact ⟨_,((a0_0 == 3)),(by first | rfl | (simp;done) | (simp [*];done)),H',⟨by have := HJ1.out;first | omega | exact Nat.le_refl _⟩,⟨by (with_reducible repeat (first | apply k1_ | apply k2_ | apply k3_));exact BK519.out⟩,⟨zl_ HB⟩⟩
    rw [if_pos c17] at H
    have c17b0 := beq_iff_eq.mpr c17
    have c17b1 := bne_eq_false_iff_eq.mpr c17
    clear c17
    have H' := am_ H
    clear H
    go_wp2
    go_meet
    case rel => exact ⟨_,((a0_0 == 2)),(by first | rfl | (simp;done) | (simp [*];done)),H',⟨by have := HJ1.out;first | omega | exact Nat.le_refl _⟩,⟨by (with_reducible repeat (first | apply k1_ | apply k2_ | apply k3_));exact BK519.out⟩,⟨zl_ HB⟩⟩
   case rest =>
    clear HC14
    try clear c1
    try clear p2
    try clear c4
    try clear c5
    try clear c6
    try clear c7
    try clear c8
    try clear c8b0
    try clear c8b1
    try clear c13
    try clear c16
    try clear c16b0
    try clear c16b1
    try clear c17
    try clear c17b0
    try clear c17b1
    try clear hcz10_0
    try clear hcz10_1
    try clear hcz10_2
    try clear hcz10_3
    try clear hcz10_4
    try clear hcz10_5
    try clear hcz10_6
    try clear hcz11_0
    try clear hcz11_1
    try clear hcz11_2
    try clear hcz11_3
    try clear hcz11_4
    try clear hcz11_5
    try clear hcz11_6
    try clear hcz12_0
    try clear hcz12_1
    try clear hcz12_2
    try clear hcz12_3
    try clear hcz12_4
    try clear hcz12_5
    try clear hcz12_6
    try clear hcz15_0
    try clear hcz15_1
    try clear hcz15_2
    try clear hcz15_3
    try clear hcz15_4
    try clear hcz15_5
    try clear hcz15_6
    try clear hcz9_0
    try clear hcz9_1
    try clear hcz9_2
    try clear hcz9_3
    try clear hcz9_4
    try clear hcz9_5
    try clear hcz9_6
    try clear hfz10_0
    try clear hfz10_1
    try clear hfz10_2
    try clear hfz10_3
    try clear hfz10_4
    try clear hfz10_5
    try clear hfz10_6
    try clear hfz11_0
    try clear hfz11_1
    try clear hfz11_2
    try clear hfz11_3
    try clear hfz11_4
    try clear hfz11_5
    try clear hfz11_6
    try clear hfz12_0
    try clear hfz12_1
    try clear hfz12_2
    try clear hfz12_3
    try clear hfz12_4
    try clear hfz12_5
    try clear hfz12_6
    try clear hfz15_0
    try clear hfz15_1
    try clear hfz15_2
    try clear hfz15_3
    try clear hfz15_4
    try clear hfz15_5
    try clear hfz15_6
    try clear hfz9_0
    try clear hfz9_1
    try clear hfz9_2
    try clear hfz9_3
    try clear hfz9_4
    try clear hfz9_5
    try clear hfz9_6
    try clear p2
    obtain ⟨kq,x27_13,rfl,HA,HJ13,BK519,HB⟩ := hcut
    cases kq with
    | zero => exact absurd HA.out (by simp [Zn.j1])
    | succ kj13 =>
     have H := HA.out
     clear HA
     simp only [Zn.j1] at H
     by_cases c18 : x27_13 = true
     case neg =>
      replace c18 := Bool.eq_false_iff.mpr c18
      subst c18
      rw [if_neg (show ¬ (false = true) by decide)] at H
      by_cases c26 : a0_0 = 4
      ·rw [if_pos c26] at H
       have c26b0 := beq_iff_eq.mpr c26
       have c26b1 := bne_eq_false_iff_eq.mpr c26
       clear c26
       by_cases c27 : a0_2 = 0
       case neg =>
        rw [if_neg c27] at H
        have c27b0 := beq_eq_false_iff_ne.mpr c27
        have c27b1 := bne_iff_ne.mpr c27
        obtain rfl := Option.some.inj H
        obtain ⟨hcz29_0,hcz29_1,hcz29_2,hcz29_3,hcz29_4,hcz29_5,hcz29_6,hfz29_0,hfz29_1,hfz29_2,hfz29_3,hfz29_4,hfz29_5,hfz29_6⟩ := zc7 BK519
        go_wp2
        go_ret
        exact ⟨zt_,zl_ HB⟩
       rw [if_pos c27] at H
       have c27b0 := beq_iff_eq.mpr c27
       have c27b1 := bne_eq_false_iff_eq.mpr c27
       clear c27
       obtain rfl := Option.some.inj H
       obtain ⟨hcz28_0,hcz28_1,hcz28_2,hcz28_3,hcz28_4,hcz28_5,hcz28_6,hfz28_0,hfz28_1,hfz28_2,hfz28_3,hfz28_4,hfz28_5,hfz28_6⟩ := zc7 BK519
       go_wp2
       go_ret
       exact ⟨zt_,zl_ HB⟩
      rw [if_neg c26] at H
      have c26b0 := beq_eq_false_iff_ne.mpr c26
      have c26b1 := bne_iff_ne.mpr c26
      by_cases c30 : a0_0 = 5
      case neg =>
       rw [if_neg c30] at H
       have c30b0 := beq_eq_false_iff_ne.mpr c30
       have c30b1 := bne_iff_ne.mpr c30
       obtain rfl := Option.some.inj H
       go_wp2
       go_ret
       exact ⟨zt_,zl_ HB⟩
      rw [if_pos c30] at H
      have c30b0 := beq_iff_eq.mpr c30
      have c30b1 := bne_eq_false_iff_eq.mpr c30
      clear c30
      by_cases c31 : a0_2 = 0
      case neg =>
       rw [if_neg c31] at H
       have c31b0 := beq_eq_false_iff_ne.mpr c31
       have c31b1 := bne_iff_ne.mpr c31
       obtain rfl := Option.some.inj H
       obtain ⟨hcz33_0,hcz33_1,hcz33_2,hcz33_3,hcz33_4,hcz33_5,hcz33_6,hfz33_0,hfz33_1,hfz33_2,hfz33_3,hfz33_4,hfz33_5,hfz33_6⟩ := zc7 BK519
       go_wp2
       go_ret
       exact ⟨zt_,zl_ HB⟩
      rw [if_pos c31] at H
      have c31b0 := beq_iff_eq.mpr c31
      have c31b1 := bne_eq_false_iff_eq.mpr c31
      clear c31
      obtain rfl := Option.some.inj H
      obtain ⟨hcz32_0,hcz32_1,hcz32_2,hcz32_3,hcz32_4,hcz32_5,hcz32_6,hfz32_0,hfz32_1,hfz32_2,hfz32_3,hfz32_4,hfz32_5,hfz32_6⟩ := zc7 BK519
      go_wp2
      go_ret
      exact ⟨zt_,zl_ HB⟩
     subst c18
     rw [if_pos rfl] at H
     replace H := Option.bind_eq_some_iff.mp H
     obtain ⟨t522,A190,H⟩ := H
     try dsimp only at H
     have A19 := am_ A190
     clear A190
     by_cases c20 : t522 = true
     case neg =>
      replace c20 := Bool.eq_false_iff.mpr c20
      subst c20
      rw [if_neg (show ¬ (false = true) by decide)] at H
      obtain rfl := Option.some.inj H
      obtain ⟨hcz25_0,hcz25_1,hcz25_2,hcz25_3,hcz25_4,hcz25_5,hcz25_6,hfz25_0,hfz25_1,hfz25_2,hfz25_3,hfz25_4,hfz25_5,hfz25_6⟩ := zc7 BK519
      go_wp2_with (first | ((with_reducible refine gate_callee (f := 66) rfl ?_);refine zgl (some 33) Tryz.func66 #[.int .i64 a0_2,.int .i64 1,.int .i64 8] ?_;(with_reducible refine (ZB.calls a0_2 1 8 false _ A19.out).mono ?_);rintro e w' ⟨rfl,⟨nd,rfl⟩⟩;refine ⟨_,rfl,?_⟩))
      go_ret
      exact ⟨zt_,zl_ HB⟩
     subst c20
     rw [if_pos rfl] at H
     replace H := Option.bind_eq_some_iff.mp H
     obtain ⟨t523,A210,H⟩ := H
     try dsimp only at H
     have A21 := am_ A210
     clear A210
     by_cases c22 : t523 = true
     ·subst c22
      rw [if_pos rfl] at H
      obtain rfl := Option.some.inj H
      obtain ⟨hcz23_0,hcz23_1,hcz23_2,hcz23_3,hcz23_4,hcz23_5,hcz23_6,hfz23_0,hfz23_1,hfz23_2,hfz23_3,hfz23_4,hfz23_5,hfz23_6⟩ := zc7 BK519
      go_wp2_with (first | ((with_reducible refine gate_callee (f := 66) rfl ?_);refine zgl (some 33) Tryz.func66 #[.int .i64 a0_2,.int .i64 1,.int .i64 8] ?_;(with_reducible refine (ZB.calls a0_2 1 8 true _ A19.out).mono ?_);rintro e w' ⟨rfl,⟨nd,rfl⟩⟩;refine ⟨_,rfl,?_⟩) | (go_at_call 67;(with_reducible refine (Yv.calls a0_4 true _ A21.out).mono ?_);rintro e w' ⟨rfl,⟨nd,rfl⟩⟩))
      go_ret
      exact ⟨zt_,zl_ HB⟩
     replace c22 := Bool.eq_false_iff.mpr c22
     subst c22
     rw [if_neg (show ¬ (false = true) by decide)] at H
     obtain rfl := Option.some.inj H
     obtain ⟨hcz24_0,hcz24_1,hcz24_2,hcz24_3,hcz24_4,hcz24_5,hcz24_6,hfz24_0,hfz24_1,hfz24_2,hfz24_3,hfz24_4,hfz24_5,hfz24_6⟩ := zc7 BK519
     go_wp2_with (first | ((with_reducible refine gate_callee (f := 66) rfl ?_);refine zgl (some 33) Tryz.func66 #[.int .i64 a0_2,.int .i64 1,.int .i64 8] ?_;(with_reducible refine (ZB.calls a0_2 1 8 true _ A19.out).mono ?_);rintro e w' ⟨rfl,⟨nd,rfl⟩⟩;refine ⟨_,rfl,?_⟩) | (go_at_call 67;(with_reducible refine (Yv.calls a0_4 false _ A21.out).mono ?_);rintro e w' ⟨rfl,⟨nd,rfl⟩⟩))
     go_ret
     exact ⟨zt_,zl_ HB⟩
theorem Zh.calls (k : Nat) (a0 : Int) (a1 : Int) (r : ByteArray) (w : World) (h : Zh.f k a0 a1 = some r) :
  Calls Tryz.prog 41 #[.int .i64 a0,.int .i64 a1] w fun e w' => e = .returned (.string r) ∧ Below w.heap.size w w' := by
 have HB := am_ (Below.refl w.heap.size w)
 have H : (if 0 ≤ a1 then (if (a1 : Int).toNat ≤ 281474976710656 then (Zh.l0 k a0 (List.replicate (a1 : Int).toNat 0) (wrap64 (a1 - 1))) else (none)) else (none)) = some r := h
 clear h
 by_cases c3 : 0 ≤ a1
 case neg =>
  rw [if_neg c3] at H
  exact absurd H (by simp)
 rw [if_pos c3] at H
 have c3b0 := eq_true c3
 have c3b1 := decide_eq_true c3
 clear c3
 by_cases c4 : (a1 : Int).toNat ≤ 281474976710656
 case neg =>
  rw [if_neg c4] at H
  exact absurd H (by simp)
 rw [if_pos c4] at H
 have c4b0 := eq_true c4
 have c4b1 := decide_eq_true c4
 clear c4
 obtain ⟨y459,hy459⟩ : ∃ y_ : List Int,y_ = (List.replicate (a1 : Int).toNat 0) := ⟨_,rfl⟩
 replace H : (Zh.l0 k a0 y459 (wrap64 (a1 - 1))) = some r := by first | (rw [hy459];with_reducible exact H) | (have H2_ := (Option.bind_some _ _).symm.trans H;rw [hy459];with_reducible exact H2_) | (have H2_ := (Option.bind_some _ _).symm.trans H;with_reducible exact H2_) | with_reducible exact H | (rw [hy459];exact H) | exact H
 have Ny459 := am_ hy459
 clear hy459
 have H' := am_ H
 clear H
 go_enter Tryz.func41,Tryz.ntmps41
 go_wp2_with (first | ((with_reducible refine gate_dst (N := 8) rfl ?_);refine Kd.R_make (Kd.int .u8) _ 5 rfl (N := 8) rfl 65 _ _ rfl a1 rfl rfl Tryz.underlying65 (.int .u8 0) 1 info5 rfl (by decide) (by omega) 0 (ok := fun _ => True) (okp := fun _ => True) rfl (fun _ hk => hk) trivial (zo_) (Nat.le_trans (Nat.mul_le_mul_right _ (zo_ : a1.toNat ≤ 281474976710656)) (by omega)) (Below.refl _ _) (Nat.le_refl _) ?_;intro v460 w5 ho6 hb hg_ hnew_;clear hg_ hnew_;(first | rw [← Ny459.out] at ho6 | (simp only [Int.reduceToNat] at ho6;rw [← Ny459.out] at ho6));have HO461 := am_ (Kd.R_lower ho6 (below_size (zl_ HB)));replace HB := zs_ HB hb;clear hb ho6))
 go_loopg [0,6] k (fun kq v0 v6 w' => ∃ (x0_1 : Int) (x5_1 : List Int) (x6_1 : Int),v0 = .int .i64 x0_1 ∧ v6 = .int .i64 x6_1 ∧ Aside0 (Zh.l0 kq x0_1 x5_1 x6_1 = some r) ∧ Aside0 (kq ≤ k) ∧ Aside0 (Kd.R (Kd.int .u8) 5 w' w.heap.size (fun _ => True) v460 x5_1) ∧ Aside0 (Below w.heap.size w w'))
 case atStart => exact ⟨(a0),(y459),(wrap64 (a1 - 1)),(by first | rfl | (simp;done) | (simp [*];done)),(by first | rfl | (simp;done) | (simp [*];done)),H',⟨Nat.le_refl _⟩,⟨zr HO461⟩,⟨zl_ HB⟩⟩
 case round =>
  clear H'
  try clear p2
  try clear c3
  try clear c3b0
  try clear c3b1
  try clear c4
  try clear c4b0
  try clear c4b1
  try clear p6
  obtain ⟨x0_1,x5_1,x6_1,rfl,rfl,HA,HK1,HO_5,HB⟩ := hrel
  cases gk with
  | zero => exact absurd HA.out (by simp [Zh.l0])
  | succ k1 =>
   have H := HA.out
   clear HA
   simp only [Zh.l0] at H
   by_cases c7 : x6_1 ≥ 0
   case neg =>
    rw [if_neg c7] at H
    have c7b0 : decide (0 ≤ x6_1) = false := decide_eq_false c7
    clear c7
    obtain rfl := Option.some.inj H
    have hcv13 := own_string (P := Tryz.prog) Tryz.underlying65 Tryz.underlying5 Tryz.underlying9 (Kd.own_of_R HO_5.out)
    go_wp2
    go_ret
    exact ⟨zt_,zl_ HB⟩
   rw [if_pos c7] at H
   have c7b0 : decide (0 ≤ x6_1) = true := decide_eq_true c7
   clear c7
   by_cases c8 : 0 ≤ x6_1
   case neg =>
    rw [if_neg c8] at H
    exact absurd H (by simp)
   rw [if_pos c8] at H
   have c8b0 := decide_eq_true c8
   clear c8
   by_cases c9 : x6_1 < (x5_1.length : Int)
   case neg =>
    rw [if_neg c9] at H
    exact absurd H (by simp)
   rw [if_pos c9] at H
   have c9b0 := decide_eq_true c9
   clear c9
   obtain ⟨y462,hy462⟩ : ∃ y_ : List Int,y_ = (x5_1.set (x6_1 : Int).toNat ((x0_1) % 256)) := ⟨_,rfl⟩
   replace H : (Zh.l0 k1 (x0_1 / 256) y462 (wrap64 (x6_1 - 1))) = some r := by first | (rw [hy462];with_reducible exact H) | (have H2_ := (Option.bind_some _ _).symm.trans H;rw [hy462];with_reducible exact H2_) | (have H2_ := (Option.bind_some _ _).symm.trans H;with_reducible exact H2_) | with_reducible exact H | (rw [hy462];exact H) | exact H
   have Ny462 := am_ hy462
   clear hy462
   have H' := am_ H
   clear H
   have p10 : 0 ≤ (x6_1 : Int) := zo_
   have q10 : (x6_1 : Int) < ((x5_1.length : Int) : Int) := zo_
   obtain ⟨go10,co10,eo10,gb10,gl10,cl10,HG10⟩ := Kd.R_form HO_5.out (by omega)
   (first | cases eo10 | (injection eo10 with ea_ en_ ec_;(first | subst ea_ | (injection ea_ with ea_;subst ea_));subst ec_;clear en_))
   have GB10 := am_ gb10
   have GG10 := am_ HG10
   clear gb10 gl10 HG10
   obtain ⟨hx10_0,hf10_0⟩ := Kd.R_celln 0 HO_5.out (x6_1 : Int) p10 q10
   replace p10 := eq_true p10
   replace q10 := eq_true q10
   have HP11 := Kd.R_putg HO_5.out (x6_1 : Int) ((x0_1) % 256)
   go_wp2_with (first | ((with_reducible refine gate_store (t := 5) (p := 19) rfl ?_);refine store_event (t := 5) (p := 19) (v := ?vo_w12) (w1 := (wr.setCell ⟨go10,(x6_1 : Int).toNat,none⟩ (.int .u8 ((x0_1) % 256)))) ?hg ?ho ?hn ?hr ?_;(case ho => rfl);(case hg => rfl);(case hn => rfl);(case hr => first | (go_simp;done) | (go_simp;rfl));intro w12 hw;have hg : wr.grownBy w12 (some go10) := (by rw [hw];exact HP11.2);have hp_ : Kd.R (Kd.int .u8) 5 w12 w.heap.size (fun _ => True) (.slice (some ⟨go10,0,none⟩) x5_1.length co10) y462 := (by rw [hw,Ny462.out];exact HP11.1);clear HP11;replace HO_5 := am_ (hp_);replace HB := am_ ((by rw [hw];exact below_set (HB.out) GB10.out : Below w.heap.size w w12));clear hg hw hp_))
   go_roundg k1
   case measure => have := HK1.out;omega
   case rel => exact ⟨(x0_1 / 256),(y462),(wrap64 (x6_1 - 1)),(by first | rfl | (simp;done) | (simp [*];done)),(by first | rfl | (simp;done) | (simp [*];done)),H',⟨by have := HK1.out;omega⟩,⟨zr HO_5⟩,⟨zl_ HB⟩⟩
def ZK.T1 : Bool × List (List Nat × List Nat) := (true,[([],[]),([0],[0]),([1],[1]),([],[]),([3],[3]),([4,2],[4]),([2,5],[2,5]),([],[]),([7],[7]),([8,5],[8]),([6,9],[6,9]),([],[]),([11],[11]),([12,9],[12]),([10,13],[10,13]),([],[]),([15],[15]),([16],[16]),([17,13],[17]),([14,18],[14,18]),([],[]),([20],[20]),([19,21],[19,21]),([],[]),([23],[23]),([24],[24]),([25,18],[25]),([22,26],[22,26]),([],[]),([28],[28]),([27,29],[27,29]),([30,26,0,1,2,3,4,5,6,7,8,9,10,11,12,13,14,15,16,17,18,19,20,21,22,23,24,25,26,27,28,29,30],[30])])
def ZK.B1 : List Nat := [0,1,3,0,8,31,63,0,128,447,1023,0,2048,7103,16383,0,32768,98304,244671,524287,0,1048576,4194303,0,8388608,25165824,59227071,134217727,0,268435456,1073741823,2147483647]
theorem ZK.tab1 : rtab .any (opsOf Tryz.f45 1) = ZK.T1 := by kernel_rfl
theorem ZK.bits1 : waitsOk ZK.T1.2 ZK.B1 = true := by kernel_rfl
theorem ZK.calls (k : Nat) (a0_0 : Int) (a0_1 : Int) (a0_2 : Int) (a0_3 : Int) (a0_4 : ByteArray) (a0_5 : ByteArray) (a0_6 : ByteArray) (r : ByteArray) (w : World) (h : ZK.f k a0_0 a0_1 a0_2 a0_3 a0_4 a0_5 a0_6 = some r) :
  Calls Tryz.prog 45 #[.agg #[.int .i64 a0_0,.int .i64 a0_1,.int .i64 a0_2,.int .i64 a0_3,.string a0_4,.string a0_5,.string a0_6]] w fun e w' => e = .returned (.string r) ∧ Below w.heap.size w w' := by
 have hu40 := Tryz.underlying40
 have HB := am_ (Below.refl w.heap.size w)
 have H : ((Zh.f k a0_0 1).bind fun t525 => ((Zh.f k a0_1 1).bind fun t526 => (if t525.size + t526.size ≤ 9223372036854775807 then ((Zh.f k a0_2 1).bind fun t527 => (if (t525 ++ t526).size + t527.size ≤ 9223372036854775807 then ((Zh.f k a0_3 1).bind fun t528 => (if ((t525 ++ t526) ++ t527).size + t528.size ≤ 9223372036854775807 then ((Zh.f k (a0_4.size : Int) 1).bind fun t529 => (if (((t525 ++ t526) ++ t527) ++ t528).size + t529.size ≤ 9223372036854775807 then (if ((((t525 ++ t526) ++ t527) ++ t528) ++ t529).size + a0_4.size ≤ 9223372036854775807 then ((Zh.f k (a0_5.size : Int) 2).bind fun t530 => (if (((((t525 ++ t526) ++ t527) ++ t528) ++ t529) ++ a0_4).size + t530.size ≤ 9223372036854775807 then (if ((((((t525 ++ t526) ++ t527) ++ t528) ++ t529) ++ a0_4) ++ t530).size + a0_5.size ≤ 9223372036854775807 then (some (((((((t525 ++ t526) ++ t527) ++ t528) ++ t529) ++ a0_4) ++ t530) ++ a0_5)) else (none)) else (none))) else (none)) else (none))) else (none))) else (none))) else (none)))) = some r := h
 clear h
 replace H := Option.bind_eq_some_iff.mp H
 obtain ⟨t525,A20,H⟩ := H
 try dsimp only at H
 have A2 := am_ A20
 clear A20
 replace H := Option.bind_eq_some_iff.mp H
 obtain ⟨t526,A30,H⟩ := H
 try dsimp only at H
 have A3 := am_ A30
 clear A30
 by_cases c4 : t525.size + t526.size ≤ 9223372036854775807
 case neg =>
  rw [if_neg c4] at H
  exact absurd H (by simp)
 rw [if_pos c4] at H
 have c4b0 := eq_true c4
 have c4b1 := decide_eq_true c4
 try have c4b2 : (9223372036854775807 < t525.size + t526.size) = False := eq_false (Nat.not_lt.2 c4)
 replace H := Option.bind_eq_some_iff.mp H
 obtain ⟨t527,A50,H⟩ := H
 try dsimp only at H
 have A5 := am_ A50
 clear A50
 by_cases c6 : (t525 ++ t526).size + t527.size ≤ 9223372036854775807
 case neg =>
  rw [if_neg c6] at H
  exact absurd H (by simp)
 rw [if_pos c6] at H
 have c6b0 := eq_true c6
 have c6b1 := decide_eq_true c6
 try have c6b2 : (9223372036854775807 < (t525 ++ t526).size + t527.size) = False := eq_false (Nat.not_lt.2 c6)
 (try have c6b3 := c6b2;simp only [ByteArray.size_append] at c6b3)
 replace H := Option.bind_eq_some_iff.mp H
 obtain ⟨t528,A70,H⟩ := H
 try dsimp only at H
 have A7 := am_ A70
 clear A70
 by_cases c8 : ((t525 ++ t526) ++ t527).size + t528.size ≤ 9223372036854775807
 case neg =>
  rw [if_neg c8] at H
  exact absurd H (by simp)
 rw [if_pos c8] at H
 have c8b0 := eq_true c8
 have c8b1 := decide_eq_true c8
 try have c8b2 : (9223372036854775807 < ((t525 ++ t526) ++ t527).size + t528.size) = False := eq_false (Nat.not_lt.2 c8)
 (try have c8b3 := c8b2;simp only [ByteArray.size_append] at c8b3)
 replace H := Option.bind_eq_some_iff.mp H
 obtain ⟨t529,A90,H⟩ := H
 try dsimp only at H
 have A9 := am_ A90
 clear A90
 by_cases c10 : (((t525 ++ t526) ++ t527) ++ t528).size + t529.size ≤ 9223372036854775807
 case neg =>
  rw [if_neg c10] at H
  exact absurd H (by simp)
 rw [if_pos c10] at H
 have c10b0 := eq_true c10
 have c10b1 := decide_eq_true c10
 try have c10b2 : (9223372036854775807 < (((t525 ++ t526) ++ t527) ++ t528).size + t529.size) = False := eq_false (Nat.not_lt.2 c10)
 (try have c10b3 := c10b2;simp only [ByteArray.size_append] at c10b3)
 by_cases c11 : ((((t525 ++ t526) ++ t527) ++ t528) ++ t529).size + a0_4.size ≤ 9223372036854775807
 case neg =>
  rw [if_neg c11] at H
  exact absurd H (by simp)
 rw [if_pos c11] at H
 have c11b0 := eq_true c11
 have c11b1 := decide_eq_true c11
 try have c11b2 : (9223372036854775807 < ((((t525 ++ t526) ++ t527) ++ t528) ++ t529).size + a0_4.size) = False := eq_false (Nat.not_lt.2 c11)
 (try have c11b3 := c11b2;simp only [ByteArray.size_append] at c11b3)
 replace H := Option.bind_eq_some_iff.mp H
 obtain ⟨t530,A120,H⟩ := H
 try dsimp only at H
 have A12 := am_ A120
 clear A120
 by_cases c13 : (((((t525 ++ t526) ++ t527) ++ t528) ++ t529) ++ a0_4).size + t530.size ≤ 9223372036854775807
 case neg =>
  rw [if_neg c13] at H
  exact absurd H (by simp)
 rw [if_pos c13] at H
 have c13b0 := eq_true c13
 have c13b1 := decide_eq_true c13
 try have c13b2 : (9223372036854775807 < (((((t525 ++ t526) ++ t527) ++ t528) ++ t529) ++ a0_4).size + t530.size) = False := eq_false (Nat.not_lt.2 c13)
 (try have c13b3 := c13b2;simp only [ByteArray.size_append] at c13b3)
 by_cases c14 : ((((((t525 ++ t526) ++ t527) ++ t528) ++ t529) ++ a0_4) ++ t530).size + a0_5.size ≤ 9223372036854775807
 case neg =>
  rw [if_neg c14] at H
  exact absurd H (by simp)
 rw [if_pos c14] at H
 have c14b0 := eq_true c14
 have c14b1 := decide_eq_true c14
 try have c14b2 : (9223372036854775807 < ((((((t525 ++ t526) ++ t527) ++ t528) ++ t529) ++ a0_4) ++ t530).size + a0_5.size) = False := eq_false (Nat.not_lt.2 c14)
 (try have c14b3 := c14b2;simp only [ByteArray.size_append] at c14b3)
 obtain rfl := Option.some.inj H
 go_enter Tryz.func45,Tryz.ntmps45
 try go_wp2_with (first | ((with_reducible refine gate_dst (N := 1) rfl ?_);refine zbx (N := 1) (cs := #[.int .i64 a0_0,.int .i64 a0_1,.int .i64 a0_2,.int .i64 a0_3,.string a0_4,.string a0_5,.string a0_6]) (t := 40) ?_;intro gb524 hg w15 hbox hb;have BK524 := am_ (hbox);have GW524 := zw_ HB hg;have GE524 := zw_ HB hg;replace HB := zs_ HB hb;clear hb hbox hg))
 replace BK524 := am_ (blk_drew BK524.out)
 replace HB := am_ (below_drew1 HB.out)
 refine start_ (n := 32) (S := fun w' => w'.cell? ⟨gb524,0,none⟩ = some (.int .i64 a0_0) ∧ w'.cell? ⟨gb524,1,none⟩ = some (.int .i64 a0_1) ∧ w'.cell? ⟨gb524,2,none⟩ = some (.int .i64 a0_2) ∧ w'.cell? ⟨gb524,3,none⟩ = some (.int .i64 a0_3) ∧ w'.cell? ⟨gb524,4,none⟩ = some (.string a0_4) ∧ w'.cell? ⟨gb524,5,none⟩ = some (.string a0_5) ∧ w'.cell? ⟨gb524,6,none⟩ = some (.string a0_6)) (ds := []) #[false,false,false,false,false,false,false,false,false,false,false,false,false,false,false,false,false,false,false,false,false,false,false,false,false,false,false,false,false,false,false,false] (by kernel_rfl) rfl rfl ⟨(blk_cell BK524.out 0).trans rfl,(blk_cell BK524.out 1).trans rfl,(blk_cell BK524.out 2).trans rfl,(blk_cell BK524.out 3).trans rfl,(blk_cell BK524.out 4).trans rfl,(blk_cell BK524.out 5).trans rfl,(blk_cell BK524.out 6).trans rfl⟩ (fun hHeld => ?_);refine with_tabW ZK.tab1 ZK.bits1 (fun HT_ HW_ => ?_)
 generalize w15.drew = w16 at BK524 HB hHeld ⊢
 refine pu_ 0 3 HT_ ?_
 refine pu_ 3 6 HT_ ?_
 refine pu_ 7 10 HT_ ?_
 refine pu_ 11 14 HT_ ?_
 refine pu_ 15 18 HT_ ?_
 refine pu_ 20 23 HT_ ?_
 refine pu_ 23 26 HT_ ?_
 refine pu_ 28 31 HT_ ?_
 refine tk_ 1 4 HT_ HW_ hHeld ?_
 refine tk_ 4 7 HT_ HW_ hHeld ?_
 refine tk_ 8 11 HT_ HW_ hHeld ?_
 refine tk_ 12 15 HT_ HW_ hHeld ?_
 refine tk_ 16 19 HT_ HW_ hHeld ?_
 refine pu_ 17 20 HT_ ?_
 refine tk_ 21 24 HT_ HW_ hHeld ?_
 refine tk_ 24 27 HT_ HW_ hHeld ?_
 refine pu_ 25 28 HT_ ?_
 refine tk_ 29 32 HT_ HW_ hHeld ?_
 refine zon 2 (N := some 5) HT_ (fun K hK => ?_)
 refine zgo Tryz.func41 #[.int .i64 a0_0,.int .i64 1] ?_
 with_reducible refine (Zh.calls k a0_0 1 t525 _ A2.out).mono ?_
 rintro e w17 ⟨rfl,hb⟩
 refine ⟨_,rfl,?_⟩
 replace BK524 := zb BK524 hb
 replace HB := zs_ HB hb
 try clear hb
 refine hK.out _ _ ⟨(blk_cell BK524.out 0).trans rfl,(blk_cell BK524.out 1).trans rfl,(blk_cell BK524.out 2).trans rfl,(blk_cell BK524.out 3).trans rfl,(blk_cell BK524.out 4).trans rfl,(blk_cell BK524.out 5).trans rfl,(blk_cell BK524.out 6).trans rfl⟩ (fun hHeld => ?_)
 clear hK K
 refine nm_ ?_
 refine zon 5 (N := some 8) HT_ (fun K hK => ?_)
 refine zgo Tryz.func41 #[.int .i64 a0_1,.int .i64 1] ?_
 with_reducible refine (Zh.calls k a0_1 1 t526 _ A3.out).mono ?_
 rintro e w18 ⟨rfl,hb⟩
 refine ⟨_,rfl,?_⟩
 replace BK524 := zb BK524 hb
 replace HB := zs_ HB hb
 try clear hb
 refine hK.out _ _ ⟨(blk_cell BK524.out 0).trans rfl,(blk_cell BK524.out 1).trans rfl,(blk_cell BK524.out 2).trans rfl,(blk_cell BK524.out 3).trans rfl,(blk_cell BK524.out 4).trans rfl,(blk_cell BK524.out 5).trans rfl,(blk_cell BK524.out 6).trans rfl⟩ (fun hHeld => ?_)
 clear hK K
 refine nm_ ?_
 refine pu_ 6 9 HT_ ?_
 refine zon 9 (N := some 12) HT_ (fun K hK => ?_)
 refine zgo Tryz.func41 #[.int .i64 a0_2,.int .i64 1] ?_
 with_reducible refine (Zh.calls k a0_2 1 t527 _ A5.out).mono ?_
 rintro e w19 ⟨rfl,hb⟩
 refine ⟨_,rfl,?_⟩
 replace BK524 := zb BK524 hb
 replace HB := zs_ HB hb
 try clear hb
 refine hK.out _ _ ⟨(blk_cell BK524.out 0).trans rfl,(blk_cell BK524.out 1).trans rfl,(blk_cell BK524.out 2).trans rfl,(blk_cell BK524.out 3).trans rfl,(blk_cell BK524.out 4).trans rfl,(blk_cell BK524.out 5).trans rfl,(blk_cell BK524.out 6).trans rfl⟩ (fun hHeld => ?_)
 clear hK K
 refine nm_ ?_
 refine pu_ 10 13 HT_ ?_
 refine zon 13 (N := some 16) HT_ (fun K hK => ?_)
 refine zgo Tryz.func41 #[.int .i64 a0_3,.int .i64 1] ?_
 with_reducible refine (Zh.calls k a0_3 1 t528 _ A7.out).mono ?_
 rintro e w20 ⟨rfl,hb⟩
 refine ⟨_,rfl,?_⟩
 replace BK524 := zb BK524 hb
 replace HB := zs_ HB hb
 try clear hb
 refine hK.out _ _ ⟨(blk_cell BK524.out 0).trans rfl,(blk_cell BK524.out 1).trans rfl,(blk_cell BK524.out 2).trans rfl,(blk_cell BK524.out 3).trans rfl,(blk_cell BK524.out 4).trans rfl,(blk_cell BK524.out 5).trans rfl,(blk_cell BK524.out 6).trans rfl⟩ (fun hHeld => ?_)
 clear hK K
 refine nm_ ?_
 refine pu_ 14 17 HT_ ?_
 refine zon 18 (N := some 21) HT_ (fun K hK => ?_)
 refine zgo Tryz.func41 #[.int .i64 (a0_4.size : Int),.int .i64 1] ?_
 with_reducible refine (Zh.calls k (a0_4.size : Int) 1 t529 _ A9.out).mono ?_
 rintro e w21 ⟨rfl,hb⟩
 refine ⟨_,rfl,?_⟩
 replace BK524 := zb BK524 hb
 replace HB := zs_ HB hb
 try clear hb
 refine hK.out _ _ ⟨(blk_cell BK524.out 0).trans rfl,(blk_cell BK524.out 1).trans rfl,(blk_cell BK524.out 2).trans rfl,(blk_cell BK524.out 3).trans rfl,(blk_cell BK524.out 4).trans rfl,(blk_cell BK524.out 5).trans rfl,(blk_cell BK524.out 6).trans rfl⟩ (fun hHeld => ?_)
 clear hK K
 refine nm_ ?_
 refine pu_ 19 22 HT_ ?_
 refine pu_ 22 25 HT_ ?_
 refine zon 26 (N := some 29) HT_ (fun K hK => ?_)
 refine zgo Tryz.func41 #[.int .i64 (a0_5.size : Int),.int .i64 2] ?_
 with_reducible refine (Zh.calls k (a0_5.size : Int) 2 t530 _ A12.out).mono ?_
 rintro e w22 ⟨rfl,hb⟩
 refine ⟨_,rfl,?_⟩
 replace BK524 := zb BK524 hb
 replace HB := zs_ HB hb
 try clear hb
 refine hK.out _ _ ⟨(blk_cell BK524.out 0).trans rfl,(blk_cell BK524.out 1).trans rfl,(blk_cell BK524.out 2).trans rfl,(blk_cell BK524.out 3).trans rfl,(blk_cell BK524.out 4).trans rfl,(blk_cell BK524.out 5).trans rfl,(blk_cell BK524.out 6).trans rfl⟩ (fun hHeld => ?_)
 clear hK K
 refine nm_ ?_
 refine pu_ 27 30 HT_ ?_
 refine pu_ 30 33 HT_ ?_
 refine pu_ 31 2 HT_ ?_
 refine done_ (done_of HT_.out (by kernel_rfl)) ?_
 try go_wp2
 go_ret
 exact ⟨zt_,zl_ HB⟩
end Go.Proofs.YtbhegbhdenngbaaGreatDoor.A
end

section
namespace Go.Proofs.YtbhegbhdenngbaaGreatDoor.A
open Go.RowKit Go.Proofs.YtbhegbhdenngbaaGreatDoorW.PrintWords Go.Proofs.YtbhegbhdenngbaaGreatDoorW.PrintLast Go.Proofs.YtbhegbhdenngbaaGreatDoorW.PrintMore
structure Au (W : World) (g : Nat) (l : List Int) : Prop where
  cell : ∀ j,j < l.length → W.cell? ⟨g,j,none⟩ = some (.int .u32 (l.getD j 0))
  free : ∀ j,j < l.length → W.frozen? ⟨g,j,none⟩ = false
theorem Au.at {W W' : World} {g : Nat} {l : List Int} (h : Au W g l) (e : W'.heap[g]? = W.heap[g]?) : Au W' g l :=
  ⟨fun j hj => (World.cell?_of_block (a := ⟨g,j,none⟩) e).trans (h.cell j hj),fun j hj => (World.frozen?_of_block (a := ⟨g,j,none⟩) e).trans (h.free j hj)⟩
theorem Au.of_row {W : World} {g : Nat} (l : List Int) {e : Nat} (h : W.heap[g]? = some (.cells (l.map (Value.int .u32)).toArray e (0,0))) : Au W g l := by
  refine ⟨fun j hj => ?_,fun j hj => ?_⟩
  · unfold World.cell?
    rw [h]
    simp [List.getD,List.getElem?_eq_getElem hj]
  · unfold World.frozen?
    rw [h]
    simp
theorem Au.set {W : World} {g : Nat} {l : List Int} (h : Au W g l) (j : Nat) (hj : j < l.length) (x : Int) : Au (W.setCell ⟨g,j,none⟩ (.int .u32 x)) g (l.set j x) := by
  refine ⟨fun i hi => ?_,fun i hi => ?_⟩
  · rw [List.length_set] at hi
    by_cases c : i = j
    · subst c
      rw [World.cell?_setCell_same _ _ _ (h.cell i hi)]
      simp [List.getD,hi]
    · rw [World.cell?_setCell_other _ _ _ _ (by simp <;> omega),h.cell i hi]
      simp [List.getD,List.getElem?_set,Ne.symm c]
  · rw [List.length_set] at hi
    rw [World.frozen?_setCell]
    exact h.free i hi
theorem setCell_old (W : World) (a : Addr) (v : Value) (k : Nat) (hk : k ≠ a.block) : (W.setCell a v).heap[k]? = W.heap[k]? := by
  simp [World.setCell,Array.getElem?_modify,Ne.symm hk]
theorem Au.far {W : World} {g g' : Nat} {l : List Int} (h : Au W g l) (hg : g ≠ g') (j : Nat) (v : Value) : Au (W.setCell ⟨g',j,none⟩ v) g l :=
  h.at (setCell_old W _ v g hg)
theorem Au.drew {W : World} {g : Nat} {l : List Int} (h : Au W g l) : Au W.drew g l := h.at rfl
theorem Au.drewN {W : World} {g : Nat} {l : List Int} (h : Au W g l) (n : Nat) : Au (W.drewN n) g l := h.at rfl
theorem Au.setCells {W : World} {g : Nat} {l : List Int} (h : Au W g l) (l' : List Int) (hl : l'.length = l.length) : Au (W.setCells g 0 (l'.map (Value.int .u32))) g l' := by
  refine ⟨fun j hj => ?_,fun j hj => ?_⟩
  · have := World.cell?_setCells_in g (l'.map (Value.int .u32)) 0 W (fun i hi => by rw [Nat.zero_add,h.cell i (by simpa [hl] using hi)];rfl) j (by simpa using hj)
    rw [Nat.zero_add] at this
    rw [this]
    simp [List.getD,hj]
  · rw [World.frozen?_setCells]
    exact h.free j (by omega)
structure Bk (w W : World) (n : Nat) (lh lr lw : List Int) : Prop where
  hh : Au W n lh
  hr : Au W (n + 1) lr
  hw : Au W (n + 2) lw
  below : Below n w W
  size : W.heap.size = n + 3
theorem w64id (x : Int) (h1 : -9223372036854775808 ≤ x) (h2 : x ≤ 9223372036854775807) : IntKind.i64.wrap x = x := by rw [IntKind.wrap_i64];omega
theorem alloc_at (W : World) (o : Obj) (k : Nat) : (W.alloc o).heap[k]? = if k = W.heap.size then some o else W.heap[k]? := by
  simp [World.alloc,-World.alloc_eq,Array.getElem?_push]
theorem alloc_sz (W : World) (o : Obj) : (W.alloc o).heap.size = W.heap.size + 1 := by simp [World.alloc,-World.alloc_eq]
theorem Bk.start (w : World) (h a b : List Int) (t1 t2 t3 : Nat) :
    Bk w (((w.alloc (.cells (h.map (Value.int .u32)).toArray t1)).alloc (.cells (a.map (Value.int .u32)).toArray t2)).alloc (.cells (b.map (Value.int .u32)).toArray t3)) w.heap.size h a b := by
  refine ⟨Au.of_row (e := t1) _ ?_,Au.of_row (e := t2) _ ?_,Au.of_row (e := t3) _ ?_,⟨rfl,rfl,rfl,?_,fun k hk => ?_⟩,?_⟩
  · rw [alloc_at,alloc_at,alloc_at,alloc_sz,alloc_sz,if_neg (by omega),if_neg (by omega),if_pos rfl]
  · rw [alloc_at,alloc_at,alloc_sz,alloc_sz,if_neg (by omega),if_pos rfl]
  · rw [alloc_at,alloc_sz,alloc_sz,if_pos rfl]
  · rw [alloc_sz,alloc_sz,alloc_sz];omega
  · rw [alloc_at,alloc_at,alloc_at,alloc_sz,alloc_sz,if_neg (by omega),if_neg (by omega),if_neg (by omega)]
  · rw [alloc_sz,alloc_sz,alloc_sz]
theorem below_drew_h {w W : World} {n : Nat} (h : Below n w W) : Below n w W.drew := ⟨h.os,h.tape,h.output,h.size,h.block⟩
theorem below_set_h {w W : World} {n g j : Nat} {v : Value} (h : Below n w W) (hg : n ≤ g) : Below n w (W.setCell ⟨g,j,none⟩ v) :=
  ⟨h.os,h.tape,h.output,by simpa [World.setCell] using h.size,fun k hk => (setCell_old W _ v k (by dsimp only;omega)).trans (h.block k hk)⟩
theorem Bk.word {w W : World} {n : Nat} {lh lr lw : List Int} (h : Bk w W n lh lr lw) (j : Nat) (hj : j < lw.length) (x : Int) : Bk w (W.setCell ⟨n + 2,j,none⟩ (.int .u32 x)) n lh lr (lw.set j x) :=
  ⟨h.hh.far (by omega) j _,h.hr.far (by omega) j _,h.hw.set j hj x,below_set_h h.below (by omega),by simpa [World.setCell] using h.size⟩
theorem Bk.drew {w W : World} {n : Nat} {lh lr lw : List Int} (h : Bk w W n lh lr lw) : Bk w W.drew n lh lr lw :=
  ⟨h.hh.drew,h.hr.drew,h.hw.drew,below_drew_h h.below,h.size⟩
theorem Bk.old {w W : World} {n : Nat} {lh lr lw : List Int} (h : Bk w W n lh lr lw) {g j : Nat} {v : Value} (hg : g < n) (hc : w.cell? ⟨g,j,none⟩ = some v) : W.cell? ⟨g,j,none⟩ = some v :=
  (World.cell?_of_block (a := ⟨g,j,none⟩) (h.below.block g hg)).trans hc
theorem Bk.drewN {w W : World} {n : Nat} {lh lr lw : List Int} (h : Bk w W n lh lr lw) (m : Nat) : Bk w (W.drewN m) n lh lr lw :=
  ⟨h.hh.drewN m,h.hr.drewN m,h.hw.drewN m,⟨h.below.os,h.below.tape,h.below.output,h.below.size,h.below.block⟩,h.size⟩
structure Bk2 (w W : World) (n : Nat) (lh lr lw la : List Int) : Prop where
  hh : Au W n lh
  hr : Au W (n + 1) lr
  hw : Au W (n + 2) lw
  ha : Au W (n + 3) la
  below : Below n w W
theorem Bk2.start {w W : World} {n : Nat} {lh lr lw : List Int} (h : Bk w W n lh lr lw) (la : List Int) (t : Nat) : Bk2 w (W.alloc (.cells (la.map (Value.int .u32)).toArray t)) n lh lr lw la := by
  have hs := h.size
  have e : ∀ k,k < n + 3 → (W.alloc (.cells (la.map (Value.int .u32)).toArray t)).heap[k]? = W.heap[k]? := fun k hk => by rw [alloc_at,if_neg (by omega)]
  refine ⟨h.hh.at (e _ (by omega)),h.hr.at (e _ (by omega)),h.hw.at (e _ (by omega)),Au.of_row (e := t) _ ?_,⟨h.below.os,h.below.tape,h.below.output,?_,fun k hk => (e k (by omega)).trans (h.below.block k hk)⟩⟩
  · rw [alloc_at,if_pos (by omega)]
  · rw [alloc_sz];have := h.below.size;omega
theorem Bk2.drewN {w W : World} {n : Nat} {lh lr lw la : List Int} (h : Bk2 w W n lh lr lw la) (m : Nat) : Bk2 w (W.drewN m) n lh lr lw la :=
  ⟨h.hh.drewN m,h.hr.drewN m,h.hw.drewN m,h.ha.drewN m,⟨h.below.os,h.below.tape,h.below.output,h.below.size,h.below.block⟩⟩
theorem Bk2.drew {w W : World} {n : Nat} {lh lr lw la : List Int} (h : Bk2 w W n lh lr lw la) : Bk2 w W.drew n lh lr lw la :=
  ⟨h.hh.drew,h.hr.drew,h.hw.drew,h.ha.drew,below_drew_h h.below⟩
theorem Bk2.set {w W : World} {n : Nat} {lh lr lw la : List Int} (h : Bk2 w W n lh lr lw la) (j : Nat) (hj : j < la.length) (x : Int) : Bk2 w (W.setCell ⟨n + 3,j,none⟩ (.int .u32 x)) n lh lr lw (la.set j x) :=
  ⟨h.hh.far (by omega) j _,h.hr.far (by omega) j _,h.hw.far (by omega) j _,h.ha.set j hj x,below_set_h h.below (by omega)⟩
theorem Bk2.head {w W : World} {n : Nat} {lh lr lw la : List Int} (h : Bk2 w W n lh lr lw la) (j : Nat) (hj : j < lh.length) (x : Int) : Bk2 w (W.setCell ⟨n,j,none⟩ (.int .u32 x)) n (lh.set j x) lr lw la :=
  ⟨h.hh.set j hj x,h.hr.far (by omega) j _,h.hw.far (by omega) j _,h.ha.far (by omega) j _,below_set_h h.below (by omega)⟩
theorem Bk2.out {w W : World} {n : Nat} {lh lr lw la : List Int} (h : Bk2 w W n lh lr lw la) (j : Nat) (hj : j < lr.length) (x : Int) : Bk2 w (W.setCell ⟨n + 1,j,none⟩ (.int .u32 x)) n lh (lr.set j x) lw la :=
  ⟨h.hh.far (by omega) j _,h.hr.set j hj x,h.hw.far (by omega) j _,h.ha.far (by omega) j _,below_set_h h.below (by omega)⟩
theorem Bk2.old {w W : World} {n : Nat} {lh lr lw la : List Int} (h : Bk2 w W n lh lr lw la) {g j : Nat} {v : Value} (hg : g < n) (hc : w.cell? ⟨g,j,none⟩ = some v) : W.cell? ⟨g,j,none⟩ = some v :=
  (World.cell?_of_block (a := ⟨g,j,none⟩) (h.below.block g hg)).trans hc
theorem Au.eight {W : World} {g : Nat} {a0 a1 a2 a3 a4 a5 a6 a7 : Int} (h : Au W g [a0,a1,a2,a3,a4,a5,a6,a7]) :
    (W.cell? ⟨g,0,none⟩ = some (.int .u32 a0) ∧ W.cell? ⟨g,1,none⟩ = some (.int .u32 a1) ∧ W.cell? ⟨g,2,none⟩ = some (.int .u32 a2) ∧ W.cell? ⟨g,3,none⟩ = some (.int .u32 a3) ∧ W.cell? ⟨g,4,none⟩ = some (.int .u32 a4) ∧ W.cell? ⟨g,5,none⟩ = some (.int .u32 a5) ∧ W.cell? ⟨g,6,none⟩ = some (.int .u32 a6) ∧ W.cell? ⟨g,7,none⟩ = some (.int .u32 a7)) ∧
    (W.frozen? ⟨g,0,none⟩ = false ∧ W.frozen? ⟨g,1,none⟩ = false ∧ W.frozen? ⟨g,2,none⟩ = false ∧ W.frozen? ⟨g,3,none⟩ = false ∧ W.frozen? ⟨g,4,none⟩ = false ∧ W.frozen? ⟨g,5,none⟩ = false ∧ W.frozen? ⟨g,6,none⟩ = false ∧ W.frozen? ⟨g,7,none⟩ = false) :=
  ⟨⟨h.cell 0 (by simp),h.cell 1 (by simp),h.cell 2 (by simp),h.cell 3 (by simp),h.cell 4 (by simp),h.cell 5 (by simp),h.cell 6 (by simp),h.cell 7 (by simp)⟩,
   ⟨h.free 0 (by simp),h.free 1 (by simp),h.free 2 (by simp),h.free 3 (by simp),h.free 4 (by simp),h.free 5 (by simp),h.free 6 (by simp),h.free 7 (by simp)⟩⟩
theorem eight {l : List Int} (h : l.length = 8) : ∃ a0 a1 a2 a3 a4 a5 a6 a7,l = [a0,a1,a2,a3,a4,a5,a6,a7] := by
  match l,h with
  | [a0,a1,a2,a3,a4,a5,a6,a7],_ => exact ⟨a0,a1,a2,a3,a4,a5,a6,a7,rfl⟩
theorem u32w_h (x : Int) : IntKind.u32.wrap x = x % 4294967296 := by unfold IntKind.wrap;simp [IntKind.bits,IntKind.signed]
theorem or_comm_h (k : IntKind) (x y : Int) : Go.bits .or k x y = Go.bits .or k y x := by
 unfold Go.bits
 simp only [BitVec.or_comm]
def turnH (x n : Int) : Int := Go.bits .or .u32 (shr .u32 x n) (shl .u32 x (32 - n))
theorem sturn2 (x : Int) : ZA.f x 2 = some (turnH x 2) := by
 unfold ZA.f
 rw [if_pos (by decide),show IntKind.u64.wrap (32 - 2) = 30 from by kernel_rfl,if_pos (by decide)]
 rfl
theorem sturn6 (x : Int) : ZA.f x 6 = some (turnH x 6) := by
 unfold ZA.f
 rw [if_pos (by decide),show IntKind.u64.wrap (32 - 6) = 26 from by kernel_rfl,if_pos (by decide)]
 rfl
theorem sturn7 (x : Int) : ZA.f x 7 = some (turnH x 7) := by
 unfold ZA.f
 rw [if_pos (by decide),show IntKind.u64.wrap (32 - 7) = 25 from by kernel_rfl,if_pos (by decide)]
 rfl
theorem sturn11 (x : Int) : ZA.f x 11 = some (turnH x 11) := by
 unfold ZA.f
 rw [if_pos (by decide),show IntKind.u64.wrap (32 - 11) = 21 from by kernel_rfl,if_pos (by decide)]
 rfl
theorem sturn13 (x : Int) : ZA.f x 13 = some (turnH x 13) := by
 unfold ZA.f
 rw [if_pos (by decide),show IntKind.u64.wrap (32 - 13) = 19 from by kernel_rfl,if_pos (by decide)]
 rfl
theorem sturn17 (x : Int) : ZA.f x 17 = some (turnH x 17) := by
 unfold ZA.f
 rw [if_pos (by decide),show IntKind.u64.wrap (32 - 17) = 15 from by kernel_rfl,if_pos (by decide)]
 rfl
theorem sturn18 (x : Int) : ZA.f x 18 = some (turnH x 18) := by
 unfold ZA.f
 rw [if_pos (by decide),show IntKind.u64.wrap (32 - 18) = 14 from by kernel_rfl,if_pos (by decide)]
 rfl
theorem sturn19 (x : Int) : ZA.f x 19 = some (turnH x 19) := by
 unfold ZA.f
 rw [if_pos (by decide),show IntKind.u64.wrap (32 - 19) = 13 from by kernel_rfl,if_pos (by decide)]
 rfl
theorem sturn22 (x : Int) : ZA.f x 22 = some (turnH x 22) := by
 unfold ZA.f
 rw [if_pos (by decide),show IntKind.u64.wrap (32 - 22) = 10 from by kernel_rfl,if_pos (by decide)]
 rfl
theorem sturn25 (x : Int) : ZA.f x 25 = some (turnH x 25) := by
 unfold ZA.f
 rw [if_pos (by decide),show IntKind.u64.wrap (32 - 25) = 7 from by kernel_rfl,if_pos (by decide)]
 rfl
theorem sturn_same (a0 : Int) (a1 : Int) (r : Int) (w : World) (h : ZA.f a0 a1 = some r) :
  Calls Tryz.prog 69 #[.int .u32 a0,.int .u64 a1] w fun e w' => e = .returned (.int .u32 r) ∧ w' = w := by
 have H : (if 0 ≤ a1 then (if 0 ≤ (IntKind.u64.wrap (32 - a1)) then (some (Go.bits .or .u32 (shr .u32 a0 a1) (shl .u32 a0 (IntKind.u64.wrap (32 - a1))))) else (none)) else (none)) = some r := h
 clear h
 by_cases c3 : 0 ≤ a1
 ·rw [if_pos c3] at H
  have c3b0 := eq_true c3
  have c3b1 : decide (0 ≤ a1) = true := decide_eq_true c3
  clear c3
  obtain ⟨ji4,hji4⟩ : ∃ j_ : Int,(shr .u32 a0 a1) = j_ := ⟨_,rfl⟩
  replace H : (if 0 ≤ (IntKind.u64.wrap (32 - a1)) then (some (Go.bits .or .u32 (ji4) (shl .u32 a0 (IntKind.u64.wrap (32 - a1))))) else (none)) = some r := by first | (rw [hji4] at H;exact H) | (simp only [hji4] at H ⊢;exact H)
  have hji4_ : (a0 / 2 ^ min a1.toNat 32) = ji4 := hji4
  have hji4z : a1 ≤ 32 → (a0 / 2 ^ a1.toNat) = ji4 := shr_small hji4
  obtain ⟨ji5,hji5⟩ : ∃ j_ : Int,(IntKind.u64.wrap (32 - a1)) = j_ := ⟨_,rfl⟩
  replace H : (if 0 ≤ (ji5) then (some (Go.bits .or .u32 (ji4) (shl .u32 a0 (ji5)))) else (none)) = some r := by first | (rw [hji5] at H;exact H) | (simp only [hji5] at H ⊢;exact H)
  by_cases c6 : 0 ≤ (ji5)
  ·rw [if_pos c6] at H
   have c6b0 := eq_true c6
   have c6b1 : decide (0 ≤ (ji5)) = true := decide_eq_true c6
   clear c6
   obtain ⟨ji7,hji7⟩ : ∃ j_ : Int,(shl .u32 a0 (ji5)) = j_ := ⟨_,rfl⟩
   replace H : (some (Go.bits .or .u32 (ji4) (ji7))) = some r := by first | (rw [hji7] at H;exact H) | (simp only [hji7] at H ⊢;exact H)
   have hji7_ : (IntKind.u32.wrap (a0 * 2 ^ min (ji5).toNat 32)) = ji7 := hji7
   have hji7z : (ji5) ≤ 32 → (IntKind.u32.wrap (a0 * 2 ^ (ji5).toNat)) = ji7 := shl_small hji7
   obtain rfl := Option.some.inj H
   go_enter Tryz.func69,Tryz.ntmps69
   go_wp2
   go_ret
   exact ⟨by first | rfl | (simp;done) | (simp only [← hji4,← hji5,← hji7] <;> (first | rfl | simp)) | (simp [*];done),rfl⟩
  ·rw [if_neg c6] at H
   exact absurd H (by simp)
 ·rw [if_neg c3] at H
  exact absurd H (by simp)
theorem stn2 (x : Int) (w : World) : Calls Tryz.prog 69 #[.int .u32 x,.int .u64 2] w fun e w' => e = .returned (.int .u32 (turnH x 2)) ∧ w' = w := sturn_same x 2 _ w (sturn2 x)
theorem stn6 (x : Int) (w : World) : Calls Tryz.prog 69 #[.int .u32 x,.int .u64 6] w fun e w' => e = .returned (.int .u32 (turnH x 6)) ∧ w' = w := sturn_same x 6 _ w (sturn6 x)
theorem stn7 (x : Int) (w : World) : Calls Tryz.prog 69 #[.int .u32 x,.int .u64 7] w fun e w' => e = .returned (.int .u32 (turnH x 7)) ∧ w' = w := sturn_same x 7 _ w (sturn7 x)
theorem stn11 (x : Int) (w : World) : Calls Tryz.prog 69 #[.int .u32 x,.int .u64 11] w fun e w' => e = .returned (.int .u32 (turnH x 11)) ∧ w' = w := sturn_same x 11 _ w (sturn11 x)
theorem stn13 (x : Int) (w : World) : Calls Tryz.prog 69 #[.int .u32 x,.int .u64 13] w fun e w' => e = .returned (.int .u32 (turnH x 13)) ∧ w' = w := sturn_same x 13 _ w (sturn13 x)
theorem stn17 (x : Int) (w : World) : Calls Tryz.prog 69 #[.int .u32 x,.int .u64 17] w fun e w' => e = .returned (.int .u32 (turnH x 17)) ∧ w' = w := sturn_same x 17 _ w (sturn17 x)
theorem stn18 (x : Int) (w : World) : Calls Tryz.prog 69 #[.int .u32 x,.int .u64 18] w fun e w' => e = .returned (.int .u32 (turnH x 18)) ∧ w' = w := sturn_same x 18 _ w (sturn18 x)
theorem stn19 (x : Int) (w : World) : Calls Tryz.prog 69 #[.int .u32 x,.int .u64 19] w fun e w' => e = .returned (.int .u32 (turnH x 19)) ∧ w' = w := sturn_same x 19 _ w (sturn19 x)
theorem stn22 (x : Int) (w : World) : Calls Tryz.prog 69 #[.int .u32 x,.int .u64 22] w fun e w' => e = .returned (.int .u32 (turnH x 22)) ∧ w' = w := sturn_same x 22 _ w (sturn22 x)
theorem stn25 (x : Int) (w : World) : Calls Tryz.prog 69 #[.int .u32 x,.int .u64 25] w fun e w' => e = .returned (.int .u32 (turnH x 25)) ∧ w' = w := sturn_same x 25 _ w (sturn25 x)
theorem w64n (x : Int) (h1 : -9223372036854775808 ≤ x) (h2 : x ≤ 9223372036854775807) : wrap64 x = x := (i64_w x).symm.trans (w64id x h1 h2)
def word4 (x0 x1 x2 x3 : Int) : Int := Go.bits .or .u32 (Go.bits .or .u32 (Go.bits .or .u32 (IntKind.u32.wrap (IntKind.u32.wrap x0 * 16777216)) (IntKind.u32.wrap (IntKind.u32.wrap x1 * 65536))) (IntKind.u32.wrap (IntKind.u32.wrap x2 * 256))) (IntKind.u32.wrap x3)
theorem step0 (h bs ks ws : List Int) (i : Nat) (r : List Int) (hb : bs.length = 64) (hw : ws.length = 64) (hi : i < 16) (H : Zc.lv0 h bs ks ws i = some r) :
  Zc.lv0 h bs ks (ws.set i (word4 (bs.getD (4 * i) 0) (bs.getD (4 * i + 1) 0) (bs.getD (4 * i + 2) 0) (bs.getD (4 * i + 3) 0))) ((i + 1 : Nat) : Int) = some r := by
 have c1 : (i : Int) < 16 := by omega
 have c2 : (0 : Int) ≤ 4 * (i : Int) := by omega
 have c3 : 4 * (i : Int) < (bs.length : Int) := by omega
 have c4 : (0 : Int) ≤ 4 * (i : Int) + 1 := by omega
 have c5 : 4 * (i : Int) + 1 < (bs.length : Int) := by omega
 have c6 : (0 : Int) ≤ 4 * (i : Int) + 2 := by omega
 have c7 : 4 * (i : Int) + 2 < (bs.length : Int) := by omega
 have c8 : (0 : Int) ≤ 4 * (i : Int) + 3 := by omega
 have c9 : 4 * (i : Int) + 3 < (bs.length : Int) := by omega
 have d1 : (0 : Int) ≤ (i : Int) := by omega
 have d2 : (i : Int) < (ws.length : Int) := by omega
 have e0 : (4 * (i : Int)).toNat = 4 * i := by omega
 have e1 : (4 * (i : Int) + 1).toNat = 4 * i + 1 := by omega
 have e2 : (4 * (i : Int) + 2).toNat = 4 * i + 2 := by omega
 have e3 : (4 * (i : Int) + 3).toNat = 4 * i + 3 := by omega
 have w : wrap64 ((i : Int) + 1) = ((i + 1 : Nat) : Int) := by rw [w64n _ (by omega) (by omega)];omega
 have w0 : wrap64 (4 * (i : Int)) = 4 * (i : Int) := w64n _ (by omega) (by omega)
 have w1 : wrap64 (4 * (i : Int) + 1) = 4 * (i : Int) + 1 := w64n _ (by omega) (by omega)
 have w2 : wrap64 (4 * (i : Int) + 2) = 4 * (i : Int) + 2 := w64n _ (by omega) (by omega)
 have w3 : wrap64 (4 * (i : Int) + 3) = 4 * (i : Int) + 3 := w64n _ (by omega) (by omega)
 rw [Zc.lv0_eq] at H
 simp only [w,w0,w1,w2,w3,if_pos c1,if_pos c2,if_pos c3,if_pos c4,if_pos c5,if_pos c6,if_pos c7,if_pos c8,if_pos c9,if_pos d1,if_pos d2,rd,e0,e1,e2,e3,Int.toNat_natCast] at H
 simpa only [word4,u32w_h] using H
theorem exit0 (h bs ks ws : List Int) (r : List Int) (i : Int) (hi : ¬ i < 16) (H : Zc.lv0 h bs ks ws i = some r) : Zc.lv1 h ks ws ((16 : Nat) : Int) = some r := by
 rw [Zc.lv0_eq,if_neg hi] at H
 rw [show ((16 : Nat) : Int) = 16 from rfl]
 exact H
def wordX (a b c d : Int) : Int := (a + b + c + d) % 4294967296
def sig (x p q s : Int) : Int := Go.bits .xor .u32 (Go.bits .xor .u32 (turnH x p) (turnH x q)) s
theorem sub_nat (i k : Nat) (h : k ≤ i) : ((i : Int) - (k : Int)).toNat = i - k := by omega
theorem wsub (i k : Nat) (hk : k ≤ i) (hi : i ≤ 64) : wrap64 ((i : Int) - (k : Int)) = (i : Int) - (k : Int) := w64n _ (by omega) (by omega)
theorem wadd (i : Nat) (hi : i ≤ 64) : wrap64 ((i : Int) + 1) = ((i + 1 : Nat) : Int) := by rw [w64n _ (by omega) (by omega)];omega
theorem step1 (h ks ws : List Int) (i : Nat) (r : List Int) (hw : ws.length = 64) (h16 : 16 ≤ i) (hi : i < 64) (H : Zc.lv1 h ks ws i = some r) :
  Zc.lv1 h ks (ws.set i (wordX (ws.getD (i - 16) 0) (sig (ws.getD (i - 15) 0) 7 18 (ws.getD (i - 15) 0 / 8)) (ws.getD (i - 7) 0) (sig (ws.getD (i - 2) 0) 17 19 (ws.getD (i - 2) 0 / 1024)))) ((i + 1 : Nat) : Int) = some r := by
 have g1 : 15 ≤ i := by omega
 have g2 : 2 ≤ i := by omega
 have g3 : 7 ≤ i := by omega
 have g4 : i ≤ 64 := by omega
 have c1 : (i : Int) < 64 := by omega
 have c2 : (0 : Int) ≤ (i : Int) - 15 := by omega
 have c3 : (i : Int) - 15 < (ws.length : Int) := by omega
 have c4 : (0 : Int) ≤ (i : Int) - 2 := by omega
 have c5 : (i : Int) - 2 < (ws.length : Int) := by omega
 have c6 : (0 : Int) ≤ (i : Int) - 16 := by omega
 have c7 : (i : Int) - 16 < (ws.length : Int) := by omega
 have c8 : (0 : Int) ≤ (i : Int) - 7 := by omega
 have c9 : (i : Int) - 7 < (ws.length : Int) := by omega
 have d1 : (0 : Int) ≤ (i : Int) := by omega
 have d2 : (i : Int) < (ws.length : Int) := by omega
 have e0 : ((i : Int) - 15).toNat = i - 15 := sub_nat i 15 g1
 have e1 : ((i : Int) - 2).toNat = i - 2 := sub_nat i 2 g2
 have e2 : ((i : Int) - 16).toNat = i - 16 := sub_nat i 16 h16
 have e3 : ((i : Int) - 7).toNat = i - 7 := sub_nat i 7 g3
 have w : wrap64 ((i : Int) + 1) = ((i + 1 : Nat) : Int) := wadd i g4
 have w1 : wrap64 ((i : Int) - 15) = (i : Int) - 15 := wsub i 15 g1 g4
 have w2 : wrap64 ((i : Int) - 2) = (i : Int) - 2 := wsub i 2 g2 g4
 have w3 : wrap64 ((i : Int) - 16) = (i : Int) - 16 := wsub i 16 h16 g4
 have w4 : wrap64 ((i : Int) - 7) = (i : Int) - 7 := wsub i 7 g3 g4
 rw [Zc.lv1_eq] at H
 simp only [w,w1,w2,w3,w4,if_pos c1,if_pos c2,if_pos c3,if_pos c4,if_pos c5,if_pos c6,if_pos c7,if_pos c8,if_pos c9,if_pos d1,if_pos d2,ZA.v,sturn7,sturn18,sturn17,sturn19,Option.bind_some,rd,e0,e1,e2,e3,Int.toNat_natCast] at H
 simpa only [wordX,sig,u32w_h,Int.emod_add_emod] using H
theorem exit1 (h ks ws : List Int) (r : List Int) (hh : h.length = 8) (i : Int) (hi : ¬ i < 64) (H : Zc.lv1 h ks ws i = some r) : Zc.lv2 h ks ws h ((0 : Nat) : Int) = some r := by
 rw [Zc.lv1_eq,if_neg hi,Option.bind_some,if_pos (by simp;omega),List.nil_append] at H
 rw [show ((0 : Nat) : Int) = 0 from rfl]
 exact H
theorem ch_bv (n : Nat) (o e f g : BitVec n) (ho : o = BitVec.allOnes n) : (e &&& f) ^^^ ((o ^^^ e) &&& g) = (e &&& f) ||| ((o ^^^ e) &&& g) := by
 subst ho
 apply BitVec.eq_of_getLsbD_eq
 intro j hj
 simp only [BitVec.getLsbD_xor,BitVec.getLsbD_and,BitVec.getLsbD_or,BitVec.getLsbD_allOnes,hj,decide_true]
 cases e.getLsbD j <;> cases f.getLsbD j <;> cases g.getLsbD j <;> rfl
theorem bits_of (b : BitVec IntKind.u32.bits) : BitVec.ofInt IntKind.u32.bits (IntKind.u32.wrap (b.toNat : Int)) = b := by
 have := b.isLt
 rw [show (2 ^ IntKind.u32.bits : Nat) = 4294967296 from rfl] at this
 rw [u32w_h,Int.emod_eq_of_lt (by omega) (by omega)]
 simp
theorem and_back (x y : Int) : BitVec.ofInt IntKind.u32.bits (Go.bits .and .u32 x y) = BitVec.ofInt IntKind.u32.bits x &&& BitVec.ofInt IntKind.u32.bits y := bits_of _
theorem xor_back (x y : Int) : BitVec.ofInt IntKind.u32.bits (Go.bits .xor .u32 x y) = BitVec.ofInt IntKind.u32.bits x ^^^ BitVec.ofInt IntKind.u32.bits y := bits_of _
theorem ch_eq (e f g : Int) : Go.bits .xor .u32 (Go.bits .and .u32 e f) (Go.bits .and .u32 (Go.bits .xor .u32 4294967295 e) g) = Go.bits .or .u32 (Go.bits .and .u32 e f) (Go.bits .and .u32 (Go.bits .xor .u32 4294967295 e) g) := by
 have h : ∀ x y : Int,BitVec.ofInt IntKind.u32.bits x ^^^ BitVec.ofInt IntKind.u32.bits y = BitVec.ofInt IntKind.u32.bits x ||| BitVec.ofInt IntKind.u32.bits y → Go.bits .xor .u32 x y = Go.bits .or .u32 x y := by
  intro x y h
  show IntKind.u32.wrap ((BitVec.ofInt IntKind.u32.bits x ^^^ BitVec.ofInt IntKind.u32.bits y).toNat : Int) = IntKind.u32.wrap ((BitVec.ofInt IntKind.u32.bits x ||| BitVec.ofInt IntKind.u32.bits y).toNat : Int)
  rw [h]
 apply h
 rw [and_back,and_back,xor_back]
 exact ch_bv _ _ _ _ _ (by decide)
def pF (a7 e f g k x : Int) : Int := (a7 + sig e 6 11 (turnH e 25) + Go.bits .or .u32 (Go.bits .and .u32 e f) (Go.bits .and .u32 (Go.bits .xor .u32 4294967295 e) g) + k + x)
def qF (a b c : Int) : Int := (sig a 2 13 (turnH a 22) + Go.bits .xor .u32 (Go.bits .xor .u32 (Go.bits .and .u32 a b) (Go.bits .and .u32 a c)) (Go.bits .and .u32 b c))
theorem step2 (h ks ws : List Int) (a0 a1 a2 a3 a4 a5 a6 a7 : Int) (i : Nat) (r : List Int) (hw : ws.length = 64) (hk : ks.length = 64) (hi : i < 64) (H : Zc.lv2 h ks ws [a0,a1,a2,a3,a4,a5,a6,a7] i = some r) :
  Zc.lv2 h ks ws [(pF a7 a4 a5 a6 (ks.getD i 0) (ws.getD i 0) + qF a0 a1 a2) % 4294967296,a0,a1,a2,(a3 + pF a7 a4 a5 a6 (ks.getD i 0) (ws.getD i 0)) % 4294967296,a4,a5,a6] ((i + 1 : Nat) : Int) = some r := by
 have c1 : (i : Int) < 64 := by omega
 have c7 : (0 : Int) ≤ (i : Int) := by omega
 have c8 : (i : Int) < (ks.length : Int) := by omega
 have c9 : (i : Int) < (ws.length : Int) := by omega
 have w : wrap64 ((i : Int) + 1) = ((i + 1 : Nat) : Int) := wadd i (by omega)
 have l : ([a0,a1,a2,a3,a4,a5,a6,a7] : List Int).length = 8 := rfl
 rw [Zc.lv2_eq] at H
 have k0 : (4 : Int) < ((8 : Nat) : Int) := by decide
 have k1 : (0 : Int) < ((8 : Nat) : Int) := by decide
 have k2 : (7 : Int) < ((8 : Nat) : Int) := by decide
 have k3 : (5 : Int) < ((8 : Nat) : Int) := by decide
 have k4 : (6 : Int) < ((8 : Nat) : Int) := by decide
 have k5 : (1 : Int) < ((8 : Nat) : Int) := by decide
 have k6 : (2 : Int) < ((8 : Nat) : Int) := by decide
 have k7 : (3 : Int) < ((8 : Nat) : Int) := by decide
 have r0 : rd [a0,a1,a2,a3,a4,a5,a6,a7] 0 = a0 := rfl
 have r1 : rd [a0,a1,a2,a3,a4,a5,a6,a7] 1 = a1 := rfl
 have r2 : rd [a0,a1,a2,a3,a4,a5,a6,a7] 2 = a2 := rfl
 have r3 : rd [a0,a1,a2,a3,a4,a5,a6,a7] 3 = a3 := rfl
 have r4 : rd [a0,a1,a2,a3,a4,a5,a6,a7] 4 = a4 := rfl
 have r5 : rd [a0,a1,a2,a3,a4,a5,a6,a7] 5 = a5 := rfl
 have r6 : rd [a0,a1,a2,a3,a4,a5,a6,a7] 6 = a6 := rfl
 have r7 : rd [a0,a1,a2,a3,a4,a5,a6,a7] 7 = a7 := rfl
 have rk : rd ks (i : Int) = ks.getD i 0 := by simp [rd]
 have rw_ : rd ws (i : Int) = ws.getD i 0 := by simp [rd]
 simp only [l,w,r0,r1,r2,r3,r4,r5,r6,r7,rk,rw_,if_pos c1,if_pos c7,if_pos c8,if_pos c9,if_pos k0,if_pos k1,if_pos k2,if_pos k3,if_pos k4,if_pos k5,if_pos k6,if_pos k7,ZA.v,sturn6,sturn11,sturn25,sturn2,sturn13,sturn22,Option.bind_some,ch_eq] at H
 simpa only [pF,qF,sig,u32w_h,Int.emod_add_emod,Int.add_emod_emod] using H
theorem u32max_h : IntKind.u32.max = 4294967295 := by decide
def pW (a7 e f g k x : Int) : Int := IntKind.u32.wrap (IntKind.u32.wrap (IntKind.u32.wrap (IntKind.u32.wrap (a7 + sig e 6 11 (turnH e 25)) + Go.bits .or .u32 (Go.bits .and .u32 e f) (Go.bits .and .u32 (Go.bits .xor .u32 IntKind.u32.max e) g)) + k) + x)
def qW (a b c : Int) : Int := IntKind.u32.wrap (sig a 2 13 (turnH a 22) + Go.bits .xor .u32 (Go.bits .xor .u32 (Go.bits .and .u32 a b) (Go.bits .and .u32 a c)) (Go.bits .and .u32 b c))
theorem step2w (h ks ws : List Int) (a0 a1 a2 a3 a4 a5 a6 a7 : Int) (i : Nat) (r : List Int) (hw : ws.length = 64) (hk : ks.length = 64) (hi : i < 64) (xk xw xp xq : Int) (hxk : ks.getD i 0 = xk) (hxw : ws.getD i 0 = xw) (hp : pW a7 a4 a5 a6 xk xw = xp) (hq : qW a0 a1 a2 = xq) (H : Zc.lv2 h ks ws [a0,a1,a2,a3,a4,a5,a6,a7] i = some r) :
  Zc.lv2 h ks ws [(xp + xq) % 4294967296,a0,a1,a2,(a3 + xp) % 4294967296,a4,a5,a6] ((i + 1 : Nat) : Int) = some r := by
 have := step2 h ks ws a0 a1 a2 a3 a4 a5 a6 a7 i r hw hk hi H
 rw [hxk,hxw] at this
 rw [← this,← hp,← hq]
 simp only [pW,qW,pF,qF,u32w_h,u32max_h,Int.emod_add_emod,Int.add_emod_emod]
def pX (a7 e f g k x : Int) : Int := IntKind.u32.wrap (IntKind.u32.wrap (IntKind.u32.wrap (IntKind.u32.wrap (a7 + sig e 6 11 (turnH e 25)) + Go.bits .xor .u32 (Go.bits .and .u32 e f) (Go.bits .and .u32 (Go.bits .xor .u32 IntKind.u32.max e) g)) + k) + x)
theorem pX_eq (a7 e f g k x : Int) : pX a7 e f g k x = pW a7 e f g k x := by
 unfold pX pW
 rw [u32max_h,ch_eq]
theorem exit2 (h ks ws v : List Int) (r : List Int) (i : Int) (hi : ¬ i < 64) (H : Zc.lv2 h ks ws v i = some r) : Zc.lv3 h v ((0 : Nat) : Int) = some r := by
 rw [Zc.lv2_eq,if_neg hi] at H
 rw [show ((0 : Nat) : Int) = 0 from rfl]
 exact H
theorem step3 (h v : List Int) (i : Nat) (r : List Int) (hh : h.length = 8) (hv : v.length = 8) (hi : i < 8) (H : Zc.lv3 h v i = some r) :
  Zc.lv3 (h.set i (IntKind.u32.wrap (h.getD i 0 + v.getD i 0))) v ((i + 1 : Nat) : Int) = some r := by
 have g0 : (i : Int) < 8 := by omega
 have g1 : (0 : Int) ≤ i := by omega
 have g2 : (i : Int) < (h.length : Int) := by omega
 have g3 : (i : Int) < (v.length : Int) := by omega
 have w : wrap64 ((i : Int) + 1) = ((i + 1 : Nat) : Int) := wadd i (by omega)
 have r0 : rd h (i : Int) = h.getD i 0 := by simp [rd]
 have r1 : rd v (i : Int) = v.getD i 0 := by simp [rd]
 rw [Zc.lv3_eq,w,if_pos g0,if_pos g1,if_pos g2,if_pos g3,r0,r1] at H
 simpa only [u32w_h,Int.toNat_natCast] using H
theorem exit3 (h v : List Int) (r : List Int) (i : Int) (hi : ¬ i < 8) (H : Zc.lv3 h v i = some r) : h = r := by
 rw [Zc.lv3_eq,if_neg hi] at H
 exact Option.some.inj H
theorem start0 (h bs ks : List Int) (r : List Int) (H : Zc.v h bs ks = some r) : Zc.lv0 h bs ks (List.replicate 64 0) ((0 : Nat) : Int) = some r := by
 rw [Zc.v_eq] at H
 split at H
 ·rw [if_pos (by omega)] at H
  rw [show ((0 : Nat) : Int) = 0 from rfl]
  exact H
 ·cases H
theorem rot_same (a0 : Int) (a1 : Int) (r : Int) (w : World) (h : Yy.f a0 a1 = some r) :
  Calls Tryz.prog 74 #[.int .u32 a0,.int .i64 a1] w fun e w' => e = .returned (.int .u32 r) ∧ w' = w := by
 have H : (if 0 ≤ (Go.bits .and .u64 (IntKind.u64.wrap (a1)) 31) then (if 0 ≤ (IntKind.u64.wrap (32 - (Go.bits .and .u64 (IntKind.u64.wrap (a1)) 31))) then (some (Go.bits .or .u32 (shl .u32 a0 (Go.bits .and .u64 (IntKind.u64.wrap (a1)) 31)) (shr .u32 a0 (IntKind.u64.wrap (32 - (Go.bits .and .u64 (IntKind.u64.wrap (a1)) 31)))))) else (none)) else (none)) = some r := h
 clear h
 obtain ⟨ji3,hji3⟩ : ∃ j_ : Int,(Go.bits .and .u64 (IntKind.u64.wrap (a1)) 31) = j_ := ⟨_,rfl⟩
 replace H : (if 0 ≤ (ji3) then (if 0 ≤ (IntKind.u64.wrap (32 - (ji3))) then (some (Go.bits .or .u32 (shl .u32 a0 (ji3)) (shr .u32 a0 (IntKind.u64.wrap (32 - (ji3)))))) else (none)) else (none)) = some r := by first | (rw [hji3] at H;exact H) | (simp only [hji3] at H ⊢;exact H)
 by_cases c4 : 0 ≤ (ji3)
 ·rw [if_pos c4] at H
  have c4b0 := eq_true c4
  have c4b1 : decide (0 ≤ (ji3)) = true := decide_eq_true c4
  clear c4
  obtain ⟨ji5,hji5⟩ : ∃ j_ : Int,(shl .u32 a0 (ji3)) = j_ := ⟨_,rfl⟩
  replace H : (if 0 ≤ (IntKind.u64.wrap (32 - (ji3))) then (some (Go.bits .or .u32 (ji5) (shr .u32 a0 (IntKind.u64.wrap (32 - (ji3)))))) else (none)) = some r := by first | (rw [hji5] at H;exact H) | (simp only [hji5] at H ⊢;exact H)
  have hji5_ : (IntKind.u32.wrap (a0 * 2 ^ min (ji3).toNat 32)) = ji5 := hji5
  have hji5z : (ji3) ≤ 32 → (IntKind.u32.wrap (a0 * 2 ^ (ji3).toNat)) = ji5 := shl_small hji5
  obtain ⟨ji6,hji6⟩ : ∃ j_ : Int,(IntKind.u64.wrap (32 - (ji3))) = j_ := ⟨_,rfl⟩
  replace H : (if 0 ≤ (ji6) then (some (Go.bits .or .u32 (ji5) (shr .u32 a0 (ji6)))) else (none)) = some r := by first | (rw [hji6] at H;exact H) | (simp only [hji6] at H ⊢;exact H)
  by_cases c7 : 0 ≤ (ji6)
  ·rw [if_pos c7] at H
   have c7b0 := eq_true c7
   have c7b1 : decide (0 ≤ (ji6)) = true := decide_eq_true c7
   clear c7
   obtain ⟨ji8,hji8⟩ : ∃ j_ : Int,(shr .u32 a0 (ji6)) = j_ := ⟨_,rfl⟩
   replace H : (some (Go.bits .or .u32 (ji5) (ji8))) = some r := by first | (rw [hji8] at H;exact H) | (simp only [hji8] at H ⊢;exact H)
   have hji8_ : (a0 / 2 ^ min (ji6).toNat 32) = ji8 := hji8
   have hji8z : (ji6) ≤ 32 → (a0 / 2 ^ (ji6).toNat) = ji8 := shr_small hji8
   obtain rfl := Option.some.inj H
   go_enter Tryz.func74,Tryz.ntmps74
   go_wp2
   go_ret
   exact ⟨by first | rfl | (simp;done) | (simp only [← hji3,← hji5,← hji6,← hji8] <;> (first | rfl | simp)) | (simp [*];done),rfl⟩
  ·rw [if_neg c7] at H
   exact absurd H (by simp)
 ·rw [if_neg c4] at H
  exact absurd H (by simp)
theorem turned_same (a0 : Int) (a1 : Int) (r : Int) (w : World) (h : Yz.f a0 a1 = some r) :
  Calls Tryz.prog 65 #[.int .u32 a0,.int .i64 a1] w fun e w' => e = .returned (.int .u32 r) ∧ w' = w := by
 have H : ((Yy.f a0 (wrap64 (-a1))).bind fun t209 => (some t209)) = some r := h
 clear h
 replace H := Option.bind_eq_some_iff.mp H
 obtain ⟨t209,A30,H⟩ := H
 replace H : (some t209) = some r := H
 have A3 := Aside0.mk A30
 clear A30
 obtain rfl := Option.some.inj H
 go_enter Tryz.func65,Tryz.ntmps65
 go_wp2_with (first | ((with_reducible refine gate_callee (f := 74) rfl ?_);refine goesL_ (some 8) rfl rfl Tryz.func74 (by kernel_rfl) rfl #[.int .u32 a0,.int .i64 (wrap64 (-a1))] rfl (by (try simp only [List.map_toArray,List.map_cons,List.map_nil]);first | done | rfl | (simp only [List.length_drop,List.length_take];rfl)) ?_;(with_reducible refine (rot_same a0 (wrap64 (-a1)) t209 _ A3.out).mono ?_);rintro e w' ⟨rfl,rfl⟩;refine ⟨_,rfl,?_⟩))
 go_ret
 exact ⟨by first | rfl | (simp;done) | (simp [*];done),rfl⟩
theorem turned_f (x n s : Int) (h1 : Go.bits .and .u64 (IntKind.u64.wrap (wrap64 (-n))) 31 = s) (h2 : IntKind.u64.wrap (32 - s) = n) (h3 : 32 - n = s) (h4 : 0 ≤ s) (h5 : 0 ≤ n) : Yz.f x n = some (turnH x n) := by
 unfold Yz.f Yy.f
 rw [h1,h2,if_pos h4,if_pos h5,Option.bind_some,turnH,or_comm_h,h3]
theorem turned_at (x n s : Int) (w : World) (h1 : Go.bits .and .u64 (IntKind.u64.wrap (wrap64 (-n))) 31 = s) (h2 : IntKind.u64.wrap (32 - s) = n) (h3 : 32 - n = s) (h4 : 0 ≤ s) (h5 : 0 ≤ n) :
  Calls Tryz.prog 65 #[.int .u32 x,.int .i64 n] w fun e w' => e = .returned (.int .u32 (turnH x n)) ∧ w' = w :=
 turned_same x n _ w (turned_f x n s h1 h2 h3 h4 h5)
theorem turn2 (x : Int) (w : World) : Calls Tryz.prog 65 #[.int .u32 x,.int .i64 2] w fun e w' => e = .returned (.int .u32 (turnH x 2)) ∧ w' = w := turned_at x 2 30 w (by kernel_rfl) (by kernel_rfl) (by decide) (by decide) (by decide)
theorem turn6 (x : Int) (w : World) : Calls Tryz.prog 65 #[.int .u32 x,.int .i64 6] w fun e w' => e = .returned (.int .u32 (turnH x 6)) ∧ w' = w := turned_at x 6 26 w (by kernel_rfl) (by kernel_rfl) (by decide) (by decide) (by decide)
theorem turn7 (x : Int) (w : World) : Calls Tryz.prog 65 #[.int .u32 x,.int .i64 7] w fun e w' => e = .returned (.int .u32 (turnH x 7)) ∧ w' = w := turned_at x 7 25 w (by kernel_rfl) (by kernel_rfl) (by decide) (by decide) (by decide)
theorem turn11 (x : Int) (w : World) : Calls Tryz.prog 65 #[.int .u32 x,.int .i64 11] w fun e w' => e = .returned (.int .u32 (turnH x 11)) ∧ w' = w := turned_at x 11 21 w (by kernel_rfl) (by kernel_rfl) (by decide) (by decide) (by decide)
theorem turn13 (x : Int) (w : World) : Calls Tryz.prog 65 #[.int .u32 x,.int .i64 13] w fun e w' => e = .returned (.int .u32 (turnH x 13)) ∧ w' = w := turned_at x 13 19 w (by kernel_rfl) (by kernel_rfl) (by decide) (by decide) (by decide)
theorem turn17 (x : Int) (w : World) : Calls Tryz.prog 65 #[.int .u32 x,.int .i64 17] w fun e w' => e = .returned (.int .u32 (turnH x 17)) ∧ w' = w := turned_at x 17 15 w (by kernel_rfl) (by kernel_rfl) (by decide) (by decide) (by decide)
theorem turn18 (x : Int) (w : World) : Calls Tryz.prog 65 #[.int .u32 x,.int .i64 18] w fun e w' => e = .returned (.int .u32 (turnH x 18)) ∧ w' = w := turned_at x 18 14 w (by kernel_rfl) (by kernel_rfl) (by decide) (by decide) (by decide)
theorem turn19 (x : Int) (w : World) : Calls Tryz.prog 65 #[.int .u32 x,.int .i64 19] w fun e w' => e = .returned (.int .u32 (turnH x 19)) ∧ w' = w := turned_at x 19 13 w (by kernel_rfl) (by kernel_rfl) (by decide) (by decide) (by decide)
theorem turn22 (x : Int) (w : World) : Calls Tryz.prog 65 #[.int .u32 x,.int .i64 22] w fun e w' => e = .returned (.int .u32 (turnH x 22)) ∧ w' = w := turned_at x 22 10 w (by kernel_rfl) (by kernel_rfl) (by decide) (by decide) (by decide)
theorem turn25 (x : Int) (w : World) : Calls Tryz.prog 65 #[.int .u32 x,.int .i64 25] w fun e w' => e = .returned (.int .u32 (turnH x 25)) ∧ w' = w := turned_at x 25 7 w (by kernel_rfl) (by kernel_rfl) (by decide) (by decide) (by decide)
theorem res121 (tmps : Array Value) (W : World) (g : Nat) (h4 : tmps.getD 4 undef = .pointer (some ⟨g,0,none⟩)) (b0 b1 b2 b3 b4 b5 b6 b7 : Int)
  (r0 : W.cell? ⟨g,0,none⟩ = some (.int .u32 b0)) (r1 : W.cell? ⟨g,1,none⟩ = some (.int .u32 b1)) (r2 : W.cell? ⟨g,2,none⟩ = some (.int .u32 b2)) (r3 : W.cell? ⟨g,3,none⟩ = some (.int .u32 b3))
  (r4 : W.cell? ⟨g,4,none⟩ = some (.int .u32 b4)) (r5 : W.cell? ⟨g,5,none⟩ = some (.int .u32 b5)) (r6 : W.cell? ⟨g,6,none⟩ = some (.int .u32 b6)) (r7 : W.cell? ⟨g,7,none⟩ = some (.int .u32 b7)) :
  (results Tryz.f42 tmps).run Tryz.prog W = .ok (.agg #[.int .u32 b0,.int .u32 b1,.int .u32 b2,.int .u32 b3,.int .u32 b4,.int .u32 b5,.int .u32 b6,.int .u32 b7]) W := by
 have h4' : tmps[4]?.getD undef = .pointer (some ⟨g,0,none⟩) := by simpa using h4
 have hres : Tryz.f42.results = #[.cell 4 70] := rfl
 simp only [results,hres,List.mapM_toArray,List.mapM_cons,List.mapM_nil,h4,asAddr]
 go_simp
set_option maxHeartbeats 4000000 in
set_option maxRecDepth 100000 in
theorem block_walk (h0 h1 h2 h3 h4 h5 h6 h7 : Int) (gb ob cb : Nat) (bs ks r : List Int) (w : World) (hgb : gb < w.heap.size) (hbl : bs.length = 64) (hob : ob < 1000000000000)
  (hb : ∀ j,j < 64 → w.cell? ⟨gb,ob + j,none⟩ = some (.int .u8 (bs.getD j 0))) (hL : ∀ j,j < 64 → w.cell? ⟨0,j,none⟩ = some (.int .u32 (ks.getD j 0))) (hkl : ks.length = 64) (H : Zc.v [h0,h1,h2,h3,h4,h5,h6,h7] bs ks = some r) :
  Calls Tryz.prog 42 #[.agg #[.int .u32 h0,.int .u32 h1,.int .u32 h2,.int .u32 h3,.int .u32 h4,.int .u32 h5,.int .u32 h6,.int .u32 h7],.slice (some ⟨gb,ob,none⟩) 64 cb] w fun e w' => e = .returned (.agg (r.map (Value.int .u32)).toArray) ∧ Below w.heap.size w w' ∧ r.length = 8 := by
 have HB := Aside0.mk hb
 have HL := Aside0.mk hL
 clear hb hL
 have H0 := Aside0.mk (start0 _ _ _ _ H)
 clear H
 go_enter Tryz.func42,Tryz.ntmps42
 go_wp2
 generalize hn : w.heap.size = n at *
 generalize hW : World.alloc _ _ = W3
 have F := Aside0.mk (show Bk w W3 n [h0,h1,h2,h3,h4,h5,h6,h7] (List.replicate 8 0) (List.replicate 64 0) from by subst hn;subst hW;exact Bk.start w [h0,h1,h2,h3,h4,h5,h6,h7] (List.replicate 8 0) (List.replicate 64 0) 70 70 96)
 clear hW
 simp only [Nat.add_assoc,Nat.reduceAdd]
 go_loopg [16] 16 (fun gg v16 wr => ∃ (i : Nat) (ws : List Int),i ≤ 16 ∧ gg + i = 16 ∧ v16 = .int .i64 (i : Int) ∧ ws.length = 64 ∧ Aside0 (Zc.lv0 [h0,h1,h2,h3,h4,h5,h6,h7] bs ks ws (i : Int) = some r) ∧ Aside0 (Bk w wr n [h0,h1,h2,h3,h4,h5,h6,h7] (List.replicate 8 0) ws))
 case atStart => exact ⟨0,_,by omega,rfl,rfl,List.length_replicate,H0,F⟩
 case round =>
  clear F H0
  obtain ⟨i,ws,hi,hg,rfl,hws,H0,F⟩ := hrel
  by_cases hlt : i < 16
  ·have c1 : ((i : Int) < 16) := by omega
   obtain ⟨q0,hq0⟩ : ∃ q,q = 4 * i := ⟨_,rfl⟩
   obtain ⟨q1,hq1⟩ : ∃ q,q = 4 * i + 1 := ⟨_,rfl⟩
   obtain ⟨q2,hq2⟩ : ∃ q,q = 4 * i + 2 := ⟨_,rfl⟩
   obtain ⟨q3,hq3⟩ : ∃ q,q = 4 * i + 3 := ⟨_,rfl⟩
   have w0 : IntKind.i64.wrap (4 * (i : Int)) = (q0 : Int) := (w64id _ (by omega) (by omega)).trans (by omega)
   have w1 : IntKind.i64.wrap ((q0 : Int) + 1) = (q1 : Int) := (w64id _ (by omega) (by omega)).trans (by omega)
   have w2 : IntKind.i64.wrap ((q0 : Int) + 2) = (q2 : Int) := (w64id _ (by omega) (by omega)).trans (by omega)
   have w3 : IntKind.i64.wrap ((q0 : Int) + 3) = (q3 : Int) := (w64id _ (by omega) (by omega)).trans (by omega)
   have b0 := F.out.old hgb (HB.out q0 (by omega))
   have b1 := F.out.old hgb (HB.out q1 (by omega))
   have b2 := F.out.old hgb (HB.out q2 (by omega))
   have b3 := F.out.old hgb (HB.out q3 (by omega))
   have e0 : (q0 : Int) < 64 := by omega
   have e1 : (q1 : Int) < 64 := by omega
   have e2 : (q2 : Int) < 64 := by omega
   have e3 : (q3 : Int) < 64 := by omega
   have ei : (i : Int) < 64 := by omega
   have z0 := F.out.hw.cell i (by omega)
   have z1 := F.out.hw.free i (by omega)
   have H1 := Aside0.mk (step0 _ _ _ _ _ _ hbl hws hlt H0.out)
   rw [← hq1,← hq2,← hq3,← hq0] at H1
   generalize hx0 : bs.getD q0 0 = x0 at b0 H1
   generalize hx1 : bs.getD q1 0 = x1 at b1 H1
   generalize hx2 : bs.getD q2 0 = x2 at b2 H1
   generalize hx3 : bs.getD q3 0 = x3 at b3 H1
   generalize ws.getD i 0 = xi at z0
   clear hq0 hq1 hq2 hq3 hx0 hx1 hx2 hx3
   go_wp2
   go_still_tail 35,(by kernel_rfl)
   change wpList _ _ _ _ _ wr.drew
   have z2 : wr.drew.cell? ⟨n + 2,i,none⟩ = some (.int .u32 xi) := z0
   have z3 : wr.drew.frozen? ⟨n + 2,i,none⟩ = false := z1
   have F2 := Aside0.mk (F.out.drew.word i (by omega) (word4 x0 x1 x2 x3))
   generalize wr.drew = w4 at z2 z3 F2 ⊢
   clear z0 z1 b0 b1 b2 b3 F
   go_wp2
   go_roundg (16 - (i + 1))
   case measure => omega
   case rel => exact ⟨i + 1,_,by omega,by omega,by go_num,by rw [List.length_set];exact hws,H1,F2⟩
  ·have hlt2 : ¬ ((i : Int) < 16) := by omega
   have H1 := Aside0.mk (exit0 _ _ _ _ _ _ hlt2 H0.out)
   clear H0
   go_wp2
   go_loopg [7] 48 (fun gg v7 wr => ∃ (i : Nat) (ws : List Int),i ≤ 64 ∧ 16 ≤ i ∧ gg + i = 64 ∧ v7 = .int .i64 (i : Int) ∧ ws.length = 64 ∧ Aside0 (Zc.lv1 [h0,h1,h2,h3,h4,h5,h6,h7] ks ws (i : Int) = some r) ∧ Aside0 (Bk w wr n [h0,h1,h2,h3,h4,h5,h6,h7] (List.replicate 8 0) ws))
   case atStart => exact ⟨16,ws,by omega,by omega,rfl,rfl,hws,H1,F⟩
   case round =>
    clear F H1 hlt2 hlt hi hws
    obtain ⟨i,ws,hi,h16,hg,rfl,hws,H0,F⟩ := hrel
    by_cases hlt : i < 64
    ·have c1 : ((i : Int) < 64) := by omega
     obtain ⟨q0,hq0⟩ : ∃ q,q = i - 16 := ⟨_,rfl⟩
     obtain ⟨q1,hq1⟩ : ∃ q,q = i - 15 := ⟨_,rfl⟩
     obtain ⟨q2,hq2⟩ : ∃ q,q = i - 7 := ⟨_,rfl⟩
     obtain ⟨q3,hq3⟩ : ∃ q,q = i - 2 := ⟨_,rfl⟩
     have w0 : IntKind.i64.wrap ((i : Int) - 16) = (q0 : Int) := (w64id _ (by omega) (by omega)).trans (by omega)
     have w1 : IntKind.i64.wrap ((i : Int) - 15) = (q1 : Int) := by clear w0;exact (w64id _ (by omega) (by omega)).trans (by omega)
     have w2 : IntKind.i64.wrap ((i : Int) - 7) = (q2 : Int) := by clear w0 w1;exact (w64id _ (by omega) (by omega)).trans (by omega)
     have w3 : IntKind.i64.wrap ((i : Int) - 2) = (q3 : Int) := by clear w0 w1 w2;exact (w64id _ (by omega) (by omega)).trans (by omega)
     have g0 : q0 < ws.length := by clear w0 w1 w2 w3;omega
     have g1 : q1 < ws.length := by clear w0 w1 w2 w3;omega
     have g2 : q2 < ws.length := by clear w0 w1 w2 w3;omega
     have g3 : q3 < ws.length := by clear w0 w1 w2 w3;omega
     have g4 : i < ws.length := by clear w0 w1 w2 w3;omega
     have b0 := F.out.hw.cell q0 g0
     have b1 := F.out.hw.cell q1 g1
     have b2 := F.out.hw.cell q2 g2
     have b3 := F.out.hw.cell q3 g3
     have e0 : (q0 : Int) < 64 := by clear w0 w1 w2 w3;omega
     have e1 : (q1 : Int) < 64 := by clear w0 w1 w2 w3;omega
     have e2 : (q2 : Int) < 64 := by clear w0 w1 w2 w3;omega
     have e3 : (q3 : Int) < 64 := by clear w0 w1 w2 w3;omega
     have z0 := F.out.hw.cell i g4
     have z1 := F.out.hw.free i g4
     have H1 := Aside0.mk (step1 _ _ _ _ _ hws h16 hlt H0.out)
     rw [← hq0,← hq1,← hq2,← hq3] at H1
     generalize hx0 : ws.getD q0 0 = x0 at b0 H1
     generalize hx1 : ws.getD q1 0 = x1 at b1 H1
     generalize hx2 : ws.getD q2 0 = x2 at b2 H1
     generalize hx3 : ws.getD q3 0 = x3 at b3 H1
     generalize ws.getD i 0 = xi at z0
     clear hq0 hq1 hq2 hq3 hx0 hx1 hx2 hx3 g0 g1 g2 g3 H0
     go_wp2
     go_quiet (fail)
     have F3 := Aside0.mk (F.out.drewN nq)
     have b0_ : (wr.drewN nq).cell? _ = _ := b0
     have b1_ : (wr.drewN nq).cell? _ = _ := b1
     have b2_ : (wr.drewN nq).cell? _ = _ := b2
     have b3_ : (wr.drewN nq).cell? _ = _ := b3
     have z0_ : (wr.drewN nq).cell? _ = _ := z0
     have z1_ : (wr.drewN nq).frozen? _ = _ := z1
     clear b0 b1 b2 b3 z0 z1 F
     generalize wr.drewN nq = w5 at b0_ b1_ b2_ b3_ z0_ z1_ F3 ⊢
     go_wp2
     refine wp_region_still_tail 29 (by kernel_rfl) (by kernel_rfl) ?_
     simp only [List.take_succ_cons,List.take_zero,List.drop_succ_cons,List.drop_zero]
     repeat still_step
     still_call (turn7 _ _)
     repeat still_step
     still_call (turn18 _ _)
     repeat still_step
     still_call (turn17 _ _)
     repeat still_step
     still_call (turn19 _ _)
     repeat still_step
     refine wpStill_nil ?_
     change wpList _ _ _ _ _ w5.drew
     have z2 : w5.drew.cell? ⟨n + 2,i,none⟩ = some (.int .u32 xi) := z0_
     have z3 : w5.drew.frozen? ⟨n + 2,i,none⟩ = false := z1_
     have F2 := Aside0.mk (F3.out.drew.word i g4 (wordX x0 (sig x1 7 18 (x1 / 8)) x2 (sig x3 17 19 (x3 / 1024))))
     generalize w5.drew = w4 at z2 z3 F2 ⊢
     clear z0_ z1_ b0_ b1_ b2_ b3_ F3 w0 w1 w2 w3
     go_wp2
     go_roundg (64 - (i + 1))
     case measure => omega
     case rel => exact ⟨i + 1,_,by omega,by omega,by omega,by go_num,by rw [List.length_set];exact hws,H1,F2⟩
    ·have hlt2 : ¬ ((i : Int) < 64) := by omega
     have H1 := Aside0.mk (exit1 _ _ _ _ rfl _ hlt2 H0.out)
     clear H0
     obtain ⟨⟨a0,a1,a2,a3,a4,a5,a6,a7⟩,-⟩ := F.out.hh.eight
     have hsz := F.out.size
     go_wp2
     have F2 : Aside0 (Bk2 w (wr.alloc (.cells #[.int .u32 h0,.int .u32 h1,.int .u32 h2,.int .u32 h3,.int .u32 h4,.int .u32 h5,.int .u32 h6,.int .u32 h7] 70)) n [h0,h1,h2,h3,h4,h5,h6,h7] (List.replicate 8 0) ws [h0,h1,h2,h3,h4,h5,h6,h7]) := Aside0.mk (Bk2.start F.out [h0,h1,h2,h3,h4,h5,h6,h7] 70)
     generalize World.alloc _ _ = w5 at F2 ⊢
     clear a0 a1 a2 a3 a4 a5 a6 a7 hsz F
     go_loopg [97] 64 (fun gg v97 wr => ∃ (i : Nat) (a0 a1 a2 a3 a4 a5 a6 a7 : Int),i ≤ 64 ∧ gg + i = 64 ∧ v97 = .int .i64 (i : Int) ∧ Aside0 (Zc.lv2 [h0,h1,h2,h3,h4,h5,h6,h7] ks ws [a0,a1,a2,a3,a4,a5,a6,a7] (i : Int) = some r) ∧ Aside0 (Bk2 w wr n [h0,h1,h2,h3,h4,h5,h6,h7] (List.replicate 8 0) ws [a0,a1,a2,a3,a4,a5,a6,a7]))
     case atStart => exact ⟨0,h0,h1,h2,h3,h4,h5,h6,h7,by omega,rfl,rfl,H1,F2⟩
     case round =>
      clear F2 H1 hlt2 hlt hi h16
      obtain ⟨i,a0,a1,a2,a3,a4,a5,a6,a7,hi,hg,rfl,H0,F⟩ := hrel
      by_cases hlt : i < 64
      ·have c1 : ((i : Int) < 64) := by omega
       obtain ⟨⟨c0,d1,d2,d3,d4,d5,d6,d7⟩,-⟩ := F.out.ha.eight
       have bk := F.out.old (by omega) (HL.out i (by omega))
       have bw := F.out.hw.cell i (by omega)
       obtain ⟨xk,hxk⟩ : ∃ x,ks.getD i 0 = x := ⟨_,rfl⟩
       obtain ⟨xw,hxw⟩ : ∃ x,ws.getD i 0 = x := ⟨_,rfl⟩
       rw [hxk] at bk
       rw [hxw] at bw
       have HX := Aside0.mk (And.intro hxk hxw)
       clear hxk hxw
       go_wp2
       refine wp_region_still_lit (by kernel_rfl) (by kernel_rfl) ?_
       repeat still_step
       still_call (turn6 _ _)
       repeat still_step
       still_call (turn11 _ _)
       repeat still_step
       still_call (turn25 _ _)
       repeat still_step
       refine wpStill_nil ?_
       have F3 := Aside0.mk F.out.drew
       have c0_ : wr.drew.cell? _ = _ := c0
       have d1_ : wr.drew.cell? _ = _ := d1
       have d2_ : wr.drew.cell? _ = _ := d2
       have d3_ : wr.drew.cell? _ = _ := d3
       have d4_ : wr.drew.cell? _ = _ := d4
       have d5_ : wr.drew.cell? _ = _ := d5
       have d6_ : wr.drew.cell? _ = _ := d6
       have d7_ : wr.drew.cell? _ = _ := d7
       clear c0 d1 d2 d3 d4 d5 d6 d7 bk bw F
       generalize hxp : IntKind.u32.wrap (IntKind.u32.wrap (_ + xk) + xw) = xp
       have hp : pW a7 a4 a5 a6 xk xw = xp := hxp
       have HP := Aside0.mk hp
       clear hxp hp
       rw [show ({ heap := wr.heap,tape := wr.tape,drawn := wr.drawn + 1,os := wr.os,output := wr.output } : World) = wr.drew from rfl]
       generalize wr.drew = w6 at c0_ d1_ d2_ d3_ d4_ d5_ d6_ d7_ F3 ⊢
       go_wp2
       refine wp_region_still_lit (by kernel_rfl) (by kernel_rfl) ?_
       repeat still_step
       still_call (turn2 _ _)
       repeat still_step
       still_call (turn13 _ _)
       repeat still_step
       still_call (turn22 _ _)
       repeat still_step
       refine wpStill_nil ?_
       obtain ⟨⟨c0,d1,d2,d3,d4,d5,d6,d7⟩,⟨f0,f1,f2,f3,f4,f5,f6,f7⟩⟩ := F3.out.drew.ha.eight
       have F4 := Aside0.mk F3.out.drew
       clear c0_ d1_ d2_ d3_ d4_ d5_ d6_ d7_ F3
       generalize hxq : IntKind.u32.wrap (_ + Go.bits .xor .u32 _ (Go.bits .and .u32 a1 a2)) = xq
       have hq : qW a0 a1 a2 = xq := hxq
       have HQ := Aside0.mk hq
       clear hxq hq
       rw [show ({ heap := w6.heap,tape := w6.tape,drawn := w6.drawn + 1,os := w6.os,output := w6.output } : World) = w6.drew from rfl]
       generalize w6.drew = w7 at c0 d1 d2 d3 d4 d5 d6 d7 f0 f1 f2 f3 f4 f5 f6 f7 F4 ⊢
       have H1 := Aside0.mk (step2w _ _ _ _ _ _ _ _ _ _ _ _ _ hws hkl hlt xk xw xp xq HX.out.1 HX.out.2 HP.out HQ.out H0.out)
       clear H0
       go_wp2
       go_roundg (64 - (i + 1))
       case measure => omega
       case rel =>
        have F5 := ((((((((F4.out.set 0 (by simp) ((xp + xq) % 4294967296)).set 1 (by simp) a0).set 2 (by simp) a1).set 3 (by simp) a2).set 4 (by simp) ((a3 + xp) % 4294967296)).set 5 (by simp) a4).set 6 (by simp) a5).set 7 (by simp) a6)
        exact ⟨i + 1,_,_,_,_,_,_,_,_,by omega,by omega,by go_num,H1,⟨F5⟩⟩
      ·have hlt2 : ¬ ((i : Int) < 64) := by omega
       have H1 := Aside0.mk (exit2 _ _ _ _ _ _ hlt2 H0.out)
       clear H0
       go_wp2
       go_loopg [182] 8 (fun gg v182 wr => ∃ (i : Nat) (lh : List Int),i ≤ 8 ∧ gg + i = 8 ∧ v182 = .int .i64 (i : Int) ∧ lh.length = 8 ∧ Aside0 (Zc.lv3 lh [a0,a1,a2,a3,a4,a5,a6,a7] (i : Int) = some r) ∧ Aside0 (Bk2 w wr n lh (List.replicate 8 0) ws [a0,a1,a2,a3,a4,a5,a6,a7]))
       case atStart => exact ⟨0,_,by omega,rfl,rfl,rfl,H1,F⟩
       case round =>
        clear F H1 hlt2 hlt hi
        obtain ⟨i,lh,hi,hg,rfl,hlh,H0,F⟩ := hrel
        by_cases hlt : i < 8
        ·have c1 : ((i : Int) < 8) := by omega
         have H1 := Aside0.mk (step3 _ _ _ _ hlh rfl hlt H0.out)
         have b0 := F.out.hh.cell i (by omega)
         have b1 := F.out.ha.cell i (by simpa using hlt)
         have z1 := F.out.hh.free i (by omega)
         clear H0
         obtain ⟨x0,hx0⟩ : ∃ x,lh.getD i 0 = x := ⟨_,rfl⟩
         obtain ⟨x1,hx1⟩ : ∃ x,([a0,a1,a2,a3,a4,a5,a6,a7] : List Int).getD i 0 = x := ⟨_,rfl⟩
         rw [hx0] at b0 H1
         rw [hx1] at b1 H1
         rw [u32w_h] at H1
         clear hx0 hx1
         go_wp2
         refine wp_region_still_tail 8 (by kernel_rfl) (by kernel_rfl) ?_
         simp only [List.take_succ_cons,List.take_zero,List.drop_succ_cons,List.drop_zero]
         repeat still_step
         refine wpStill_nil ?_
         change wpList _ _ _ _ _ wr.drew
         have z2 : wr.drew.cell? ⟨n,i,none⟩ = some (.int .u32 x0) := b0
         have z3 : wr.drew.frozen? ⟨n,i,none⟩ = false := z1
         have F2 := Aside0.mk (F.out.drew.head i (by omega) ((x0 + x1) % 4294967296))
         generalize wr.drew = w4 at z2 z3 F2 ⊢
         clear z1 b0 b1 F
         go_wp2
         go_roundg (8 - (i + 1))
         case measure => omega
         case rel => exact ⟨i + 1,_,by omega,by omega,by go_num,by rw [List.length_set];exact hlh,H1,F2⟩
        ·have hlt2 : ¬ ((i : Int) < 8) := by omega
         have e := exit3 _ _ _ _ hlt2 H0.out
         subst e
         clear H0
         obtain ⟨b0,b1,b2,b3,b4,b5,b6,b7,rfl⟩ := eight hlh
         obtain ⟨⟨c0,d1,d2,d3,d4,d5,d6,d7⟩,-⟩ := F.out.hh.eight
         obtain ⟨⟨k0,k1,k2,k3,k4,k5,k6,k7⟩,⟨f0,f1,f2,f3,f4,f5,f6,f7⟩⟩ := Au.eight (show Au wr (n + 1) [0,0,0,0,0,0,0,0] from F.out.hr)
         go_wp2
         have F5 := (((((((F.out.out 0 (by simp) b0).out 1 (by simp) b1).out 2 (by simp) b2).out 3 (by simp) b3).out 4 (by simp) b4).out 5 (by simp) b5).out 6 (by simp) b6).out 7 (by simp) b7
         obtain ⟨⟨r0,r1,r2,r3,r4,r5,r6,r7⟩,-⟩ := F5.hr.eight
         have hbl := F5.below
         clear c0 d1 d2 d3 d4 d5 d6 d7 k0 k1 k2 k3 k4 k5 k6 k7 f0 f1 f2 f3 f4 f5 f6 f7 F F5
         (try simp only [Exit.inBlock,Exit.then])
         generalize World.setCell (World.setCell (World.setCell (World.setCell (World.setCell (World.setCell (World.setCell (World.setCell wr _ _) _ _) _ _) _ _) _ _) _ _) _ _) _ _ = W8 at hbl r0 r1 r2 r3 r4 r5 r6 r7 ⊢
         refine bodyPost_ret (res121 _ _ (n + 1) (by rfl) _ _ _ _ _ _ _ _ r0 r1 r2 r3 r4 r5 r6 r7) rfl ?_
         first | exact ⟨rfl,hbl,rfl⟩ | exact ⟨rfl,hbl⟩
def hashIV : List Int := [1779033703,3144134277,1013904242,2773480762,1359893119,2600822924,528734635,1541459225]
def roundKs : List Int := [1116352408,1899447441,3049323471,3921009573,961987163,1508970993,2453635748,2870763221,3624381080,310598401,607225278,1426881987,1925078388,2162078206,2614888103,3248222580,3835390401,4022224774,264347078,604807628,770255983,1249150122,1555081692,1996064986,2554220882,2821834349,2952996808,3210313671,3336571891,3584528711,113926993,338241895,666307205,773529912,1294757372,1396182291,1695183700,1986661051,2177026350,2456956037,2730485921,2820302411,3259730800,3345764771,3516065817,3600352804,4094571909,275423344,430227734,506948616,659060556,883997877,958139571,1322822218,1537002063,1747873779,1955562222,2024104815,2227730452,2361852424,2428436474,2756734187,3204031479,3329325298]
theorem hstart (x : List Int) (r : ByteArray) (hx : x.length ≤ 40000000) (H : Zb.v x = some r) : Zb.lv0 x hashIV (x ++ [128]) = some r := by
 rw [Zb.v_eq,Option.bind_some,if_pos (by simp;omega),Option.bind_some,if_pos (by simp;omega),List.nil_append] at H
 exact H
theorem hpad (x h all : List Int) (r : ByteArray) (ha : all.length < 140737488355328) (hc : all.length % 64 ≠ 56) (H : Zb.lv0 x h all = some r) : Zb.lv0 x h (all ++ [0]) = some r := by
 rw [Zb.lv0_eq,if_neg (by omega),if_pos ha] at H
 exact H
theorem hpadded (x h all : List Int) (r : ByteArray) (hc : all.length % 64 = 56) (H : Zb.lv0 x h all = some r) : Zb.lv1 x h all 7 = some r := by
 rw [Zb.lv0_eq,if_pos (by omega)] at H
 exact H
theorem shr_at (n : Int) (k : Nat) (hk : k ≤ 56) : shr .i64 n (k : Int) = n / 2 ^ k := by
 unfold shr
 rw [Int.toNat_natCast,Nat.min_eq_left (by show k ≤ 64;omega)]
def be8 (n : Int) : List Int := [n / 256 / 256 / 256 / 256 / 256 / 256 / 256 % 256,n / 256 / 256 / 256 / 256 / 256 / 256 % 256,n / 256 / 256 / 256 / 256 / 256 % 256,n / 256 / 256 / 256 / 256 % 256,n / 256 / 256 / 256 % 256,n / 256 / 256 % 256,n / 256 % 256,n % 256]
theorem number8 (n : Int) : Zh.v n 8 = some (strOfNums (be8 n)) := by
 have w8 : wrap64 (8 - 1) = 7 := w64n _ (by omega) (by omega)
 have w7 : wrap64 (7 - 1) = 6 := w64n _ (by omega) (by omega)
 have w6 : wrap64 (6 - 1) = 5 := w64n _ (by omega) (by omega)
 have w5 : wrap64 (5 - 1) = 4 := w64n _ (by omega) (by omega)
 have w4 : wrap64 (4 - 1) = 3 := w64n _ (by omega) (by omega)
 have w3 : wrap64 (3 - 1) = 2 := w64n _ (by omega) (by omega)
 have w2 : wrap64 (2 - 1) = 1 := w64n _ (by omega) (by omega)
 have w0 : wrap64 (1 - 1) = 0 := w64n _ (by omega) (by omega)
 have w1 : wrap64 (0 - 1) = -1 := w64n _ (by omega) (by omega)
 rw [Zh.v_eq,if_pos (by decide),if_pos (by decide),w8]
 rw [Zh.lv0_eq,if_pos (by decide),if_pos (by decide),if_pos (by simp),w7]
 rw [Zh.lv0_eq,if_pos (by decide),if_pos (by decide),if_pos (by simp),w6]
 rw [Zh.lv0_eq,if_pos (by decide),if_pos (by decide),if_pos (by simp),w5]
 rw [Zh.lv0_eq,if_pos (by decide),if_pos (by decide),if_pos (by simp),w4]
 rw [Zh.lv0_eq,if_pos (by decide),if_pos (by decide),if_pos (by simp),w3]
 rw [Zh.lv0_eq,if_pos (by decide),if_pos (by decide),if_pos (by simp),w2]
 rw [Zh.lv0_eq,if_pos (by decide),if_pos (by decide),if_pos (by simp),w0]
 rw [Zh.lv0_eq,if_pos (by decide),if_pos (by decide),if_pos (by simp),w1,Zh.lv0_eq,if_neg (by decide)]
 rfl
def be4 (n : Int) : List Int := [n / 256 / 256 / 256 % 256,n / 256 / 256 % 256,n / 256 % 256,n % 256]
theorem number4 (n : Int) : Zh.v n 4 = some (strOfNums (be4 n)) := by
 have w4 : wrap64 (4 - 1) = 3 := w64n _ (by omega) (by omega)
 have w3 : wrap64 (3 - 1) = 2 := w64n _ (by omega) (by omega)
 have w2 : wrap64 (2 - 1) = 1 := w64n _ (by omega) (by omega)
 have w0 : wrap64 (1 - 1) = 0 := w64n _ (by omega) (by omega)
 have w1 : wrap64 (0 - 1) = -1 := w64n _ (by omega) (by omega)
 rw [Zh.v_eq,if_pos (by decide),if_pos (by decide),w4]
 rw [Zh.lv0_eq,if_pos (by decide),if_pos (by decide),if_pos (by simp),w3]
 rw [Zh.lv0_eq,if_pos (by decide),if_pos (by decide),if_pos (by simp),w2]
 rw [Zh.lv0_eq,if_pos (by decide),if_pos (by decide),if_pos (by simp),w0]
 rw [Zh.lv0_eq,if_pos (by decide),if_pos (by decide),if_pos (by simp),w1,Zh.lv0_eq,if_neg (by decide)]
 rfl
theorem hlen_step (x h all : List Int) (r : ByteArray) (k : Nat) (hk : k < 8) (ha : all.length < 140737488355328) (H : Zb.lv1 x h all (k : Int) = some r) :
  Zb.lv1 x h (all ++ [wrap64 (8 * (x.length : Int)) / 2 ^ (8 * k) % 256]) ((k : Int) - 1) = some r := by
 have e1 : wrap64 (8 * (k : Int)) = ((8 * k : Nat) : Int) := by rw [w64n _ (by omega) (by omega)];omega
 have e2 : IntKind.u64.wrap ((8 * k : Nat) : Int) = ((8 * k : Nat) : Int) := by
  clear e1
  unfold IntKind.wrap
  simp [IntKind.bits,IntKind.signed]
  omega
 have e3 : (0 : Int) ≤ ((8 * k : Nat) : Int) := by clear e1 e2;omega
 have e4 : (k : Int) ≥ 0 := by clear e1 e2;omega
 have e5 : wrap64 ((k : Int) - 1) = (k : Int) - 1 := by clear e1 e2;exact w64n _ (by omega) (by omega)
 rw [Zb.lv1_eq,e1,e2,e5,if_pos e4,if_pos e3,if_pos ha,shr_at _ _ (by clear e1 e2 e5;omega)] at H
 exact H
theorem hlen_end (x h all : List Int) (r : ByteArray) (H : Zb.lv1 x h all (-1) = some r) : Zb.lv2 h all roundKs ((64 * 0 : Nat) : Int) = some r := by
 rw [Zb.lv1_eq,if_neg (by decide),Yq.v_eq,Option.bind_some] at H
 exact H
theorem hlen (x h all : List Int) (r : ByteArray) (ha : all.length < 100000000) (hx : x.length ≤ 40000000) (H : Zb.lv1 x h all 7 = some r) :
  Zb.lv2 h (all ++ be8 (wrap64 (8 * (x.length : Int)))) roundKs ((64 * 0 : Nat) : Int) = some r := by
 generalize hn : wrap64 (8 * (x.length : Int)) = n
 have h7 := hlen_step x h _ r 7 (by decide) (by omega) H
 have h6 := hlen_step x h _ r 6 (by decide) (by simp;omega) h7
 have h5 := hlen_step x h _ r 5 (by decide) (by simp;omega) h6
 have h4 := hlen_step x h _ r 4 (by decide) (by simp;omega) h5
 have h3 := hlen_step x h _ r 3 (by decide) (by simp;omega) h4
 have h2 := hlen_step x h _ r 2 (by decide) (by simp;omega) h3
 have h1 := hlen_step x h _ r 1 (by decide) (by simp;omega) h2
 have h0 := hlen_step x h _ r 0 (by decide) (by simp;omega) h1
 have he := hlen_end x h _ r h0
 rw [hn] at he
 simp only [List.append_assoc,List.cons_append,List.nil_append] at he
 have v2 : n / 256 / 256 = n / 65536 := by omega
 have v3 : n / 256 / 256 / 256 = n / 16777216 := by omega
 have v4 : n / 256 / 256 / 256 / 256 = n / 4294967296 := by omega
 have v5 : n / 256 / 256 / 256 / 256 / 256 = n / 1099511627776 := by omega
 have v6 : n / 256 / 256 / 256 / 256 / 256 / 256 = n / 281474976710656 := by omega
 have v7 : n / 256 / 256 / 256 / 256 / 256 / 256 / 256 = n / 72057594037927936 := by omega
 unfold be8
 rw [v7,v6,v5,v4,v3,v2]
 simpa using he
theorem hround (hv all : List Int) (r : ByteArray) (m K : Nat) (hl : all.length = 64 * K) (hK : K ≤ 2000000) (hm : m < K) (H : Zb.lv2 hv all roundKs ((64 * m : Nat) : Int) = some r) :
  ∃ h',Zc.v hv ((all.take (64 * m + 64)).drop (64 * m)) roundKs = some h' ∧ Zb.lv2 h' all roundKs ((64 * (m + 1) : Nat) : Int) = some r := by
 have e1 : wrap64 (((64 * m : Nat) : Int) + 64) = ((64 * (m + 1) : Nat) : Int) := by rw [w64n _ (by omega) (by omega)];omega
 have g1 : ((64 * m : Nat) : Int) < (all.length : Int) := by clear e1;omega
 have g2 : (0 : Int) ≤ ((64 * m : Nat) : Int) := by clear e1;omega
 have g3 : ((64 * m : Nat) : Int) ≤ ((64 * (m + 1) : Nat) : Int) := by clear e1;omega
 have g4 : ((64 * (m + 1) : Nat) : Int) ≤ (all.length : Int) := by clear e1;omega
 rw [Zb.lv2_eq,e1,if_pos g1,if_pos g2,if_pos g3,if_pos g4,Int.toNat_natCast,Int.toNat_natCast] at H
 obtain ⟨h',e,H⟩ := Option.bind_eq_some_iff.1 H
 exact ⟨h',e,H⟩
theorem hrounds (hv all : List Int) (r : ByteArray) (i : Int) (hi : ¬ i < (all.length : Int)) (H : Zb.lv2 hv all roundKs i = some r) : Zb.lv3 hv [] ((0 : Nat) : Int) = some r := by
 rw [Zb.lv2_eq,if_neg hi] at H
 rw [show ((0 : Nat) : Int) = 0 from rfl]
 exact H
theorem hout (hv o : List Int) (r : ByteArray) (i : Nat) (hh : hv.length = 8) (hi : i < 8) (ho : o.length ≤ 1000) (H : Zb.lv3 hv o (i : Int) = some r) :
  Zb.lv3 hv (o ++ be4 (hv.getD i 0)) ((i + 1 : Nat) : Int) = some r := by
 have g1 : (i : Int) < 8 := by omega
 have g2 : (0 : Int) ≤ (i : Int) := by omega
 have g3 : (i : Int) < (hv.length : Int) := by omega
 have e1 : wrap64 ((i : Int) + 1) = ((i + 1 : Nat) : Int) := wadd i (by omega)
 have e2 : rd hv (i : Int) = hv.getD i 0 := by simp [rd]
 rw [Zb.lv3_eq,e1,if_pos g1,if_pos g2,if_pos g3,Option.bind_some,if_pos (by simp;omega),e2] at H
 have v2 : hv.getD i 0 / 256 / 256 = hv.getD i 0 / 65536 := by clear e1 e2;omega
 have v3 : hv.getD i 0 / 256 / 256 / 256 = hv.getD i 0 / 16777216 := by clear e1 e2 v2;omega
 unfold be4
 rw [v3,v2]
 exact H
theorem hdone (hv o : List Int) (r : ByteArray) (i : Int) (hi : ¬ i < 8) (H : Zb.lv3 hv o i = some r) : strOfNums o = r := by
 rw [Zb.lv3_eq,if_neg hi] at H
 exact Option.some.inj H
theorem be8_len (n : Int) : (be8 n).length = 8 := by unfold be8;rfl
theorem be4_len (n : Int) : (be4 n).length = 4 := by unfold be4;rfl
theorem bytes_num (l : List Int) (h : ∀ x ∈ l,0 ≤ x ∧ x < 256) : bytesOf (strOfNums l) = l := by
 unfold bytesOf
 rw [strOfNums_data,List.map_map]
 conv => rhs;rw [← List.map_id l]
 apply List.map_congr_left
 intro x hx
 have := h x hx
 simp only [Function.comp_apply,id]
 rw [UInt8.toNat_ofNat_of_lt' (by show x.toNat < 256;omega)]
 omega
theorem num8 (n : Int) : ∃ k y,Zh.f k n 8 = some y ∧ bytesOf y = be8 n ∧ y.size = 8 := by
 obtain ⟨k,hk⟩ := (Zh.v_lim n 8).at_ (strOfNums (be8 n)) (number8 n)
 have hb : bytesOf (strOfNums (be8 n)) = be8 n := bytes_num _ (by
  intro x hx
  unfold be8 at hx
  simp only [List.mem_cons,List.not_mem_nil,or_false] at hx
  rcases hx with rfl | rfl | rfl | rfl | rfl | rfl | rfl | rfl <;> omega)
 exact ⟨k,_,hk,hb,by rw [← bytesOf_length,hb,be8_len]⟩
theorem num4 (n : Int) : ∃ k y,Zh.f k n 4 = some y ∧ bytesOf y = be4 n ∧ y.size = 4 := by
 obtain ⟨k,hk⟩ := (Zh.v_lim n 4).at_ (strOfNums (be4 n)) (number4 n)
 have hb : bytesOf (strOfNums (be4 n)) = be4 n := bytes_num _ (by
  intro x hx
  unfold be4 at hx
  simp only [List.mem_cons,List.not_mem_nil,or_false] at hx
  rcases hx with rfl | rfl | rfl | rfl <;> omega)
 exact ⟨k,_,hk,hb,by rw [← bytesOf_length,hb,be4_len]⟩
structure Ih (w W : World) (n g cap gh : Nat) (al hv : List Int) : Prop where
 hs : Hs w W n g cap al
 ha : Au W gh hv
 ne : g ≠ gh
 mine : n ≤ gh
 lt : gh < W.heap.size
theorem Ih.start {w W : World} {n g cap : Nat} {al : List Int} (h : Hs w W n g cap al) (hv : List Int) (t : Nat) : Ih w (W.alloc (.cells (hv.map (Value.int .u32)).toArray t)) n g cap W.heap.size al hv := by
 have h1 := h.lt
 have h2 := h.mine
 refine ⟨h.alloc _,Au.of_row (e := t) _ ?_,by omega,by omega,by rw [alloc_sz];omega⟩
 rw [alloc_at,if_pos rfl]
theorem Ih.on {w W W' : World} {n g cap gh : Nat} {al hv : List Int} (h : Ih w W n g cap gh al hv) (b : Below W.heap.size W W') : Ih w W' n g cap gh al hv :=
 ⟨h.hs.on b,h.ha.at (b.block gh h.lt),h.ne,h.mine,Nat.lt_of_lt_of_le h.lt b.size⟩
theorem Ih.drew {w W : World} {n g cap gh : Nat} {al hv : List Int} (h : Ih w W n g cap gh al hv) : Ih w W.drew n g cap gh al hv :=
 h.on ⟨rfl,rfl,rfl,Nat.le_refl _,fun _ _ => rfl⟩
theorem Ih.set {w W : World} {n g cap gh : Nat} {al hv : List Int} (h : Ih w W n g cap gh al hv) (j : Nat) (hj : j < hv.length) (x : Int) : Ih w (W.setCell ⟨gh,j,none⟩ (.int .u32 x)) n g cap gh al (hv.set j x) := by
 have hs : (W.setCell ⟨gh,j,none⟩ (.int .u32 x)).heap.size = W.heap.size := by simp [World.setCell]
 exact ⟨⟨h.hs.row.at (setCell_old W _ _ g h.ne),h.hs.mine,by rw [hs];exact h.hs.lt,below_set_h h.hs.below h.mine⟩,h.ha.set j hj x,h.ne,h.mine,by rw [hs];exact h.lt⟩
theorem cut64 (al : List Int) (o j : Nat) (hj : j < 64) : ((al.take (o + 64)).drop o).getD j 0 = al.getD (o + j) 0 := by
 simp only [List.getD,List.getElem?_drop,List.getElem?_take]
 rw [if_pos (by omega)]
theorem str_add (a b : List Int) : strOfNums a ++ strOfNums b = strOfNums (a ++ b) := by
 apply ByteArray.ext
 apply Array.toList_inj.1
 rw [ByteArray.data_append,Array.toList_append,strOfNums_data,strOfNums_data,strOfNums_data,List.map_append]
theorem be4_wrap (x : Int) : be4 (wrap64 x) = be4 x := by
 rw [← i64_w,IntKind.wrap_i64]
 unfold be4
 have h : ∀ a b : Int,a % 4294967296 = b % 4294967296 → a / 256 / 256 / 256 % 256 = b / 256 / 256 / 256 % 256 ∧ a / 256 / 256 % 256 = b / 256 / 256 % 256 ∧ a / 256 % 256 = b / 256 % 256 ∧ a % 256 = b % 256 := by
  intro a b h
  refine ⟨by omega,by omega,by omega,by omega⟩
 obtain ⟨h1,h2,h3,h4⟩ := h ((x + 9223372036854775808) % 18446744073709551616 - 9223372036854775808) x (by omega)
 rw [h1,h2,h3,h4]
theorem str_back (s : ByteArray) : strOfNums (bytesOf s) = s := by
 apply ByteArray.ext
 apply Array.toList_inj.1
 rw [strOfNums_data]
 unfold bytesOf
 rw [List.map_map]
 conv => rhs;rw [← List.map_id s.data.toList]
 apply List.map_congr_left
 intro x hx
 simp
theorem num4s (x : Int) : ∃ k y,Zh.f k (wrap64 x) 4 = some y ∧ y = strOfNums (be4 x) ∧ y.size = 4 := by
 obtain ⟨k,y,h1,h2,h3⟩ := num4 (wrap64 x)
 exact ⟨k,y,h1,by rw [← str_back y,h2,be4_wrap],h3⟩
theorem strsz (l : List Int) : (strOfNums l).size = l.length := by
 show (strOfNums l).data.size = _
 simp [strOfNums]
set_option maxRecDepth 100000 in
theorem idx122 (a0 a1 a2 a3 a4 a5 a6 a7 : Int) (W : World) (i : Nat) (hi : i < 8) : Sem.run Tryz.prog (Instr.index 70 (Value.agg #[.int .u32 a0,.int .u32 a1,.int .u32 a2,.int .u32 a3,.int .u32 a4,.int .u32 a5,.int .u32 a6,.int .u32 a7]) (Value.int .i64 (i : Int))) W = .ok (.int .u32 (([a0,a1,a2,a3,a4,a5,a6,a7] : List Int).getD i 0)) W := by
 match i,hi with
 | 0,_ => go_simp;rfl
 | 1,_ => go_simp;rfl
 | 2,_ => go_simp;rfl
 | 3,_ => go_simp;rfl
 | 4,_ => go_simp;rfl
 | 5,_ => go_simp;rfl
 | 6,_ => go_simp;rfl
 | 7,_ => go_simp;rfl
set_option maxHeartbeats 400000 in
set_option maxRecDepth 100000 in
theorem hash_walk (s r : ByteArray) (w : World) (hL : ∀ j,j < 64 → w.cell? ⟨0,j,none⟩ = some (.int .u32 (roundKs.getD j 0))) (hs : s.size ≤ 40000000) (H : Zb.v (bytesOf s) = some r) :
  Calls Tryz.prog 29 #[.string s] w fun e w' => e = .returned (.string r) ∧ Below w.heap.size w w' := by
 have h0 : 0 < w.heap.size := World.block_lt_of_cell? w _ (hL 0 (by decide))
 have HL := Aside0.mk hL
 have hxl : (bytesOf s).length = s.size := bytesOf_length s
 have H0 := Aside0.mk (hstart _ _ (by omega) H)
 have HX := Aside0.mk hxl
 clear hL H hxl
 go_enter Tryz.func29,Tryz.ntmps29
 go_wp2_with (first | ((with_reducible refine gate_dst (N := 9) rfl ?_);refine conv_hs 5 rfl 9 65 _ rfl s rfl Tryz.underlying9 Tryz.underlying65 Tryz.underlying5 ?_;intro g cap w1 F0;have F := Aside0.mk F0;clear F0) | ((with_reducible refine gate_builtin (b := .append) (xs := #[.tmp 9,.tmp 10]) rfl ?_);at_builtin;refine append1_hs (l := bytesOf s) 65 5 rfl (.tmp 9) (.tmp 10) rfl Tryz.underlying65 info5 128 (by rw [bytesOf_length];rfl) rfl F.out (by rw [bytesOf_length];omega) ?_;clear F;intro g' cap' w2 F0;have F := Aside0.mk F0;clear F0))
 have HG := Aside0.mk h0
 clear h0
 go_loopg [3] (56 + 64 - (s.size + 1) % 64) (fun gg v3 wr => ∃ (g cap : Nat) (l : List Int),(l.length + gg) % 64 = 56 ∧ l.length + gg ≤ 41000000 ∧ v3 = .slice (some ⟨g,0,none⟩) l.length cap ∧ Aside0 (Zb.lv0 (bytesOf s) hashIV l = some r) ∧ Aside0 (Hs w wr w.heap.size g cap l))
 case atStart => exact ⟨_,_,bytesOf s ++ [128],by rw [List.length_append,HX.out,List.length_singleton];omega,by rw [List.length_append,HX.out,List.length_singleton];omega,by simp,H0,F⟩
 case round =>
  clear F H0
  obtain ⟨g3,cap3,l,hm,hle,rfl,H0,F⟩ := hrel
  by_cases c : l.length % 64 = 56
  ·have c1 : ((l.length : Int).tmod 64 = 56) := by rw [Int.tmod_eq_emod_of_nonneg (by omega)];omega
   have H1 := Aside0.mk (hlen _ _ _ _ (by omega) (by have := HX.out;omega) (hpadded _ _ _ _ c H0.out))
   obtain ⟨ky,y,hky,hby,hys⟩ := num8 (wrap64 (8 * ((bytesOf s).length : Int)))
   rw [← hby] at H1
   have hw8 : wrap64 (8 * (s.size : Int)) = 8 * (s.size : Int) := by clear hky hby H1;exact w64n _ (by omega) (by omega)
   rw [HX.out,hw8] at hky
   clear hw8
   have HK := Aside0.mk hky
   clear hky hby H0
   have hlw : (8 * (s.size : Int)) ≤ 9223372036854775807 := by omega
   go_wp2_with (first | (go_at_call 41;with_reducible refine (Zh.calls ky _ _ y _ HK.out).mono ?_;rintro e w5 ⟨rfl,hb5⟩;have HB5 := Aside0.mk hb5;clear hb5) | ((with_reducible refine gate_builtin (b := .append) (xs := #[.tmp 19,.tmp 23]) rfl ?_);at_builtin;refine appendS_hs (l := l) 65 9 5 rfl (.tmp 19) (.tmp 23) rfl Tryz.underlying65 Tryz.underlying9 info5 y (by rfl) rfl (by omega) (F.out.on HB5.out) (by omega) ?_;clear F HB5;intro g' cap' w2 F0;have F := Aside0.mk F0;clear F0))
   have HA : (l ++ bytesOf y).length = l.length + 8 := by rw [List.length_append,bytesOf_length,hys]
   rw [show (bytesOf y).length = 8 by rw [bytesOf_length,hys]]
   have FI : Aside0 (Ih w (w2.alloc (.cells #[.int .u32 1779033703,.int .u32 3144134277,.int .u32 1013904242,.int .u32 2773480762,.int .u32 1359893119,.int .u32 2600822924,.int .u32 528734635,.int .u32 1541459225] 70)) w.heap.size g' cap' w2.heap.size (l ++ bytesOf y) hashIV) := Aside0.mk (Ih.start F.out hashIV 70)
   clear F
   generalize w2.alloc _ = w6 at FI ⊢
   generalize w2.heap.size = gh at FI ⊢
   rw [← HA]
   generalize l ++ bytesOf y = al at HA H1 FI ⊢
   obtain ⟨K,hK⟩ : ∃ K,al.length = 64 * K := ⟨al.length / 64,by omega⟩
   have hKb : K ≤ 2000000 := by omega
   have hcap := FI.out.hs.row.room
   rw [hK] at hcap ⊢
   have HN := Aside0.mk hK
   clear HA hm hle hlw c1 c hK
   go_loopg [3] K (fun gg v3 wr => ∃ (m o ln cp : Nat) (hv : List Int),gg + m = K ∧ (0 < gg → o = 64 * m ∧ cp + o = cap') ∧ ln = 64 * gg ∧ v3 = .slice (some ⟨g',o,none⟩) ln cp ∧ hv.length = 8 ∧ Aside0 (Zb.lv2 hv al roundKs ((64 * m : Nat) : Int) = some r) ∧ Aside0 (Ih w wr w.heap.size g' cap' gh al hv))
   case atStart => exact ⟨0,0,_,_,_,by omega,fun _ => ⟨rfl,rfl⟩,rfl,rfl,rfl,H1,FI⟩
   case round =>
    clear FI H1
    obtain ⟨m,o,ln,cp,hv,hgm,hoc,hln,rfl,hh,H1,FI⟩ := hrel
    by_cases c : 0 < gk
    ·obtain ⟨ho,hcp⟩ := hoc c
     have c1 : ((ln : Int) > 0) := by omega
     have c2 : (64 : Int) ≤ (ln : Int) := by omega
     have c3 : (64 : Int) ≤ (cp : Int) := by omega
     obtain ⟨h',e1,H2⟩ := hround hv al r m K HN.out hKb (by omega) H1.out
     have H2 := Aside0.mk H2
     rw [← ho] at e1
     have E1 := Aside0.mk e1
     have HO := Aside0.mk (And.intro ho (And.intro hln (And.intro hcp hgm)))
     clear e1 H1 ho hln hcp hgm hoc
     obtain ⟨a0,a1,a2,a3,a4,a5,a6,a7,rfl⟩ := eight hh
     obtain ⟨⟨c0,d1,d2,d3,d4,d5,d6,d7⟩,-⟩ := FI.out.ha.eight
     go_wp2
     refine wp_region_still_tail 3 (by kernel_rfl) (by kernel_rfl) ?_
     simp only [List.take_succ_cons,List.take_zero,List.drop_succ_cons,List.drop_zero]
     repeat still_step
     refine wpStill_nil ?_
     change wpList _ _ _ _ _ wr.drew
     have F3 := Aside0.mk FI.out.drew
     clear c0 d1 d2 d3 d4 d5 d6 d7 FI
     generalize wr.drew = w7 at F3 ⊢
     have hb7 : ∀ j,j < 64 → w7.cell? ⟨g',o + j,none⟩ = some (.int .u8 (((al.take (o + 64)).drop o).getD j 0)) := fun j hj => by
      rw [cut64 al o j hj]
      exact F3.out.hs.row.cell (o + j) (by have := HN.out;have := HO.out;omega)
     have hl7 : ∀ j,j < 64 → w7.cell? ⟨0,j,none⟩ = some (.int .u32 (roundKs.getD j 0)) := fun j hj =>
      (World.cell?_of_block (a := ⟨0,j,none⟩) (F3.out.hs.below.block 0 HG.out)).trans (HL.out j hj)
     have hbl7 : ((al.take (o + 64)).drop o).length = 64 := by have := HN.out;have := HO.out;rw [List.length_drop,List.length_take];omega
     have HC := Aside0.mk (block_walk a0 a1 a2 a3 a4 a5 a6 a7 g' o cp _ roundKs h' w7 F3.out.hs.lt hbl7 (by have := HO.out;omega) hb7 hl7 rfl E1.out)
     clear hb7 hl7 hbl7
     go_wp2_with (go_at_call 42;with_reducible refine HC.out.mono ?_;rintro e w8 ⟨rfl,hb8,h8⟩;have HB8 := Aside0.mk hb8;clear hb8)
     have F8 := Aside0.mk (F3.out.on HB8.out)
     clear F3 HB8 HC
     obtain ⟨b0,b1,b2,b3,b4,b5,b6,b7,rfl⟩ := eight h8
     obtain ⟨⟨c0,d1,d2,d3,d4,d5,d6,d7⟩,⟨f0,f1,f2,f3,f4,f5,f6,f7⟩⟩ := F8.out.ha.eight
     simp only [List.map_cons,List.map_nil]
     have hlc : (ln : Int) ≤ (cp : Int) := by have := HO.out;omega
     have hst : Sem.run Tryz.prog (storeCells ⟨gh,0,none⟩ [.int .u32 b0,.int .u32 b1,.int .u32 b2,.int .u32 b3,.int .u32 b4,.int .u32 b5,.int .u32 b6,.int .u32 b7]) w8 = .ok () ((((((((w8.setCell ⟨gh,0,none⟩ (.int .u32 b0)).setCell ⟨gh,1,none⟩ (.int .u32 b1)).setCell ⟨gh,2,none⟩ (.int .u32 b2)).setCell ⟨gh,3,none⟩ (.int .u32 b3)).setCell ⟨gh,4,none⟩ (.int .u32 b4)).setCell ⟨gh,5,none⟩ (.int .u32 b5)).setCell ⟨gh,6,none⟩ (.int .u32 b6)).setCell ⟨gh,7,none⟩ (.int .u32 b7)) := by
      have := run_storeCells_cells (P := Tryz.prog) gh 0 [.int .u32 b0,.int .u32 b1,.int .u32 b2,.int .u32 b3,.int .u32 b4,.int .u32 b5,.int .u32 b6,.int .u32 b7] 0 w8 (fun j hj => by simp only [Nat.zero_add];rw [F8.out.ha.cell j (by simpa using hj)];rfl) (fun j hj => by simp only [Nat.zero_add];exact F8.out.ha.free j (by simpa using hj)) (fun v hv => by simp only [List.mem_cons,List.not_mem_nil,or_false] at hv;rcases hv with rfl | rfl | rfl | rfl | rfl | rfl | rfl | rfl <;> rfl)
      exact this
     have F9 := Aside0.mk ((((((((F8.out.set 0 (by simp) b0).set 1 (by simp) b1).set 2 (by simp) b2).set 3 (by simp) b3).set 4 (by simp) b4).set 5 (by simp) b5).set 6 (by simp) b6).set 7 (by simp) b7)
     clear c0 d1 d2 d3 d4 d5 d6 d7 f0 f1 f2 f3 f4 f5 f6 f7
     rw [hst]
     clear hst
     generalize World.setCell (World.setCell (World.setCell (World.setCell (World.setCell (World.setCell (World.setCell (World.setCell w8 _ _) _ _) _ _) _ _) _ _) _ _) _ _) _ _ = w9 at F9 ⊢
     by_cases hc64 : cp = 64
     ·have hl0 : ln = 64 := by have := HO.out;omega
      subst hc64
      subst hl0
      go_wp2
      go_roundg (gk - 1)
      case measure => omega
      case rel =>
       have := HO.out
       exact ⟨m + 1,o,0,0,[b0,b1,b2,b3,b4,b5,b6,b7],by omega,by omega,by omega,rfl,rfl,H2,F9⟩
     ·have hc65 : (64 : Int) < (cp : Int) := by omega
      go_wp2
      go_roundg (gk - 1)
      case measure => omega
      case rel =>
       have := HO.out
       exact ⟨m + 1,o + 64,ln - 64,cp - 64,[b0,b1,b2,b3,b4,b5,b6,b7],by omega,by omega,by omega,rfl,rfl,H2,F9⟩
    ·have hk0 : gk = 0 := by omega
     subst hk0
     have hln0 : ln = 0 := by omega
     subst hln0
     have H2 := Aside0.mk (hrounds hv al r _ (by have := HN.out;omega) H1.out)
     obtain ⟨a0,a1,a2,a3,a4,a5,a6,a7,rfl⟩ := eight hh
     obtain ⟨⟨c0,d1,d2,d3,d4,d5,d6,d7⟩,-⟩ := FI.out.ha.eight
     have hbel := Aside0.mk FI.out.hs.below
     clear H1 hoc hln FI
     go_wp2
     clear c0 d1 d2 d3 d4 d5 d6 d7
     go_loopg [5,36] 8 (fun gg v5 v36 wr => ∃ (i : Nat) (ol : List Int),i ≤ 8 ∧ gg + i = 8 ∧ v36 = .int .i64 (i : Int) ∧ v5 = .string (strOfNums ol) ∧ ol.length = 4 * i ∧ Aside0 (Zb.lv3 [a0,a1,a2,a3,a4,a5,a6,a7] ol (i : Int) = some r) ∧ Aside0 (Below w.heap.size w wr))
     case atStart => exact ⟨0,[],by omega,by omega,rfl,rfl,rfl,H2,hbel⟩
     case round =>
      clear H2 hbel
      obtain ⟨i,ol,hi,hg,rfl,rfl,hol,H2,hbel⟩ := hrel
      by_cases hlt : i < 8
      ·have c1 : ((i : Int) < 8) := by omega
       have H3 := Aside0.mk (hout _ _ _ _ rfl hlt (by omega) H2.out)
       clear H2
       have hix := idx122 a0 a1 a2 a3 a4 a5 a6 a7 wr i hlt
       obtain ⟨x,hx⟩ : ∃ x,([a0,a1,a2,a3,a4,a5,a6,a7] : List Int).getD i 0 = x := ⟨_,rfl⟩
       rw [hx] at hix H3
       clear hx
       obtain ⟨ky4,y4,hk4,hy4,hs4⟩ := num4s x
       have HK4 := Aside0.mk hk4
       have HY4 := Aside0.mk hy4
       clear hk4 hy4
       have hso : (strOfNums ol).size = ol.length := strsz ol
       have hcat : (strOfNums ol).size + y4.size ≤ 9223372036854775807 := by omega
       have hcat2 : ((strOfNums ol).size : Int) + (y4.size : Int) ≤ 9223372036854775807 := by omega
       have hcat3 : ¬ (9223372036854775807 < ((strOfNums ol).size : Int) + (y4.size : Int)) := by omega
       clear hso
       go_wp2_with (go_at_call 41;with_reducible refine (Zh.calls ky4 _ _ y4 _ HK4.out).mono ?_;rintro e w5 ⟨rfl,hb5⟩;have HB5 := Aside0.mk hb5;clear hb5)
       go_roundg (8 - (i + 1))
       case measure => omega
       case rel => exact ⟨i + 1,_,by omega,by omega,by go_num,by rw [HY4.out,str_add],by rw [List.length_append,be4_len];omega,H3,⟨(hbel.out).trans (HB5.out.mono hbel.out.size)⟩⟩
      ·have hlt2 : ¬ ((i : Int) < 8) := by omega
       have e := hdone _ _ _ _ hlt2 H2.out
       subst e
       go_wp2
       go_ret
       exact ⟨rfl,hbel.out⟩
  ·have c1 : ¬ ((l.length : Int).tmod 64 = 56) := by rw [Int.tmod_eq_emod_of_nonneg (by omega)];omega
   have H1 := Aside0.mk (hpad _ _ _ _ (by omega) c H0.out)
   clear H0
   go_wp2_with (first | ((with_reducible refine gate_builtin (b := .append) (xs := #[.tmp 16,.tmp 17]) rfl ?_);at_builtin;refine append1_hs (l := l) 65 5 rfl (.tmp 16) (.tmp 17) rfl Tryz.underlying65 info5 0 (by rfl) rfl F.out (by omega) ?_;clear F;intro g' cap' w2 F0;have F := Aside0.mk F0;clear F0))
   have hgk : 1 ≤ gk := by omega
   go_roundg (gk - 1)
   case measure => omega
   case rel => exact ⟨_,_,_,by rw [List.length_append,List.length_singleton];omega,by rw [List.length_append,List.length_singleton];omega,by simp,H1,F⟩
structure Laid (w : World) : Prop where
 cells : ∀ j,j < 64 → w.cell? ⟨0,j,none⟩ = some (.int .u32 (roundKs.getD j 0))
theorem Laid.on {w W : World} (h : Laid w) (b : Below w.heap.size w W) : Laid W :=
 ⟨fun j hj => (World.cell?_of_block (a := ⟨0,j,none⟩) (b.block 0 (World.block_lt_of_cell? w _ (h.cells 0 (by decide))))).trans (h.cells j hj)⟩
end Go.Proofs.YtbhegbhdenngbaaGreatDoor.A
end

section
namespace Go.Proofs.YtbhegbhdenngbaaGreatDoor.A
open Go.RowKit Go.Proofs.YtbhegbhdenngbaaGreatDoorW.PrintWords Go.Proofs.YtbhegbhdenngbaaGreatDoorW.PrintLast Go.Proofs.YtbhegbhdenngbaaGreatDoorW.PrintMore
attribute [local go_sem] max2_int min2_int max_two min_two max_three min_three max_four min_four
theorem ZV.calls (k : Nat) (a0 : ByteArray) (r : ByteArray) (w : World) (hL : Laid w) (h : ZV.f k a0 = some r) :
  Calls Tryz.prog 29 #[.string a0] w fun e w' => e = .returned (.string r) ∧ Below w.heap.size w w' := by
 unfold ZV.f at h
 by_cases c : a0.size ≤ 40000000
 case neg =>
  rw [if_neg c] at h
  cases h
 rw [if_pos c] at h
 exact hash_walk a0 r w hL.cells c ((Zb.v_lim _).up k r h)
theorem Yg.calls (k : Nat) (a0 : Int) (a1 : ByteArray) (r : ByteArray) (w : World) (hL : Laid w) (h : Yg.f k a0 a1 = some r) :
  Calls Tryz.prog 44 #[.int .i64 a0,.string a1] w fun e w' => e = .returned (.string r) ∧ Below w.heap.size w w' := by
 have HLD := am_ hL
 clear hL
 have HB := am_ (Below.refl w.heap.size w)
 have H : ((Zh.f k a0 1).bind fun t464 => (if 8 + t464.size ≤ 9223372036854775807 then ((ZV.f k ((⟨#[110,111,100,101,32,107,101,121]⟩ : ByteArray) ++ t464)).bind fun t465 => (if t465.size + a1.size ≤ 9223372036854775807 then ((ZV.f k (t465 ++ a1)).bind fun t466 => (if 0 ≤ 8 then (if 8 ≤ (t466.size : Int) then (some (t466.extract 0 8)) else (none)) else (none))) else (none))) else (none))) = some r := h
 clear h
 replace H := Option.bind_eq_some_iff.mp H
 obtain ⟨t464,A30,H⟩ := H
 try dsimp only at H
 have A3 := am_ A30
 clear A30
 by_cases c4 : 8 + t464.size ≤ 9223372036854775807
 case neg =>
  rw [if_neg c4] at H
  exact absurd H (by simp)
 rw [if_pos c4] at H
 have c4b0 := eq_true c4
 have c4b1 := decide_eq_true c4
 try have c4b2 : (9223372036854775807 < 8 + t464.size) = False := eq_false (Nat.not_lt.2 c4)
 replace H := Option.bind_eq_some_iff.mp H
 obtain ⟨t465,A50,H⟩ := H
 try dsimp only at H
 have A5 := am_ A50
 clear A50
 by_cases c6 : t465.size + a1.size ≤ 9223372036854775807
 case neg =>
  rw [if_neg c6] at H
  exact absurd H (by simp)
 rw [if_pos c6] at H
 have c6b0 := eq_true c6
 have c6b1 := decide_eq_true c6
 try have c6b2 : (9223372036854775807 < t465.size + a1.size) = False := eq_false (Nat.not_lt.2 c6)
 replace H := Option.bind_eq_some_iff.mp H
 obtain ⟨t466,A70,H⟩ := H
 try dsimp only at H
 have A7 := am_ A70
 clear A70
 by_cases c8 : 0 ≤ 8
 case neg =>
  rw [if_neg c8] at H
  exact absurd H (by simp)
 rw [if_pos c8] at H
 have c8b0 := eq_true c8
 have c8b1 := decide_eq_true c8
 clear c8
 by_cases c9 : 8 ≤ (t466.size : Int)
 case neg =>
  rw [if_neg c9] at H
  exact absurd H (by simp)
 rw [if_pos c9] at H
 have c9b0 := eq_true c9
 have c9b1 := decide_eq_true c9
 clear c9
 obtain rfl := Option.some.inj H
 go_enter Tryz.func44,Tryz.ntmps44
 go_wp2_with (first | ((with_reducible refine gate_callee (f := 41) rfl ?_);refine zgl (some 6) Tryz.func41 #[.int .i64 a0,.int .i64 1] ?_;(with_reducible refine (Zh.calls k a0 1 t464 _ A3.out).mono ?_);rintro e w10 ⟨rfl,hb⟩;refine ⟨_,rfl,?_⟩;replace HB := zs_ HB hb;(try clear hb);(try clear hi)) | ((with_reducible refine gate_callee (f := 29) rfl ?_);refine zgl (some 8) Tryz.func29 #[.string ((⟨#[110,111,100,101,32,107,101,121]⟩ : ByteArray) ++ t464)] ?_;(with_reducible refine (ZV.calls k ((⟨#[110,111,100,101,32,107,101,121]⟩ : ByteArray) ++ t464) t465 _ ?side1 A5.out).mono ?_);(case side1 => exact HLD.out.on (zl_ HB));rintro e w11 ⟨rfl,hb⟩;refine ⟨_,rfl,?_⟩;replace HB := zs_ HB hb;(try clear hb);(try clear hi)) | ((with_reducible refine gate_callee (f := 29) rfl ?_);refine zgl (some 11) Tryz.func29 #[.string (t465 ++ a1)] ?_;(with_reducible refine (ZV.calls k (t465 ++ a1) t466 _ ?side1 A7.out).mono ?_);(case side1 => exact HLD.out.on (zl_ HB));rintro e w12 ⟨rfl,hb⟩;refine ⟨_,rfl,?_⟩;replace HB := zs_ HB hb;(try clear hb)))
 go_ret
 exact ⟨zt_,zl_ HB⟩
def ZD.T1 : Bool × List (List Nat × List Nat) := (true,[([],[]),([0],[0]),([1,1],[1]),([2],[2]),([3,2,2],[2,3]),([2,4],[2,4]),([5,4],[5]),([6],[6]),([7,6],[6,7]),([6],[6]),([8,9,6],[6,8,9]),([6,10],[6,10]),([11,6],[11]),([12],[12]),([13,12],[12,13]),([12],[12]),([15,12],[12,15]),([12],[12]),([17,12,12],[12,17]),([16,18,18,12],[12,16,18]),([14,19,12],[12,14,19]),([12,20],[12,20]),([21,19,0,1,2,3,4,5,6,7,8,9,10,11,12,13,14,15,16,17,18,19,20,21],[21])])
def ZD.B1 : List Nat := [0,1,3,7,15,31,63,127,255,127,1023,2047,4095,8191,16383,8191,40959,8191,139263,499711,1048575,2097151,4194303]
theorem ZD.tab1 : rtab .any (opsOf Tryz.f30 1) = ZD.T1 := by kernel_rfl
theorem ZD.bits1 : waitsOk ZD.T1.2 ZD.B1 = true := by kernel_rfl
theorem ZD.calls (k : Nat) (a0 : Int) (a1_0 : Int) (a1_1 : Int) (a1_2 : Int) (a1_3 : Int) (a1_4 : ByteArray) (a1_5 : ByteArray) (a1_6 : ByteArray) (r : Bool) (w : World) (hL : Laid w) (h : ZD.f k a0 a1_0 a1_1 a1_2 a1_3 a1_4 a1_5 a1_6 = some r) :
  Calls Tryz.prog 30 #[.int .i64 a0,.agg #[.int .i64 a1_0,.int .i64 a1_1,.int .i64 a1_2,.int .i64 a1_3,.string a1_4,.string a1_5,.string a1_6]] w fun e w' => e = .returned (.bool r) ∧ Below w.heap.size w w' := by
 have hu40 := Tryz.underlying40
 have HLD := am_ hL
 clear hL
 have HB := am_ (Below.refl w.heap.size w)
 have H : ((ZX.f a0).bind fun t532 => (if t532 = true then ((Zn.f k a1_0 a1_1 a1_2 a1_3 a1_4 a1_5 a1_6).bind fun t533 => (if t533 = true then (if a1_3 < a0 then ((ZK.f k a1_0 a1_1 a1_2 a1_3 a1_4 a1_5 a1_6).bind fun t534 => ((Yg.f k a1_3 t534).bind fun t535 => (some (a1_6.toList == t535.toList)))) else (some false)) else (some false))) else (some false))) = some r := h
 clear h
 replace H := Option.bind_eq_some_iff.mp H
 obtain ⟨t532,A30,H⟩ := H
 try dsimp only at H
 have A3 := am_ A30
 clear A30
 by_cases c4 : t532 = true
 case neg =>
  replace c4 := Bool.eq_false_iff.mpr c4
  subst c4
  rw [if_neg (show ¬ (false = true) by decide)] at H
  obtain rfl := Option.some.inj H
  go_enter Tryz.func30,Tryz.ntmps30
  try go_wp2_with (first | ((with_reducible refine gate_dst (N := 3) rfl ?_);refine zbx (N := 3) (cs := #[.int .i64 a1_0,.int .i64 a1_1,.int .i64 a1_2,.int .i64 a1_3,.string a1_4,.string a1_5,.string a1_6]) (t := 40) ?_;intro gb531 hg w21 hbox hb;have BK531 := am_ (hbox);have GW531 := zw_ HB hg;have GE531 := zw_ HB hg;replace HB := zs_ HB hb;clear hb hbox hg))
  replace BK531 := am_ (blk_drew BK531.out)
  replace HB := am_ (below_drew1 HB.out)
  refine start_ (n := 23) (S := fun w' => True) (ds := []) #[false,false,false,false,false,false,false,false,false,false,false,false,false,false,false,false,false,false,false,false,false,false,false] (by kernel_rfl) rfl rfl trivial (fun hHeld => ?_);refine with_tabW ZD.tab1 ZD.bits1 (fun HT_ HW_ => ?_)
  generalize w21.drew = w22 at BK531 HB hHeld ⊢
  refine pu_ 0 5 HT_ ?_
  refine zon 1 (N := some 6) HT_ (fun K hK => ?_)
  refine zgo Tryz.func13 #[.int .i64 a0] ?_
  with_reducible refine (ZX.calls a0 false _ A3.out).mono ?_
  rintro e w' ⟨rfl,⟨nd,rfl⟩⟩
  refine ⟨_,rfl,?_⟩
  refine hK.out _ _ trivial (fun hHeld => ?_)
  clear hK K
  refine nm_ ?_
  refine pu_ 2 7 HT_ ?_
  refine px_ 3 8 HT_ ?_
  refine px_ 4 9 HT_ ?_
  refine pu_ 5 10 HT_ ?_
  refine pu_ 6 11 HT_ ?_
  refine px_ 7 12 HT_ ?_
  refine px_ 8 13 HT_ ?_
  refine px_ 9 14 HT_ ?_
  refine px_ 10 15 HT_ ?_
  refine pu_ 11 16 HT_ ?_
  refine pu_ 12 17 HT_ ?_
  refine px_ 13 18 HT_ ?_
  refine px_ 14 19 HT_ ?_
  refine px_ 15 20 HT_ ?_
  refine px_ 16 21 HT_ ?_
  refine px_ 17 22 HT_ ?_
  refine px_ 18 23 HT_ ?_
  refine px_ 19 24 HT_ ?_
  refine px_ 20 25 HT_ ?_
  refine pu_ 21 26 HT_ ?_
  refine pu_ 22 4 HT_ ?_
  refine done_ (done_of HT_.out (by kernel_rfl)) ?_
  try go_wp2
  go_ret
  exact ⟨zt_,zl_ HB⟩
 subst c4
 rw [if_pos rfl] at H
 replace H := Option.bind_eq_some_iff.mp H
 obtain ⟨t533,A50,H⟩ := H
 try dsimp only at H
 have A5 := am_ A50
 clear A50
 go_enter Tryz.func30,Tryz.ntmps30
 try go_wp2_with (first | ((with_reducible refine gate_dst (N := 3) rfl ?_);refine zbx (N := 3) (cs := #[.int .i64 a1_0,.int .i64 a1_1,.int .i64 a1_2,.int .i64 a1_3,.string a1_4,.string a1_5,.string a1_6]) (t := 40) ?_;intro gb531 hg w10 hbox hb;have BK531 := am_ (hbox);have GW531 := zw_ HB hg;have GE531 := zw_ HB hg;replace HB := zs_ HB hb;clear hb hbox hg))
 replace BK531 := am_ (blk_drew BK531.out)
 replace HB := am_ (below_drew1 HB.out)
 refine start_ (n := 23) (S := fun w' => w'.cell? ⟨gb531,0,none⟩ = some (.int .i64 a1_0) ∧ w'.cell? ⟨gb531,1,none⟩ = some (.int .i64 a1_1) ∧ w'.cell? ⟨gb531,2,none⟩ = some (.int .i64 a1_2) ∧ w'.cell? ⟨gb531,3,none⟩ = some (.int .i64 a1_3) ∧ w'.cell? ⟨gb531,4,none⟩ = some (.string a1_4) ∧ w'.cell? ⟨gb531,5,none⟩ = some (.string a1_5) ∧ w'.cell? ⟨gb531,6,none⟩ = some (.string a1_6)) (ds := []) #[false,false,false,false,false,false,false,false,false,false,false,false,false,false,false,false,false,false,false,false,false,false,false] (by kernel_rfl) rfl rfl ⟨(blk_cell BK531.out 0).trans rfl,(blk_cell BK531.out 1).trans rfl,(blk_cell BK531.out 2).trans rfl,(blk_cell BK531.out 3).trans rfl,(blk_cell BK531.out 4).trans rfl,(blk_cell BK531.out 5).trans rfl,(blk_cell BK531.out 6).trans rfl⟩ (fun hHeld => ?_);refine with_tabW ZD.tab1 ZD.bits1 (fun HT_ HW_ => ?_)
 generalize w10.drew = w11 at BK531 HB hHeld ⊢
 refine pu_ 0 5 HT_ ?_
 refine zon 1 (N := some 6) HT_ (fun K hK => ?_)
 refine zgo Tryz.func13 #[.int .i64 a0] ?_
 with_reducible refine (ZX.calls a0 true _ A3.out).mono ?_
 rintro e w' ⟨rfl,⟨nd,rfl⟩⟩
 refine ⟨_,rfl,?_⟩
 refine hK.out _ _ ⟨(blk_cell BK531.out 0).trans rfl,(blk_cell BK531.out 1).trans rfl,(blk_cell BK531.out 2).trans rfl,(blk_cell BK531.out 3).trans rfl,(blk_cell BK531.out 4).trans rfl,(blk_cell BK531.out 5).trans rfl,(blk_cell BK531.out 6).trans rfl⟩ (fun hHeld => ?_)
 clear hK K
 refine nm_ ?_
 refine pu_ 2 7 HT_ ?_
 refine tk_ 3 8 HT_ HW_ hHeld ?_
 refine zon 4 (N := some 9) HT_ (fun K hK => ?_)
 refine zgo Tryz.func43 #[.agg #[.int .i64 a1_0,.int .i64 a1_1,.int .i64 a1_2,.int .i64 a1_3,.string a1_4,.string a1_5,.string a1_6]] ?_
 with_reducible refine (Zn.calls k a1_0 a1_1 a1_2 a1_3 a1_4 a1_5 a1_6 t533 _ A5.out).mono ?_
 rintro e w12 ⟨rfl,hb⟩
 refine ⟨_,rfl,?_⟩
 replace BK531 := zb BK531 hb
 replace HB := zs_ HB hb
 try clear hb
 refine hK.out _ _ ⟨(blk_cell BK531.out 0).trans rfl,(blk_cell BK531.out 1).trans rfl,(blk_cell BK531.out 2).trans rfl,(blk_cell BK531.out 3).trans rfl,(blk_cell BK531.out 4).trans rfl,(blk_cell BK531.out 5).trans rfl,(blk_cell BK531.out 6).trans rfl⟩ (fun hHeld => ?_)
 clear hK K
 refine nm_ ?_
 by_cases c6 : t533 = true
 case neg =>
  replace c6 := Bool.eq_false_iff.mpr c6
  subst c6
  rw [if_neg (show ¬ (false = true) by decide)] at H
  obtain rfl := Option.some.inj H
  refine pu_ 5 10 HT_ ?_
  refine pu_ 6 11 HT_ ?_
  refine px_ 7 12 HT_ ?_
  refine px_ 8 13 HT_ ?_
  refine px_ 9 14 HT_ ?_
  refine px_ 10 15 HT_ ?_
  refine pu_ 11 16 HT_ ?_
  refine pu_ 12 17 HT_ ?_
  refine px_ 13 18 HT_ ?_
  refine px_ 14 19 HT_ ?_
  refine px_ 15 20 HT_ ?_
  refine px_ 16 21 HT_ ?_
  refine px_ 17 22 HT_ ?_
  refine px_ 18 23 HT_ ?_
  refine px_ 19 24 HT_ ?_
  refine px_ 20 25 HT_ ?_
  refine pu_ 21 26 HT_ ?_
  refine pu_ 22 4 HT_ ?_
  refine done_ (done_of HT_.out (by kernel_rfl)) ?_
  try go_wp2
  go_ret
  exact ⟨zt_,zl_ HB⟩
 subst c6
 rw [if_pos rfl] at H
 by_cases c7 : a1_3 < a0
 case neg =>
  rw [if_neg c7] at H
  have c7b0 := decide_eq_false c7
  clear c7
  obtain rfl := Option.some.inj H
  refine pu_ 5 10 HT_ ?_
  refine pu_ 6 11 HT_ ?_
  refine pu_ 7 12 HT_ ?_
  refine pu_ 9 14 HT_ ?_
  refine tk_ 8 13 HT_ HW_ hHeld ?_
  refine pu_ 10 15 HT_ ?_
  refine pu_ 11 16 HT_ ?_
  refine pu_ 12 17 HT_ ?_
  refine px_ 13 18 HT_ ?_
  refine px_ 14 19 HT_ ?_
  refine px_ 15 20 HT_ ?_
  refine px_ 16 21 HT_ ?_
  refine px_ 17 22 HT_ ?_
  refine px_ 18 23 HT_ ?_
  refine px_ 19 24 HT_ ?_
  refine px_ 20 25 HT_ ?_
  refine pu_ 21 26 HT_ ?_
  refine pu_ 22 4 HT_ ?_
  refine done_ (done_of HT_.out (by kernel_rfl)) ?_
  try go_wp2
  go_ret
  exact ⟨zt_,zl_ HB⟩
 rw [if_pos c7] at H
 have c7b0 := decide_eq_true c7
 clear c7
 replace H := Option.bind_eq_some_iff.mp H
 obtain ⟨t534,A80,H⟩ := H
 try dsimp only at H
 have A8 := am_ A80
 clear A80
 replace H := Option.bind_eq_some_iff.mp H
 obtain ⟨t535,A90,H⟩ := H
 try dsimp only at H
 have A9 := am_ A90
 clear A90
 obtain rfl := Option.some.inj H
 refine pu_ 5 10 HT_ ?_
 refine pu_ 6 11 HT_ ?_
 refine pu_ 7 12 HT_ ?_
 refine pu_ 9 14 HT_ ?_
 refine tk_ 8 13 HT_ HW_ hHeld ?_
 refine pu_ 10 15 HT_ ?_
 refine pu_ 11 16 HT_ ?_
 refine pu_ 12 17 HT_ ?_
 refine pu_ 13 18 HT_ ?_
 refine pu_ 15 20 HT_ ?_
 refine tk_ 14 19 HT_ HW_ hHeld ?_
 refine tk_ 16 21 HT_ HW_ hHeld ?_
 refine tk_ 17 22 HT_ HW_ hHeld ?_
 refine zon 18 (N := some 23) HT_ (fun K hK => ?_)
 refine zgo Tryz.func45 #[.agg #[.int .i64 a1_0,.int .i64 a1_1,.int .i64 a1_2,.int .i64 a1_3,.string a1_4,.string a1_5,.string a1_6]] ?_
 with_reducible refine (ZK.calls k a1_0 a1_1 a1_2 a1_3 a1_4 a1_5 a1_6 t534 _ A8.out).mono ?_
 rintro e w13 ⟨rfl,hb⟩
 refine ⟨_,rfl,?_⟩
 replace BK531 := zb BK531 hb
 replace HB := zs_ HB hb
 try clear hb
 refine hK.out _ _ ⟨(blk_cell BK531.out 0).trans rfl,(blk_cell BK531.out 1).trans rfl,(blk_cell BK531.out 2).trans rfl,(blk_cell BK531.out 3).trans rfl,(blk_cell BK531.out 4).trans rfl,(blk_cell BK531.out 5).trans rfl,(blk_cell BK531.out 6).trans rfl⟩ (fun hHeld => ?_)
 clear hK K
 refine nm_ ?_
 refine zon 19 (N := some 24) HT_ (fun K hK => ?_)
 refine zgo Tryz.func44 #[.int .i64 a1_3,.string t534] ?_
 with_reducible refine (Yg.calls k a1_3 t534 t535 _ ?side1 A9.out).mono ?_
 (case side1 => exact HLD.out.on (zl_ HB))
 rintro e w14 ⟨rfl,hb⟩
 refine ⟨_,rfl,?_⟩
 replace BK531 := zb BK531 hb
 replace HB := zs_ HB hb
 try clear hb
 refine hK.out _ _ ⟨(blk_cell BK531.out 0).trans rfl,(blk_cell BK531.out 1).trans rfl,(blk_cell BK531.out 2).trans rfl,(blk_cell BK531.out 3).trans rfl,(blk_cell BK531.out 4).trans rfl,(blk_cell BK531.out 5).trans rfl,(blk_cell BK531.out 6).trans rfl⟩ (fun hHeld => ?_)
 clear hK K
 refine nm_ ?_
 refine pu_ 20 25 HT_ ?_
 refine pu_ 21 26 HT_ ?_
 refine pu_ 22 4 HT_ ?_
 refine done_ (done_of HT_.out (by kernel_rfl)) ?_
 try go_wp2
 go_ret
 exact ⟨zt_,zl_ HB⟩
def Zp.T4 : Bool × List (List Nat × List Nat) := (true,[([],[]),([0],[0]),([],[]),([1,2],[1,2]),([3],[3]),([4],[4]),([5,4],[4,5]),([4],[4]),([6,7,4],[4,6,7]),([4,8],[4,8]),([9,4],[9]),([10],[10]),([11,10],[10,11]),([10],[10]),([12,13,10],[10,12,13]),([10,14],[10,14]),([15,10],[15]),([16],[16]),([16],[16]),([17,18,16,16],[16,17,18]),([19,16],[16,19]),([16,20],[16,20]),([21,19],[21]),([22],[22]),([23,22],[22,23]),([24,22,22],[22,24]),([25],[25]),([25],[25]),([27,25],[25,27]),([26,28,25],[25,26,28]),([29,25],[25,29]),([30,25],[25,30]),([25],[25]),([32,25],[25,32]),([31,33,25],[25,31,33]),([25,34,22],[22,25,34]),([22,35],[22,35])])
def Zp.B4 : List Nat := [0,1,0,7,15,31,63,31,255,511,1023,2047,4095,2047,16383,32767,65535,131071,131071,524287,1048575,2097151,4194303,8388607,16777215,33554431,67108863,67108863,201326591,536870911,1073741823,2147483647,67108863,4362076159,17179869183,34359738367,68719476735]
theorem Zp.tab4 : rtab .any (opsOf Tryz.f17 4) = Zp.T4 := by kernel_rfl
theorem Zp.bits4 : waitsOk Zp.T4.2 Zp.B4 = true := by kernel_rfl
theorem Zp.calls (k : Nat) (a0 : Int) (A1 : Option Addr) (c1 : Nat) (l1 : List (S40)) (a2 : Int) (a3 : Int) (a4 : Int) (r : Bool) (w : World) (hr1 : Kd.C k40 w A1 l1.length l1) (hc1 : l1.length ≤ c1) (hL : Laid w) (h : Zp.f k a0 l1 a2 a3 a4 = some r) :
  Calls Tryz.prog 17 #[.int .i64 a0,.slice A1 l1.length c1,.int .i64 a2,.int .i64 a3,.int .i64 a4] w fun e w' => e = .returned (.bool r) ∧ Below w.heap.size w w' := by
 have hu40 := Tryz.underlying40
 have HR1 := am_ hr1
 have HC1 := am_ hc1
 clear hr1 hc1
 have HLD := am_ hL
 clear hL
 have HB := am_ (Below.refl w.heap.size w)
 have H : (Zp.l0 k a0 l1 a2 a3 a4 l1 (l1.length : Int) 0) = some r := h
 clear h
 have H' := am_ H
 clear H
 go_enter Tryz.func17,Tryz.ntmps17
 go_wp2
 go_loopg [15] k (fun kq v15 w' => ∃ (x15_1 : Int),v15 = .int .i64 x15_1 ∧ Aside0 (Zp.l0 kq a0 l1 a2 a3 a4 l1 (l1.length : Int) x15_1 = some r) ∧ Aside0 (kq ≤ k) ∧ Aside0 (Below w.heap.size w w'))
 case atStart => exact ⟨(0),(by first | rfl | (simp;done) | (simp [*];done)),H',⟨Nat.le_refl _⟩,⟨zl_ HB⟩⟩
 case round =>
  clear H'
  try clear c1
  try clear p2
  obtain ⟨x15_1,rfl,HA,HK1,HB⟩ := hrel
  cases gk with
  | zero => exact absurd HA.out (by simp [Zp.l0])
  | succ k1 =>
   have H := HA.out
   clear HA
   simp only [Zp.l0] at H
   by_cases c6 : x15_1 < (l1.length : Int)
   case neg =>
    rw [if_neg c6] at H
    have c6b0 := decide_eq_false c6
    clear c6
    obtain rfl := Option.some.inj H
    go_wp2
    go_ret
    exact ⟨zt_,zl_ HB⟩
   rw [if_pos c6] at H
   have c6b0 := decide_eq_true c6
   clear c6
   by_cases c7 : 0 ≤ x15_1
   case neg =>
    rw [if_neg c7] at H
    exact absurd H (by simp)
   rw [if_pos c7] at H
   have c7b0 := decide_eq_true c7
   clear c7
   by_cases c8 : x15_1 < (l1.length : Int)
   case neg =>
    rw [if_neg c8] at H
    exact absurd H (by simp)
   rw [if_pos c8] at H
   have c8b0 := decide_eq_true c8
   clear c8
   have p536 : 0 ≤ (x15_1 : Int) := zo_
   have q536 : x15_1 < (l1.length : Int) := zo_
   obtain ⟨ad536,e536,hx536_0,hx536_1,hx536_2,hx536_3,hx536_4,hx536_5,hx536_6⟩ := at_T40 HR1.out x15_1 p536 q536
   cases e536
   replace hx536_0 := zx_ HB hx536_0
   replace hx536_1 := zx_ HB hx536_1
   replace hx536_2 := zx_ HB hx536_2
   replace hx536_3 := zx_ HB hx536_3
   replace hx536_4 := zx_ HB hx536_4
   replace hx536_5 := zx_ HB hx536_5
   replace hx536_6 := zx_ HB hx536_6
   replace p536 := eq_true p536
   replace q536 := eq_true q536
   try go_wp2_with (first | ((with_reducible refine gate_dst (N := 12) rfl ?_);refine zbx (N := 12) (cs := #[.int .i64 0,.int .i64 0,.int .i64 0,.int .i64 0,.string ⟨#[]⟩,.string ⟨#[]⟩,.string ⟨#[]⟩]) (t := 40) ?_;intro gb537 hg w19 hbox hb;have BK537 := am_ (hbox);have GW537 := zw_ HB hg;have GE537 := zw_ HB hg;replace HB := zs_ HB hb;clear hb hbox hg;obtain ⟨hcz20_0,hcz20_1,hcz20_2,hcz20_3,hcz20_4,hcz20_5,hcz20_6,hfz20_0,hfz20_1,hfz20_2,hfz20_3,hfz20_4,hfz20_5,hfz20_6⟩ := zc7 BK537))
   have n0_ : Aside0 ((((((((w19.setCell ⟨gb537,0,none⟩ (.int .i64 ((rd_T40 l1 x15_1).f0))).setCell ⟨gb537,1,none⟩ (.int .i64 ((rd_T40 l1 x15_1).f1))).setCell ⟨gb537,2,none⟩ (.int .i64 ((rd_T40 l1 x15_1).f2))).setCell ⟨gb537,3,none⟩ (.int .i64 ((rd_T40 l1 x15_1).f3))).setCell ⟨gb537,4,none⟩ (.string ((rd_T40 l1 x15_1).f4))).setCell ⟨gb537,5,none⟩ (.string ((rd_T40 l1 x15_1).f5))).setCell ⟨gb537,6,none⟩ (.string ((rd_T40 l1 x15_1).f6))).heap[gb537]? = some (.cells #[.int .i64 ((rd_T40 l1 x15_1).f0),.int .i64 ((rd_T40 l1 x15_1).f1),.int .i64 ((rd_T40 l1 x15_1).f2),.int .i64 ((rd_T40 l1 x15_1).f3),.string ((rd_T40 l1 x15_1).f4),.string ((rd_T40 l1 x15_1).f5),.string ((rd_T40 l1 x15_1).f6)] 40 (0,0))) := ⟨zq BK537⟩
   have n1_ : Aside0 (Below w.heap.size w (((((((w19.setCell ⟨gb537,0,none⟩ (.int .i64 ((rd_T40 l1 x15_1).f0))).setCell ⟨gb537,1,none⟩ (.int .i64 ((rd_T40 l1 x15_1).f1))).setCell ⟨gb537,2,none⟩ (.int .i64 ((rd_T40 l1 x15_1).f2))).setCell ⟨gb537,3,none⟩ (.int .i64 ((rd_T40 l1 x15_1).f3))).setCell ⟨gb537,4,none⟩ (.string ((rd_T40 l1 x15_1).f4))).setCell ⟨gb537,5,none⟩ (.string ((rd_T40 l1 x15_1).f5))).setCell ⟨gb537,6,none⟩ (.string ((rd_T40 l1 x15_1).f6)))) := ⟨zl_ HB⟩
   (try clear BK537)
   (try clear HB)
   generalize (((((((w19.setCell ⟨gb537,0,none⟩ (.int .i64 ((rd_T40 l1 x15_1).f0))).setCell ⟨gb537,1,none⟩ (.int .i64 ((rd_T40 l1 x15_1).f1))).setCell ⟨gb537,2,none⟩ (.int .i64 ((rd_T40 l1 x15_1).f2))).setCell ⟨gb537,3,none⟩ (.int .i64 ((rd_T40 l1 x15_1).f3))).setCell ⟨gb537,4,none⟩ (.string ((rd_T40 l1 x15_1).f4))).setCell ⟨gb537,5,none⟩ (.string ((rd_T40 l1 x15_1).f5))).setCell ⟨gb537,6,none⟩ (.string ((rd_T40 l1 x15_1).f6))) = w21 at n0_ n1_ ⊢
   have BK537 := n0_
   have HB := n1_
   clear n0_ n1_
   replace BK537 := am_ (blk_drew BK537.out)
   replace HB := am_ (below_drew1 HB.out)
   by_cases c9 : ((rd_T40 l1 x15_1).f0) = a2
   case neg =>
    rw [if_neg c9] at H
    have c9b0 := beq_eq_false_iff_ne.mpr c9
    have c9b1 := bne_iff_ne.mpr c9
    obtain rfl := Option.some.inj H
    refine start_ (n := 37) (S := fun w' => w'.cell? ⟨gb537,0,none⟩ = some (.int .i64 ((rd_T40 l1 x15_1).f0)) ∧ w'.cell? ⟨gb537,1,none⟩ = some (.int .i64 ((rd_T40 l1 x15_1).f1)) ∧ w'.cell? ⟨gb537,2,none⟩ = some (.int .i64 ((rd_T40 l1 x15_1).f2)) ∧ w'.cell? ⟨gb537,3,none⟩ = some (.int .i64 ((rd_T40 l1 x15_1).f3)) ∧ w'.cell? ⟨gb537,4,none⟩ = some (.string ((rd_T40 l1 x15_1).f4)) ∧ w'.cell? ⟨gb537,5,none⟩ = some (.string ((rd_T40 l1 x15_1).f5)) ∧ w'.cell? ⟨gb537,6,none⟩ = some (.string ((rd_T40 l1 x15_1).f6))) (ds := []) #[false,false,false,false,false,false,false,false,false,false,false,false,false,false,false,false,false,false,false,false,false,false,false,false,false,false,false,false,false,false,false,false,false,false,false,false,false] (by kernel_rfl) rfl rfl ⟨(blk_cell BK537.out 0).trans rfl,(blk_cell BK537.out 1).trans rfl,(blk_cell BK537.out 2).trans rfl,(blk_cell BK537.out 3).trans rfl,(blk_cell BK537.out 4).trans rfl,(blk_cell BK537.out 5).trans rfl,(blk_cell BK537.out 6).trans rfl⟩ (fun hHeld => ?_);refine with_tabW Zp.tab4 Zp.bits4 (fun HT_ HW_ => ?_)
    generalize w21.drew = w50 at BK537 HB hHeld ⊢
    refine pu_ 0 20 HT_ ?_
    refine pu_ 2 22 HT_ ?_
    refine tk_ 1 21 HT_ HW_ hHeld ?_
    refine pu_ 3 23 HT_ ?_
    refine pu_ 4 24 HT_ ?_
    refine px_ 5 25 HT_ ?_
    refine px_ 6 26 HT_ ?_
    refine px_ 7 27 HT_ ?_
    refine px_ 8 28 HT_ ?_
    refine pu_ 9 29 HT_ ?_
    refine pu_ 10 30 HT_ ?_
    refine px_ 11 31 HT_ ?_
    refine px_ 12 32 HT_ ?_
    refine px_ 13 33 HT_ ?_
    refine px_ 14 34 HT_ ?_
    refine pu_ 15 35 HT_ ?_
    refine pu_ 16 36 HT_ ?_
    refine px_ 17 37 HT_ ?_
    refine px_ 18 38 HT_ ?_
    refine px_ 19 39 HT_ ?_
    refine px_ 20 40 HT_ ?_
    refine pu_ 21 41 HT_ ?_
    refine pu_ 22 42 HT_ ?_
    refine px_ 23 43 HT_ ?_
    refine px_ 24 44 HT_ ?_
    refine px_ 25 45 HT_ ?_
    refine px_ 26 46 HT_ ?_
    refine px_ 27 47 HT_ ?_
    refine px_ 28 48 HT_ ?_
    refine px_ 29 49 HT_ ?_
    refine px_ 30 50 HT_ ?_
    refine px_ 31 51 HT_ ?_
    refine px_ 32 52 HT_ ?_
    refine px_ 33 53 HT_ ?_
    refine px_ 34 54 HT_ ?_
    refine px_ 35 55 HT_ ?_
    refine pu_ 36 56 HT_ ?_
    refine done_ (done_of HT_.out (by kernel_rfl)) ?_
    try go_wp2
    go_ret
    exact ⟨zt_,zl_ HB⟩
   rw [if_pos c9] at H
   have c9b0 := beq_iff_eq.mpr c9
   have c9b1 := bne_eq_false_iff_eq.mpr c9
   clear c9
   by_cases c10 : ((rd_T40 l1 x15_1).f1) = a3
   case neg =>
    rw [if_neg c10] at H
    have c10b0 := beq_eq_false_iff_ne.mpr c10
    have c10b1 := bne_iff_ne.mpr c10
    obtain rfl := Option.some.inj H
    refine start_ (n := 37) (S := fun w' => w'.cell? ⟨gb537,0,none⟩ = some (.int .i64 ((rd_T40 l1 x15_1).f0)) ∧ w'.cell? ⟨gb537,1,none⟩ = some (.int .i64 ((rd_T40 l1 x15_1).f1)) ∧ w'.cell? ⟨gb537,2,none⟩ = some (.int .i64 ((rd_T40 l1 x15_1).f2)) ∧ w'.cell? ⟨gb537,3,none⟩ = some (.int .i64 ((rd_T40 l1 x15_1).f3)) ∧ w'.cell? ⟨gb537,4,none⟩ = some (.string ((rd_T40 l1 x15_1).f4)) ∧ w'.cell? ⟨gb537,5,none⟩ = some (.string ((rd_T40 l1 x15_1).f5)) ∧ w'.cell? ⟨gb537,6,none⟩ = some (.string ((rd_T40 l1 x15_1).f6))) (ds := []) #[false,false,false,false,false,false,false,false,false,false,false,false,false,false,false,false,false,false,false,false,false,false,false,false,false,false,false,false,false,false,false,false,false,false,false,false,false] (by kernel_rfl) rfl rfl ⟨(blk_cell BK537.out 0).trans rfl,(blk_cell BK537.out 1).trans rfl,(blk_cell BK537.out 2).trans rfl,(blk_cell BK537.out 3).trans rfl,(blk_cell BK537.out 4).trans rfl,(blk_cell BK537.out 5).trans rfl,(blk_cell BK537.out 6).trans rfl⟩ (fun hHeld => ?_);refine with_tabW Zp.tab4 Zp.bits4 (fun HT_ HW_ => ?_)
    generalize w21.drew = w46 at BK537 HB hHeld ⊢
    refine pu_ 0 20 HT_ ?_
    refine pu_ 2 22 HT_ ?_
    refine tk_ 1 21 HT_ HW_ hHeld ?_
    refine pu_ 3 23 HT_ ?_
    refine pu_ 4 24 HT_ ?_
    refine pu_ 5 25 HT_ ?_
    refine pu_ 7 27 HT_ ?_
    refine tk_ 6 26 HT_ HW_ hHeld ?_
    refine pu_ 8 28 HT_ ?_
    refine pu_ 9 29 HT_ ?_
    refine pu_ 10 30 HT_ ?_
    refine px_ 11 31 HT_ ?_
    refine px_ 12 32 HT_ ?_
    refine px_ 13 33 HT_ ?_
    refine px_ 14 34 HT_ ?_
    refine pu_ 15 35 HT_ ?_
    refine pu_ 16 36 HT_ ?_
    refine px_ 17 37 HT_ ?_
    refine px_ 18 38 HT_ ?_
    refine px_ 19 39 HT_ ?_
    refine px_ 20 40 HT_ ?_
    refine pu_ 21 41 HT_ ?_
    refine pu_ 22 42 HT_ ?_
    refine px_ 23 43 HT_ ?_
    refine px_ 24 44 HT_ ?_
    refine px_ 25 45 HT_ ?_
    refine px_ 26 46 HT_ ?_
    refine px_ 27 47 HT_ ?_
    refine px_ 28 48 HT_ ?_
    refine px_ 29 49 HT_ ?_
    refine px_ 30 50 HT_ ?_
    refine px_ 31 51 HT_ ?_
    refine px_ 32 52 HT_ ?_
    refine px_ 33 53 HT_ ?_
    refine px_ 34 54 HT_ ?_
    refine px_ 35 55 HT_ ?_
    refine pu_ 36 56 HT_ ?_
    refine done_ (done_of HT_.out (by kernel_rfl)) ?_
    try go_wp2
    go_ret
    exact ⟨zt_,zl_ HB⟩
   rw [if_pos c10] at H
   have c10b0 := beq_iff_eq.mpr c10
   have c10b1 := bne_eq_false_iff_eq.mpr c10
   clear c10
   by_cases c11 : ((rd_T40 l1 x15_1).f2) = a4
   case neg =>
    rw [if_neg c11] at H
    have c11b0 := beq_eq_false_iff_ne.mpr c11
    have c11b1 := bne_iff_ne.mpr c11
    obtain rfl := Option.some.inj H
    refine start_ (n := 37) (S := fun w' => w'.cell? ⟨gb537,0,none⟩ = some (.int .i64 ((rd_T40 l1 x15_1).f0)) ∧ w'.cell? ⟨gb537,1,none⟩ = some (.int .i64 ((rd_T40 l1 x15_1).f1)) ∧ w'.cell? ⟨gb537,2,none⟩ = some (.int .i64 ((rd_T40 l1 x15_1).f2)) ∧ w'.cell? ⟨gb537,3,none⟩ = some (.int .i64 ((rd_T40 l1 x15_1).f3)) ∧ w'.cell? ⟨gb537,4,none⟩ = some (.string ((rd_T40 l1 x15_1).f4)) ∧ w'.cell? ⟨gb537,5,none⟩ = some (.string ((rd_T40 l1 x15_1).f5)) ∧ w'.cell? ⟨gb537,6,none⟩ = some (.string ((rd_T40 l1 x15_1).f6))) (ds := []) #[false,false,false,false,false,false,false,false,false,false,false,false,false,false,false,false,false,false,false,false,false,false,false,false,false,false,false,false,false,false,false,false,false,false,false,false,false] (by kernel_rfl) rfl rfl ⟨(blk_cell BK537.out 0).trans rfl,(blk_cell BK537.out 1).trans rfl,(blk_cell BK537.out 2).trans rfl,(blk_cell BK537.out 3).trans rfl,(blk_cell BK537.out 4).trans rfl,(blk_cell BK537.out 5).trans rfl,(blk_cell BK537.out 6).trans rfl⟩ (fun hHeld => ?_);refine with_tabW Zp.tab4 Zp.bits4 (fun HT_ HW_ => ?_)
    generalize w21.drew = w42 at BK537 HB hHeld ⊢
    refine pu_ 0 20 HT_ ?_
    refine pu_ 2 22 HT_ ?_
    refine tk_ 1 21 HT_ HW_ hHeld ?_
    refine pu_ 3 23 HT_ ?_
    refine pu_ 4 24 HT_ ?_
    refine pu_ 5 25 HT_ ?_
    refine pu_ 7 27 HT_ ?_
    refine tk_ 6 26 HT_ HW_ hHeld ?_
    refine pu_ 8 28 HT_ ?_
    refine pu_ 9 29 HT_ ?_
    refine pu_ 10 30 HT_ ?_
    refine pu_ 11 31 HT_ ?_
    refine pu_ 13 33 HT_ ?_
    refine tk_ 12 32 HT_ HW_ hHeld ?_
    refine pu_ 14 34 HT_ ?_
    refine pu_ 15 35 HT_ ?_
    refine pu_ 16 36 HT_ ?_
    refine px_ 17 37 HT_ ?_
    refine px_ 18 38 HT_ ?_
    refine px_ 19 39 HT_ ?_
    refine px_ 20 40 HT_ ?_
    refine pu_ 21 41 HT_ ?_
    refine pu_ 22 42 HT_ ?_
    refine px_ 23 43 HT_ ?_
    refine px_ 24 44 HT_ ?_
    refine px_ 25 45 HT_ ?_
    refine px_ 26 46 HT_ ?_
    refine px_ 27 47 HT_ ?_
    refine px_ 28 48 HT_ ?_
    refine px_ 29 49 HT_ ?_
    refine px_ 30 50 HT_ ?_
    refine px_ 31 51 HT_ ?_
    refine px_ 32 52 HT_ ?_
    refine px_ 33 53 HT_ ?_
    refine px_ 34 54 HT_ ?_
    refine px_ 35 55 HT_ ?_
    refine pu_ 36 56 HT_ ?_
    refine done_ (done_of HT_.out (by kernel_rfl)) ?_
    try go_wp2
    go_ret
    exact ⟨zt_,zl_ HB⟩
   rw [if_pos c11] at H
   have c11b0 := beq_iff_eq.mpr c11
   have c11b1 := bne_eq_false_iff_eq.mpr c11
   clear c11
   replace H := Option.bind_eq_some_iff.mp H
   obtain ⟨t538,A120,H⟩ := H
   try dsimp only at H
   have A12 := am_ A120
   clear A120
   by_cases c13 : t538 = true
   case neg =>
    replace c13 := Bool.eq_false_iff.mpr c13
    subst c13
    rw [if_neg (show ¬ (false = true) by decide)] at H
    obtain rfl := Option.some.inj H
    refine start_ (n := 37) (S := fun w' => w'.cell? ⟨gb537,0,none⟩ = some (.int .i64 ((rd_T40 l1 x15_1).f0)) ∧ w'.cell? ⟨gb537,1,none⟩ = some (.int .i64 ((rd_T40 l1 x15_1).f1)) ∧ w'.cell? ⟨gb537,2,none⟩ = some (.int .i64 ((rd_T40 l1 x15_1).f2)) ∧ w'.cell? ⟨gb537,3,none⟩ = some (.int .i64 ((rd_T40 l1 x15_1).f3)) ∧ w'.cell? ⟨gb537,4,none⟩ = some (.string ((rd_T40 l1 x15_1).f4)) ∧ w'.cell? ⟨gb537,5,none⟩ = some (.string ((rd_T40 l1 x15_1).f5)) ∧ w'.cell? ⟨gb537,6,none⟩ = some (.string ((rd_T40 l1 x15_1).f6))) (ds := []) #[false,false,false,false,false,false,false,false,false,false,false,false,false,false,false,false,false,false,false,false,false,false,false,false,false,false,false,false,false,false,false,false,false,false,false,false,false] (by kernel_rfl) rfl rfl ⟨(blk_cell BK537.out 0).trans rfl,(blk_cell BK537.out 1).trans rfl,(blk_cell BK537.out 2).trans rfl,(blk_cell BK537.out 3).trans rfl,(blk_cell BK537.out 4).trans rfl,(blk_cell BK537.out 5).trans rfl,(blk_cell BK537.out 6).trans rfl⟩ (fun hHeld => ?_);refine with_tabW Zp.tab4 Zp.bits4 (fun HT_ HW_ => ?_)
    generalize w21.drew = w37 at BK537 HB hHeld ⊢
    refine pu_ 0 20 HT_ ?_
    refine pu_ 2 22 HT_ ?_
    refine tk_ 1 21 HT_ HW_ hHeld ?_
    refine pu_ 3 23 HT_ ?_
    refine pu_ 4 24 HT_ ?_
    refine pu_ 5 25 HT_ ?_
    refine pu_ 7 27 HT_ ?_
    refine tk_ 6 26 HT_ HW_ hHeld ?_
    refine pu_ 8 28 HT_ ?_
    refine pu_ 9 29 HT_ ?_
    refine pu_ 10 30 HT_ ?_
    refine pu_ 11 31 HT_ ?_
    refine pu_ 13 33 HT_ ?_
    refine tk_ 12 32 HT_ HW_ hHeld ?_
    refine pu_ 14 34 HT_ ?_
    refine pu_ 15 35 HT_ ?_
    refine pu_ 16 36 HT_ ?_
    refine pu_ 17 37 HT_ ?_
    refine tk_ 18 38 HT_ HW_ hHeld ?_
    refine zon 19 (N := some 39) HT_ (fun K hK => ?_)
    refine zgo Tryz.func30 #[.int .i64 a0,.agg #[.int .i64 ((rd_T40 l1 x15_1).f0),.int .i64 ((rd_T40 l1 x15_1).f1),.int .i64 ((rd_T40 l1 x15_1).f2),.int .i64 ((rd_T40 l1 x15_1).f3),.string ((rd_T40 l1 x15_1).f4),.string ((rd_T40 l1 x15_1).f5),.string ((rd_T40 l1 x15_1).f6)]] ?_
    with_reducible refine (ZD.calls k1 a0 ((rd_T40 l1 x15_1).f0) ((rd_T40 l1 x15_1).f1) ((rd_T40 l1 x15_1).f2) ((rd_T40 l1 x15_1).f3) ((rd_T40 l1 x15_1).f4) ((rd_T40 l1 x15_1).f5) ((rd_T40 l1 x15_1).f6) false _ ?side1 A12.out).mono ?_
    (case side1 => exact HLD.out.on (zl_ HB))
    rintro e w38 ⟨rfl,hb⟩
    refine ⟨_,rfl,?_⟩
    replace BK537 := zb BK537 hb
    replace HB := zs_ HB hb
    try clear hb
    refine hK.out _ _ ⟨(blk_cell BK537.out 0).trans rfl,(blk_cell BK537.out 1).trans rfl,(blk_cell BK537.out 2).trans rfl,(blk_cell BK537.out 3).trans rfl,(blk_cell BK537.out 4).trans rfl,(blk_cell BK537.out 5).trans rfl,(blk_cell BK537.out 6).trans rfl⟩ (fun hHeld => ?_)
    clear hK K
    refine nm_ ?_
    refine pu_ 20 40 HT_ ?_
    refine pu_ 21 41 HT_ ?_
    refine pu_ 22 42 HT_ ?_
    refine px_ 23 43 HT_ ?_
    refine px_ 24 44 HT_ ?_
    refine px_ 25 45 HT_ ?_
    refine px_ 26 46 HT_ ?_
    refine px_ 27 47 HT_ ?_
    refine px_ 28 48 HT_ ?_
    refine px_ 29 49 HT_ ?_
    refine px_ 30 50 HT_ ?_
    refine px_ 31 51 HT_ ?_
    refine px_ 32 52 HT_ ?_
    refine px_ 33 53 HT_ ?_
    refine px_ 34 54 HT_ ?_
    refine px_ 35 55 HT_ ?_
    refine pu_ 36 56 HT_ ?_
    refine done_ (done_of HT_.out (by kernel_rfl)) ?_
    try go_wp2
    go_ret
    exact ⟨zt_,zl_ HB⟩
   subst c13
   rw [if_pos rfl] at H
   by_cases c14 : x15_1 > 0
   case neg =>
    rw [if_neg c14] at H
    have c14b0 : decide (0 < x15_1) = false := decide_eq_false c14
    clear c14
    have H' := am_ H
    clear H
    refine start_ (n := 37) (S := fun w' => w'.cell? ⟨gb537,0,none⟩ = some (.int .i64 ((rd_T40 l1 x15_1).f0)) ∧ w'.cell? ⟨gb537,1,none⟩ = some (.int .i64 ((rd_T40 l1 x15_1).f1)) ∧ w'.cell? ⟨gb537,2,none⟩ = some (.int .i64 ((rd_T40 l1 x15_1).f2)) ∧ w'.cell? ⟨gb537,3,none⟩ = some (.int .i64 ((rd_T40 l1 x15_1).f3)) ∧ w'.cell? ⟨gb537,4,none⟩ = some (.string ((rd_T40 l1 x15_1).f4)) ∧ w'.cell? ⟨gb537,5,none⟩ = some (.string ((rd_T40 l1 x15_1).f5)) ∧ w'.cell? ⟨gb537,6,none⟩ = some (.string ((rd_T40 l1 x15_1).f6))) (ds := []) #[false,false,false,false,false,false,false,false,false,false,false,false,false,false,false,false,false,false,false,false,false,false,false,false,false,false,false,false,false,false,false,false,false,false,false,false,false] (by kernel_rfl) rfl rfl ⟨(blk_cell BK537.out 0).trans rfl,(blk_cell BK537.out 1).trans rfl,(blk_cell BK537.out 2).trans rfl,(blk_cell BK537.out 3).trans rfl,(blk_cell BK537.out 4).trans rfl,(blk_cell BK537.out 5).trans rfl,(blk_cell BK537.out 6).trans rfl⟩ (fun hHeld => ?_);refine with_tabW Zp.tab4 Zp.bits4 (fun HT_ HW_ => ?_)
    generalize w21.drew = w32 at BK537 HB hHeld ⊢
    refine pu_ 0 20 HT_ ?_
    refine pu_ 2 22 HT_ ?_
    refine tk_ 1 21 HT_ HW_ hHeld ?_
    refine pu_ 3 23 HT_ ?_
    refine pu_ 4 24 HT_ ?_
    refine pu_ 5 25 HT_ ?_
    refine pu_ 7 27 HT_ ?_
    refine tk_ 6 26 HT_ HW_ hHeld ?_
    refine pu_ 8 28 HT_ ?_
    refine pu_ 9 29 HT_ ?_
    refine pu_ 10 30 HT_ ?_
    refine pu_ 11 31 HT_ ?_
    refine pu_ 13 33 HT_ ?_
    refine tk_ 12 32 HT_ HW_ hHeld ?_
    refine pu_ 14 34 HT_ ?_
    refine pu_ 15 35 HT_ ?_
    refine pu_ 16 36 HT_ ?_
    refine pu_ 17 37 HT_ ?_
    refine tk_ 18 38 HT_ HW_ hHeld ?_
    refine zon 19 (N := some 39) HT_ (fun K hK => ?_)
    refine zgo Tryz.func30 #[.int .i64 a0,.agg #[.int .i64 ((rd_T40 l1 x15_1).f0),.int .i64 ((rd_T40 l1 x15_1).f1),.int .i64 ((rd_T40 l1 x15_1).f2),.int .i64 ((rd_T40 l1 x15_1).f3),.string ((rd_T40 l1 x15_1).f4),.string ((rd_T40 l1 x15_1).f5),.string ((rd_T40 l1 x15_1).f6)]] ?_
    with_reducible refine (ZD.calls k1 a0 ((rd_T40 l1 x15_1).f0) ((rd_T40 l1 x15_1).f1) ((rd_T40 l1 x15_1).f2) ((rd_T40 l1 x15_1).f3) ((rd_T40 l1 x15_1).f4) ((rd_T40 l1 x15_1).f5) ((rd_T40 l1 x15_1).f6) true _ ?side1 A12.out).mono ?_
    (case side1 => exact HLD.out.on (zl_ HB))
    rintro e w33 ⟨rfl,hb⟩
    refine ⟨_,rfl,?_⟩
    replace BK537 := zb BK537 hb
    replace HB := zs_ HB hb
    try clear hb
    refine hK.out _ _ ⟨(blk_cell BK537.out 0).trans rfl,(blk_cell BK537.out 1).trans rfl,(blk_cell BK537.out 2).trans rfl,(blk_cell BK537.out 3).trans rfl,(blk_cell BK537.out 4).trans rfl,(blk_cell BK537.out 5).trans rfl,(blk_cell BK537.out 6).trans rfl⟩ (fun hHeld => ?_)
    clear hK K
    refine nm_ ?_
    refine pu_ 20 40 HT_ ?_
    refine pu_ 21 41 HT_ ?_
    refine pu_ 22 42 HT_ ?_
    refine pu_ 23 43 HT_ ?_
    refine pu_ 24 44 HT_ ?_
    refine pu_ 25 45 HT_ ?_
    refine px_ 26 46 HT_ ?_
    refine px_ 27 47 HT_ ?_
    refine px_ 28 48 HT_ ?_
    refine px_ 29 49 HT_ ?_
    refine px_ 30 50 HT_ ?_
    refine px_ 31 51 HT_ ?_
    refine px_ 32 52 HT_ ?_
    refine px_ 33 53 HT_ ?_
    refine px_ 34 54 HT_ ?_
    refine pu_ 35 55 HT_ ?_
    refine pu_ 36 56 HT_ ?_
    refine done_ (done_of HT_.out (by kernel_rfl)) ?_
    try go_wp2
    go_roundg k1
    case measure => have := HK1.out;omega
    case rel => exact ⟨(wrap64 (x15_1 + 1)),(by first | rfl | (simp;done) | (simp [*];done)),H',⟨by have := HK1.out;omega⟩,⟨zl_ HB⟩⟩
   rw [if_pos c14] at H
   have c14b0 : decide (0 < x15_1) = true := decide_eq_true c14
   clear c14
   obtain ⟨ji15,hji15⟩ : ∃ j_ : Int,(wrap64 (x15_1 - 1)) = j_ := ⟨_,rfl⟩
   replace H : (if 0 ≤ (ji15) then (if (ji15) < (l1.length : Int) then (if ((rd_T40 l1 (ji15)).f3) ≥ ((rd_T40 l1 x15_1).f3) then (some false) else (Zp.l0 k1 a0 l1 a2 a3 a4 l1 (l1.length : Int) (wrap64 (x15_1 + 1)))) else (none)) else (none)) = some r := by first | (rw [hji15] at H;exact H) | (simp only [hji15] at H ⊢;exact H)
   (try rw [hji15] at A12)
   have hji15w : (IntKind.i64.wrap (x15_1 - 1)) = ji15 := (i64_w _).trans hji15
   by_cases c16 : 0 ≤ (ji15)
   case neg =>
    rw [if_neg c16] at H
    exact absurd H (by simp)
   rw [if_pos c16] at H
   have c16b0 := decide_eq_true c16
   clear c16
   by_cases c17 : (ji15) < (l1.length : Int)
   case neg =>
    rw [if_neg c17] at H
    exact absurd H (by simp)
   rw [if_pos c17] at H
   have c17b0 := decide_eq_true c17
   clear c17
   have p539 : 0 ≤ ((ji15) : Int) := zo_
   have q539 : (ji15) < (l1.length : Int) := zo_
   obtain ⟨ad539,e539,hx539_0,hx539_1,hx539_2,hx539_3,hx539_4,hx539_5,hx539_6⟩ := at_T40 HR1.out (ji15) p539 q539
   have hw539_6 := hx539_6
   have hw539_5 := hx539_5
   have hw539_4 := hx539_4
   have hw539_3 := hx539_3
   have hw539_2 := hx539_2
   have hw539_1 := hx539_1
   have hw539_0 := hx539_0
   obtain rfl : ad536 = ad539 := (by injection e539)
   replace hx539_0 := zx_ HB hx539_0
   replace hx539_1 := zx_ HB hx539_1
   replace hx539_2 := zx_ HB hx539_2
   replace hx539_3 := zx_ HB hx539_3
   replace hx539_4 := zx_ HB hx539_4
   replace hx539_5 := zx_ HB hx539_5
   replace hx539_6 := zx_ HB hx539_6
   replace p539 := eq_true p539
   replace q539 := eq_true q539
   refine start_ (n := 37) (S := fun w' => w'.cell? ⟨gb537,0,none⟩ = some (.int .i64 ((rd_T40 l1 x15_1).f0)) ∧ w'.cell? ⟨gb537,1,none⟩ = some (.int .i64 ((rd_T40 l1 x15_1).f1)) ∧ w'.cell? ⟨gb537,2,none⟩ = some (.int .i64 ((rd_T40 l1 x15_1).f2)) ∧ w'.cell? ⟨gb537,3,none⟩ = some (.int .i64 ((rd_T40 l1 x15_1).f3)) ∧ w'.cell? ⟨gb537,4,none⟩ = some (.string ((rd_T40 l1 x15_1).f4)) ∧ w'.cell? ⟨gb537,5,none⟩ = some (.string ((rd_T40 l1 x15_1).f5)) ∧ w'.cell? ⟨gb537,6,none⟩ = some (.string ((rd_T40 l1 x15_1).f6)) ∧ w'.cell? (ad536.add (((ji15)).toNat * 7)) = some (.int .i64 ((rd_T40 l1 (ji15)).f0)) ∧ w'.cell? ⟨(ad536.add (((ji15)).toNat * 7)).block,(ad536.add (((ji15)).toNat * 7)).off + 1,none⟩ = some (.int .i64 ((rd_T40 l1 (ji15)).f1)) ∧ w'.cell? ⟨(ad536.add (((ji15)).toNat * 7)).block,(ad536.add (((ji15)).toNat * 7)).off + 2,none⟩ = some (.int .i64 ((rd_T40 l1 (ji15)).f2)) ∧ w'.cell? ⟨(ad536.add (((ji15)).toNat * 7)).block,(ad536.add (((ji15)).toNat * 7)).off + 3,none⟩ = some (.int .i64 ((rd_T40 l1 (ji15)).f3)) ∧ w'.cell? ⟨(ad536.add (((ji15)).toNat * 7)).block,(ad536.add (((ji15)).toNat * 7)).off + 4,none⟩ = some (.string ((rd_T40 l1 (ji15)).f4)) ∧ w'.cell? ⟨(ad536.add (((ji15)).toNat * 7)).block,(ad536.add (((ji15)).toNat * 7)).off + 5,none⟩ = some (.string ((rd_T40 l1 (ji15)).f5)) ∧ w'.cell? ⟨(ad536.add (((ji15)).toNat * 7)).block,(ad536.add (((ji15)).toNat * 7)).off + 6,none⟩ = some (.string ((rd_T40 l1 (ji15)).f6))) (ds := []) #[false,false,false,false,false,false,false,false,false,false,false,false,false,false,false,false,false,false,false,false,false,false,false,false,false,false,false,false,false,false,false,false,false,false,false,false,false] (by kernel_rfl) rfl rfl ⟨(blk_cell BK537.out 0).trans rfl,(blk_cell BK537.out 1).trans rfl,(blk_cell BK537.out 2).trans rfl,(blk_cell BK537.out 3).trans rfl,(blk_cell BK537.out 4).trans rfl,(blk_cell BK537.out 5).trans rfl,(blk_cell BK537.out 6).trans rfl,(zx_ HB hw539_0),(zx_ HB hw539_1),(zx_ HB hw539_2),(zx_ HB hw539_3),(zx_ HB hw539_4),(zx_ HB hw539_5),(zx_ HB hw539_6)⟩ (fun hHeld => ?_);refine with_tabW Zp.tab4 Zp.bits4 (fun HT_ HW_ => ?_)
   generalize w21.drew = w22 at BK537 HB hx539_0 hx539_1 hx539_2 hx539_3 hx539_4 hx539_5 hx539_6 hHeld ⊢
   refine pu_ 0 20 HT_ ?_
   refine pu_ 2 22 HT_ ?_
   refine tk_ 1 21 HT_ HW_ hHeld ?_
   refine pu_ 3 23 HT_ ?_
   refine pu_ 4 24 HT_ ?_
   refine pu_ 5 25 HT_ ?_
   refine pu_ 7 27 HT_ ?_
   refine tk_ 6 26 HT_ HW_ hHeld ?_
   refine pu_ 8 28 HT_ ?_
   refine pu_ 9 29 HT_ ?_
   refine pu_ 10 30 HT_ ?_
   refine pu_ 11 31 HT_ ?_
   refine pu_ 13 33 HT_ ?_
   refine tk_ 12 32 HT_ HW_ hHeld ?_
   refine pu_ 14 34 HT_ ?_
   refine pu_ 15 35 HT_ ?_
   refine pu_ 16 36 HT_ ?_
   refine pu_ 17 37 HT_ ?_
   refine tk_ 18 38 HT_ HW_ hHeld ?_
   refine zon 19 (N := some 39) HT_ (fun K hK => ?_)
   refine zgo Tryz.func30 #[.int .i64 a0,.agg #[.int .i64 ((rd_T40 l1 x15_1).f0),.int .i64 ((rd_T40 l1 x15_1).f1),.int .i64 ((rd_T40 l1 x15_1).f2),.int .i64 ((rd_T40 l1 x15_1).f3),.string ((rd_T40 l1 x15_1).f4),.string ((rd_T40 l1 x15_1).f5),.string ((rd_T40 l1 x15_1).f6)]] ?_
   with_reducible refine (ZD.calls k1 a0 ((rd_T40 l1 x15_1).f0) ((rd_T40 l1 x15_1).f1) ((rd_T40 l1 x15_1).f2) ((rd_T40 l1 x15_1).f3) ((rd_T40 l1 x15_1).f4) ((rd_T40 l1 x15_1).f5) ((rd_T40 l1 x15_1).f6) true _ ?side1 A12.out).mono ?_
   (case side1 => exact HLD.out.on (zl_ HB))
   rintro e w23 ⟨rfl,hb⟩
   refine ⟨_,rfl,?_⟩
   replace BK537 := zb BK537 hb
   replace HB := zs_ HB hb
   try clear hb
   refine hK.out _ _ ⟨(blk_cell BK537.out 0).trans rfl,(blk_cell BK537.out 1).trans rfl,(blk_cell BK537.out 2).trans rfl,(blk_cell BK537.out 3).trans rfl,(blk_cell BK537.out 4).trans rfl,(blk_cell BK537.out 5).trans rfl,(blk_cell BK537.out 6).trans rfl,(zx_ HB hw539_0),(zx_ HB hw539_1),(zx_ HB hw539_2),(zx_ HB hw539_3),(zx_ HB hw539_4),(zx_ HB hw539_5),(zx_ HB hw539_6)⟩ (fun hHeld => ?_)
   clear hK K
   refine nm_ ?_
   by_cases c18 : ((rd_T40 l1 (ji15)).f3) ≥ ((rd_T40 l1 x15_1).f3)
   case neg =>
    rw [if_neg c18] at H
    have c18b0 : decide (((rd_T40 l1 x15_1).f3) ≤ ((rd_T40 l1 (ji15)).f3)) = false := decide_eq_false c18
    clear c18
    have H' := am_ H
    clear H
    refine pu_ 20 40 HT_ ?_
    refine pu_ 21 41 HT_ ?_
    refine pu_ 22 42 HT_ ?_
    refine pu_ 23 43 HT_ ?_
    refine pu_ 24 44 HT_ ?_
    refine pu_ 25 45 HT_ ?_
    refine pu_ 26 46 HT_ ?_
    refine pu_ 27 47 HT_ ?_
    refine pu_ 28 48 HT_ ?_
    refine pu_ 29 49 HT_ ?_
    refine pu_ 30 50 HT_ ?_
    refine pu_ 32 52 HT_ ?_
    refine tk_ 31 51 HT_ HW_ hHeld ?_
    refine tk_ 33 53 HT_ HW_ hHeld ?_
    refine pu_ 34 54 HT_ ?_
    refine pu_ 35 55 HT_ ?_
    refine pu_ 36 56 HT_ ?_
    refine done_ (done_of HT_.out (by kernel_rfl)) ?_
    try go_wp2
    go_roundg k1
    case measure => have := HK1.out;omega
    case rel => exact ⟨(wrap64 (x15_1 + 1)),(by first | rfl | (simp;done) | (simp [*];done)),H',⟨by have := HK1.out;omega⟩,⟨zl_ HB⟩⟩
   rw [if_pos c18] at H
   have c18b0 : decide (((rd_T40 l1 x15_1).f3) ≤ ((rd_T40 l1 (ji15)).f3)) = true := decide_eq_true c18
   clear c18
   obtain rfl := Option.some.inj H
   refine pu_ 20 40 HT_ ?_
   refine pu_ 21 41 HT_ ?_
   refine pu_ 22 42 HT_ ?_
   refine pu_ 23 43 HT_ ?_
   refine pu_ 24 44 HT_ ?_
   refine pu_ 25 45 HT_ ?_
   refine pu_ 26 46 HT_ ?_
   refine pu_ 27 47 HT_ ?_
   refine pu_ 28 48 HT_ ?_
   refine pu_ 29 49 HT_ ?_
   refine pu_ 30 50 HT_ ?_
   refine pu_ 32 52 HT_ ?_
   refine tk_ 31 51 HT_ HW_ hHeld ?_
   refine tk_ 33 53 HT_ HW_ hHeld ?_
   refine pu_ 34 54 HT_ ?_
   refine pu_ 35 55 HT_ ?_
   refine pu_ 36 56 HT_ ?_
   refine done_ (done_of HT_.out (by kernel_rfl)) ?_
   try go_wp2
   go_ret
   exact ⟨by first | rfl | (simp [e1_,e2_] <;> rfl) | (simp only [← hji15];first | rfl | (simp [e1_,e2_] <;> rfl)) | (simp [*,e1_,e2_] <;> rfl) | (simp [e3_,e4_];done) | (simp [*,e3_,e4_];done),zl_ HB⟩
theorem ZO.calls (k : Nat) (a0 : ByteArray) (r : ByteArray) (w : World) (hL : Laid w) (h : ZO.f k a0 = some r) :
  Calls Tryz.prog 16 #[.string a0] w fun e w' => e = .returned (.string r) ∧ Below w.heap.size w w' := by
 have HLD := am_ hL
 clear hL
 have HB := am_ (Below.refl w.heap.size w)
 have H : (if 5 + a0.size ≤ 9223372036854775807 then ((ZV.f k ((⟨#[98,97,116,99,104]⟩ : ByteArray) ++ a0)).bind fun t518 => (some t518)) else (none)) = some r := h
 clear h
 by_cases c2 : 5 + a0.size ≤ 9223372036854775807
 case neg =>
  rw [if_neg c2] at H
  exact absurd H (by simp)
 rw [if_pos c2] at H
 have c2b0 := eq_true c2
 have c2b1 := decide_eq_true c2
 try have c2b2 : (9223372036854775807 < 5 + a0.size) = False := eq_false (Nat.not_lt.2 c2)
 replace H := Option.bind_eq_some_iff.mp H
 obtain ⟨t518,A30,H⟩ := H
 try dsimp only at H
 have A3 := am_ A30
 clear A30
 obtain rfl := Option.some.inj H
 go_enter Tryz.func16,Tryz.ntmps16
 go_wp2_with (first | ((with_reducible refine gate_callee (f := 29) rfl ?_);refine zgl (some 5) Tryz.func29 #[.string ((⟨#[98,97,116,99,104]⟩ : ByteArray) ++ a0)] ?_;(with_reducible refine (ZV.calls k ((⟨#[98,97,116,99,104]⟩ : ByteArray) ++ a0) t518 _ ?side1 A3.out).mono ?_);(case side1 => exact HLD.out.on (zl_ HB));rintro e w4 ⟨rfl,hb⟩;refine ⟨_,rfl,?_⟩;replace HB := zs_ HB hb;(try clear hb)))
 go_ret
 exact ⟨zt_,zl_ HB⟩
theorem eqA52 (d : Nat) (w : World) (x0 y0 : Int) (x1 y1 : Int) (x2 y2 : Int) (x3 y3 : Int) (x4 y4 : ByteArray) :
  (Op.equalIn (d + 2) 52 (.agg #[.int .i64 x0,.int .i64 x1,.int .i64 x2,.int .i64 x3,.string x4]) (.agg #[.int .i64 y0,.int .i64 y1,.int .i64 y2,.int .i64 y3,.string y4])).run Tryz.prog w = .ok (x0 == y0 && (x1 == y1 && (x2 == y2 && (x3 == y3 && (x4.toList == y4.toList))))) w := by
 refine eqA_of Tryz.underlying52 (by kernel_rfl) ?_
 refine eqf_cons (by rfl) (by go_simp;rfl) (by go_simp;rfl) (by go_simp) ?_
 refine eqf_cons (by rfl) (by go_simp;rfl) (by go_simp;rfl) (by go_simp) ?_
 refine eqf_cons (by rfl) (by go_simp;rfl) (by go_simp;rfl) (by go_simp) ?_
 refine eqf_cons (by rfl) (by go_simp;rfl) (by go_simp;rfl) (by go_simp) ?_
 exact eqf_last (by rfl) (by go_simp;rfl) (by go_simp;rfl) (by go_simp)
theorem Yd.calls (a0 : Int) (r : Bool) (w : World) (h : Yd.f a0 = some r) :
  Calls Tryz.prog 86 #[.int .u8 a0] w fun e w' => e = .returned (.bool r) ∧ Drawn0 w w' := by
 have H : (if a0 ≥ 97 then (if a0 ≤ 122 then (some true) else (if a0 ≥ 65 then (if a0 ≤ 90 then (some true) else (some (a0 == 95))) else (some (a0 == 95)))) else (if a0 ≥ 65 then (if a0 ≤ 90 then (some true) else (some (a0 == 95))) else (some (a0 == 95)))) = some r := h
 clear h
 by_cases c2 : a0 ≥ 97
 case neg =>
  rw [if_neg c2] at H
  have c2b0 : decide (97 ≤ a0) = false := decide_eq_false c2
  clear c2
  by_cases c6 : a0 ≥ 65
  case neg =>
   rw [if_neg c6] at H
   have c6b0 : decide (65 ≤ a0) = false := decide_eq_false c6
   clear c6
   obtain rfl := Option.some.inj H
   go_enter Tryz.func86,Tryz.ntmps86
   go_wp2
   go_ret
   exact ⟨by first | rfl | (simp;done) | (simp [*];done),by repeat (first | exact Drawn0.refl _ | apply Drawn0.step)⟩
  rw [if_pos c6] at H
  have c6b0 : decide (65 ≤ a0) = true := decide_eq_true c6
  clear c6
  by_cases c7 : a0 ≤ 90
  ·rw [if_pos c7] at H
   have c7b0 := decide_eq_true c7
   clear c7
   obtain rfl := Option.some.inj H
   go_enter Tryz.func86,Tryz.ntmps86
   go_wp2
   go_ret
   exact ⟨by first | rfl | (simp;done) | (simp [*];done),by repeat (first | exact Drawn0.refl _ | apply Drawn0.step)⟩
  rw [if_neg c7] at H
  have c7b0 := decide_eq_false c7
  clear c7
  obtain rfl := Option.some.inj H
  go_enter Tryz.func86,Tryz.ntmps86
  go_wp2
  go_ret
  exact ⟨by first | rfl | (simp;done) | (simp [*];done),by repeat (first | exact Drawn0.refl _ | apply Drawn0.step)⟩
 rw [if_pos c2] at H
 have c2b0 : decide (97 ≤ a0) = true := decide_eq_true c2
 clear c2
 by_cases c3 : a0 ≤ 122
 ·rw [if_pos c3] at H
  have c3b0 := decide_eq_true c3
  clear c3
  obtain rfl := Option.some.inj H
  go_enter Tryz.func86,Tryz.ntmps86
  go_wp2
  go_ret
  exact ⟨by first | rfl | (simp;done) | (simp [*];done),by repeat (first | exact Drawn0.refl _ | apply Drawn0.step)⟩
 rw [if_neg c3] at H
 have c3b0 := decide_eq_false c3
 clear c3
 by_cases c4 : a0 ≥ 65
 case neg =>
  rw [if_neg c4] at H
  have c4b0 : decide (65 ≤ a0) = false := decide_eq_false c4
  clear c4
  obtain rfl := Option.some.inj H
  go_enter Tryz.func86,Tryz.ntmps86
  go_wp2
  go_ret
  exact ⟨by first | rfl | (simp;done) | (simp [*];done),by repeat (first | exact Drawn0.refl _ | apply Drawn0.step)⟩
 rw [if_pos c4] at H
 have c4b0 : decide (65 ≤ a0) = true := decide_eq_true c4
 clear c4
 by_cases c5 : a0 ≤ 90
 ·rw [if_pos c5] at H
  have c5b0 := decide_eq_true c5
  clear c5
  obtain rfl := Option.some.inj H
  go_enter Tryz.func86,Tryz.ntmps86
  go_wp2
  go_ret
  exact ⟨by first | rfl | (simp;done) | (simp [*];done),by repeat (first | exact Drawn0.refl _ | apply Drawn0.step)⟩
 rw [if_neg c5] at H
 have c5b0 := decide_eq_false c5
 clear c5
 obtain rfl := Option.some.inj H
 go_enter Tryz.func86,Tryz.ntmps86
 go_wp2
 go_ret
 exact ⟨by first | rfl | (simp;done) | (simp [*];done),by repeat (first | exact Drawn0.refl _ | apply Drawn0.step)⟩
theorem Zu.calls (k : Nat) (a0 : ByteArray) (r : Bool) (w : World) (h : Zu.f k a0 = some r) :
  Calls Tryz.prog 81 #[.string a0] w fun e w' => e = .returned (.bool r) ∧ Drawn0 w w' := by
 have H : (if (a0.size : Int) < 1 then (Zu.j0 k a0 true) else (if (a0.size : Int) > 40 then (Zu.j0 k a0 true) else (if 0 < (a0.size : Int) then ((Yd.f (bt a0 0)).bind fun t415 => (Zu.j0 k a0 (!t415))) else (none)))) = some r := h
 clear h
 have HC2 := am_ H
 clear H
 go_enter Tryz.func81,Tryz.ntmps81
 go_upto_region 1 with (fail)
 go_cut [17] (fun v17 wc => ∃ (kq : Nat) (x17_1 : Bool),v17 = .bool x17_1 ∧ Aside0 (Zu.j0 kq a0 x17_1 = some r) ∧ Aside0 (kq ≤ k) ∧ Drawn0 w wc)
 case first =>
  have H := HC2.out
  clear HC2
  by_cases c3 : (a0.size : Int) < 1
  ·rw [if_pos c3] at H
   have c3b0 := decide_eq_true c3
   have c3b1 : decide (a0.size < 1) = true := decide_eq_true (by omega)
   clear c3
   (first | rw [c3b0] | (simp only [i64_w,i32_w];rw [c3b0]) | skip)
   have H' := am_ H
   clear H
   go_wp2
   go_meet
   case rel => exact ⟨_,(true),(by first | rfl | (simp;done) | (simp [*];done)),H',⟨by first | omega | exact Nat.le_refl _⟩,by repeat (first | exact Drawn0.refl _ | apply Drawn0.step)⟩
  rw [if_neg c3] at H
  have c3b0 := decide_eq_false c3
  have c3b1 : decide (a0.size < 1) = false := decide_eq_false (by omega)
  clear c3
  (first | rw [c3b0] | (simp only [i64_w,i32_w];rw [c3b0]) | skip)
  by_cases c4 : (a0.size : Int) > 40
  ·rw [if_pos c4] at H
   have c4b0 : decide (40 < (a0.size : Int)) = true := decide_eq_true c4
   have c4b1 : decide (40 < a0.size) = true := decide_eq_true (by omega)
   clear c4
   have H' := am_ H
   clear H
   go_wp2
   go_meet
   case rel => exact ⟨_,(true),(by first | rfl | (simp;done) | (simp [*];done)),H',⟨by first | omega | exact Nat.le_refl _⟩,by repeat (first | exact Drawn0.refl _ | apply Drawn0.step)⟩
  rw [if_neg c4] at H
  have c4b0 : decide (40 < (a0.size : Int)) = false := decide_eq_false c4
  have c4b1 : decide (40 < a0.size) = false := decide_eq_false (by omega)
  clear c4
  by_cases c5 : 0 < (a0.size : Int)
  case neg =>
   rw [if_neg c5] at H
   exact absurd H (by simp)
  rw [if_pos c5] at H
  have c5b0 := decide_eq_true c5
  have c5b1 : decide (0 < a0.size) = true := decide_eq_true (by omega)
  clear c5
  replace H := Option.bind_eq_some_iff.mp H
  obtain ⟨t415,A70,H⟩ := H
  try dsimp only at H
  have A7 := am_ A70
  clear A70
  have H' := am_ H
  clear H
  have p6 : 0 ≤ (0 : Int) := (by omega)
  have q6 : 0 < a0.size := (by have : (0 : Int) < (a0.size : Int) := zo_;omega)
  have hx6 : ∀ h : 0 < a0.size,((a0[0]'h).toNat : Int) = bt a0 0 := bt_at a0 0
  clear p6
  have qi6 : (0 < (a0.size : Int)) = True := eq_true (zo_)
  replace q6 := eq_true q6
  go_wp2_with (first | (go_at_call 86;(with_reducible refine (Yd.calls (bt a0 0) t415 _ A7.out).mono ?_);rintro e w' ⟨rfl,⟨nd,rfl⟩⟩))
  go_meet
  case rel => exact ⟨_,(!t415),(by first | rfl | (simp;done) | (simp [*];done)),H',⟨by first | omega | exact Nat.le_refl _⟩,by repeat (first | exact Drawn0.refl _ | apply Drawn0.step)⟩
 case rest =>
  clear HC2
  try clear p2
  try clear c3
  try clear c3b0
  try clear c3b1
  try clear c4
  try clear c4b0
  try clear c4b1
  try clear c5
  try clear c5b0
  try clear c5b1
  try clear p6
  try clear q6
  try clear hx6
  try clear qi6
  try clear p6
  try clear q6
  obtain ⟨kq,x17_1,rfl,HA,HJ1,⟨mc1,rfl⟩⟩ := hcut
  cases kq with
  | zero => exact absurd HA.out (by simp [Zu.j0])
  | succ kj1 =>
   have H := HA.out
   clear HA
   simp only [Zu.j0] at H
   by_cases c8 : x17_1 = true
   ·subst c8
    rw [if_pos rfl] at H
    obtain rfl := Option.some.inj H
    go_wp2
    go_ret
    exact ⟨by first | rfl | (simp;done) | (simp [*];done),by repeat (first | exact Drawn0.refl _ | apply Drawn0.step)⟩
   replace c8 := Bool.eq_false_iff.mpr c8
   subst c8
   rw [if_neg (show ¬ (false = true) by decide)] at H
   have H' := am_ H
   clear H
   go_wp2
   go_loopg [20] kj1 (fun kq v20 w' => ∃ (x20_2 : Int),v20 = .int .i64 x20_2 ∧ Aside0 (Zu.l0 kq a0 (a0.size : Int) x20_2 = some r) ∧ Aside0 (kq ≤ kj1) ∧ Drawn0 w w')
   case atStart => exact ⟨(0),(by first | rfl | (simp;done) | (simp [*];done)),H',⟨Nat.le_refl _⟩,by repeat (first | exact Drawn0.refl _ | apply Drawn0.step)⟩
   case round =>
    clear H'
    try clear c1
    try clear p2
    try clear c3
    try clear c3b0
    try clear c3b1
    try clear c4
    try clear c4b0
    try clear c4b1
    try clear c5
    try clear c5b0
    try clear c5b1
    try clear p6
    try clear q6
    try clear hx6
    try clear qi6
    try clear c8
    try clear p2
    try clear p6
    try clear q6
    obtain ⟨x20_2,rfl,HA,HK2,⟨m2,rfl⟩⟩ := hrel
    cases gk with
    | zero => exact absurd HA.out (by simp [Zu.l0])
    | succ k2 =>
     have H := HA.out
     clear HA
     simp only [Zu.l0] at H
     by_cases c9 : x20_2 < (a0.size : Int)
     case neg =>
      rw [if_neg c9] at H
      have c9b0 := decide_eq_false c9
      clear c9
      obtain rfl := Option.some.inj H
      go_wp2
      go_ret
      exact ⟨by first | rfl | (simp;done) | (simp [*];done),by repeat (first | exact Drawn0.refl _ | apply Drawn0.step)⟩
     rw [if_pos c9] at H
     have c9b0 := decide_eq_true c9
     clear c9
     by_cases c10 : 0 ≤ x20_2
     case neg =>
      rw [if_neg c10] at H
      exact absurd H (by simp)
     rw [if_pos c10] at H
     have c10b0 := decide_eq_true c10
     clear c10
     by_cases c11 : x20_2 < (a0.size : Int)
     case neg =>
      rw [if_neg c11] at H
      exact absurd H (by simp)
     rw [if_pos c11] at H
     have c11b0 := decide_eq_true c11
     clear c11
     replace H := Option.bind_eq_some_iff.mp H
     obtain ⟨t416,A130,H⟩ := H
     try dsimp only at H
     have A13 := am_ A130
     clear A130
     by_cases c14 : t416 = true
     ·subst c14
      rw [if_pos rfl] at H
      have H' := am_ H
      clear H
      have p12 : 0 ≤ (x20_2 : Int) := zo_
      have q12 : x20_2 < (a0.size : Int) := zo_
      have hx12 := bt_at a0 x20_2
      replace p12 := eq_true p12
      replace q12 := eq_true q12
      go_wp2_with (first | ((with_reducible refine gate_callee (f := 86) rfl ?_);refine zgl (some 26) Tryz.func86 #[.int .u8 (bt a0 x20_2)] ?_;(with_reducible refine (Yd.calls (bt a0 x20_2) true _ A13.out).mono ?_);rintro e w' ⟨rfl,⟨nd,rfl⟩⟩;refine ⟨_,rfl,?_⟩))
      go_roundg k2
      case measure => have := HJ1.out;have := HK2.out;omega
      case rel => exact ⟨(wrap64 (x20_2 + 1)),(by first | rfl | (simp;done) | (simp [*];done)),H',⟨by have := HJ1.out;have := HK2.out;omega⟩,by repeat (first | exact Drawn0.refl _ | apply Drawn0.step)⟩
     replace c14 := Bool.eq_false_iff.mpr c14
     subst c14
     rw [if_neg (show ¬ (false = true) by decide)] at H
     by_cases c16 : (bt a0 x20_2) < 48
     ·rw [if_pos c16] at H
      have c16b0 := decide_eq_true c16
      clear c16
      obtain rfl := Option.some.inj H
      have p12 : 0 ≤ (x20_2 : Int) := zo_
      have q12 : x20_2 < (a0.size : Int) := zo_
      have hx12 := bt_at a0 x20_2
      replace p12 := eq_true p12
      replace q12 := eq_true q12
      go_wp2_with (first | ((with_reducible refine gate_callee (f := 86) rfl ?_);refine zgl (some 26) Tryz.func86 #[.int .u8 (bt a0 x20_2)] ?_;(with_reducible refine (Yd.calls (bt a0 x20_2) false _ A13.out).mono ?_);rintro e w' ⟨rfl,⟨nd,rfl⟩⟩;refine ⟨_,rfl,?_⟩;have p15 : 0 ≤ (x20_2 : Int) := zo_;have q15 : x20_2 < (a0.size : Int) := zo_;have hx15 := bt_at a0 x20_2;replace p15 := eq_true p15;replace q15 := eq_true q15))
      go_ret
      exact ⟨by first | rfl | (simp;done) | (simp [*];done),by repeat (first | exact Drawn0.refl _ | apply Drawn0.step)⟩
     rw [if_neg c16] at H
     have c16b0 := decide_eq_false c16
     clear c16
     by_cases c18 : (bt a0 x20_2) > 57
     ·rw [if_pos c18] at H
      have c18b0 : decide (57 < (bt a0 x20_2)) = true := decide_eq_true c18
      clear c18
      obtain rfl := Option.some.inj H
      have p12 : 0 ≤ (x20_2 : Int) := zo_
      have q12 : x20_2 < (a0.size : Int) := zo_
      have hx12 := bt_at a0 x20_2
      replace p12 := eq_true p12
      replace q12 := eq_true q12
      go_wp2_with (first | ((with_reducible refine gate_callee (f := 86) rfl ?_);refine zgl (some 26) Tryz.func86 #[.int .u8 (bt a0 x20_2)] ?_;(with_reducible refine (Yd.calls (bt a0 x20_2) false _ A13.out).mono ?_);rintro e w' ⟨rfl,⟨nd,rfl⟩⟩;refine ⟨_,rfl,?_⟩;have p15 : 0 ≤ (x20_2 : Int) := zo_;have q15 : x20_2 < (a0.size : Int) := zo_;have hx15 := bt_at a0 x20_2;replace p15 := eq_true p15;replace q15 := eq_true q15;have p17 : 0 ≤ (x20_2 : Int) := zo_;have q17 : x20_2 < (a0.size : Int) := zo_;have hx17 := bt_at a0 x20_2;replace p17 := eq_true p17;replace q17 := eq_true q17))
      go_ret
      exact ⟨by first | rfl | (simp;done) | (simp [*];done),by repeat (first | exact Drawn0.refl _ | apply Drawn0.step)⟩
     rw [if_neg c18] at H
     have c18b0 : decide (57 < (bt a0 x20_2)) = false := decide_eq_false c18
     clear c18
     have H' := am_ H
     clear H
     have p12 : 0 ≤ (x20_2 : Int) := zo_
     have q12 : x20_2 < (a0.size : Int) := zo_
     have hx12 := bt_at a0 x20_2
     replace p12 := eq_true p12
     replace q12 := eq_true q12
     go_wp2_with (first | ((with_reducible refine gate_callee (f := 86) rfl ?_);refine zgl (some 26) Tryz.func86 #[.int .u8 (bt a0 x20_2)] ?_;(with_reducible refine (Yd.calls (bt a0 x20_2) false _ A13.out).mono ?_);rintro e w' ⟨rfl,⟨nd,rfl⟩⟩;refine ⟨_,rfl,?_⟩;have p15 : 0 ≤ (x20_2 : Int) := zo_;have q15 : x20_2 < (a0.size : Int) := zo_;have hx15 := bt_at a0 x20_2;replace p15 := eq_true p15;replace q15 := eq_true q15;have p17 : 0 ≤ (x20_2 : Int) := zo_;have q17 : x20_2 < (a0.size : Int) := zo_;have hx17 := bt_at a0 x20_2;replace p17 := eq_true p17;replace q17 := eq_true q17))
     go_roundg k2
     case measure => have := HJ1.out;have := HK2.out;omega
     case rel => exact ⟨(wrap64 (x20_2 + 1)),(by first | rfl | (simp;done) | (simp [*];done)),H',⟨by have := HJ1.out;have := HK2.out;omega⟩,by repeat (first | exact Drawn0.refl _ | apply Drawn0.step)⟩
theorem ZW.calls (k : Nat) (a0 : ByteArray) (r : Bool) (w : World) (h : ZW.f k a0 = some r) :
  Calls Tryz.prog 76 #[.string a0] w fun e w' => e = .returned (.bool r) ∧ Drawn0 w w' := by
 have H : (if (a0.size : Int) ≤ 12 then ((Zu.f k a0).bind fun t417 => (some t417)) else (some false)) = some r := h
 clear h
 by_cases c2 : (a0.size : Int) ≤ 12
 case neg =>
  rw [if_neg c2] at H
  have c2b0 := decide_eq_false c2
  have c2b1 : decide (a0.size ≤ 12) = false := decide_eq_false (by omega)
  clear c2
  obtain rfl := Option.some.inj H
  go_enter Tryz.func76,Tryz.ntmps76
  go_wp2
  go_ret
  exact ⟨by first | rfl | (simp;done) | (simp [*];done),by repeat (first | exact Drawn0.refl _ | apply Drawn0.step)⟩
 rw [if_pos c2] at H
 have c2b0 := decide_eq_true c2
 have c2b1 : decide (a0.size ≤ 12) = true := decide_eq_true (by omega)
 clear c2
 replace H := Option.bind_eq_some_iff.mp H
 obtain ⟨t417,A30,H⟩ := H
 try dsimp only at H
 have A3 := am_ A30
 clear A30
 obtain rfl := Option.some.inj H
 go_enter Tryz.func76,Tryz.ntmps76
 go_wp2_with (first | (go_at_call 81;(with_reducible refine (Zu.calls k a0 t417 _ A3.out).mono ?_);rintro e w' ⟨rfl,⟨nd,rfl⟩⟩))
 go_ret
 exact ⟨by first | rfl | (simp;done) | (simp [*];done),by repeat (first | exact Drawn0.refl _ | apply Drawn0.step)⟩
theorem Zo.calls (k : Nat) (a0_0 : Int) (a0_1 : Int) (a0_2 : Int) (a0_3 : Int) (a0_4 : ByteArray) (r : Bool) (w : World) (h : Zo.f k a0_0 a0_1 a0_2 a0_3 a0_4 = some r) :
  Calls Tryz.prog 71 #[.agg #[.int .i64 a0_0,.int .i64 a0_1,.int .i64 a0_2,.int .i64 a0_3,.string a0_4]] w fun e w' => e = .returned (.bool r) ∧ Below w.heap.size w w' := by
 have hu52 := Tryz.underlying52
 have HB := am_ (Below.refl w.heap.size w)
 have H : (if a0_2 = 1 then (Zo.j0 k 0 0 true a0_0 a0_1 a0_2 a0_3 a0_4) else (Zo.j0 k 0 0 (a0_2 == 3) a0_0 a0_1 a0_2 a0_3 a0_4)) = some r := h
 clear h
 have HC2 := am_ H
 clear H
 go_enter Tryz.func71,Tryz.ntmps71
 go_upto_region 2 with (first | ((with_reducible refine gate_dst (N := 1) rfl ?_);refine zbx (N := 1) (cs := #[.int .i64 a0_0,.int .i64 a0_1,.int .i64 a0_2,.int .i64 a0_3,.string a0_4]) (t := 52) ?_;intro gb418 hg w3 hbox hb;have BK418 := am_ (hbox);have GW418 := zw_ HB hg;have GE418 := zw_ HB hg;replace HB := zs_ HB hb;clear hb hbox hg))
 (try simp only [Act.put,p1_,p2_,p3_])
 go_cut [12] (fun v12 wc => ∃ (kq : Nat) (x12_1 : Bool),v12 = .bool x12_1 ∧ Aside0 (Zo.j0 kq 0 0 x12_1 a0_0 a0_1 a0_2 a0_3 a0_4 = some r) ∧ Aside0 (kq ≤ k) ∧ Aside0 (wc.heap[gb418]? = some (.cells #[.int .i64 a0_0,.int .i64 a0_1,.int .i64 a0_2,.int .i64 a0_3,.string a0_4] 52 (0,0))) ∧ Aside0 (Below w.heap.size w wc))
 case first =>
  have H := HC2.out
  clear HC2
  by_cases c4 : a0_2 = 1
  case neg =>
   rw [if_neg c4] at H
   have c4b0 := beq_eq_false_iff_ne.mpr c4
   have c4b1 := bne_iff_ne.mpr c4
   (first | rw [c4b0] | (simp only [i64_w,i32_w];rw [c4b0]) | skip)
   have H' := am_ H
   clear H
   obtain ⟨hcz6_0,hcz6_1,hcz6_2,hcz6_3,hcz6_4,hfz6_0,hfz6_1,hfz6_2,hfz6_3,hfz6_4⟩ := zc5 BK418
   go_wp2
   go_meet
   case rel => exact ⟨_,((a0_2 == 3)),(by first | rfl | (simp;done) | (simp [*];done)),H',⟨by first | omega | exact Nat.le_refl _⟩,⟨by (with_reducible repeat (first | apply k1_ | apply k2_ | apply k3_));exact BK418.out⟩,⟨zl_ HB⟩⟩
  rw [if_pos c4] at H
  have c4b0 := beq_iff_eq.mpr c4
  have c4b1 := bne_eq_false_iff_eq.mpr c4
  clear c4
  (first | rw [c4b0] | (simp only [i64_w,i32_w];rw [c4b0]) | skip)
  have H' := am_ H
  clear H
  obtain ⟨hcz5_0,hcz5_1,hcz5_2,hcz5_3,hcz5_4,hfz5_0,hfz5_1,hfz5_2,hfz5_3,hfz5_4⟩ := zc5 BK418
  go_wp2
  go_meet
  case rel => exact ⟨_,(true),(by first | rfl | (simp;done) | (simp [*];done)),H',⟨by first | omega | exact Nat.le_refl _⟩,⟨by (with_reducible repeat (first | apply k1_ | apply k2_ | apply k3_));exact BK418.out⟩,⟨zl_ HB⟩⟩
 case rest =>
  clear HC2
  try clear p2
  try clear c4
  try clear c4b0
  try clear c4b1
  try clear hcz5_0
  try clear hcz5_1
  try clear hcz5_2
  try clear hcz5_3
  try clear hcz5_4
  try clear hcz6_0
  try clear hcz6_1
  try clear hcz6_2
  try clear hcz6_3
  try clear hcz6_4
  try clear hfz5_0
  try clear hfz5_1
  try clear hfz5_2
  try clear hfz5_3
  try clear hfz5_4
  try clear hfz6_0
  try clear hfz6_1
  try clear hfz6_2
  try clear hfz6_3
  try clear hfz6_4
  obtain ⟨kq,x12_1,rfl,HA,HJ1,BK418,HB⟩ := hcut
  cases kq with
  | zero => exact absurd HA.out (by simp [Zo.j0])
  | succ kj1 =>
   have H := HA.out
   clear HA
   simp only [Zo.j0] at H
   have HC7 := am_ H
   clear H
   go_upto_if 12 with (fail)
   go_cut [3,4] (fun v3 v4 wc => ∃ (kq : Nat) (x3_6 : Int) (x4_6 : Int),v3 = .int .i64 x3_6 ∧ v4 = .int .i64 x4_6 ∧ Aside0 (Zo.j1 kq x3_6 x4_6 a0_0 a0_1 a0_2 a0_3 a0_4 = some r) ∧ Aside0 (kq ≤ kj1) ∧ Aside0 (wc.heap[gb418]? = some (.cells #[.int .i64 a0_0,.int .i64 a0_1,.int .i64 a0_2,.int .i64 a0_3,.string a0_4] 52 (0,0))) ∧ Aside0 (Below w.heap.size w wc))
   case first =>
    have H := HC7.out
    clear HC7
    by_cases c8 : x12_1 = true
    ·subst c8
     rw [if_pos rfl] at H
     have H' := am_ H
     clear H
     go_wp2
     go_meet
     case rel => exact ⟨_,(1),(1000),(by first | rfl | (simp;done) | (simp [*];done)),(by first | rfl | (simp;done) | (simp [*];done)),H',⟨by have := HJ1.out;first | omega | exact Nat.le_refl _⟩,⟨by (with_reducible repeat (first | apply k1_ | apply k2_ | apply k3_));exact BK418.out⟩,⟨zl_ HB⟩⟩
    replace c8 := Bool.eq_false_iff.mpr c8
    subst c8
    rw [if_neg (show ¬ (false = true) by decide)] at H
    have H' := am_ H
    clear H
    go_wp2
    go_meet
    case rel => exact ⟨_,(0),(0),(by first | rfl | (simp;done) | (simp [*];done)),(by first | rfl | (simp;done) | (simp [*];done)),H',⟨by have := HJ1.out;first | omega | exact Nat.le_refl _⟩,⟨by (with_reducible repeat (first | apply k1_ | apply k2_ | apply k3_));exact BK418.out⟩,⟨zl_ HB⟩⟩
   case rest =>
    clear HC7
    try clear p2
    try clear c4
    try clear c4b0
    try clear c4b1
    try clear c7
    try clear c8
    try clear hcz5_0
    try clear hcz5_1
    try clear hcz5_2
    try clear hcz5_3
    try clear hcz5_4
    try clear hcz6_0
    try clear hcz6_1
    try clear hcz6_2
    try clear hcz6_3
    try clear hcz6_4
    try clear hfz5_0
    try clear hfz5_1
    try clear hfz5_2
    try clear hfz5_3
    try clear hfz5_4
    try clear hfz6_0
    try clear hfz6_1
    try clear hfz6_2
    try clear hfz6_3
    try clear hfz6_4
    try clear p2
    obtain ⟨kq,x3_6,x4_6,rfl,rfl,HA,HJ6,BK418,HB⟩ := hcut
    cases kq with
    | zero => exact absurd HA.out (by simp [Zo.j1])
    | succ kj6 =>
     have H := HA.out
     clear HA
     simp only [Zo.j1] at H
     replace H := Option.bind_eq_some_iff.mp H
     obtain ⟨t419,A90,H⟩ := H
     try dsimp only at H
     have A9 := am_ A90
     clear A90
     by_cases c10 : t419 = true
     case neg =>
      replace c10 := Bool.eq_false_iff.mpr c10
      subst c10
      rw [if_neg (show ¬ (false = true) by decide)] at H
      obtain rfl := Option.some.inj H
      obtain ⟨hcz22_0,hcz22_1,hcz22_2,hcz22_3,hcz22_4,hfz22_0,hfz22_1,hfz22_2,hfz22_3,hfz22_4⟩ := zc5 BK418
      go_wp2_with (first | ((with_reducible refine gate_callee (f := 66) rfl ?_);refine zgl (some 15) Tryz.func66 #[.int .i64 a0_0,.int .i64 0,.int .i64 255] ?_;(with_reducible refine (ZB.calls a0_0 0 255 false _ A9.out).mono ?_);rintro e w' ⟨rfl,⟨nd,rfl⟩⟩;refine ⟨_,rfl,?_⟩))
      go_ret
      exact ⟨zt_,zl_ HB⟩
     subst c10
     rw [if_pos rfl] at H
     replace H := Option.bind_eq_some_iff.mp H
     obtain ⟨t420,A110,H⟩ := H
     try dsimp only at H
     have A11 := am_ A110
     clear A110
     by_cases c12 : t420 = true
     case neg =>
      replace c12 := Bool.eq_false_iff.mpr c12
      subst c12
      rw [if_neg (show ¬ (false = true) by decide)] at H
      obtain rfl := Option.some.inj H
      obtain ⟨hcz21_0,hcz21_1,hcz21_2,hcz21_3,hcz21_4,hfz21_0,hfz21_1,hfz21_2,hfz21_3,hfz21_4⟩ := zc5 BK418
      go_wp2_with (first | ((with_reducible refine gate_callee (f := 66) rfl ?_);refine zgl (some 15) Tryz.func66 #[.int .i64 a0_0,.int .i64 0,.int .i64 255] ?_;(with_reducible refine (ZB.calls a0_0 0 255 true _ A9.out).mono ?_);rintro e w' ⟨rfl,⟨nd,rfl⟩⟩;refine ⟨_,rfl,?_⟩) | (go_at_call 66;(with_reducible refine (ZB.calls a0_1 1 65535 false _ A11.out).mono ?_);rintro e w' ⟨rfl,⟨nd,rfl⟩⟩))
      go_ret
      exact ⟨zt_,zl_ HB⟩
     subst c12
     rw [if_pos rfl] at H
     replace H := Option.bind_eq_some_iff.mp H
     obtain ⟨t421,A130,H⟩ := H
     try dsimp only at H
     have A13 := am_ A130
     clear A130
     by_cases c14 : t421 = true
     case neg =>
      replace c14 := Bool.eq_false_iff.mpr c14
      subst c14
      rw [if_neg (show ¬ (false = true) by decide)] at H
      obtain rfl := Option.some.inj H
      obtain ⟨hcz20_0,hcz20_1,hcz20_2,hcz20_3,hcz20_4,hfz20_0,hfz20_1,hfz20_2,hfz20_3,hfz20_4⟩ := zc5 BK418
      go_wp2_with (first | ((with_reducible refine gate_callee (f := 66) rfl ?_);refine zgl (some 15) Tryz.func66 #[.int .i64 a0_0,.int .i64 0,.int .i64 255] ?_;(with_reducible refine (ZB.calls a0_0 0 255 true _ A9.out).mono ?_);rintro e w' ⟨rfl,⟨nd,rfl⟩⟩;refine ⟨_,rfl,?_⟩) | (go_at_call 66;(with_reducible refine (ZB.calls a0_1 1 65535 true _ A11.out).mono ?_);rintro e w' ⟨rfl,⟨nd,rfl⟩⟩) | (go_at_call 66;(with_reducible refine (ZB.calls a0_2 1 4 false _ A13.out).mono ?_);rintro e w' ⟨rfl,⟨nd,rfl⟩⟩))
      go_ret
      exact ⟨zt_,zl_ HB⟩
     subst c14
     rw [if_pos rfl] at H
     replace H := Option.bind_eq_some_iff.mp H
     obtain ⟨t422,A150,H⟩ := H
     try dsimp only at H
     have A15 := am_ A150
     clear A150
     by_cases c16 : t422 = true
     case neg =>
      replace c16 := Bool.eq_false_iff.mpr c16
      subst c16
      rw [if_neg (show ¬ (false = true) by decide)] at H
      obtain rfl := Option.some.inj H
      obtain ⟨hcz19_0,hcz19_1,hcz19_2,hcz19_3,hcz19_4,hfz19_0,hfz19_1,hfz19_2,hfz19_3,hfz19_4⟩ := zc5 BK418
      go_wp2_with (first | ((with_reducible refine gate_callee (f := 66) rfl ?_);refine zgl (some 15) Tryz.func66 #[.int .i64 a0_0,.int .i64 0,.int .i64 255] ?_;(with_reducible refine (ZB.calls a0_0 0 255 true _ A9.out).mono ?_);rintro e w' ⟨rfl,⟨nd,rfl⟩⟩;refine ⟨_,rfl,?_⟩) | (go_at_call 66;(with_reducible refine (ZB.calls a0_1 1 65535 true _ A11.out).mono ?_);rintro e w' ⟨rfl,⟨nd,rfl⟩⟩) | (go_at_call 66;(with_reducible refine (ZB.calls a0_2 1 4 true _ A13.out).mono ?_);rintro e w' ⟨rfl,⟨nd,rfl⟩⟩) | (go_at_call 66;(with_reducible refine (ZB.calls a0_3 x3_6 x4_6 false _ A15.out).mono ?_);rintro e w' ⟨rfl,⟨nd,rfl⟩⟩))
      go_ret
      exact ⟨zt_,zl_ HB⟩
     subst c16
     rw [if_pos rfl] at H
     replace H := Option.bind_eq_some_iff.mp H
     obtain ⟨t423,A170,H⟩ := H
     try dsimp only at H
     have A17 := am_ A170
     clear A170
     obtain rfl := Option.some.inj H
     obtain ⟨hcz18_0,hcz18_1,hcz18_2,hcz18_3,hcz18_4,hfz18_0,hfz18_1,hfz18_2,hfz18_3,hfz18_4⟩ := zc5 BK418
     go_wp2_with (first | ((with_reducible refine gate_callee (f := 66) rfl ?_);refine zgl (some 15) Tryz.func66 #[.int .i64 a0_0,.int .i64 0,.int .i64 255] ?_;(with_reducible refine (ZB.calls a0_0 0 255 true _ A9.out).mono ?_);rintro e w' ⟨rfl,⟨nd,rfl⟩⟩;refine ⟨_,rfl,?_⟩) | (go_at_call 66;(with_reducible refine (ZB.calls a0_1 1 65535 true _ A11.out).mono ?_);rintro e w' ⟨rfl,⟨nd,rfl⟩⟩) | (go_at_call 66;(with_reducible refine (ZB.calls a0_2 1 4 true _ A13.out).mono ?_);rintro e w' ⟨rfl,⟨nd,rfl⟩⟩) | (go_at_call 66;(with_reducible refine (ZB.calls a0_3 x3_6 x4_6 true _ A15.out).mono ?_);rintro e w' ⟨rfl,⟨nd,rfl⟩⟩) | (go_at_call 76;(with_reducible refine (ZW.calls kj6 a0_4 t423 _ A17.out).mono ?_);rintro e w' ⟨rfl,⟨nd,rfl⟩⟩))
     go_ret
     exact ⟨zt_,zl_ HB⟩
theorem ZU.calls (a0_0 : Int) (a0_1 : Int) (a0_2 : ByteArray) (r : Bool) (w : World) (h : ZU.f a0_0 a0_1 a0_2 = some r) :
  Calls Tryz.prog 62 #[.agg #[.int .i64 a0_0,.int .i64 a0_1,.string a0_2]] w fun e w' => e = .returned (.bool r) ∧ Below w.heap.size w w' := by
 have hu76 := Tryz.underlying76
 have HB := am_ (Below.refl w.heap.size w)
 have H : ((ZB.f a0_0 0 6).bind fun t413 => (if t413 = true then ((ZB.f a0_1 0 1000000000).bind fun t414 => (if t414 = true then (some ((a0_2.size : Int) == 8)) else (some false))) else (some false))) = some r := h
 clear h
 replace H := Option.bind_eq_some_iff.mp H
 obtain ⟨t413,A20,H⟩ := H
 try dsimp only at H
 have A2 := am_ A20
 clear A20
 by_cases c3 : t413 = true
 case neg =>
  replace c3 := Bool.eq_false_iff.mpr c3
  subst c3
  rw [if_neg (show ¬ (false = true) by decide)] at H
  obtain rfl := Option.some.inj H
  go_enter Tryz.func62,Tryz.ntmps62
  go_wp2_with (first | ((with_reducible refine gate_dst (N := 1) rfl ?_);(try (refine gate_guard (by rfl) ?_;dsimp only));refine zbx (N := 1) (cs := #[.int .i64 a0_0,.int .i64 a0_1,.string a0_2]) (t := 76) ?_;intro gb412 hg w10 hbox hb;have BK412 := am_ (hbox);have GW412 := zw_ HB hg;have GE412 := zw_ HB hg;replace HB := zs_ HB hb;clear hb hbox hg;obtain ⟨hcz11_0,hcz11_1,hcz11_2,hfz11_0,hfz11_1,hfz11_2⟩ := zc3 BK412) | ((with_reducible refine gate_callee (f := 66) rfl ?_);refine zgl (some 5) Tryz.func66 #[.int .i64 a0_0,.int .i64 0,.int .i64 6] ?_;(with_reducible refine (ZB.calls a0_0 0 6 false _ A2.out).mono ?_);rintro e w' ⟨rfl,⟨nd,rfl⟩⟩;refine ⟨_,rfl,?_⟩))
  go_ret
  exact ⟨zt_,zl_ HB⟩
 subst c3
 rw [if_pos rfl] at H
 replace H := Option.bind_eq_some_iff.mp H
 obtain ⟨t414,A40,H⟩ := H
 try dsimp only at H
 have A4 := am_ A40
 clear A40
 by_cases c5 : t414 = true
 ·subst c5
  rw [if_pos rfl] at H
  obtain rfl := Option.some.inj H
  go_enter Tryz.func62,Tryz.ntmps62
  go_wp2_with (first | ((with_reducible refine gate_dst (N := 1) rfl ?_);(try (refine gate_guard (by rfl) ?_;dsimp only));refine zbx (N := 1) (cs := #[.int .i64 a0_0,.int .i64 a0_1,.string a0_2]) (t := 76) ?_;intro gb412 hg w6 hbox hb;have BK412 := am_ (hbox);have GW412 := zw_ HB hg;have GE412 := zw_ HB hg;replace HB := zs_ HB hb;clear hb hbox hg;obtain ⟨hcz7_0,hcz7_1,hcz7_2,hfz7_0,hfz7_1,hfz7_2⟩ := zc3 BK412) | ((with_reducible refine gate_callee (f := 66) rfl ?_);refine zgl (some 5) Tryz.func66 #[.int .i64 a0_0,.int .i64 0,.int .i64 6] ?_;(with_reducible refine (ZB.calls a0_0 0 6 true _ A2.out).mono ?_);rintro e w' ⟨rfl,⟨nd,rfl⟩⟩;refine ⟨_,rfl,?_⟩) | (go_at_call 66;(with_reducible refine (ZB.calls a0_1 0 1000000000 true _ A4.out).mono ?_);rintro e w' ⟨rfl,⟨nd,rfl⟩⟩))
  go_ret
  exact ⟨zt_,zl_ HB⟩
 replace c5 := Bool.eq_false_iff.mpr c5
 subst c5
 rw [if_neg (show ¬ (false = true) by decide)] at H
 obtain rfl := Option.some.inj H
 go_enter Tryz.func62,Tryz.ntmps62
 go_wp2_with (first | ((with_reducible refine gate_dst (N := 1) rfl ?_);(try (refine gate_guard (by rfl) ?_;dsimp only));refine zbx (N := 1) (cs := #[.int .i64 a0_0,.int .i64 a0_1,.string a0_2]) (t := 76) ?_;intro gb412 hg w8 hbox hb;have BK412 := am_ (hbox);have GW412 := zw_ HB hg;have GE412 := zw_ HB hg;replace HB := zs_ HB hb;clear hb hbox hg;obtain ⟨hcz9_0,hcz9_1,hcz9_2,hfz9_0,hfz9_1,hfz9_2⟩ := zc3 BK412) | ((with_reducible refine gate_callee (f := 66) rfl ?_);refine zgl (some 5) Tryz.func66 #[.int .i64 a0_0,.int .i64 0,.int .i64 6] ?_;(with_reducible refine (ZB.calls a0_0 0 6 true _ A2.out).mono ?_);rintro e w' ⟨rfl,⟨nd,rfl⟩⟩;refine ⟨_,rfl,?_⟩) | (go_at_call 66;(with_reducible refine (ZB.calls a0_1 0 1000000000 false _ A4.out).mono ?_);rintro e w' ⟨rfl,⟨nd,rfl⟩⟩))
 go_ret
 exact ⟨zt_,zl_ HB⟩
end Go.Proofs.YtbhegbhdenngbaaGreatDoor.A
end

section
namespace Go.Proofs.YtbhegbhdenngbaaGreatDoor.A
open Go.RowKit Go.Proofs.YtbhegbhdenngbaaGreatDoorW.PrintWords Go.Proofs.YtbhegbhdenngbaaGreatDoorW.PrintLast Go.Proofs.YtbhegbhdenngbaaGreatDoorW.PrintMore
attribute [local go_sem] max2_int min2_int max_two min_two max_three min_three max_four min_four
attribute [local go_sem high] eqA52
def Zj.T8 : Bool × List (List Nat × List Nat) := (true,[([],[]),([0],[0]),([1],[1]),([2,1],[2]),([3],[3]),([4,3],[3,4]),([5,3,3],[3,5]),([6],[6]),([7,6],[6,7]),([6],[6]),([9,6],[6,9]),([8,10,6],[6,8,10]),([11,6],[6,11]),([12,6],[6,12]),([6],[6]),([14,6],[6,14]),([13,15,6],[6,13,15]),([6,16,3],[3,6,16]),([3,17],[3,17])])
def Zj.B8 : List Nat := [0,1,3,7,15,31,63,127,255,127,639,2047,4095,8191,127,16511,65535,131071,262143]
theorem Zj.tab8 : rtab .any (opsOf Tryz.f61 8) = Zj.T8 := by kernel_rfl
theorem Zj.bits8 : waitsOk Zj.T8.2 Zj.B8 = true := by kernel_rfl
theorem Zj.calls (k : Nat) (a0_0 : Bool) (a0_1 : Int) (a0_2 : Int) (a0_3 : Int) (a0_4 : Int) (a0_5 : ByteArray) (A0_6 : Option Addr) (c0_6 : Nat) (l0_6 : List (S76)) (r : Bool) (w : World) (hr0_6 : Kd.C k76 w A0_6 l0_6.length l0_6) (hc0_6 : l0_6.length ≤ c0_6) (h : Zj.f k a0_0 a0_1 a0_2 a0_3 a0_4 a0_5 l0_6 = some r) :
  Calls Tryz.prog 61 #[.agg #[.bool a0_0,.int .i64 a0_1,.int .i64 a0_2,.int .i64 a0_3,.int .i64 a0_4,.string a0_5,.slice A0_6 l0_6.length c0_6]] w fun e w' => e = .returned (.bool r) ∧ Below w.heap.size w w' := by
 have hu55 := Tryz.underlying55
 have hu52 := Tryz.underlying52
 have hu76 := Tryz.underlying76
 have HR0_6 := am_ hr0_6
 have HC0_6 := am_ hc0_6
 clear hr0_6 hc0_6
 have HB := am_ (Below.refl w.heap.size w)
 have H : (if a0_0 = true then (if (a0_1 == 0 && (a0_2 == 0 && (a0_3 == 0 && (a0_4 == 0 && (a0_5.toList == ([] : List UInt8)))))) = true then (some ((l0_6.length : Int) == 0)) else (some false)) else ((Zo.f k a0_1 a0_2 a0_3 a0_4 a0_5).bind fun t425 => (if t425 = true then (Zj.j0 k (decide ((l0_6.length : Int) > 7)) a0_0 a0_1 a0_2 a0_3 a0_4 a0_5 l0_6) else (Zj.j0 k true a0_0 a0_1 a0_2 a0_3 a0_4 a0_5 l0_6)))) = some r := h
 clear h
 by_cases c2 : a0_0 = true
 ·subst c2
  rw [if_pos rfl] at H
  by_cases c3 : (a0_1 == 0 && (a0_2 == 0 && (a0_3 == 0 && (a0_4 == 0 && (a0_5.toList == ([] : List UInt8)))))) = true
  ·rw [if_pos c3] at H
   have c3k := am_ c3
   have c3b0 : (a0_1 == 0 && (a0_2 == 0 && (a0_3 == 0 && (a0_4 == 0 && (a0_5.toList == ([] : List UInt8)))))) = true := c3k.out
   (try (have c3b1 : decide (a0_1 = 0 && (a0_2 == 0 && (a0_3 == 0 && (a0_4 == 0 && (a0_5.toList == ([] : List UInt8)))))) = true := by simpa using c3k.out))
   (try (have c3b2 : (a0_1 == 0 && (a0_2 == 0 && (a0_3 == 0 && (a0_4 == 0 && (a0_5.toList == ([] : List UInt8)))))) = true := by simpa using c3k.out))
   (try have c3e0 := c3b0;simp only [e3_,e4_] at c3e0)
   (try have c3e1 := c3b1;simp only [e3_,e4_] at c3e1)
   (try have c3e2 := c3b2;simp only [e3_,e4_] at c3e2)
   (try simp only [*,Bool.not_true,Bool.not_false,Bool.false_or,Bool.true_or,Bool.or_false,Bool.or_true,Bool.true_and,Bool.and_true,Bool.false_and,Bool.and_false] at c3)
   have c3bs := c3
   clear c3k
   clear c3
   obtain rfl := Option.some.inj H
   go_enter Tryz.func61,Tryz.ntmps61
   go_wp2_with (first | ((with_reducible refine gate_dst (N := 1) rfl ?_);(try (refine gate_guard (by rfl) ?_;dsimp only));refine zbx (N := 1) (cs := #[.bool true,.int .i64 a0_1,.int .i64 a0_2,.int .i64 a0_3,.int .i64 a0_4,.string a0_5,.slice A0_6 l0_6.length c0_6]) (t := 55) ?_;intro gb424 hg w4 hbox hb;have BK424 := am_ (hbox);have GW424 := zw_ HB hg;have GE424 := zw_ HB hg;replace HB := zs_ HB hb;clear hb hbox hg;obtain ⟨hcz5_0,hcz5_1,hcz5_2,hcz5_3,hcz5_4,hcz5_5,hcz5_6,hfz5_0,hfz5_1,hfz5_2,hfz5_3,hfz5_4,hfz5_5,hfz5_6⟩ := zc7 BK424))
   go_ret
   exact ⟨zt_,zl_ HB⟩
  rw [if_neg c3] at H
  have c3k := am_ c3
  have c3b0 : (a0_1 == 0 && (a0_2 == 0 && (a0_3 == 0 && (a0_4 == 0 && (a0_5.toList == ([] : List UInt8)))))) = false := by simpa using c3k.out
  (try (have c3b1 : decide (a0_1 = 0 && (a0_2 == 0 && (a0_3 == 0 && (a0_4 == 0 && (a0_5.toList == ([] : List UInt8)))))) = false := by simpa using c3k.out))
  (try (have c3b2 : (a0_1 == 0 && (a0_2 == 0 && (a0_3 == 0 && (a0_4 == 0 && (a0_5.toList == ([] : List UInt8)))))) = false := by simpa using c3k.out))
  (try (have c3b3 : ¬ (a0_1 = 0 && (a0_2 == 0 && (a0_3 == 0 && (a0_4 == 0 && (a0_5.toList == ([] : List UInt8)))))) := by simpa using c3k.out))
  (try have c3e0 := c3b0;simp only [e3_,e4_] at c3e0)
  (try have c3e1 := c3b1;simp only [e3_,e4_] at c3e1)
  (try have c3e2 := c3b2;simp only [e3_,e4_] at c3e2)
  (try have c3e3 := c3b3;simp only [e3_,e4_] at c3e3)
  (try simp only [*,Bool.not_true,Bool.not_false,Bool.false_or,Bool.true_or,Bool.or_false,Bool.or_true,Bool.true_and,Bool.and_true,Bool.false_and,Bool.and_false] at c3)
  have c3bs := c3
  clear c3k
  clear c3
  obtain rfl := Option.some.inj H
  go_enter Tryz.func61,Tryz.ntmps61
  go_wp2_with (first | ((with_reducible refine gate_dst (N := 1) rfl ?_);(try (refine gate_guard (by rfl) ?_;dsimp only));refine zbx (N := 1) (cs := #[.bool true,.int .i64 a0_1,.int .i64 a0_2,.int .i64 a0_3,.int .i64 a0_4,.string a0_5,.slice A0_6 l0_6.length c0_6]) (t := 55) ?_;intro gb424 hg w6 hbox hb;have BK424 := am_ (hbox);have GW424 := zw_ HB hg;have GE424 := zw_ HB hg;replace HB := zs_ HB hb;clear hb hbox hg;obtain ⟨hcz7_0,hcz7_1,hcz7_2,hcz7_3,hcz7_4,hcz7_5,hcz7_6,hfz7_0,hfz7_1,hfz7_2,hfz7_3,hfz7_4,hfz7_5,hfz7_6⟩ := zc7 BK424))
  go_ret
  exact ⟨zt_,zl_ HB⟩
 replace c2 := Bool.eq_false_iff.mpr c2
 subst c2
 rw [if_neg (show ¬ (false = true) by decide)] at H
 have HC8 := am_ H
 clear H
 go_enter Tryz.func61,Tryz.ntmps61
 go_upto_region 3 with (first | ((with_reducible refine gate_dst (N := 1) rfl ?_);(try (refine gate_guard (by rfl) ?_;dsimp only));refine zbx (N := 1) (cs := #[.bool false,.int .i64 a0_1,.int .i64 a0_2,.int .i64 a0_3,.int .i64 a0_4,.string a0_5,.slice A0_6 l0_6.length c0_6]) (t := 55) ?_;intro gb424 hg w9 hbox hb;have BK424 := am_ (hbox);have GW424 := zw_ HB hg;have GE424 := zw_ HB hg;replace HB := zs_ HB hb;clear hb hbox hg;obtain ⟨hcz10_0,hcz10_1,hcz10_2,hcz10_3,hcz10_4,hcz10_5,hcz10_6,hfz10_0,hfz10_1,hfz10_2,hfz10_3,hfz10_4,hfz10_5,hfz10_6⟩ := zc7 BK424))
 (try simp only [Act.put,p1_,p2_,p3_])
 go_cut [26] (fun v26 wc => ∃ (kq : Nat) (x26_7 : Bool),v26 = .bool x26_7 ∧ Aside0 (Zj.j0 kq x26_7 false a0_1 a0_2 a0_3 a0_4 a0_5 l0_6 = some r) ∧ Aside0 (kq ≤ k) ∧ Aside0 (wc.heap[gb424]? = some (.cells #[.bool false,.int .i64 a0_1,.int .i64 a0_2,.int .i64 a0_3,.int .i64 a0_4,.string a0_5,(.slice A0_6 l0_6.length c0_6)] 55 (0,0))) ∧ Aside0 (Below w.heap.size w wc))
 case first =>
  have H := HC8.out
  clear HC8
  replace H := Option.bind_eq_some_iff.mp H
  obtain ⟨t425,A110,H⟩ := H
  try dsimp only at H
  have A11 := am_ A110
  clear A110
  by_cases c12 : t425 = true
  case neg =>
   replace c12 := Bool.eq_false_iff.mpr c12
   subst c12
   rw [if_neg (show ¬ (false = true) by decide)] at H
   have H' := am_ H
   clear H
   obtain ⟨hcz16_0,hcz16_1,hcz16_2,hcz16_3,hcz16_4,hcz16_5,hcz16_6,hfz16_0,hfz16_1,hfz16_2,hfz16_3,hfz16_4,hfz16_5,hfz16_6⟩ := zc7 BK424
   go_wp2_with (first | ((with_reducible refine gate_callee (f := 71) rfl ?_);refine zgl (some 19) Tryz.func71 #[.agg #[.int .i64 a0_1,.int .i64 a0_2,.int .i64 a0_3,.int .i64 a0_4,.string a0_5]] ?_;(with_reducible refine (Zo.calls k a0_1 a0_2 a0_3 a0_4 a0_5 false _ A11.out).mono ?_);rintro e w17 ⟨rfl,hb⟩;refine ⟨_,rfl,?_⟩;replace BK424 := zb BK424 hb;replace HB := zs_ HB hb;(try clear hb)))
   go_meet
   case rel => exact ⟨_,(true),(by first | rfl | (simp;done) | (simp [*];done)),H',⟨by first | omega | exact Nat.le_refl _⟩,⟨by (with_reducible repeat (first | apply k1_ | apply k2_ | apply k3_));exact BK424.out⟩,⟨zl_ HB⟩⟩
  subst c12
  rw [if_pos rfl] at H
  have H' := am_ H
  clear H
  obtain ⟨hcz13_0,hcz13_1,hcz13_2,hcz13_3,hcz13_4,hcz13_5,hcz13_6,hfz13_0,hfz13_1,hfz13_2,hfz13_3,hfz13_4,hfz13_5,hfz13_6⟩ := zc7 BK424
  go_wp2_with (first | ((with_reducible refine gate_callee (f := 71) rfl ?_);refine zgl (some 19) Tryz.func71 #[.agg #[.int .i64 a0_1,.int .i64 a0_2,.int .i64 a0_3,.int .i64 a0_4,.string a0_5]] ?_;(with_reducible refine (Zo.calls k a0_1 a0_2 a0_3 a0_4 a0_5 true _ A11.out).mono ?_);rintro e w14 ⟨rfl,hb⟩;refine ⟨_,rfl,?_⟩;replace BK424 := zb BK424 hb;replace HB := zs_ HB hb;(try clear hb);obtain ⟨hcz15_0,hcz15_1,hcz15_2,hcz15_3,hcz15_4,hcz15_5,hcz15_6,hfz15_0,hfz15_1,hfz15_2,hfz15_3,hfz15_4,hfz15_5,hfz15_6⟩ := zc7 BK424))
  go_meet
  case rel => exact ⟨_,(decide ((l0_6.length : Int) > 7)),(by first | rfl | (simp;done) | (simp [*];done)),H',⟨by first | omega | exact Nat.le_refl _⟩,⟨by (with_reducible repeat (first | apply k1_ | apply k2_ | apply k3_));exact BK424.out⟩,⟨zl_ HB⟩⟩
 case rest =>
  clear HC8
  try clear c1
  try clear c2
  try clear p2
  try clear c3
  try clear c3b0
  try clear c3b1
  try clear c3b2
  try clear c6
  try clear c7
  try clear c12
  try clear hcz10_0
  try clear hcz10_1
  try clear hcz10_2
  try clear hcz10_3
  try clear hcz10_4
  try clear hcz10_5
  try clear hcz10_6
  try clear hcz13_0
  try clear hcz13_1
  try clear hcz13_2
  try clear hcz13_3
  try clear hcz13_4
  try clear hcz13_5
  try clear hcz13_6
  try clear hcz15_0
  try clear hcz15_1
  try clear hcz15_2
  try clear hcz15_3
  try clear hcz15_4
  try clear hcz15_5
  try clear hcz15_6
  try clear hcz16_0
  try clear hcz16_1
  try clear hcz16_2
  try clear hcz16_3
  try clear hcz16_4
  try clear hcz16_5
  try clear hcz16_6
  try clear hcz5_0
  try clear hcz5_1
  try clear hcz5_2
  try clear hcz5_3
  try clear hcz5_4
  try clear hcz5_5
  try clear hcz5_6
  try clear hcz7_0
  try clear hcz7_1
  try clear hcz7_2
  try clear hcz7_3
  try clear hcz7_4
  try clear hcz7_5
  try clear hcz7_6
  try clear hfz10_0
  try clear hfz10_1
  try clear hfz10_2
  try clear hfz10_3
  try clear hfz10_4
  try clear hfz10_5
  try clear hfz10_6
  try clear hfz13_0
  try clear hfz13_1
  try clear hfz13_2
  try clear hfz13_3
  try clear hfz13_4
  try clear hfz13_5
  try clear hfz13_6
  try clear hfz15_0
  try clear hfz15_1
  try clear hfz15_2
  try clear hfz15_3
  try clear hfz15_4
  try clear hfz15_5
  try clear hfz15_6
  try clear hfz16_0
  try clear hfz16_1
  try clear hfz16_2
  try clear hfz16_3
  try clear hfz16_4
  try clear hfz16_5
  try clear hfz16_6
  try clear hfz5_0
  try clear hfz5_1
  try clear hfz5_2
  try clear hfz5_3
  try clear hfz5_4
  try clear hfz5_5
  try clear hfz5_6
  try clear hfz7_0
  try clear hfz7_1
  try clear hfz7_2
  try clear hfz7_3
  try clear hfz7_4
  try clear hfz7_5
  try clear hfz7_6
  obtain ⟨kq,x26_7,rfl,HA,HJ7,BK424,HB⟩ := hcut
  cases kq with
  | zero => exact absurd HA.out (by simp [Zj.j0])
  | succ kj7 =>
   have H := HA.out
   clear HA
   simp only [Zj.j0] at H
   by_cases c18 : x26_7 = true
   ·subst c18
    rw [if_pos rfl] at H
    obtain rfl := Option.some.inj H
    go_wp2
    go_ret
    exact ⟨zt_,zl_ HB⟩
   replace c18 := Bool.eq_false_iff.mpr c18
   subst c18
   rw [if_neg (show ¬ (false = true) by decide)] at H
   have H' := am_ H
   clear H
   obtain ⟨hcz19_0,hcz19_1,hcz19_2,hcz19_3,hcz19_4,hcz19_5,hcz19_6,hfz19_0,hfz19_1,hfz19_2,hfz19_3,hfz19_4,hfz19_5,hfz19_6⟩ := zc7 BK424
   go_wp2
   go_loopg [30] kj7 (fun kq v30 w' => ∃ (x30_2 : Int),v30 = .int .i64 x30_2 ∧ Aside0 (Zj.l0 kq l0_6 (l0_6.length : Int) x30_2 false a0_1 a0_2 a0_3 a0_4 a0_5 l0_6 = some r) ∧ Aside0 (kq ≤ kj7) ∧ Aside0 (w'.heap[gb424]? = some (.cells #[.bool false,.int .i64 a0_1,.int .i64 a0_2,.int .i64 a0_3,.int .i64 a0_4,.string a0_5,(.slice A0_6 l0_6.length c0_6)] 55 (0,0))) ∧ Aside0 (Below w.heap.size w w'))
   case atStart => exact ⟨(0),(by first | rfl | (simp;done) | (simp [*];done)),H',⟨Nat.le_refl _⟩,⟨by (with_reducible repeat (first | apply k1_ | apply k2_ | apply k3_));exact BK424.out⟩,⟨zl_ HB⟩⟩
   case round =>
    clear H'
    try clear c1
    try clear c2
    try clear p2
    try clear c3
    try clear c3b0
    try clear c3b1
    try clear c3b2
    try clear c6
    try clear c7
    try clear c12
    try clear c18
    try clear hcz10_0
    try clear hcz10_1
    try clear hcz10_2
    try clear hcz10_3
    try clear hcz10_4
    try clear hcz10_5
    try clear hcz10_6
    try clear hcz13_0
    try clear hcz13_1
    try clear hcz13_2
    try clear hcz13_3
    try clear hcz13_4
    try clear hcz13_5
    try clear hcz13_6
    try clear hcz15_0
    try clear hcz15_1
    try clear hcz15_2
    try clear hcz15_3
    try clear hcz15_4
    try clear hcz15_5
    try clear hcz15_6
    try clear hcz16_0
    try clear hcz16_1
    try clear hcz16_2
    try clear hcz16_3
    try clear hcz16_4
    try clear hcz16_5
    try clear hcz16_6
    try clear hcz19_0
    try clear hcz19_1
    try clear hcz19_2
    try clear hcz19_3
    try clear hcz19_4
    try clear hcz19_5
    try clear hcz19_6
    try clear hcz5_0
    try clear hcz5_1
    try clear hcz5_2
    try clear hcz5_3
    try clear hcz5_4
    try clear hcz5_5
    try clear hcz5_6
    try clear hcz7_0
    try clear hcz7_1
    try clear hcz7_2
    try clear hcz7_3
    try clear hcz7_4
    try clear hcz7_5
    try clear hcz7_6
    try clear hfz10_0
    try clear hfz10_1
    try clear hfz10_2
    try clear hfz10_3
    try clear hfz10_4
    try clear hfz10_5
    try clear hfz10_6
    try clear hfz13_0
    try clear hfz13_1
    try clear hfz13_2
    try clear hfz13_3
    try clear hfz13_4
    try clear hfz13_5
    try clear hfz13_6
    try clear hfz15_0
    try clear hfz15_1
    try clear hfz15_2
    try clear hfz15_3
    try clear hfz15_4
    try clear hfz15_5
    try clear hfz15_6
    try clear hfz16_0
    try clear hfz16_1
    try clear hfz16_2
    try clear hfz16_3
    try clear hfz16_4
    try clear hfz16_5
    try clear hfz16_6
    try clear hfz19_0
    try clear hfz19_1
    try clear hfz19_2
    try clear hfz19_3
    try clear hfz19_4
    try clear hfz19_5
    try clear hfz19_6
    try clear hfz5_0
    try clear hfz5_1
    try clear hfz5_2
    try clear hfz5_3
    try clear hfz5_4
    try clear hfz5_5
    try clear hfz5_6
    try clear hfz7_0
    try clear hfz7_1
    try clear hfz7_2
    try clear hfz7_3
    try clear hfz7_4
    try clear hfz7_5
    try clear hfz7_6
    try clear p2
    obtain ⟨x30_2,rfl,HA,HK2,BK424,HB⟩ := hrel
    cases gk with
    | zero => exact absurd HA.out (by simp [Zj.l0])
    | succ k2 =>
     have H := HA.out
     clear HA
     simp only [Zj.l0] at H
     by_cases c20 : x30_2 < (l0_6.length : Int)
     case neg =>
      rw [if_neg c20] at H
      have c20b0 := decide_eq_false c20
      clear c20
      obtain rfl := Option.some.inj H
      go_wp2
      go_ret
      exact ⟨zt_,zl_ HB⟩
     rw [if_pos c20] at H
     have c20b0 := decide_eq_true c20
     clear c20
     by_cases c21 : 0 ≤ x30_2
     case neg =>
      rw [if_neg c21] at H
      exact absurd H (by simp)
     rw [if_pos c21] at H
     have c21b0 := decide_eq_true c21
     clear c21
     by_cases c22 : x30_2 < (l0_6.length : Int)
     case neg =>
      rw [if_neg c22] at H
      exact absurd H (by simp)
     rw [if_pos c22] at H
     have c22b0 := decide_eq_true c22
     clear c22
     replace H := Option.bind_eq_some_iff.mp H
     obtain ⟨t428,A230,H⟩ := H
     try dsimp only at H
     have A23 := am_ A230
     clear A230
     have p426 : 0 ≤ (x30_2 : Int) := zo_
     have q426 : x30_2 < (l0_6.length : Int) := zo_
     obtain ⟨ad426,e426,hx426_0,hx426_1,hx426_2⟩ := at_T76 HR0_6.out x30_2 p426 q426
     cases e426
     replace hx426_0 := zx_ HB hx426_0
     replace hx426_1 := zx_ HB hx426_1
     replace hx426_2 := zx_ HB hx426_2
     replace p426 := eq_true p426
     replace q426 := eq_true q426
     try go_wp2_with (first | ((with_reducible refine gate_dst (N := 4) rfl ?_);(try (refine gate_guard (by rfl) ?_;dsimp only));refine zbx (N := 4) (cs := #[.int .i64 0,.int .i64 0,.string ⟨#[]⟩]) (t := 76) ?_;intro gb427 hg w30 hbox hb;have BK427 := am_ (hbox);have GW427 := zw_ HB hg;have GE427 := zw_ HB hg;replace HB := zs_ HB hb;have NB424_427 := zl hg BK424;have NB427_424 := zg hg BK424;replace BK424 := zb BK424 hb;clear hb hbox hg;have hnb31 := NB427_424.out;have hnc31 := NB424_427.out;obtain ⟨hcz32_0,hcz32_1,hcz32_2,hfz32_0,hfz32_1,hfz32_2⟩ := zc3 BK427))
     have n0_ : Aside0 ((((w30.setCell ⟨gb427,0,none⟩ (.int .i64 ((rd_T76 l0_6 x30_2).f0))).setCell ⟨gb427,1,none⟩ (.int .i64 ((rd_T76 l0_6 x30_2).f1))).setCell ⟨gb427,2,none⟩ (.string ((rd_T76 l0_6 x30_2).f2))).heap[gb424]? = some (.cells #[.bool false,.int .i64 a0_1,.int .i64 a0_2,.int .i64 a0_3,.int .i64 a0_4,.string a0_5,.slice (some ad426) l0_6.length c0_6] 55 (0,0))) := ⟨zq BK424⟩
     have n1_ : Aside0 ((((w30.setCell ⟨gb427,0,none⟩ (.int .i64 ((rd_T76 l0_6 x30_2).f0))).setCell ⟨gb427,1,none⟩ (.int .i64 ((rd_T76 l0_6 x30_2).f1))).setCell ⟨gb427,2,none⟩ (.string ((rd_T76 l0_6 x30_2).f2))).heap[gb427]? = some (.cells #[.int .i64 ((rd_T76 l0_6 x30_2).f0),.int .i64 ((rd_T76 l0_6 x30_2).f1),.string ((rd_T76 l0_6 x30_2).f2)] 76 (0,0))) := ⟨zq BK427⟩
     have n2_ : Aside0 (Below w.heap.size w (((w30.setCell ⟨gb427,0,none⟩ (.int .i64 ((rd_T76 l0_6 x30_2).f0))).setCell ⟨gb427,1,none⟩ (.int .i64 ((rd_T76 l0_6 x30_2).f1))).setCell ⟨gb427,2,none⟩ (.string ((rd_T76 l0_6 x30_2).f2)))) := ⟨zl_ HB⟩
     (try clear BK424)
     (try clear BK427)
     (try clear HB)
     generalize (((w30.setCell ⟨gb427,0,none⟩ (.int .i64 ((rd_T76 l0_6 x30_2).f0))).setCell ⟨gb427,1,none⟩ (.int .i64 ((rd_T76 l0_6 x30_2).f1))).setCell ⟨gb427,2,none⟩ (.string ((rd_T76 l0_6 x30_2).f2))) = w33 at n0_ n1_ n2_ ⊢
     have BK424 := n0_
     have BK427 := n1_
     have HB := n2_
     clear n0_ n1_ n2_
     replace BK424 := am_ (blk_drew BK424.out)
     replace BK427 := am_ (blk_drew BK427.out)
     replace HB := am_ (below_drew1 HB.out)
     by_cases c24 : t428 = true
     case neg =>
      replace c24 := Bool.eq_false_iff.mpr c24
      subst c24
      rw [if_neg (show ¬ (false = true) by decide)] at H
      obtain rfl := Option.some.inj H
      refine start_ (n := 19) (S := fun w' => w'.cell? ⟨gb427,0,none⟩ = some (.int .i64 ((rd_T76 l0_6 x30_2).f0)) ∧ w'.cell? ⟨gb427,1,none⟩ = some (.int .i64 ((rd_T76 l0_6 x30_2).f1)) ∧ w'.cell? ⟨gb427,2,none⟩ = some (.string ((rd_T76 l0_6 x30_2).f2))) (ds := []) #[false,false,false,false,false,false,false,false,false,false,false,false,false,false,false,false,false,false,false] (by kernel_rfl) rfl rfl ⟨(blk_cell BK427.out 0).trans rfl,(blk_cell BK427.out 1).trans rfl,(blk_cell BK427.out 2).trans rfl⟩ (fun hHeld => ?_);refine with_tabW Zj.tab8 Zj.bits8 (fun HT_ HW_ => ?_)
      generalize w33.drew = w52 at BK424 BK427 HB hHeld ⊢
      refine tk_ 0 35 HT_ HW_ hHeld ?_
      refine zon 1 (N := some 36) HT_ (fun K hK => ?_)
      refine zgo Tryz.func62 #[.agg #[.int .i64 ((rd_T76 l0_6 x30_2).f0),.int .i64 ((rd_T76 l0_6 x30_2).f1),.string ((rd_T76 l0_6 x30_2).f2)]] ?_
      with_reducible refine (ZU.calls ((rd_T76 l0_6 x30_2).f0) ((rd_T76 l0_6 x30_2).f1) ((rd_T76 l0_6 x30_2).f2) false _ A23.out).mono ?_
      rintro e w53 ⟨rfl,hb⟩
      refine ⟨_,rfl,?_⟩
      replace BK427 := zb BK427 hb
      replace HB := zs_ HB hb
      try clear hb
      refine hK.out _ _ ⟨(blk_cell BK427.out 0).trans rfl,(blk_cell BK427.out 1).trans rfl,(blk_cell BK427.out 2).trans rfl⟩ (fun hHeld => ?_)
      clear hK K
      refine nm_ ?_
      refine pu_ 2 37 HT_ ?_
      refine pu_ 3 38 HT_ ?_
      refine px_ 4 39 HT_ ?_
      refine px_ 5 40 HT_ ?_
      refine px_ 6 41 HT_ ?_
      refine px_ 7 42 HT_ ?_
      refine px_ 8 43 HT_ ?_
      refine px_ 9 44 HT_ ?_
      refine px_ 10 45 HT_ ?_
      refine px_ 11 46 HT_ ?_
      refine px_ 12 47 HT_ ?_
      refine px_ 13 48 HT_ ?_
      refine px_ 14 49 HT_ ?_
      refine px_ 15 50 HT_ ?_
      refine px_ 16 51 HT_ ?_
      refine px_ 17 52 HT_ ?_
      refine pu_ 18 53 HT_ ?_
      refine done_ (done_of HT_.out (by kernel_rfl)) ?_
      try go_wp2
      go_ret
      exact ⟨zt_,zl_ HB⟩
     subst c24
     rw [if_pos rfl] at H
     by_cases c25 : x30_2 > 0
     case neg =>
      rw [if_neg c25] at H
      have c25b0 : decide (0 < x30_2) = false := decide_eq_false c25
      clear c25
      have H' := am_ H
      clear H
      refine start_ (n := 19) (S := fun w' => w'.cell? ⟨gb427,0,none⟩ = some (.int .i64 ((rd_T76 l0_6 x30_2).f0)) ∧ w'.cell? ⟨gb427,1,none⟩ = some (.int .i64 ((rd_T76 l0_6 x30_2).f1)) ∧ w'.cell? ⟨gb427,2,none⟩ = some (.string ((rd_T76 l0_6 x30_2).f2))) (ds := []) #[false,false,false,false,false,false,false,false,false,false,false,false,false,false,false,false,false,false,false] (by kernel_rfl) rfl rfl ⟨(blk_cell BK427.out 0).trans rfl,(blk_cell BK427.out 1).trans rfl,(blk_cell BK427.out 2).trans rfl⟩ (fun hHeld => ?_);refine with_tabW Zj.tab8 Zj.bits8 (fun HT_ HW_ => ?_)
      generalize w33.drew = w46 at BK424 BK427 HB hHeld ⊢
      refine tk_ 0 35 HT_ HW_ hHeld ?_
      refine zon 1 (N := some 36) HT_ (fun K hK => ?_)
      refine zgo Tryz.func62 #[.agg #[.int .i64 ((rd_T76 l0_6 x30_2).f0),.int .i64 ((rd_T76 l0_6 x30_2).f1),.string ((rd_T76 l0_6 x30_2).f2)]] ?_
      with_reducible refine (ZU.calls ((rd_T76 l0_6 x30_2).f0) ((rd_T76 l0_6 x30_2).f1) ((rd_T76 l0_6 x30_2).f2) true _ A23.out).mono ?_
      rintro e w47 ⟨rfl,hb⟩
      refine ⟨_,rfl,?_⟩
      replace BK424 := zb BK424 hb
      replace BK427 := zb BK427 hb
      replace HB := zs_ HB hb
      try clear hb
      refine hK.out _ _ ⟨(blk_cell BK427.out 0).trans rfl,(blk_cell BK427.out 1).trans rfl,(blk_cell BK427.out 2).trans rfl⟩ (fun hHeld => ?_)
      clear hK K
      refine nm_ ?_
      refine pu_ 2 37 HT_ ?_
      refine pu_ 3 38 HT_ ?_
      refine pu_ 4 39 HT_ ?_
      refine pu_ 5 40 HT_ ?_
      refine pu_ 6 41 HT_ ?_
      refine px_ 7 42 HT_ ?_
      refine px_ 8 43 HT_ ?_
      refine px_ 9 44 HT_ ?_
      refine px_ 10 45 HT_ ?_
      refine px_ 11 46 HT_ ?_
      refine px_ 12 47 HT_ ?_
      refine px_ 13 48 HT_ ?_
      refine px_ 14 49 HT_ ?_
      refine px_ 15 50 HT_ ?_
      refine px_ 16 51 HT_ ?_
      refine pu_ 17 52 HT_ ?_
      refine pu_ 18 53 HT_ ?_
      refine done_ (done_of HT_.out (by kernel_rfl)) ?_
      try go_wp2
      go_roundg k2
      case measure => have := HJ7.out;have := HK2.out;omega
      case rel => exact ⟨(wrap64 (x30_2 + 1)),(by first | rfl | (simp;done) | (simp [*];done)),H',⟨by have := HJ7.out;have := HK2.out;omega⟩,⟨by (with_reducible repeat (first | apply k1_ | apply k2_ | apply k3_));exact BK424.out⟩,⟨zl_ HB⟩⟩
     rw [if_pos c25] at H
     have c25b0 : decide (0 < x30_2) = true := decide_eq_true c25
     clear c25
     obtain ⟨ji26,hji26⟩ : ∃ j_ : Int,(wrap64 (x30_2 - 1)) = j_ := ⟨_,rfl⟩
     replace H : (if 0 ≤ (ji26) then (if (ji26) < (l0_6.length : Int) then (if ((rd_T76 l0_6 (ji26)).f0) ≥ ((rd_T76 l0_6 x30_2).f0) then (some false) else (Zj.l0 k2 l0_6 (l0_6.length : Int) (wrap64 (x30_2 + 1)) false a0_1 a0_2 a0_3 a0_4 a0_5 l0_6)) else (none)) else (none)) = some r := by first | (rw [hji26] at H;exact H) | (simp only [hji26] at H ⊢;exact H)
     (try rw [hji26] at A23)
     have hji26w : (IntKind.i64.wrap (x30_2 - 1)) = ji26 := (i64_w _).trans hji26
     by_cases c27 : 0 ≤ (ji26)
     case neg =>
      rw [if_neg c27] at H
      exact absurd H (by simp)
     rw [if_pos c27] at H
     have c27b0 := decide_eq_true c27
     clear c27
     by_cases c28 : (ji26) < (l0_6.length : Int)
     case neg =>
      rw [if_neg c28] at H
      exact absurd H (by simp)
     rw [if_pos c28] at H
     have c28b0 := decide_eq_true c28
     clear c28
     have p429 : 0 ≤ ((ji26) : Int) := zo_
     have q429 : (ji26) < (l0_6.length : Int) := zo_
     obtain ⟨ad429,e429,hx429_0,hx429_1,hx429_2⟩ := at_T76 HR0_6.out (ji26) p429 q429
     have hw429_2 := hx429_2
     have hw429_1 := hx429_1
     have hw429_0 := hx429_0
     obtain rfl : ad426 = ad429 := (by injection e429)
     replace hx429_0 := zx_ HB hx429_0
     replace hx429_1 := zx_ HB hx429_1
     replace hx429_2 := zx_ HB hx429_2
     replace p429 := eq_true p429
     replace q429 := eq_true q429
     refine start_ (n := 19) (S := fun w' => w'.cell? ⟨gb427,0,none⟩ = some (.int .i64 ((rd_T76 l0_6 x30_2).f0)) ∧ w'.cell? ⟨gb427,1,none⟩ = some (.int .i64 ((rd_T76 l0_6 x30_2).f1)) ∧ w'.cell? ⟨gb427,2,none⟩ = some (.string ((rd_T76 l0_6 x30_2).f2)) ∧ w'.cell? ⟨gb424,0,none⟩ = some (.bool false) ∧ w'.cell? ⟨gb424,1,none⟩ = some (.int .i64 a0_1) ∧ w'.cell? ⟨gb424,2,none⟩ = some (.int .i64 a0_2) ∧ w'.cell? ⟨gb424,3,none⟩ = some (.int .i64 a0_3) ∧ w'.cell? ⟨gb424,4,none⟩ = some (.int .i64 a0_4) ∧ w'.cell? ⟨gb424,5,none⟩ = some (.string a0_5) ∧ w'.cell? ⟨gb424,6,none⟩ = some (.slice (some ad426) l0_6.length c0_6) ∧ w'.cell? (ad426.add (((ji26)).toNat * 3)) = some (.int .i64 ((rd_T76 l0_6 (ji26)).f0)) ∧ w'.cell? ⟨(ad426.add (((ji26)).toNat * 3)).block,(ad426.add (((ji26)).toNat * 3)).off + 1,none⟩ = some (.int .i64 ((rd_T76 l0_6 (ji26)).f1)) ∧ w'.cell? ⟨(ad426.add (((ji26)).toNat * 3)).block,(ad426.add (((ji26)).toNat * 3)).off + 2,none⟩ = some (.string ((rd_T76 l0_6 (ji26)).f2))) (ds := []) #[false,false,false,false,false,false,false,false,false,false,false,false,false,false,false,false,false,false,false] (by kernel_rfl) rfl rfl ⟨(blk_cell BK427.out 0).trans rfl,(blk_cell BK427.out 1).trans rfl,(blk_cell BK427.out 2).trans rfl,(blk_cell BK424.out 0).trans rfl,(blk_cell BK424.out 1).trans rfl,(blk_cell BK424.out 2).trans rfl,(blk_cell BK424.out 3).trans rfl,(blk_cell BK424.out 4).trans rfl,(blk_cell BK424.out 5).trans rfl,(blk_cell BK424.out 6).trans rfl,(zx_ HB hw429_0),(zx_ HB hw429_1),(zx_ HB hw429_2)⟩ (fun hHeld => ?_);refine with_tabW Zj.tab8 Zj.bits8 (fun HT_ HW_ => ?_)
     generalize w33.drew = w34 at BK424 BK427 HB hx429_0 hx429_1 hx429_2 hHeld ⊢
     refine tk_ 0 35 HT_ HW_ hHeld ?_
     refine zon 1 (N := some 36) HT_ (fun K hK => ?_)
     refine zgo Tryz.func62 #[.agg #[.int .i64 ((rd_T76 l0_6 x30_2).f0),.int .i64 ((rd_T76 l0_6 x30_2).f1),.string ((rd_T76 l0_6 x30_2).f2)]] ?_
     with_reducible refine (ZU.calls ((rd_T76 l0_6 x30_2).f0) ((rd_T76 l0_6 x30_2).f1) ((rd_T76 l0_6 x30_2).f2) true _ A23.out).mono ?_
     rintro e w35 ⟨rfl,hb⟩
     refine ⟨_,rfl,?_⟩
     replace BK424 := zb BK424 hb
     replace BK427 := zb BK427 hb
     replace HB := zs_ HB hb
     try clear hb
     refine hK.out _ _ ⟨(blk_cell BK427.out 0).trans rfl,(blk_cell BK427.out 1).trans rfl,(blk_cell BK427.out 2).trans rfl,(blk_cell BK424.out 0).trans rfl,(blk_cell BK424.out 1).trans rfl,(blk_cell BK424.out 2).trans rfl,(blk_cell BK424.out 3).trans rfl,(blk_cell BK424.out 4).trans rfl,(blk_cell BK424.out 5).trans rfl,(blk_cell BK424.out 6).trans rfl,(zx_ HB hw429_0),(zx_ HB hw429_1),(zx_ HB hw429_2)⟩ (fun hHeld => ?_)
     clear hK K
     refine nm_ ?_
     by_cases c29 : ((rd_T76 l0_6 (ji26)).f0) ≥ ((rd_T76 l0_6 x30_2).f0)
     ·rw [if_pos c29] at H
      have c29b0 : decide (((rd_T76 l0_6 x30_2).f0) ≤ ((rd_T76 l0_6 (ji26)).f0)) = true := decide_eq_true c29
      clear c29
      obtain rfl := Option.some.inj H
      refine pu_ 2 37 HT_ ?_
      refine pu_ 3 38 HT_ ?_
      refine pu_ 4 39 HT_ ?_
      refine pu_ 5 40 HT_ ?_
      refine pu_ 6 41 HT_ ?_
      refine pu_ 7 42 HT_ ?_
      refine pu_ 9 44 HT_ ?_
      refine pu_ 10 45 HT_ ?_
      refine pu_ 14 49 HT_ ?_
      refine tk_ 8 43 HT_ HW_ hHeld ?_
      refine pu_ 11 46 HT_ ?_
      refine pu_ 12 47 HT_ ?_
      refine tk_ 13 48 HT_ HW_ hHeld ?_
      refine tk_ 15 50 HT_ HW_ hHeld ?_
      refine pu_ 16 51 HT_ ?_
      refine pu_ 17 52 HT_ ?_
      refine pu_ 18 53 HT_ ?_
      refine done_ (done_of HT_.out (by kernel_rfl)) ?_
      try go_wp2
      go_ret
      exact ⟨by first | rfl | (simp [e1_,e2_] <;> rfl) | (simp only [← hji26];first | rfl | (simp [e1_,e2_] <;> rfl)) | (simp [*,e1_,e2_] <;> rfl) | (simp [e3_,e4_];done) | (simp [*,e3_,e4_];done),zl_ HB⟩
     rw [if_neg c29] at H
     have c29b0 : decide (((rd_T76 l0_6 x30_2).f0) ≤ ((rd_T76 l0_6 (ji26)).f0)) = false := decide_eq_false c29
     clear c29
     have H' := am_ H
     clear H
     refine pu_ 2 37 HT_ ?_
     refine pu_ 3 38 HT_ ?_
     refine pu_ 4 39 HT_ ?_
     refine pu_ 5 40 HT_ ?_
     refine pu_ 6 41 HT_ ?_
     refine pu_ 7 42 HT_ ?_
     refine pu_ 9 44 HT_ ?_
     refine pu_ 10 45 HT_ ?_
     refine pu_ 14 49 HT_ ?_
     refine tk_ 8 43 HT_ HW_ hHeld ?_
     refine pu_ 11 46 HT_ ?_
     refine pu_ 12 47 HT_ ?_
     refine tk_ 13 48 HT_ HW_ hHeld ?_
     refine tk_ 15 50 HT_ HW_ hHeld ?_
     refine pu_ 16 51 HT_ ?_
     refine pu_ 17 52 HT_ ?_
     refine pu_ 18 53 HT_ ?_
     refine done_ (done_of HT_.out (by kernel_rfl)) ?_
     try go_wp2
     go_roundg k2
     case measure => have := HJ7.out;have := HK2.out;omega
     case rel => exact ⟨(wrap64 (x30_2 + 1)),(by first | rfl | (simp;done) | (simp [*];done)),H',⟨by have := HJ7.out;have := HK2.out;omega⟩,⟨by (with_reducible repeat (first | apply k1_ | apply k2_ | apply k3_));exact BK424.out⟩,⟨zl_ HB⟩⟩
end Go.Proofs.YtbhegbhdenngbaaGreatDoor.A
end

section
namespace Go.Proofs.YtbhegbhdenngbaaGreatDoor.A
open Go.RowKit Go.Proofs.YtbhegbhdenngbaaGreatDoorW.PrintWords Go.Proofs.YtbhegbhdenngbaaGreatDoorW.PrintLast Go.Proofs.YtbhegbhdenngbaaGreatDoorW.PrintMore
attribute [local go_sem] max2_int min2_int max_two min_two max_three min_three max_four min_four
theorem Yb.calls (g : Nat) (s0_0 : ByteArray) (s0_1 : Bool) (r1 : Bool) (r2 : ByteArray) (r3 : Bool) (w0 w : World) (hI : IsS92 w0 w g s0_0 s0_1) (hB : Below w0.heap.size w0 w) (h : Yb.f s0_0 s0_1 = some (r1,r2,r3)) :
  Calls Tryz.prog 60 #[.pointer (some ⟨g,0,none⟩)] w fun e w' => e = .returned (.bool r1) ∧ IsS92 w0 w' g r2 r3 ∧ Below w0.heap.size w0 w' ∧ KeepBut w w' g none := by
 have HI0 := am_ hI
 have HK := am_ (KeepBut.refl w g none)
 have HL := am_ hB.size
 clear hI
 have HW0 := am_ hB.size
 have HB := am_ hB
 clear hB
 have H : (if s0_1 = true then (some (false,s0_0,s0_1)) else (some ((s0_0.toList == ([] : List UInt8)),s0_0,s0_1))) = some (r1,r2,r3) := h
 clear h
 by_cases c2 : s0_1 = true
 ·subst c2
  rw [if_pos rfl] at H
  simp only [Option.some.injEq,Prod.mk.injEq] at H
  obtain ⟨rfl,rfl,rfl⟩ := H
  obtain ⟨HGz3,hgz3⟩ := HI0.out
  have hcz3_0 := cellS92_0 HGz3
  have hcz3_1 := cellS92_1 HGz3
  have hfz3_0 := blk_frozen HGz3 0
  have hfz3_1 := blk_frozen HGz3 1
  clear HGz3 hgz3
  go_enter Tryz.func60,Tryz.ntmps60
  go_wp2
  go_ret
  exact ⟨zt_,(zi92 HI0),zl_ HB,zh_ HK⟩
 replace c2 := Bool.eq_false_iff.mpr c2
 subst c2
 rw [if_neg (show ¬ (false = true) by decide)] at H
 simp only [Option.some.injEq,Prod.mk.injEq] at H
 obtain ⟨rfl,rfl,rfl⟩ := H
 obtain ⟨HGz4,hgz4⟩ := HI0.out
 have hcz4_0 := cellS92_0 HGz4
 have hcz4_1 := cellS92_1 HGz4
 have hfz4_0 := blk_frozen HGz4 0
 have hfz4_1 := blk_frozen HGz4 1
 clear HGz4 hgz4
 go_enter Tryz.func60,Tryz.ntmps60
 go_wp2
 go_ret
 exact ⟨zt_,(zi92 HI0),zl_ HB,zh_ HK⟩
theorem ZG.calls (g : Nat) (s0_0 : ByteArray) (s0_1 : Bool) (a1 : Int) (r1 : ByteArray) (r2 : ByteArray) (r3 : Bool) (w0 w : World) (hI : IsS92 w0 w g s0_0 s0_1) (hB : Below w0.heap.size w0 w) (h : ZG.f s0_0 s0_1 a1 = some (r1,r2,r3)) :
  Calls Tryz.prog 58 #[.pointer (some ⟨g,0,none⟩),.int .i64 a1] w fun e w' => e = .returned (.string r1) ∧ IsS92 w0 w' g r2 r3 ∧ Below w0.heap.size w0 w' ∧ KeepBut w w' g none := by
 have HI0 := am_ hI
 have HK := am_ (KeepBut.refl w g none)
 have HL := am_ hB.size
 clear hI
 have HW0 := am_ hB.size
 have HB := am_ hB
 clear hB
 have H : (if s0_1 = true then (some ((⟨#[]⟩ : ByteArray),s0_0,true)) else (if a1 > (s0_0.size : Int) then (some ((⟨#[]⟩ : ByteArray),s0_0,true)) else (if 0 ≤ a1 then (if a1 ≤ (s0_0.size : Int) then (some (s0_0.extract 0 (a1 : Int).toNat,s0_0.extract (a1 : Int).toNat s0_0.size,s0_1)) else (none)) else (none)))) = some (r1,r2,r3) := h
 clear h
 by_cases c3 : s0_1 = true
 ·subst c3
  rw [if_pos rfl] at H
  simp only [Option.some.injEq,Prod.mk.injEq] at H
  obtain ⟨rfl,rfl,rfl⟩ := H
  obtain ⟨HGz4,hgz4⟩ := HI0.out
  have hcz4_0 := cellS92_0 HGz4
  have hcz4_1 := cellS92_1 HGz4
  have hfz4_0 := blk_frozen HGz4 0
  have hfz4_1 := blk_frozen HGz4 1
  clear HGz4 hgz4
  go_enter Tryz.func58,Tryz.ntmps58
  go_wp2
  go_ret
  exact ⟨zt_,(zi92 HI0),zl_ HB,zh_ HK⟩
 replace c3 := Bool.eq_false_iff.mpr c3
 subst c3
 rw [if_neg (show ¬ (false = true) by decide)] at H
 by_cases c5 : a1 > (s0_0.size : Int)
 ·rw [if_pos c5] at H
  have c5b0 : decide ((s0_0.size : Int) < a1) = true := decide_eq_true c5
  clear c5
  simp only [Option.some.injEq,Prod.mk.injEq] at H
  obtain ⟨rfl,rfl,rfl⟩ := H
  obtain ⟨HGz6,hgz6⟩ := HI0.out
  have hcz6_0 := cellS92_0 HGz6
  have hcz6_1 := cellS92_1 HGz6
  have hfz6_0 := blk_frozen HGz6 0
  have hfz6_1 := blk_frozen HGz6 1
  clear HGz6 hgz6
  go_enter Tryz.func58,Tryz.ntmps58
  go_wp2
  go_ret
  exact ⟨zt_,(zi92 HI0),zl_ HB,zh_ HK⟩
 rw [if_neg c5] at H
 have c5b0 : decide ((s0_0.size : Int) < a1) = false := decide_eq_false c5
 clear c5
 by_cases c7 : 0 ≤ a1
 case neg =>
  rw [if_neg c7] at H
  exact absurd H (by simp)
 rw [if_pos c7] at H
 have c7b0 := eq_true c7
 have c7b1 := decide_eq_true c7
 clear c7
 by_cases c8 : a1 ≤ (s0_0.size : Int)
 case neg =>
  rw [if_neg c8] at H
  exact absurd H (by simp)
 rw [if_pos c8] at H
 have c8b0 := eq_true c8
 have c8b1 := decide_eq_true c8
 clear c8
 have c9b0 := eq_true (zo_ : 0 ≤ a1)
 have c10b0 := eq_true (zo_ : a1 ≤ (s0_0.size : Int))
 simp only [Option.some.injEq,Prod.mk.injEq] at H
 obtain ⟨rfl,rfl,rfl⟩ := H
 obtain ⟨HGz11,hgz11⟩ := HI0.out
 have hcz11_0 := cellS92_0 HGz11
 have hcz11_1 := cellS92_1 HGz11
 have hfz11_0 := blk_frozen HGz11 0
 have hfz11_1 := blk_frozen HGz11 1
 clear HGz11 hgz11
 go_enter Tryz.func58,Tryz.ntmps58
 go_wp2
 go_ret
 exact ⟨zt_,(zi92 HI0),zl_ HB,zh_ HK⟩
theorem Zd.calls (k : Nat) (g : Nat) (s0_0 : ByteArray) (s0_1 : Bool) (a1 : Int) (r1 : Int) (r2 : ByteArray) (r3 : Bool) (w0 w : World) (hI : IsS92 w0 w g s0_0 s0_1) (hB : Below w0.heap.size w0 w) (h : Zd.f k s0_0 s0_1 a1 = some (r1,r2,r3)) :
  Calls Tryz.prog 57 #[.pointer (some ⟨g,0,none⟩),.int .i64 a1] w fun e w' => e = .returned (.int .i64 r1) ∧ IsS92 w0 w' g r2 r3 ∧ Below w0.heap.size w0 w' ∧ KeepBut w w' g none := by
 have HI0 := am_ hI
 have HK := am_ (KeepBut.refl w g none)
 have HL := am_ hB.size
 clear hI
 have HW0 := am_ hB.size
 have HB := am_ hB
 clear hB
 have H : ((ZG.f s0_0 s0_1 a1).bind fun bt383 => (if bt383.1.size ≤ 140737488355328 then ((some (bytesOf bt383.1 : List Int)).bind fun y386 => (Zd.l0 k 0 y386 (y386.length : Int) 0 bt383.2.1 bt383.2.2)) else (none))) = some (r1,r2,r3) := h
 clear h
 replace H := Option.bind_eq_some_iff.mp H
 obtain ⟨⟨t383,t384,t385⟩,A30,H⟩ := H
 try dsimp only at H
 have A3 := am_ A30
 clear A30
 by_cases c4 : t383.size ≤ 140737488355328
 case neg =>
  rw [if_neg c4] at H
  exact absurd H (by simp)
 rw [if_pos c4] at H
 have c4b0 := eq_true c4
 have c4b1 := decide_eq_true c4
 clear c4
 obtain ⟨y386,hy386⟩ : ∃ y_ : List Int,y_ = (bytesOf t383) := ⟨_,rfl⟩
 replace H : (Zd.l0 k 0 y386 (y386.length : Int) 0 t384 t385) = some (r1,r2,r3) := by first | (rw [hy386];with_reducible exact H) | (have H2_ := (Option.bind_some _ _).symm.trans H;rw [hy386];with_reducible exact H2_) | (have H2_ := (Option.bind_some _ _).symm.trans H;with_reducible exact H2_) | with_reducible exact H | (rw [hy386];exact H) | exact H
 have Ny386 := am_ hy386
 clear hy386
 have H' := am_ H
 clear H
 go_enter Tryz.func57,Tryz.ntmps57
 go_wp2_with (first | ((with_reducible refine gate_callee (f := 58) rfl ?_);refine zgl (some 10) Tryz.func58 #[.pointer (some ⟨g,0,none⟩),.int .i64 a1] ?_;(with_reducible refine (ZG.calls g s0_0 s0_1 a1 t383 t384 t385 w0 _ ?side1 ?side2 A3.out).mono ?_);(case side1 => exact zi92 HI0);(case side2 => exact zl_ HB);rintro e w5 ⟨rfl,hi,hb,hk⟩;refine ⟨_,rfl,?_⟩;replace HK := am_ (KeepBut.trans (zh_ HK) hk (.inl rfl));replace HB := am_ (hb);replace HI0 := am_ (hi);(try clear hb);(try clear hk);(try clear hi)) | ((with_reducible refine gate_dst (N := 11) rfl ?_);refine Kd.V_conv (Kd.int .u8) rfl _ 5 rfl (N := 11) rfl 9 65 _ rfl t383 rfl Tryz.underlying9 Tryz.underlying65 Tryz.underlying5 (ok := fun k_ => w5.heap.size ≤ k_) (okp := fun _ => False) (fun _ hk => hk.elim) (Nat.le_refl _) (by have := o1_ (by first | (with_reducible assumption) | assumption : decide (t383.size ≤ 140737488355328) = true);omega) (Below.refl _ _) (Nat.le_refl _) ?_;intro v387 w6 ho7 hb hg_ hnew_;clear hg_ hnew_;(first | rw [← Ny386.out] at ho7 | (simp only [Int.reduceToNat] at ho7;rw [← Ny386.out] at ho7));have HO388 := am_ (Kd.V_lower (Kd.V_mono (ok' := fun k_ => k_ ≠ g) ho7 (fun k_ hk_ => (IsS92.fresh (zi92 HI0) k_ hk_))) (keep_size (w := w) (g := g) (row := none) (zh_ HK)));replace HI0 := am_ (IsS92.below (zi92 HI0) hb);replace HK := am_ (KeepBut.trans (zh_ HK) (KeepBut.of_below hb g none) (.inl rfl));replace HB := zs_ HB hb;clear hb ho7;obtain ⟨Ao8,co8,eo8⟩ := Kd.V_slice HO388.out;subst eo8))
 go_loopg [5,13] k (fun kq v5 v13 w' => ∃ (x5_1 : Int) (x13_1 : Int),v5 = .int .i64 x5_1 ∧ v13 = .int .i64 x13_1 ∧ Aside0 (Zd.l0 kq x5_1 y386 (y386.length : Int) x13_1 t384 t385 = some (r1,r2,r3)) ∧ Aside0 (kq ≤ k) ∧ Aside0 (Kd.V (Kd.int .u8) 5 w' w.heap.size (fun k_ => k_ ≠ g) (.slice Ao8 y386.length co8) y386) ∧ Aside0 (IsS92 w0 w' g t384 t385) ∧ Aside0 (KeepBut w w' g none) ∧ Aside0 (Below w0.heap.size w0 w'))
 case atStart => exact ⟨(0),(0),(by first | rfl | (simp;done) | (simp [*];done)),(by first | rfl | (simp;done) | (simp [*];done)),H',⟨Nat.le_refl _⟩,⟨by (with_reducible repeat (first | apply Kd.V_alloc | apply Kd.V_drewN | apply Kd.V_drew));exact HO388.out⟩,⟨(zi92 HI0)⟩,⟨zh_ HK⟩,⟨zl_ HB⟩⟩
 case round =>
  clear H'
  try clear p2
  try clear c4
  try clear c4b0
  try clear c4b1
  try clear c5
  obtain ⟨x5_1,x13_1,rfl,rfl,HA,HK1,HO_11,HI0,HK,HB⟩ := hrel
  cases gk with
  | zero => exact absurd HA.out (by simp [Zd.l0])
  | succ k1 =>
   have H := HA.out
   clear HA
   simp only [Zd.l0] at H
   by_cases c9 : x13_1 < (y386.length : Int)
   case neg =>
    rw [if_neg c9] at H
    have c9b0 := decide_eq_false c9
    clear c9
    simp only [Option.some.injEq,Prod.mk.injEq] at H
    obtain ⟨rfl,rfl,rfl⟩ := H
    go_wp2
    go_ret
    exact ⟨zt_,(zi92 HI0),zl_ HB,zh_ HK⟩
   rw [if_pos c9] at H
   have c9b0 := decide_eq_true c9
   clear c9
   by_cases c10 : 0 ≤ x13_1
   case neg =>
    rw [if_neg c10] at H
    exact absurd H (by simp)
   rw [if_pos c10] at H
   have c10b0 := decide_eq_true c10
   clear c10
   by_cases c11 : x13_1 < (y386.length : Int)
   case neg =>
    rw [if_neg c11] at H
    exact absurd H (by simp)
   rw [if_pos c11] at H
   have c11b0 := decide_eq_true c11
   clear c11
   have H' := am_ H
   clear H
   have p389 : 0 ≤ (x13_1 : Int) := zo_
   have q389 : x13_1 < (y386.length : Int) := zo_
   obtain ⟨ad389,e389,hx389_0⟩ := Kd.at_int (Kd.V_reads' HO_11.out).2.2 x13_1 p389 q389
   cases e389
   replace p389 := eq_true p389
   replace q389 := eq_true q389
   go_wp2
   go_roundg k1
   case measure => have := HK1.out;omega
   case rel => exact ⟨(Go.bits .or .i64 (wrap64 (x5_1 * 256)) (wrap64 (rd y386 x13_1))),(wrap64 (x13_1 + 1)),(by first | rfl | (simp;done) | (simp [*];done)),(by first | rfl | (simp;done) | (simp [*];done)),H',⟨by have := HK1.out;omega⟩,⟨by (with_reducible repeat (first | apply Kd.V_alloc | apply Kd.V_drewN | apply Kd.V_drew));exact HO_11.out⟩,⟨(zi92 HI0)⟩,⟨zh_ HK⟩,⟨zl_ HB⟩⟩
theorem ZI.calls (k : Nat) (g : Nat) (s0_0 : ByteArray) (s0_1 : Bool) (a1 : Int) (r1 : ByteArray) (r2 : ByteArray) (r3 : Bool) (w0 w : World) (hI : IsS92 w0 w g s0_0 s0_1) (hB : Below w0.heap.size w0 w) (h : ZI.f k s0_0 s0_1 a1 = some (r1,r2,r3)) :
  Calls Tryz.prog 70 #[.pointer (some ⟨g,0,none⟩),.int .i64 a1] w fun e w' => e = .returned (.string r1) ∧ IsS92 w0 w' g r2 r3 ∧ Below w0.heap.size w0 w' ∧ KeepBut w w' g none := by
 have HI0 := am_ hI
 have HK := am_ (KeepBut.refl w g none)
 have HL := am_ hB.size
 clear hI
 have HW0 := am_ hB.size
 have HB := am_ hB
 clear hB
 have H : ((Zd.f k s0_0 s0_1 a1).bind fun bt390 => ((ZG.f bt390.2.1 bt390.2.2 bt390.1).bind fun bt393 => (some (bt393.1,bt393.2.1,bt393.2.2)))) = some (r1,r2,r3) := h
 clear h
 replace H := Option.bind_eq_some_iff.mp H
 obtain ⟨⟨t390,t391,t392⟩,A30,H⟩ := H
 try dsimp only at H
 have A3 := am_ A30
 clear A30
 replace H := Option.bind_eq_some_iff.mp H
 obtain ⟨⟨t393,t394,t395⟩,A40,H⟩ := H
 try dsimp only at H
 have A4 := am_ A40
 clear A40
 simp only [Option.some.injEq,Prod.mk.injEq] at H
 obtain ⟨rfl,rfl,rfl⟩ := H
 go_enter Tryz.func70,Tryz.ntmps70
 go_wp2_with (first | ((with_reducible refine gate_callee (f := 57) rfl ?_);refine zgl (some 8) Tryz.func57 #[.pointer (some ⟨g,0,none⟩),.int .i64 a1] ?_;(with_reducible refine (Zd.calls k g s0_0 s0_1 a1 t390 t391 t392 w0 _ ?side1 ?side2 A3.out).mono ?_);(case side1 => exact zi92 HI0);(case side2 => exact zl_ HB);rintro e w5 ⟨rfl,hi,hb,hk⟩;refine ⟨_,rfl,?_⟩;replace HK := am_ (KeepBut.trans (zh_ HK) hk (.inl rfl));replace HB := am_ (hb);replace HI0 := am_ (hi);(try clear hb);(try clear hk);(try clear hi)) | ((with_reducible refine gate_callee (f := 58) rfl ?_);refine zgl (some 9) Tryz.func58 #[.pointer (some ⟨g,0,none⟩),.int .i64 t390] ?_;(with_reducible refine (ZG.calls g t391 t392 t390 t393 t394 t395 w0 _ ?side1 ?side2 A4.out).mono ?_);(case side1 => exact zi92 HI0);(case side2 => exact zl_ HB);rintro e w6 ⟨rfl,hi,hb,hk⟩;refine ⟨_,rfl,?_⟩;replace HK := am_ (KeepBut.trans (zh_ HK) hk (.inl rfl));replace HB := am_ (hb);replace HI0 := am_ (hi);(try clear hb);(try clear hk);(try clear hi)))
 go_ret
 exact ⟨zt_,(zi92 HI0),zl_ HB,zh_ HK⟩
theorem ZE.calls (k : Nat) (g : Nat) (s0_0 : ByteArray) (s0_1 : Bool) (r1 : Int) (r2 : Int) (r3 : Int) (r4 : Int) (r5 : ByteArray) (r6 : ByteArray) (r7 : Bool) (w0 w : World) (hI : IsS92 w0 w g s0_0 s0_1) (hB : Below w0.heap.size w0 w) (h : ZE.f k s0_0 s0_1 = some (r1,r2,r3,r4,r5,r6,r7)) :
  Calls Tryz.prog 59 #[.pointer (some ⟨g,0,none⟩)] w fun e w' => e = .returned (.agg #[.int .i64 r1,.int .i64 r2,.int .i64 r3,.int .i64 r4,.string r5]) ∧ IsS92 w0 w' g r6 r7 ∧ Below w0.heap.size w0 w' ∧ KeepBut w w' g none := by
 have hu52 := Tryz.underlying52
 have HI0 := am_ hI
 have HK := am_ (KeepBut.refl w g none)
 have HL := am_ hB.size
 clear hI
 have HW0 := am_ hB.size
 have HB := am_ hB
 clear hB
 have H : ((Zd.f k s0_0 s0_1 1).bind fun bt397 => ((Zd.f k bt397.2.1 bt397.2.2 2).bind fun bt400 => ((Zd.f k bt400.2.1 bt400.2.2 1).bind fun bt403 => ((Zd.f k bt403.2.1 bt403.2.2 2).bind fun bt406 => ((ZI.f k bt406.2.1 bt406.2.2 1).bind fun bt409 => (some (bt397.1,bt400.1,bt403.1,bt406.1,bt409.1,bt409.2.1,bt409.2.2))))))) = some (r1,r2,r3,r4,r5,r6,r7) := h
 clear h
 replace H := Option.bind_eq_some_iff.mp H
 obtain ⟨⟨t397,t398,t399⟩,A20,H⟩ := H
 try dsimp only at H
 have A2 := am_ A20
 clear A20
 replace H := Option.bind_eq_some_iff.mp H
 obtain ⟨⟨t400,t401,t402⟩,A30,H⟩ := H
 try dsimp only at H
 have A3 := am_ A30
 clear A30
 replace H := Option.bind_eq_some_iff.mp H
 obtain ⟨⟨t403,t404,t405⟩,A40,H⟩ := H
 try dsimp only at H
 have A4 := am_ A40
 clear A40
 replace H := Option.bind_eq_some_iff.mp H
 obtain ⟨⟨t406,t407,t408⟩,A50,H⟩ := H
 try dsimp only at H
 have A5 := am_ A50
 clear A50
 replace H := Option.bind_eq_some_iff.mp H
 obtain ⟨⟨t409,t410,t411⟩,A60,H⟩ := H
 try dsimp only at H
 have A6 := am_ A60
 clear A60
 simp only [Option.some.injEq,Prod.mk.injEq] at H
 obtain ⟨rfl,rfl,rfl,rfl,rfl,rfl,rfl⟩ := H
 go_enter Tryz.func59,Tryz.ntmps59
 go_wp2_with (first | ((with_reducible refine gate_dst (N := 2) rfl ?_);refine zbx (N := 2) (cs := #[.int .i64 0,.int .i64 0,.int .i64 0,.int .i64 0,.string ⟨#[]⟩]) (t := 52) ?_;intro gb396 hg w7 hbox hb;replace HB := zs_ HB hb;have BK396 := am_ (hbox);have GW396 := am_ ((by rw [hg];exact (keep_size (w := w) (g := g) (row := none) (zh_ HK)) : w.heap.size ≤ gb396));have GE396 := am_ ((Nat.le_trans HW0.out (by rw [hg];exact (keep_size (w := w) (g := g) (row := none) (zh_ HK)) : w.heap.size ≤ gb396) : w0.heap.size ≤ gb396));replace HK := am_ (KeepBut.trans (zh_ HK) (KeepBut.of_below hb g none) (.inl rfl));have NB0_396 := am_ ((by rw [hg];exact Nat.ne_of_lt (IsS92.lt (show IsS92 w0 _ g s0_0 s0_1 from (zi92 HI0))) : g ≠ gb396));have NB396_0 := am_ ((by rw [hg];exact Nat.ne_of_gt (IsS92.lt (show IsS92 w0 _ g s0_0 s0_1 from (zi92 HI0))) : gb396 ≠ g));replace HI0 := am_ (IsS92.below (zi92 HI0) hb);clear hb hbox hg) | ((with_reducible refine gate_callee (f := 57) rfl ?_);refine zgl (some 4) Tryz.func57 #[.pointer (some ⟨g,0,none⟩),.int .i64 1] ?_;(with_reducible refine (Zd.calls k g s0_0 s0_1 1 t397 t398 t399 w0 _ ?side1 ?side2 A2.out).mono ?_);(case side1 => exact zi92 HI0);(case side2 => exact zl_ HB);rintro e w8 ⟨rfl,hi,hb,hk⟩;refine ⟨_,rfl,?_⟩;replace BK396 := zkb hk BK396 NB396_0;replace HK := am_ (KeepBut.trans (zh_ HK) hk (.inl rfl));replace HB := am_ (hb);replace HI0 := am_ (hi);(try clear hb);(try clear hk);(try clear hi)) | ((with_reducible refine gate_callee (f := 57) rfl ?_);refine zgl (some 6) Tryz.func57 #[.pointer (some ⟨g,0,none⟩),.int .i64 2] ?_;(with_reducible refine (Zd.calls k g t398 t399 2 t400 t401 t402 w0 _ ?side1 ?side2 A3.out).mono ?_);(case side1 => exact zi92 HI0);(case side2 => exact zl_ HB);rintro e w9 ⟨rfl,hi,hb,hk⟩;refine ⟨_,rfl,?_⟩;replace BK396 := zkb hk BK396 NB396_0;replace HK := am_ (KeepBut.trans (zh_ HK) hk (.inl rfl));replace HB := am_ (hb);replace HI0 := am_ (hi);(try clear hb);(try clear hk);(try clear hi)) | ((with_reducible refine gate_callee (f := 57) rfl ?_);refine zgl (some 8) Tryz.func57 #[.pointer (some ⟨g,0,none⟩),.int .i64 1] ?_;(with_reducible refine (Zd.calls k g t401 t402 1 t403 t404 t405 w0 _ ?side1 ?side2 A4.out).mono ?_);(case side1 => exact zi92 HI0);(case side2 => exact zl_ HB);rintro e w10 ⟨rfl,hi,hb,hk⟩;refine ⟨_,rfl,?_⟩;replace BK396 := zkb hk BK396 NB396_0;replace HK := am_ (KeepBut.trans (zh_ HK) hk (.inl rfl));replace HB := am_ (hb);replace HI0 := am_ (hi);(try clear hb);(try clear hk);(try clear hi)) | ((with_reducible refine gate_callee (f := 57) rfl ?_);refine zgl (some 10) Tryz.func57 #[.pointer (some ⟨g,0,none⟩),.int .i64 2] ?_;(with_reducible refine (Zd.calls k g t404 t405 2 t406 t407 t408 w0 _ ?side1 ?side2 A5.out).mono ?_);(case side1 => exact zi92 HI0);(case side2 => exact zl_ HB);rintro e w11 ⟨rfl,hi,hb,hk⟩;refine ⟨_,rfl,?_⟩;replace BK396 := zkb hk BK396 NB396_0;replace HK := am_ (KeepBut.trans (zh_ HK) hk (.inl rfl));replace HB := am_ (hb);replace HI0 := am_ (hi);(try clear hb);(try clear hk);(try clear hi)) | ((with_reducible refine gate_callee (f := 70) rfl ?_);refine zgl (some 12) Tryz.func70 #[.pointer (some ⟨g,0,none⟩),.int .i64 1] ?_;(with_reducible refine (ZI.calls k g t407 t408 1 t409 t410 t411 w0 _ ?side1 ?side2 A6.out).mono ?_);(case side1 => exact zi92 HI0);(case side2 => exact zl_ HB);rintro e w12 ⟨rfl,hi,hb,hk⟩;refine ⟨_,rfl,?_⟩;replace BK396 := zkb hk BK396 NB396_0;replace HK := am_ (KeepBut.trans (zh_ HK) hk (.inl rfl));replace HB := am_ (hb);replace HI0 := am_ (hi);(try clear hb);(try clear hk);(try clear hi);have hnb13 := NB396_0.out;have hnc13 := NB0_396.out;obtain ⟨hcz14_0,hcz14_1,hcz14_2,hcz14_3,hcz14_4,hfz14_0,hfz14_1,hfz14_2,hfz14_3,hfz14_4⟩ := zc5 BK396))
 refine bodyPost_ret (results_cell_row rfl _ _ gb396 52 #[.int .i64 t397,.int .i64 t400,.int .i64 t403,.int .i64 t406,.string t409] (0,0) _ rfl (zq BK396) Tryz.underlying52 rfl (by kernel_rfl)) rfl ?_
 exact ⟨zt_,(zi92 HI0),zl_ HB,zh_ HK⟩
end Go.Proofs.YtbhegbhdenngbaaGreatDoor.A
end
