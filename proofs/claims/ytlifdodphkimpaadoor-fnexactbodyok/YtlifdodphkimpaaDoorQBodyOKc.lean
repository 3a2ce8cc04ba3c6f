/- A part of the proof that FnExactBodyOK returns true at every input: plain functions, contracts and lemmas. No conditions. -/
import Derived.Test.YtlifdodphkimpaaDoorQBodyOKb
import Derived.Lib.SlBy
import Derived.Lib.Walk
import Derived.RangeFuncBox
import Derived.RangeFuncLeaves
import Derived.Shelf.Abstract
import Derived.OwnWalkIn
import Derived.TacticsInMore
import Derived.LoopNIn
import Derived.LoopIn
import Derived.StillTailTactics
set_option linter.unusedVariables false
set_option linter.unusedSimpArgs false
set_option linter.unusedSectionVars false
section
namespace Go.Proofs.YtlifdodphkimpaaDoor.C
open Go.RowKit Go.Proofs.YtlifdodphkimpaaDoorW.PrintWords Go.Proofs.YtlifdodphkimpaaDoorW.PrintLast Go.Proofs.YtlifdodphkimpaaDoorW.PrintMore
abbrev k1_ := @blk_drewN
abbrev k2_ := @blk_drew
abbrev k3_ := @blk_alloc
abbrev b1_ := @below_alloc
abbrev b2_ := @pw_below_drewN
abbrev b3_ := @below_drew1
abbrev r1_ := @Kd.R_alloc
abbrev r2_ := @Kd.R_drewN
abbrev r3_ := @Kd.R_drew
theorem d1_ {α : Type _} (l : List α) (i : Nat) : (l.drop i).length = l.length - i := List.length_drop
theorem d2_ {α : Type _} (l : List α) (i : Nat) : (l.take i).length = min i l.length := List.length_take
theorem o1_ {p : Prop} [Decidable p] (h : decide p = true) : p := of_decide_eq_true h
theorem e3_ (l : List UInt8) : (l == []) = l.isEmpty := mp_beq_nil l
theorem e4_ (l : List UInt8) : (l != []) = !l.isEmpty := mp_bne_nil l
theorem am_ {p : Prop} (h : p) : Aside0 p := ⟨h⟩
theorem p1_ {α : Type _} (l : List α) (i : Nat) (a : α) : l.toArray.setIfInBounds i a = (l.set i a).toArray := List.setIfInBounds_toArray ..
theorem p2_ {α : Type _} (x : α) (xs : List α) (a : α) : (x :: xs).set 0 a = a :: xs := List.set_cons_zero
theorem p3_ {α : Type _} (x : α) (xs : List α) (i : Nat) (a : α) : (x :: xs).set (i + 1) a = x :: xs.set i a := List.set_cons_succ
theorem m1_ {α β : Type _} (f : α → β) (l : List α) : l.toArray.map f = (l.map f).toArray := List.map_toArray
theorem m2_ {α β : Type _} (f : α → β) (a : α) (l : List α) : (a :: l).map f = f a :: l.map f := List.map_cons
theorem m3_ {α β : Type _} (f : α → β) : ([] : List α).map f = [] := List.map_nil
attribute [local go_sem] max2_int min2_int max_two min_two max_three min_three max_four min_four
def errW : Option Int → Value
  | none => .nilIface
  | some c => .iface 0 (.int .i64 c)
theorem errW_none : errW none = .nilIface := rfl
theorem errW_some (c : Int) : errW (some c) = .iface 0 (.int .i64 c) := rfl
theorem e1_ : errW none = .nilIface := rfl
theorem e2_ (c : Int) : errW (some c) = .iface 0 (.int .i64 c) := rfl
theorem info3 : (Tryd.prog.info? 3).map (fun i => (i.zero, i.size, i.bytes)) = some (some (.int .i64 0), 1, 8) := by kernel_rfl
theorem info5 : (Tryd.prog.info? 5).map (fun i => (i.zero, i.size, i.bytes)) = some (some (.int .u8 0), 1, 1) := by kernel_rfl
theorem info174 : (Tryd.prog.info? 174).map (fun i => (i.zero, i.size, i.bytes)) = some (some (.int .u32 0), 1, 4) := by kernel_rfl
theorem info185 : (Tryd.prog.info? 185).map (fun i => (i.zero, i.size, i.bytes)) = some (some (.agg #[(.int .i64 0), (.int .i64 0), (.string ⟨#[]⟩)]), 3, 32) := by kernel_rfl
def k185 : Kd S185 := Kd.iso (Kd.pair (Kd.int .i64) (Kd.pair (Kd.int .i64) Kd.string)) (fun x : S185 => (x.f0, x.f1, x.f2))
theorem k185_open {w : World} {x : S185} {cs : List Value} (h : k185.K w x cs) : cs = [.int .i64 x.f0, .int .i64 x.f1, .string x.f2] := by
  obtain ⟨_, _, rfl, rfl, ⟨_, _, rfl, rfl, rfl⟩⟩ := h
  exact rfl
theorem k185_mkM (w : World) (base : Nat) (ok : Nat → Prop) (x : S185)  : k185.M w base ok x [.int .i64 x.f0, .int .i64 x.f1, .string x.f2] := ⟨[.int .i64 x.f0], [.int .i64 x.f1, .string x.f2], rfl, rfl, ⟨[.int .i64 x.f1], [.string x.f2], rfl, rfl, rfl⟩⟩
theorem at_T185 {w : World} {A : Option Addr} {n : Nat} {xs : List S185} (h : Kd.C k185 w A n xs) (i : Int) (h0 : 0 ≤ i) (h1 : i < n) : ∃ ad , A = some ad ∧ w.cell? (ad.add (i.toNat * 3)) = some (.int .i64 (rd_T185 xs i).f0) ∧ w.cell? ⟨(ad.add (i.toNat * 3)).block, (ad.add (i.toNat * 3)).off + 1, none⟩ = some (.int .i64 (rd_T185 xs i).f1) ∧ w.cell? ⟨(ad.add (i.toNat * 3)).block, (ad.add (i.toNat * 3)).off + 2, none⟩ = some (.string (rd_T185 xs i).f2) := by
  obtain ⟨ad, c, e, _, hK, hc0⟩ := Kd.C_get h z185 i h0 h1
  have hc : ∀ j u, c[j]? = some u → w.cell? (ad.add (i.toNat * 3 + j)) = some u := hc0
  obtain rfl := k185_open hK
  exact ⟨ad, e, hc 0 _ rfl, by rw [← add_field _ _ 1 (by omega)]; exact hc 1 _ rfl, by rw [← add_field _ _ 2 (by omega)]; exact hc 2 _ rfl⟩
/-- A state of type 155 at block g of W; what its slices lead to came in by w0. -/
def IsS155 (w0 W : World) (g : Nat) (f0 : List Int) (f1 : Int) (f2 : Int) : Prop := ∃ A0 c0, W.heap[g]? = some (.cells #[.slice A0 f0.length c0, .int .i64 f1, .int .i64 f2] 155 (0, 0)) ∧ w0.heap.size ≤ g ∧ Kd.C (Kd.int .u8) w0 A0 f0.length f0
theorem IsS155.grown {w0 W : World} {g : Nat} {f0 : List Int} {f1 : Int} {f2 : Int} {W1 : World} {row : Option Nat} (h : IsS155 w0 W g f0 f1 f2) (hw : W.grownBy W1 row) (hne : some g ≠ row) : IsS155 w0 W1 g f0 f1 f2 := by
  obtain ⟨A0, c0, hb, hg, hr0⟩ := h
  exact ⟨A0, c0, blk_grown hb hw hne, hg, hr0⟩
theorem IsS155.fresh {w0 W : World} {g : Nat} {f0 : List Int} {f1 : Int} {f2 : Int} (h : IsS155 w0 W g f0 f1 f2) : ∀ k, W.heap.size ≤ k → k ≠ g := by
  obtain ⟨A0, c0, hb, hg, hr0⟩ := h
  exact Kd.freshB hb
theorem IsS155.kept {w0 W : World} {g : Nat} {f0 : List Int} {f1 : Int} {f2 : Int} {W1 : World} {S : Nat → Prop} (h : IsS155 w0 W g f0 f1 f2) (hk : Kept W W1 S) (hne : ¬ S g) : IsS155 w0 W1 g f0 f1 f2 := by
  obtain ⟨A0, c0, hb, hg, hr0⟩ := h
  exact ⟨A0, c0, blk_kept hb hk hne, hg, hr0⟩
theorem IsS155.below {w0 W : World} {g : Nat} {f0 : List Int} {f1 : Int} {f2 : Int} {W1 : World} (h : IsS155 w0 W g f0 f1 f2) (hw : Below W.heap.size W W1) : IsS155 w0 W1 g f0 f1 f2 := h.grown (grown_of_below hw none) (by simp)
theorem IsS155.alloc {w0 W : World} {g : Nat} {f0 : List Int} {f1 : Int} {f2 : Int} (h : IsS155 w0 W g f0 f1 f2) (o : Obj) : IsS155 w0 (W.alloc o) g f0 f1 f2 := h.below (below_alloc (Below.refl _ _) o)
theorem IsS155.drewN {w0 W : World} {g : Nat} {f0 : List Int} {f1 : Int} {f2 : Int} (h : IsS155 w0 W g f0 f1 f2) (m : Nat) : IsS155 w0 (W.drewN m) g f0 f1 f2 := h
theorem IsS155.drew {w0 W : World} {g : Nat} {f0 : List Int} {f1 : Int} {f2 : Int} (h : IsS155 w0 W g f0 f1 f2) : IsS155 w0 W.drew g f0 f1 f2 := h
theorem IsS155.at_ {w0 W : World} {g : Nat} {f0 : List Int} {f1 : Int} {f2 : Int} {w' : World} {m : Nat} (hq : W.drewN m = w') (h : IsS155 w0 W g f0 f1 f2) : IsS155 w0 w' g f0 f1 f2 := by subst hq; exact IsS155.drewN h m
theorem IsS155.apart {w0 W : World} {g : Nat} {f0 : List Int} {f1 : Int} {f2 : Int} {α : Type} {d : Kd α} {e : Nat} {base : Nat} {ok : Nat → Prop} {v : Value} {xs : List α} (h : IsS155 w0 W g f0 f1 f2) (ho : d.R e W base ok v xs) (ht : ∀ q, q ∈ e :: d.E → q ≠ 155) : d.R e W base (fun k => ok k ∧ k ≠ g) v xs := by
  obtain ⟨A0, c0, hb, hg, hr0⟩ := h
  exact Kd.R_types ho hb ht
theorem IsS155.own_ne {w0 W : World} {g : Nat} {f0 : List Int} {f1 : Int} {f2 : Int} {α : Type} {d : Kd α} {e : Nat} {base : Nat} {ok : Nat → Prop} {v : Value} {xs : List α} (h : IsS155 w0 W g f0 f1 f2) (ho : d.R e W base ok v xs) (ht : e ≠ 155) : some g ≠ v.ownBlock := by
  obtain ⟨A0, c0, hb, hg, hr0⟩ := h
  exact Kd.R_ne ho hb ht
theorem IsS155.lt {w0 W : World} {g : Nat} {f0 : List Int} {f1 : Int} {f2 : Int} (h : IsS155 w0 W g f0 f1 f2) : g < W.heap.size := by
  obtain ⟨A0, c0, hb, hg, hr0⟩ := h
  exact blk_lt hb
theorem IsS155.ge {w0 W : World} {g : Nat} {f0 : List Int} {f1 : Int} {f2 : Int} (h : IsS155 w0 W g f0 f1 f2) : w0.heap.size ≤ g := by
  obtain ⟨A0, c0, hb, hg, hr0⟩ := h
  exact hg
theorem IsS155.far {w0 W : World} {g : Nat} {f0 : List Int} {f1 : Int} {f2 : Int} {p : Addr} (h : IsS155 w0 W g f0 f1 f2) (hne : g ≠ p.block) (u : Value) : IsS155 w0 (W.setCell p u) g f0 f1 f2 := by
  obtain ⟨A0, c0, hb, hg, hr0⟩ := h
  exact ⟨A0, c0, blk_far hb hne u, hg, hr0⟩
theorem IsS155.set_1 {w0 W : World} {g : Nat} {f0 : List Int} {f1 : Int} {f2 : Int} (h : IsS155 w0 W g f0 f1 f2) (x : Int) : IsS155 w0 (W.setCell ⟨g, 1, none⟩ (.int .i64 x)) g f0 x f2 := by
  obtain ⟨A0, c0, hb, hg, hr0⟩ := h
  exact ⟨A0, c0, by simpa using blk_set hb 1 (.int .i64 x), hg, hr0⟩
theorem IsS155.new (w0 W : World) (A0 : Option Addr) (c0 : Nat) (f0 : List Int) (f1 : Int) (f2 : Int) (hB : Below w0.heap.size w0 W) (hr0 : Kd.C (Kd.int .u8) w0 A0 f0.length f0) : IsS155 w0 (W.alloc (.cells #[.slice A0 f0.length c0, .int .i64 f1, .int .i64 f2] 155)) W.heap.size f0 f1 f2 := ⟨A0, c0, by simpa using heap_alloc_new W _, hB.size, hr0⟩
/-- A state of type 199 at block g of W; what its slices lead to came in by w0. -/
def IsS199 (w0 W : World) (g : Nat) (f0 : ByteArray) (f1 : Bool) : Prop := W.heap[g]? = some (.cells #[.string f0, .bool f1] 199 (0, 0)) ∧ w0.heap.size ≤ g
theorem IsS199.grown {w0 W : World} {g : Nat} {f0 : ByteArray} {f1 : Bool} {W1 : World} {row : Option Nat} (h : IsS199 w0 W g f0 f1) (hw : W.grownBy W1 row) (hne : some g ≠ row) : IsS199 w0 W1 g f0 f1 := by
  obtain ⟨hb, hg⟩ := h
  exact ⟨blk_grown hb hw hne, hg⟩
theorem IsS199.fresh {w0 W : World} {g : Nat} {f0 : ByteArray} {f1 : Bool} (h : IsS199 w0 W g f0 f1) : ∀ k, W.heap.size ≤ k → k ≠ g := by
  obtain ⟨hb, hg⟩ := h
  exact Kd.freshB hb
theorem IsS199.kept {w0 W : World} {g : Nat} {f0 : ByteArray} {f1 : Bool} {W1 : World} {S : Nat → Prop} (h : IsS199 w0 W g f0 f1) (hk : Kept W W1 S) (hne : ¬ S g) : IsS199 w0 W1 g f0 f1 := by
  obtain ⟨hb, hg⟩ := h
  exact ⟨blk_kept hb hk hne, hg⟩
theorem IsS199.below {w0 W : World} {g : Nat} {f0 : ByteArray} {f1 : Bool} {W1 : World} (h : IsS199 w0 W g f0 f1) (hw : Below W.heap.size W W1) : IsS199 w0 W1 g f0 f1 := h.grown (grown_of_below hw none) (by simp)
theorem IsS199.alloc {w0 W : World} {g : Nat} {f0 : ByteArray} {f1 : Bool} (h : IsS199 w0 W g f0 f1) (o : Obj) : IsS199 w0 (W.alloc o) g f0 f1 := h.below (below_alloc (Below.refl _ _) o)
theorem IsS199.drewN {w0 W : World} {g : Nat} {f0 : ByteArray} {f1 : Bool} (h : IsS199 w0 W g f0 f1) (m : Nat) : IsS199 w0 (W.drewN m) g f0 f1 := h
theorem IsS199.drew {w0 W : World} {g : Nat} {f0 : ByteArray} {f1 : Bool} (h : IsS199 w0 W g f0 f1) : IsS199 w0 W.drew g f0 f1 := h
theorem IsS199.at_ {w0 W : World} {g : Nat} {f0 : ByteArray} {f1 : Bool} {w' : World} {m : Nat} (hq : W.drewN m = w') (h : IsS199 w0 W g f0 f1) : IsS199 w0 w' g f0 f1 := by subst hq; exact IsS199.drewN h m
theorem IsS199.apart {w0 W : World} {g : Nat} {f0 : ByteArray} {f1 : Bool} {α : Type} {d : Kd α} {e : Nat} {base : Nat} {ok : Nat → Prop} {v : Value} {xs : List α} (h : IsS199 w0 W g f0 f1) (ho : d.R e W base ok v xs) (ht : ∀ q, q ∈ e :: d.E → q ≠ 199) : d.R e W base (fun k => ok k ∧ k ≠ g) v xs := by
  obtain ⟨hb, hg⟩ := h
  exact Kd.R_types ho hb ht
theorem IsS199.own_ne {w0 W : World} {g : Nat} {f0 : ByteArray} {f1 : Bool} {α : Type} {d : Kd α} {e : Nat} {base : Nat} {ok : Nat → Prop} {v : Value} {xs : List α} (h : IsS199 w0 W g f0 f1) (ho : d.R e W base ok v xs) (ht : e ≠ 199) : some g ≠ v.ownBlock := by
  obtain ⟨hb, hg⟩ := h
  exact Kd.R_ne ho hb ht
theorem IsS199.lt {w0 W : World} {g : Nat} {f0 : ByteArray} {f1 : Bool} (h : IsS199 w0 W g f0 f1) : g < W.heap.size := by
  obtain ⟨hb, hg⟩ := h
  exact blk_lt hb
theorem IsS199.ge {w0 W : World} {g : Nat} {f0 : ByteArray} {f1 : Bool} (h : IsS199 w0 W g f0 f1) : w0.heap.size ≤ g := by
  obtain ⟨hb, hg⟩ := h
  exact hg
theorem IsS199.far {w0 W : World} {g : Nat} {f0 : ByteArray} {f1 : Bool} {p : Addr} (h : IsS199 w0 W g f0 f1) (hne : g ≠ p.block) (u : Value) : IsS199 w0 (W.setCell p u) g f0 f1 := by
  obtain ⟨hb, hg⟩ := h
  exact ⟨blk_far hb hne u, hg⟩
theorem cellS199_0 {W : World} {g : Nat} {f0 : ByteArray} {f1 : Bool} (h : W.heap[g]? = some (.cells #[.string f0, .bool f1] 199 (0, 0))) : W.cell? ⟨g, 0, none⟩ = some (.string f0) := (blk_cell h 0).trans rfl
theorem IsS199.set_0 {w0 W : World} {g : Nat} {f0 : ByteArray} {f1 : Bool} (h : IsS199 w0 W g f0 f1) (x : ByteArray) : IsS199 w0 (W.setCell ⟨g, 0, none⟩ (.string x)) g x f1 := by
  obtain ⟨hb, hg⟩ := h
  exact ⟨by simpa using blk_set hb 0 (.string x), hg⟩
theorem cellS199_1 {W : World} {g : Nat} {f0 : ByteArray} {f1 : Bool} (h : W.heap[g]? = some (.cells #[.string f0, .bool f1] 199 (0, 0))) : W.cell? ⟨g, 1, none⟩ = some (.bool f1) := (blk_cell h 1).trans rfl
theorem IsS199.set_1 {w0 W : World} {g : Nat} {f0 : ByteArray} {f1 : Bool} (h : IsS199 w0 W g f0 f1) (x : Bool) : IsS199 w0 (W.setCell ⟨g, 1, none⟩ (.bool x)) g f0 x := by
  obtain ⟨hb, hg⟩ := h
  exact ⟨by simpa using blk_set hb 1 (.bool x), hg⟩
theorem IsS199.new (w0 W : World) (f0 : ByteArray) (f1 : Bool) (hB : Below w0.heap.size w0 W) : IsS199 w0 (W.alloc (.cells #[.string f0, .bool f1] 199)) W.heap.size f0 f1 := ⟨by simpa using heap_alloc_new W _, hB.size⟩
theorem zl_ {w W0 W : World} (b : Aside0 (Below w.heap.size w W0)) (h : Below w.heap.size w W := by repeat (first | (with_reducible first | exact HB.out | apply below_alloc | apply pw_below_drewN | apply below_drew1 | refine below_set ?_ (Aside0.out (by with_reducible assumption)) | refine below_set ?_ (IsS155.ge (Aside0.out (by with_reducible assumption))) | refine below_set ?_ (IsS199.ge (Aside0.out (by with_reducible assumption)))) | exact HB.out)) : Below w.heap.size w W := h
theorem zs_ {w W0 W W1 : World} (b : Aside0 (Below w.heap.size w W0)) (hb : Below W.heap.size W W1) (h : Below w.heap.size w W := by repeat (first | (with_reducible first | exact HB.out | apply below_alloc | apply pw_below_drewN | apply below_drew1 | refine below_set ?_ (Aside0.out (by with_reducible assumption)) | refine below_set ?_ (IsS155.ge (Aside0.out (by with_reducible assumption))) | refine below_set ?_ (IsS199.ge (Aside0.out (by with_reducible assumption)))) | exact HB.out)) : Aside0 (Below w.heap.size w W1) := ⟨below_step h hb⟩
theorem zw_ {w W0 W : World} {g : Nat} (b : Aside0 (Below w.heap.size w W0)) (hg : g = W.heap.size) (h : Below w.heap.size w W := by repeat (first | (with_reducible first | exact HB.out | apply below_alloc | apply pw_below_drewN | apply below_drew1 | refine below_set ?_ (Aside0.out (by with_reducible assumption)) | refine below_set ?_ (IsS155.ge (Aside0.out (by with_reducible assumption))) | refine below_set ?_ (IsS199.ge (Aside0.out (by with_reducible assumption)))) | exact HB.out)) : Aside0 (w.heap.size ≤ g) := ⟨by rw [hg]; exact below_size h⟩
theorem zt_ {p : Prop} (h : p := by first | rfl | (simp [errW_none, errW_some] <;> rfl) | (simp [*, errW_none, errW_some] <;> rfl) | (simp [mp_beq_nil, mp_bne_nil]; done) | (simp [*, mp_beq_nil, mp_bne_nil]; done)) : p := h
theorem zc3 {w : World} {g : Nat} {t : TypeId} {a0 a1 a2 : Value} (h : Aside0 (w.heap[g]? = some (.cells #[a0, a1, a2] t (0, 0)))) : w.cell? ⟨g, 0, none⟩ = some a0 ∧ w.cell? ⟨g, 1, none⟩ = some a1 ∧ w.cell? ⟨g, 2, none⟩ = some a2 ∧ w.frozen? ⟨g, 0, none⟩ = false ∧ w.frozen? ⟨g, 1, none⟩ = false ∧ w.frozen? ⟨g, 2, none⟩ = false := ⟨(blk_cell h.out 0).trans rfl, (blk_cell h.out 1).trans rfl, (blk_cell h.out 2).trans rfl, blk_frozen h.out 0, blk_frozen h.out 1, blk_frozen h.out 2⟩
theorem zc5 {w : World} {g : Nat} {t : TypeId} {a0 a1 a2 a3 a4 : Value} (h : Aside0 (w.heap[g]? = some (.cells #[a0, a1, a2, a3, a4] t (0, 0)))) : w.cell? ⟨g, 0, none⟩ = some a0 ∧ w.cell? ⟨g, 1, none⟩ = some a1 ∧ w.cell? ⟨g, 2, none⟩ = some a2 ∧ w.cell? ⟨g, 3, none⟩ = some a3 ∧ w.cell? ⟨g, 4, none⟩ = some a4 ∧ w.frozen? ⟨g, 0, none⟩ = false ∧ w.frozen? ⟨g, 1, none⟩ = false ∧ w.frozen? ⟨g, 2, none⟩ = false ∧ w.frozen? ⟨g, 3, none⟩ = false ∧ w.frozen? ⟨g, 4, none⟩ = false := ⟨(blk_cell h.out 0).trans rfl, (blk_cell h.out 1).trans rfl, (blk_cell h.out 2).trans rfl, (blk_cell h.out 3).trans rfl, (blk_cell h.out 4).trans rfl, blk_frozen h.out 0, blk_frozen h.out 1, blk_frozen h.out 2, blk_frozen h.out 3, blk_frozen h.out 4⟩
theorem zc7 {w : World} {g : Nat} {t : TypeId} {a0 a1 a2 a3 a4 a5 a6 : Value} (h : Aside0 (w.heap[g]? = some (.cells #[a0, a1, a2, a3, a4, a5, a6] t (0, 0)))) : w.cell? ⟨g, 0, none⟩ = some a0 ∧ w.cell? ⟨g, 1, none⟩ = some a1 ∧ w.cell? ⟨g, 2, none⟩ = some a2 ∧ w.cell? ⟨g, 3, none⟩ = some a3 ∧ w.cell? ⟨g, 4, none⟩ = some a4 ∧ w.cell? ⟨g, 5, none⟩ = some a5 ∧ w.cell? ⟨g, 6, none⟩ = some a6 ∧ w.frozen? ⟨g, 0, none⟩ = false ∧ w.frozen? ⟨g, 1, none⟩ = false ∧ w.frozen? ⟨g, 2, none⟩ = false ∧ w.frozen? ⟨g, 3, none⟩ = false ∧ w.frozen? ⟨g, 4, none⟩ = false ∧ w.frozen? ⟨g, 5, none⟩ = false ∧ w.frozen? ⟨g, 6, none⟩ = false := ⟨(blk_cell h.out 0).trans rfl, (blk_cell h.out 1).trans rfl, (blk_cell h.out 2).trans rfl, (blk_cell h.out 3).trans rfl, (blk_cell h.out 4).trans rfl, (blk_cell h.out 5).trans rfl, (blk_cell h.out 6).trans rfl, blk_frozen h.out 0, blk_frozen h.out 1, blk_frozen h.out 2, blk_frozen h.out 3, blk_frozen h.out 4, blk_frozen h.out 5, blk_frozen h.out 6⟩
theorem zi199 {w0 W : World} {g : Nat} {f0 : ByteArray} {f1 : Bool} {W' : World} {f0' : ByteArray} {f1' : Bool} (b : Aside0 (IsS199 w0 W g f0 f1)) (m : IsS199 w0 W g f0 f1 → IsS199 w0 W' g f0' f1' := by intro h_; repeat (first | (with_reducible first | exact h_ | apply IsS199.alloc | apply IsS199.drewN | apply IsS199.drew | apply IsS199.set_0 | apply IsS199.set_1 | refine IsS199.far ?_ (Aside0.out (by with_reducible assumption)) _) | exact h_)) : IsS199 w0 W' g f0' f1' := m b.out
theorem zh_ {w W0 W : World} {g : Nat} {row : Option Nat} (k : Aside0 (KeepBut w W0 g row)) (h : KeepBut w W g row := by repeat (first | (with_reducible first | exact HK.out | apply KeepBut.set_ | apply keep_drewN | apply keep_drew | apply keep_alloc | refine keep_far ?_ (Aside0.out (by with_reducible assumption)) _) | exact HK.out)) : KeepBut w W g row := h
end Go.Proofs.YtlifdodphkimpaaDoor.C
end

section
namespace Go.Proofs.YtlifdodphkimpaaDoor.C
open Go.RowKit Go.Proofs.YtlifdodphkimpaaDoorW.PrintWords Go.Proofs.YtlifdodphkimpaaDoorW.PrintLast Go.Proofs.YtlifdodphkimpaaDoorW.PrintMore
attribute [local go_sem] max2_int min2_int max_two min_two max_three min_three max_four min_four
set_option maxHeartbeats 8000000 in
set_option maxRecDepth 100000 in
theorem impl_areLong_1.calls (a0 : ByteArray) (r : Bool) (w : World) (h : impl_areLong_1.f a0 = some r) :
  Calls Tryd.prog 149 #[.string a0] w fun e w' => e = .returned (.bool r) ∧ Drawn0 w w' := by
 have H : (some (decide ((a0.size : Int) > 65536))) = some r := h
 clear h
 obtain rfl := Option.some.inj H
 go_enter Tryd.func149,Tryd.ntmps149
 go_wp2
 go_ret
 exact ⟨by first | rfl | (simp;done) | (simp [*];done),by repeat (first | exact Drawn0.refl _ | apply Drawn0.step)⟩
theorem contains_impl_areLong_1_pred (s : ByteArray) : impl_areLong_1.f s = some ((impl_areLong_1.f s).getD false) := rfl
set_option maxHeartbeats 2000000 in
theorem contains_impl_areLong_1_ix (A0 : Option Addr) (c0 : Nat) (l0 : List ByteArray) (w : World) (hr0 : Kd.C Kd.string w A0 l0.length l0) :
  Calls Tryd.prog 175 #[.slice A0 l0.length c0,.func (.func 149) #[] #[]] w fun e w' => e = .returned (.int .i64 (Lib.idxBy (fun _ y => (impl_areLong_1.f y).getD false) l0 default)) ∧ ∃ q,w' = w.drewN q := by
 have hlen : l0.length ≤ 9223372036854775807 := hr0.2.1
 have HR0 := am_ hr0
 clear hr0
 have hcl : ∀ (s : ByteArray) (W : World),Calls Tryd.prog 149 #[.string s] W fun e w' => e = .returned (.bool ((impl_areLong_1.f s).getD false)) ∧ ∃ q,w' = W.drewN q := fun s W => (impl_areLong_1.calls s _ W (contains_impl_areLong_1_pred s)).mono fun e w' h => ⟨h.1,h.2.out⟩
 generalize hp : (fun s => (impl_areLong_1.f s).getD false) = p at *
 have hp2 : ∀ s,(impl_areLong_1.f s).getD false = p s := fun s => congrFun hp s
 simp only [hp2] at hcl ⊢
 clear hp hp2
 have HCL := am_ hcl
 clear hcl
 go_enter Tryd.func175,Tryd.ntmps175
 go_wp2
 go_loopg [5,8] l0.length (fun gg _ s8 wr => ∃ kk q : Nat,kk ≤ l0.length ∧ l0.length - kk ≤ gg ∧ s8 = .int .i64 kk ∧ wr = w.drewN q ∧ Aside0 (∀ j,j < kk → p l0[j]! = false))
 case atStart => exact ⟨0,0,Nat.zero_le _,by omega,rfl,rfl,⟨fun j hj => absurd hj (Nat.not_lt_zero _)⟩⟩
 case round =>
  obtain ⟨kk,q,hkk,hg,rfl,rfl,HA⟩ := hrel
  by_cases hlt : kk < l0.length
  ·have hltz : (kk : Int) < (l0.length : Int) := by omega
   obtain ⟨ad,e0,hcell0⟩ := Kd.at_string HR0.out (kk : Int) (by omega) hltz
   subst e0
   have hcell : w.cell? (ad.add kk) = some (.string l0[kk]!) := by
    rw [Int.toNat_natCast] at hcell0
    rw [hcell0]
    simp [rdOf,List.getD,getElem!_def,List.getElem?_eq_getElem hlt]
   clear hcell0
   generalize hy : l0[kk]! = y at hcell
   have HB := am_ hy
   clear hy
   cases hq : p y with
   | true =>
    have hcall := fun W => HCL.out y W
    rw [hq] at hcall
    have HC2 := am_ hcall
    clear hcall
    go_wp2_with (go_at_call 149;refine (HC2.out _).mono ?_;rintro e w' ⟨rfl,q',rfl⟩)
    go_ret
    refine ⟨?_,_,rfl⟩
    have hh := Lib.idxBy_hit (fun _ y => p y) l0 l0.length kk default hlt (Nat.le_refl _) (by show p l0[kk]! = true;rw [HB.out];exact hq) HA.out
    rw [List.take_length] at hh
    rw [hh]
    rfl
   | false =>
    have hcall := fun W => HCL.out y W
    rw [hq] at hcall
    have HC2 := am_ hcall
    clear hcall
    go_wp2_with (go_at_call 149;refine (HC2.out _).mono ?_;rintro e w' ⟨rfl,q',rfl⟩)
    go_roundg (l0.length - (kk + 1))
    case measure => omega
    case rel =>
     refine ⟨kk + 1,_,by omega,by omega,by go_num,rfl,⟨fun j hj => ?_⟩⟩
     by_cases e : j = kk
     ·subst e
      rw [HB.out];exact hq
     ·exact HA.out j (by omega)
  ·have hltz : ¬ (kk : Int) < (l0.length : Int) := by omega
   have hk : kk = l0.length := by omega
   subst hk
   go_wp2
   go_ret
   refine ⟨?_,_,rfl⟩
   have hh := Lib.idxBy_miss (fun _ y => p y) l0 l0.length default (fun j hj => HA.out j hj)
   rw [List.take_length] at hh
   rw [hh]
   rfl
theorem contains_impl_areLong_1.calls (A0 : Option Addr) (c0 : Nat) (l0 : List ByteArray) (r : Bool) (w : World) (hr0 : Kd.C Kd.string w A0 l0.length l0) (hc0 : l0.length ≤ c0) (h : contains_impl_areLong_1.f l0 = some r) :
  Calls Tryd.prog 148 #[.slice A0 l0.length c0,.func (.func 149) #[] #[]] w fun e w' => e = .returned (.bool r) ∧ Drawn0 w w' := by
 have hr : (decide (0 ≤ Lib.idxBy (fun _ y => (impl_areLong_1.f y).getD false) l0 default)) = r := by
  rw [Lib.idxBy_nonneg_iff (fun _ y => (impl_areLong_1.f y).getD false) l0 default]
  exact Option.some.inj h
 have hix := fun W (hW : Kd.C Kd.string W A0 l0.length l0) => contains_impl_areLong_1_ix A0 c0 l0 W hW
 generalize Lib.idxBy (fun _ y => (impl_areLong_1.f y).getD false) l0 default = i at hr hix
 subst hr
 have HR0 := am_ hr0
 have HIX := am_ hix
 clear hr0 hc0 h hix
 go_enter Tryd.func148,Tryd.ntmps148
 go_wp2_with (go_at_call 175;refine (HIX.out _ HR0.out).mono ?_;rintro e w' ⟨rfl,q,rfl⟩)
 go_ret
 exact ⟨rfl,⟨⟨_,rfl⟩⟩⟩
set_option maxHeartbeats 8000000 in
set_option maxRecDepth 100000 in
theorem impl_areLong.calls (A0 : Option Addr) (c0 : Nat) (l0 : List ByteArray) (r : Bool) (w : World) (hr0 : Kd.C Kd.string w A0 l0.length l0) (hc0 : l0.length ≤ c0) (h : impl_areLong.f l0 = some r) :
  Calls Tryd.prog 107 #[.slice A0 l0.length c0] w fun e w' => e = .returned (.bool r) ∧ Drawn0 w w' := by
 have HR0 := am_ hr0
 have HC0 := am_ hc0
 clear hr0 hc0
 have H : ((contains_impl_areLong_1.f l0).bind fun t410 => (some t410)) = some r := h
 clear h
 replace H := Option.bind_eq_some_iff.mp H
 obtain ⟨t410,A20,H⟩ := H
 try dsimp only at H
 have A2 := am_ A20
 clear A20
 obtain rfl := Option.some.inj H
 go_enter Tryd.func107,Tryd.ntmps107
 go_wp2_with (first | ((with_reducible refine gate_callee (f := 148) rfl ?_);refine zgl (some 4) Tryd.func148 #[.slice A0 l0.length c0,.func (.func 149) #[] #[]] ?_;(with_reducible refine (contains_impl_areLong_1.calls _ _ l0  t410 _ ?side1 ?side2 A2.out).mono ?_);(case side1 => repeat (first | exact HR0.out | (with_reducible refine Kd.C_alloc ?_ _) | (with_reducible refine Kd.C_drewN ?_ _) | (with_reducible refine Kd.C_drew ?_)));(case side2 => exact HC0.out);rintro e w' ⟨rfl,⟨nd,rfl⟩⟩;refine ⟨_,rfl,?_⟩))
 go_ret
 exact ⟨by first | rfl | (simp;done) | (simp [*];done),by repeat (first | exact Drawn0.refl _ | apply Drawn0.step)⟩
set_option maxHeartbeats 8000000 in
set_option maxRecDepth 100000 in
theorem impl_FaultsOf.calls (a0 : Int) (r1 : Int) (r2 : Int) (w : World) (h : impl_FaultsOf.f a0 = some (r1,r2)) :
  Calls Tryd.prog 120 #[.int .i64 a0] w fun e w' => e = .returned (.tuple #[.int .i64 r1,.int .i64 r2]) ∧ Drawn0 w w' := by
 have H : (if a0 = 1 then (some (wrap64 (Int.tdiv (wrap64 (a0 - 1)) 3),0)) else (if a0 = 4 then (some (wrap64 (Int.tdiv (wrap64 (a0 - 1)) 3),0)) else (if a0 = 7 then (some (wrap64 (Int.tdiv (wrap64 (a0 - 1)) 3),0)) else (some (0,4))))) = some (r1,r2) := h
 clear h
 by_cases c2 : a0 = 1
 ·rw [if_pos c2] at H
  have c2b0 : (a0 == 1) = true := beq_iff_eq.mpr c2
  have c2b1 : (a0 != 1) = false := bne_eq_false_iff_eq.mpr c2
  clear c2
  simp only [Option.some.injEq,Prod.mk.injEq] at H
  obtain ⟨rfl,rfl⟩ := H
  go_enter Tryd.func120,Tryd.ntmps120
  go_wp2
  go_ret2
  exact ⟨by first | rfl | (simp;done) | (simp [*];done),by repeat (first | exact Drawn0.refl _ | apply Drawn0.step)⟩
 ·rw [if_neg c2] at H
  have c2b0 : (a0 == 1) = false := beq_eq_false_iff_ne.mpr c2
  have c2b1 : (a0 != 1) = true := bne_iff_ne.mpr c2
  by_cases c3 : a0 = 4
  ·rw [if_pos c3] at H
   have c3b0 : (a0 == 4) = true := beq_iff_eq.mpr c3
   have c3b1 : (a0 != 4) = false := bne_eq_false_iff_eq.mpr c3
   clear c3
   simp only [Option.some.injEq,Prod.mk.injEq] at H
   obtain ⟨rfl,rfl⟩ := H
   go_enter Tryd.func120,Tryd.ntmps120
   go_wp2
   go_ret2
   exact ⟨by first | rfl | (simp;done) | (simp [*];done),by repeat (first | exact Drawn0.refl _ | apply Drawn0.step)⟩
  ·rw [if_neg c3] at H
   have c3b0 : (a0 == 4) = false := beq_eq_false_iff_ne.mpr c3
   have c3b1 : (a0 != 4) = true := bne_iff_ne.mpr c3
   by_cases c4 : a0 = 7
   ·rw [if_pos c4] at H
    have c4b0 : (a0 == 7) = true := beq_iff_eq.mpr c4
    have c4b1 : (a0 != 7) = false := bne_eq_false_iff_eq.mpr c4
    clear c4
    simp only [Option.some.injEq,Prod.mk.injEq] at H
    obtain ⟨rfl,rfl⟩ := H
    go_enter Tryd.func120,Tryd.ntmps120
    go_wp2
    go_ret2
    exact ⟨by first | rfl | (simp;done) | (simp [*];done),by repeat (first | exact Drawn0.refl _ | apply Drawn0.step)⟩
   ·rw [if_neg c4] at H
    have c4b0 : (a0 == 7) = false := beq_eq_false_iff_ne.mpr c4
    have c4b1 : (a0 != 7) = true := bne_iff_ne.mpr c4
    simp only [Option.some.injEq,Prod.mk.injEq] at H
    obtain ⟨rfl,rfl⟩ := H
    go_enter Tryd.func120,Tryd.ntmps120
    go_wp2
    go_ret2
    exact ⟨by first | rfl | (simp;done) | (simp [*];done),by repeat (first | exact Drawn0.refl _ | apply Drawn0.step)⟩
set_option maxHeartbeats 8000000 in
set_option maxRecDepth 100000 in
theorem impl_areNodes.calls (a0 : Int) (r : Bool) (w : World) (h : impl_areNodes.f a0 = some r) :
  Calls Tryd.prog 61 #[.int .i64 a0] w fun e w' => e = .returned (.bool r) ∧ Drawn0 w w' := by
 have H : ((impl_FaultsOf.f a0).bind fun bt403 => (some (bt403.2 == 0))) = some r := h
 clear h
 replace H := Option.bind_eq_some_iff.mp H
 obtain ⟨⟨t403,t404⟩,A20,H⟩ := H
 try dsimp only at H
 have A2 := am_ A20
 clear A20
 obtain rfl := Option.some.inj H
 go_enter Tryd.func61,Tryd.ntmps61
 go_wp2_with (first | ((with_reducible refine gate_callee (f := 120) rfl ?_);refine zgl (some 7) Tryd.func120 #[.int .i64 a0] ?_;(with_reducible refine (impl_FaultsOf.calls a0 t403 t404 _ A2.out).mono ?_);rintro e w' ⟨rfl,⟨nd,rfl⟩⟩;refine ⟨_,rfl,?_⟩))
 go_ret
 exact ⟨by first | rfl | (simp;done) | (simp [*];done),by repeat (first | exact Drawn0.refl _ | apply Drawn0.step)⟩
theorem eqA85 (d : Nat) (w : World) (x0 y0 : Int) (x1 y1 : Int) (x2 y2 : Int) (x3 y3 : Int) (x4 y4 : ByteArray) :
    (Op.equalIn (d + 2) 85 (.agg #[.int .i64 x0, .int .i64 x1, .int .i64 x2, .int .i64 x3, .string x4]) (.agg #[.int .i64 y0, .int .i64 y1, .int .i64 y2, .int .i64 y3, .string y4])).run Tryd.prog w = .ok (x0 == y0 && (x1 == y1 && (x2 == y2 && (x3 == y3 && (x4.toList == y4.toList))))) w := by
  refine eqA_of Tryd.underlying85 (by kernel_rfl) ?_
  refine eqf_cons (by rfl) (by go_simp; rfl) (by go_simp; rfl) (by go_simp) ?_
  refine eqf_cons (by rfl) (by go_simp; rfl) (by go_simp; rfl) (by go_simp) ?_
  refine eqf_cons (by rfl) (by go_simp; rfl) (by go_simp; rfl) (by go_simp) ?_
  refine eqf_cons (by rfl) (by go_simp; rfl) (by go_simp; rfl) (by go_simp) ?_
  exact eqf_last (by rfl) (by go_simp; rfl) (by go_simp; rfl) (by go_simp)
set_option maxHeartbeats 8000000 in
set_option maxRecDepth 100000 in
theorem impl_isLetter.calls (a0 : Int) (r : Bool) (w : World) (h : impl_isLetter.f a0 = some r) :
  Calls Tryd.prog 180 #[.int .u8 a0] w fun e w' => e = .returned (.bool r) ∧ Drawn0 w w' := by
 have H : (if a0 ≥ 97 then (if a0 ≤ 122 then (some true) else (if a0 ≥ 65 then (if a0 ≤ 90 then (some true) else (some (a0 == 95))) else (some (a0 == 95)))) else (if a0 ≥ 65 then (if a0 ≤ 90 then (some true) else (some (a0 == 95))) else (some (a0 == 95)))) = some r := h
 clear h
 by_cases c2 : a0 ≥ 97
 ·rw [if_pos c2] at H
  have c2b0 : decide (97 ≤ a0) = true := decide_eq_true c2
  clear c2
  by_cases c3 : a0 ≤ 122
  ·rw [if_pos c3] at H
   have c3b0 : decide (a0 ≤ 122) = true := decide_eq_true c3
   clear c3
   obtain rfl := Option.some.inj H
   go_enter Tryd.func180,Tryd.ntmps180
   go_wp2
   go_ret
   exact ⟨by first | rfl | (simp;done) | (simp [*];done),by repeat (first | exact Drawn0.refl _ | apply Drawn0.step)⟩
  ·rw [if_neg c3] at H
   have c3b0 : decide (a0 ≤ 122) = false := decide_eq_false c3
   clear c3
   by_cases c4 : a0 ≥ 65
   ·rw [if_pos c4] at H
    have c4b0 : decide (65 ≤ a0) = true := decide_eq_true c4
    clear c4
    by_cases c5 : a0 ≤ 90
    ·rw [if_pos c5] at H
     have c5b0 : decide (a0 ≤ 90) = true := decide_eq_true c5
     clear c5
     obtain rfl := Option.some.inj H
     go_enter Tryd.func180,Tryd.ntmps180
     go_wp2
     go_ret
     exact ⟨by first | rfl | (simp;done) | (simp [*];done),by repeat (first | exact Drawn0.refl _ | apply Drawn0.step)⟩
    ·rw [if_neg c5] at H
     have c5b0 : decide (a0 ≤ 90) = false := decide_eq_false c5
     clear c5
     obtain rfl := Option.some.inj H
     go_enter Tryd.func180,Tryd.ntmps180
     go_wp2
     go_ret
     exact ⟨by first | rfl | (simp;done) | (simp [*];done),by repeat (first | exact Drawn0.refl _ | apply Drawn0.step)⟩
   ·rw [if_neg c4] at H
    have c4b0 : decide (65 ≤ a0) = false := decide_eq_false c4
    clear c4
    obtain rfl := Option.some.inj H
    go_enter Tryd.func180,Tryd.ntmps180
    go_wp2
    go_ret
    exact ⟨by first | rfl | (simp;done) | (simp [*];done),by repeat (first | exact Drawn0.refl _ | apply Drawn0.step)⟩
 ·rw [if_neg c2] at H
  have c2b0 : decide (97 ≤ a0) = false := decide_eq_false c2
  clear c2
  by_cases c6 : a0 ≥ 65
  ·rw [if_pos c6] at H
   have c6b0 : decide (65 ≤ a0) = true := decide_eq_true c6
   clear c6
   by_cases c7 : a0 ≤ 90
   ·rw [if_pos c7] at H
    have c7b0 : decide (a0 ≤ 90) = true := decide_eq_true c7
    clear c7
    obtain rfl := Option.some.inj H
    go_enter Tryd.func180,Tryd.ntmps180
    go_wp2
    go_ret
    exact ⟨by first | rfl | (simp;done) | (simp [*];done),by repeat (first | exact Drawn0.refl _ | apply Drawn0.step)⟩
   ·rw [if_neg c7] at H
    have c7b0 : decide (a0 ≤ 90) = false := decide_eq_false c7
    clear c7
    obtain rfl := Option.some.inj H
    go_enter Tryd.func180,Tryd.ntmps180
    go_wp2
    go_ret
    exact ⟨by first | rfl | (simp;done) | (simp [*];done),by repeat (first | exact Drawn0.refl _ | apply Drawn0.step)⟩
  ·rw [if_neg c6] at H
   have c6b0 : decide (65 ≤ a0) = false := decide_eq_false c6
   clear c6
   obtain rfl := Option.some.inj H
   go_enter Tryd.func180,Tryd.ntmps180
   go_wp2
   go_ret
   exact ⟨by first | rfl | (simp;done) | (simp [*];done),by repeat (first | exact Drawn0.refl _ | apply Drawn0.step)⟩
set_option maxHeartbeats 8000000 in
set_option maxRecDepth 100000 in
theorem impl_NameOK.calls (k : Nat) (a0 : ByteArray) (r : Bool) (w : World) (h : impl_NameOK.f k a0 = some r) :
  Calls Tryd.prog 156 #[.string a0] w fun e w' => e = .returned (.bool r) ∧ Drawn0 w w' := by
 have H : (if (a0.size : Int) < 1 then (impl_NameOK.j0 k a0 true) else (if (a0.size : Int) > 40 then (impl_NameOK.j0 k a0 true) else (if 0 < (a0.size : Int) then ((impl_isLetter.f (bt a0 0)).bind fun t395 => (impl_NameOK.j0 k a0 (!t395))) else (none)))) = some r := h
 clear h
 have HC2 := am_ H
 clear H
 go_enter Tryd.func156,Tryd.ntmps156
 go_upto_region 1 with (fail)
 go_cut [17] (fun v17 wc => ∃ (kq : Nat) (x17_1 : Bool),v17 = .bool x17_1 ∧ Aside0 (impl_NameOK.j0 kq a0 x17_1 = some r) ∧ Aside0 (kq ≤ k) ∧ Drawn0 w wc)
 case first =>
  have H := HC2.out
  clear HC2
  by_cases c3 : (a0.size : Int) < 1
  ·rw [if_pos c3] at H
   have c3b0 : decide ((a0.size : Int) < 1) = true := decide_eq_true c3
   have c3b1 : decide (a0.size < 1) = true := decide_eq_true (by omega)
   clear c3
   (first | rw [c3b0] | (simp only [i64_w,i32_w];rw [c3b0]) | skip)
   have H' := am_ H
   clear H
   go_wp2
   go_meet
   case rel => exact ⟨_,(true),(by first | rfl | (simp;done) | (simp [*];done)),H',⟨by first | omega | exact Nat.le_refl _⟩,by repeat (first | exact Drawn0.refl _ | apply Drawn0.step)⟩
  ·rw [if_neg c3] at H
   have c3b0 : decide ((a0.size : Int) < 1) = false := decide_eq_false c3
   have c3b1 : decide (a0.size < 1) = false := decide_eq_false (by omega)
   clear c3
   (first | rw [c3b0] | (simp only [i64_w,i32_w];rw [c3b0]) | skip)
   by_cases c4 : (a0.size : Int) > 40
   ·rw [if_pos c4] at H
    have c4b0 : decide (40 < (a0.size : Int)) = true := decide_eq_true c4
    have c4b1 : decide (40 < a0.size) = true := decide_eq_true (by omega)
    clear c4
    have H' := am_ H
    clear H
    go_wp2
    go_meet
    case rel => exact ⟨_,(true),(by first | rfl | (simp;done) | (simp [*];done)),H',⟨by first | omega | exact Nat.le_refl _⟩,by repeat (first | exact Drawn0.refl _ | apply Drawn0.step)⟩
   ·rw [if_neg c4] at H
    have c4b0 : decide (40 < (a0.size : Int)) = false := decide_eq_false c4
    have c4b1 : decide (40 < a0.size) = false := decide_eq_false (by omega)
    clear c4
    by_cases c5 : 0 < (a0.size : Int)
    ·rw [if_pos c5] at H
     have c5b0 : decide (0 < (a0.size : Int)) = true := decide_eq_true c5
     have c5b1 : decide (0 < a0.size) = true := decide_eq_true (by omega)
     clear c5
     replace H := Option.bind_eq_some_iff.mp H
     obtain ⟨t395,A70,H⟩ := H
     try dsimp only at H
     have A7 := am_ A70
     clear A70
     have H' := am_ H
     clear H
     have p6 : 0 ≤ (0 : Int) := (by omega)
     have q6 : 0 < a0.size := (by have : (0 : Int) < (a0.size : Int) := zo_;omega)
     have hx6 : ∀ h : 0 < a0.size,((a0[0]'h).toNat : Int) = bt a0 0 := bt_at a0 0
     clear p6
     have qi6 : (0 < (a0.size : Int)) = True := eq_true (zo_)
     replace q6 := eq_true q6
     go_wp2_with (first | (go_at_call 180;(with_reducible refine (impl_isLetter.calls (bt a0 0) t395 _ A7.out).mono ?_);rintro e w' ⟨rfl,⟨nd,rfl⟩⟩))
     go_meet
     case rel => exact ⟨_,(!t395),(by first | rfl | (simp;done) | (simp [*];done)),H',⟨by first | omega | exact Nat.le_refl _⟩,by repeat (first | exact Drawn0.refl _ | apply Drawn0.step)⟩
    ·rw [if_neg c5] at H
     exact absurd H (by simp)
 case rest =>
  clear HC2
  try clear c1
  try clear p2
  try clear c3
  try clear c3b0
  try clear c3b1
  try clear c4
  try clear c4b0
  try clear c4b1
  try clear c5
  try clear c5b0
  try clear c5b1
  try clear p6
  try clear q6
  try clear hx6
  try clear qi6
  try clear p6
  try clear q6
  obtain ⟨kq,x17_1,rfl,HA,HJ1,⟨mc1,rfl⟩⟩ := hcut
  cases kq with
  | zero => exact absurd HA.out (by simp [impl_NameOK.j0])
  | succ kj1 =>
   have H := HA.out
   clear HA
   simp only [impl_NameOK.j0] at H
   by_cases c8 : x17_1 = true
   ·subst c8
    have H1 : (some false) = some r := by rw [if_pos rfl] at H;exact H
    clear H
    have H := H1
    clear H1
    obtain rfl := Option.some.inj H
    go_wp2
    go_ret
    exact ⟨by first | rfl | (simp;done) | (simp [*];done),by repeat (first | exact Drawn0.refl _ | apply Drawn0.step)⟩
   ·replace c8 := Bool.eq_false_iff.mpr c8
    subst c8
    have H1 : (impl_NameOK.l0 kj1 a0 (a0.size : Int) 0) = some r := by rw [if_neg (show ¬ (false = true) by decide)] at H;exact H
    clear H
    have H := H1
    clear H1
    have H' := am_ H
    clear H
    go_wp2
    go_loopg [20] kj1 (fun kq v20 w' => ∃ (x20_2 : Int),v20 = .int .i64 x20_2 ∧ Aside0 (impl_NameOK.l0 kq a0 (a0.size : Int) x20_2 = some r) ∧ Aside0 (kq ≤ kj1) ∧ Drawn0 w w')
    case atStart => exact ⟨(0),(by first | rfl | (simp;done) | (simp [*];done)),H',⟨Nat.le_refl _⟩,by repeat (first | exact Drawn0.refl _ | apply Drawn0.step)⟩
    case round =>
     clear H'
     try clear c1
     try clear p2
     try clear c3
     try clear c3b0
     try clear c3b1
     try clear c4
     try clear c4b0
     try clear c4b1
     try clear c5
     try clear c5b0
     try clear c5b1
     try clear p6
     try clear q6
     try clear hx6
     try clear qi6
     try clear c8
     try clear p2
     try clear p6
     try clear q6
     obtain ⟨x20_2,rfl,HA,HK2,⟨m2,rfl⟩⟩ := hrel
     cases gk with
     | zero => exact absurd HA.out (by simp [impl_NameOK.l0])
     | succ k2 =>
      have H := HA.out
      clear HA
      simp only [impl_NameOK.l0] at H
      by_cases c9 : x20_2 < (a0.size : Int)
      ·rw [if_pos c9] at H
       have c9b0 : decide (x20_2 < (a0.size : Int)) = true := decide_eq_true c9
       clear c9
       by_cases c10 : 0 ≤ x20_2
       ·rw [if_pos c10] at H
        have c10b0 : decide (0 ≤ x20_2) = true := decide_eq_true c10
        clear c10
        by_cases c11 : x20_2 < (a0.size : Int)
        ·rw [if_pos c11] at H
         have c11b0 : decide (x20_2 < (a0.size : Int)) = true := decide_eq_true c11
         clear c11
         replace H := Option.bind_eq_some_iff.mp H
         obtain ⟨t396,A130,H⟩ := H
         try dsimp only at H
         have A13 := am_ A130
         clear A130
         by_cases c14 : t396 = true
         ·subst c14
          have H1 : (impl_NameOK.l0 k2 a0 (a0.size : Int) (wrap64 (x20_2 + 1))) = some r := by rw [if_pos rfl] at H;exact H
          clear H
          have H := H1
          clear H1
          have H' := am_ H
          clear H
          have p12 : 0 ≤ (x20_2 : Int) := zo_
          have q12 : x20_2 < (a0.size : Int) := zo_
          have hx12 := bt_at a0 x20_2
          replace p12 := eq_true p12
          replace q12 := eq_true q12
          go_wp2_with (first | ((with_reducible refine gate_callee (f := 180) rfl ?_);refine zgl (some 26) Tryd.func180 #[.int .u8 (bt a0 x20_2)] ?_;(with_reducible refine (impl_isLetter.calls (bt a0 x20_2) true _ A13.out).mono ?_);rintro e w' ⟨rfl,⟨nd,rfl⟩⟩;refine ⟨_,rfl,?_⟩))
          go_roundg k2
          case measure => have := HJ1.out;have := HK2.out;omega
          case rel => exact ⟨(wrap64 (x20_2 + 1)),(by first | rfl | (simp;done) | (simp [*];done)),H',⟨by have := HJ1.out;have := HK2.out;omega⟩,by repeat (first | exact Drawn0.refl _ | apply Drawn0.step)⟩
         ·replace c14 := Bool.eq_false_iff.mpr c14
          subst c14
          have H1 : (if (bt a0 x20_2) < 48 then (some false) else (if (bt a0 x20_2) > 57 then (some false) else (impl_NameOK.l0 k2 a0 (a0.size : Int) (wrap64 (x20_2 + 1))))) = some r := by rw [if_neg (show ¬ (false = true) by decide)] at H;exact H
          clear H
          have H := H1
          clear H1
          by_cases c16 : (bt a0 x20_2) < 48
          ·rw [if_pos c16] at H
           have c16b0 : decide ((bt a0 x20_2) < 48) = true := decide_eq_true c16
           clear c16
           obtain rfl := Option.some.inj H
           have p12 : 0 ≤ (x20_2 : Int) := zo_
           have q12 : x20_2 < (a0.size : Int) := zo_
           have hx12 := bt_at a0 x20_2
           replace p12 := eq_true p12
           replace q12 := eq_true q12
           go_wp2_with (first | ((with_reducible refine gate_callee (f := 180) rfl ?_);refine zgl (some 26) Tryd.func180 #[.int .u8 (bt a0 x20_2)] ?_;(with_reducible refine (impl_isLetter.calls (bt a0 x20_2) false _ A13.out).mono ?_);rintro e w' ⟨rfl,⟨nd,rfl⟩⟩;refine ⟨_,rfl,?_⟩;have p15 : 0 ≤ (x20_2 : Int) := zo_;have q15 : x20_2 < (a0.size : Int) := zo_;have hx15 := bt_at a0 x20_2;replace p15 := eq_true p15;replace q15 := eq_true q15))
           go_ret
           exact ⟨by first | rfl | (simp;done) | (simp [*];done),by repeat (first | exact Drawn0.refl _ | apply Drawn0.step)⟩
          ·rw [if_neg c16] at H
           have c16b0 : decide ((bt a0 x20_2) < 48) = false := decide_eq_false c16
           clear c16
           by_cases c18 : (bt a0 x20_2) > 57
           ·rw [if_pos c18] at H
            have c18b0 : decide (57 < (bt a0 x20_2)) = true := decide_eq_true c18
            clear c18
            obtain rfl := Option.some.inj H
            have p12 : 0 ≤ (x20_2 : Int) := zo_
            have q12 : x20_2 < (a0.size : Int) := zo_
            have hx12 := bt_at a0 x20_2
            replace p12 := eq_true p12
            replace q12 := eq_true q12
            go_wp2_with (first | ((with_reducible refine gate_callee (f := 180) rfl ?_);refine zgl (some 26) Tryd.func180 #[.int .u8 (bt a0 x20_2)] ?_;(with_reducible refine (impl_isLetter.calls (bt a0 x20_2) false _ A13.out).mono ?_);rintro e w' ⟨rfl,⟨nd,rfl⟩⟩;refine ⟨_,rfl,?_⟩;have p15 : 0 ≤ (x20_2 : Int) := zo_;have q15 : x20_2 < (a0.size : Int) := zo_;have hx15 := bt_at a0 x20_2;replace p15 := eq_true p15;replace q15 := eq_true q15;have p17 : 0 ≤ (x20_2 : Int) := zo_;have q17 : x20_2 < (a0.size : Int) := zo_;have hx17 := bt_at a0 x20_2;replace p17 := eq_true p17;replace q17 := eq_true q17))
            go_ret
            exact ⟨by first | rfl | (simp;done) | (simp [*];done),by repeat (first | exact Drawn0.refl _ | apply Drawn0.step)⟩
           ·rw [if_neg c18] at H
            have c18b0 : decide (57 < (bt a0 x20_2)) = false := decide_eq_false c18
            clear c18
            have H' := am_ H
            clear H
            have p12 : 0 ≤ (x20_2 : Int) := zo_
            have q12 : x20_2 < (a0.size : Int) := zo_
            have hx12 := bt_at a0 x20_2
            replace p12 := eq_true p12
            replace q12 := eq_true q12
            go_wp2_with (first | ((with_reducible refine gate_callee (f := 180) rfl ?_);refine zgl (some 26) Tryd.func180 #[.int .u8 (bt a0 x20_2)] ?_;(with_reducible refine (impl_isLetter.calls (bt a0 x20_2) false _ A13.out).mono ?_);rintro e w' ⟨rfl,⟨nd,rfl⟩⟩;refine ⟨_,rfl,?_⟩;have p15 : 0 ≤ (x20_2 : Int) := zo_;have q15 : x20_2 < (a0.size : Int) := zo_;have hx15 := bt_at a0 x20_2;replace p15 := eq_true p15;replace q15 := eq_true q15;have p17 : 0 ≤ (x20_2 : Int) := zo_;have q17 : x20_2 < (a0.size : Int) := zo_;have hx17 := bt_at a0 x20_2;replace p17 := eq_true p17;replace q17 := eq_true q17))
            go_roundg k2
            case measure => have := HJ1.out;have := HK2.out;omega
            case rel => exact ⟨(wrap64 (x20_2 + 1)),(by first | rfl | (simp;done) | (simp [*];done)),H',⟨by have := HJ1.out;have := HK2.out;omega⟩,by repeat (first | exact Drawn0.refl _ | apply Drawn0.step)⟩
        ·rw [if_neg c11] at H
         exact absurd H (by simp)
       ·rw [if_neg c10] at H
        exact absurd H (by simp)
      ·rw [if_neg c9] at H
       have c9b0 : decide (x20_2 < (a0.size : Int)) = false := decide_eq_false c9
       clear c9
       obtain rfl := Option.some.inj H
       go_wp2
       go_ret
       exact ⟨by first | rfl | (simp;done) | (simp [*];done),by repeat (first | exact Drawn0.refl _ | apply Drawn0.step)⟩
set_option maxHeartbeats 8000000 in
set_option maxRecDepth 100000 in
theorem impl_isOpName.calls (k : Nat) (a0 : ByteArray) (r : Bool) (w : World) (h : impl_isOpName.f k a0 = some r) :
  Calls Tryd.prog 119 #[.string a0] w fun e w' => e = .returned (.bool r) ∧ Drawn0 w w' := by
 have H : (if (a0.size : Int) ≤ 12 then ((impl_NameOK.f k a0).bind fun t397 => (some t397)) else (some false)) = some r := h
 clear h
 by_cases c2 : (a0.size : Int) ≤ 12
 ·rw [if_pos c2] at H
  have c2b0 : decide ((a0.size : Int) ≤ 12) = true := decide_eq_true c2
  have c2b1 : decide (a0.size ≤ 12) = true := decide_eq_true (by omega)
  clear c2
  replace H := Option.bind_eq_some_iff.mp H
  obtain ⟨t397,A30,H⟩ := H
  try dsimp only at H
  have A3 := am_ A30
  clear A30
  obtain rfl := Option.some.inj H
  go_enter Tryd.func119,Tryd.ntmps119
  go_wp2_with (first | (go_at_call 156;(with_reducible refine (impl_NameOK.calls k a0 t397 _ A3.out).mono ?_);rintro e w' ⟨rfl,⟨nd,rfl⟩⟩))
  go_ret
  exact ⟨by first | rfl | (simp;done) | (simp [*];done),by repeat (first | exact Drawn0.refl _ | apply Drawn0.step)⟩
 ·rw [if_neg c2] at H
  have c2b0 : decide ((a0.size : Int) ≤ 12) = false := decide_eq_false c2
  have c2b1 : decide (a0.size ≤ 12) = false := decide_eq_false (by omega)
  clear c2
  obtain rfl := Option.some.inj H
  go_enter Tryd.func119,Tryd.ntmps119
  go_wp2
  go_ret
  exact ⟨by first | rfl | (simp;done) | (simp [*];done),by repeat (first | exact Drawn0.refl _ | apply Drawn0.step)⟩
set_option maxHeartbeats 8000000 in
set_option maxRecDepth 100000 in
theorem impl_within.calls (a0 : Int) (a1 : Int) (a2 : Int) (r : Bool) (w : World) (h : impl_within.f a0 a1 a2 = some r) :
  Calls Tryd.prog 80 #[.int .i64 a0,.int .i64 a1,.int .i64 a2] w fun e w' => e = .returned (.bool r) ∧ Drawn0 w w' := by
 have H : (if a0 ≥ a1 then (some (decide (a0 ≤ a2))) else (some false)) = some r := h
 clear h
 by_cases c4 : a0 ≥ a1
 ·rw [if_pos c4] at H
  have c4b0 : decide (a1 ≤ a0) = true := decide_eq_true c4
  clear c4
  obtain rfl := Option.some.inj H
  go_enter Tryd.func80,Tryd.ntmps80
  go_wp2
  go_ret
  exact ⟨by first | rfl | (simp;done) | (simp [*];done),by repeat (first | exact Drawn0.refl _ | apply Drawn0.step)⟩
 ·rw [if_neg c4] at H
  have c4b0 : decide (a1 ≤ a0) = false := decide_eq_false c4
  clear c4
  obtain rfl := Option.some.inj H
  go_enter Tryd.func80,Tryd.ntmps80
  go_wp2
  go_ret
  exact ⟨by first | rfl | (simp;done) | (simp [*];done),by repeat (first | exact Drawn0.refl _ | apply Drawn0.step)⟩
set_option maxHeartbeats 8000000 in
set_option maxRecDepth 100000 in
theorem impl_RequestOK.calls (k : Nat) (a0_0 : Int) (a0_1 : Int) (a0_2 : Int) (a0_3 : Int) (a0_4 : ByteArray) (r : Bool) (w : World) (h : impl_RequestOK.f k a0_0 a0_1 a0_2 a0_3 a0_4 = some r) :
  Calls Tryd.prog 145 #[.agg #[.int .i64 a0_0,.int .i64 a0_1,.int .i64 a0_2,.int .i64 a0_3,.string a0_4]] w fun e w' => e = .returned (.bool r) ∧ Below w.heap.size w w' := by
 have hu85 := Tryd.underlying85
 have HB := am_ (Below.refl w.heap.size w)
 have H : (if a0_2 = 1 then (impl_RequestOK.j0 k 0 0 true a0_0 a0_1 a0_2 a0_3 a0_4) else (impl_RequestOK.j0 k 0 0 (a0_2 == 3) a0_0 a0_1 a0_2 a0_3 a0_4)) = some r := h
 clear h
 have HC2 := am_ H
 clear H
 go_enter Tryd.func145,Tryd.ntmps145
 go_upto_region 2 with (first | ((with_reducible refine gate_dst (N := 1) rfl ?_);refine zbx (N := 1) (cs := #[.int .i64 a0_0,.int .i64 a0_1,.int .i64 a0_2,.int .i64 a0_3,.string a0_4]) (t := 85) ?_;intro gb1224 hg w3 hbox hb;have BK1224 := am_ (hbox);have GW1224 := zw_ HB hg;have GE1224 := zw_ HB hg;replace HB := zs_ HB hb;clear hb hbox hg))
 (try simp only [Act.put,p1_,p2_,p3_])
 go_cut [12] (fun v12 wc => ∃ (kq : Nat) (x12_1 : Bool),v12 = .bool x12_1 ∧ Aside0 (impl_RequestOK.j0 kq 0 0 x12_1 a0_0 a0_1 a0_2 a0_3 a0_4 = some r) ∧ Aside0 (kq ≤ k) ∧ Aside0 (wc.heap[gb1224]? = some (.cells #[.int .i64 a0_0,.int .i64 a0_1,.int .i64 a0_2,.int .i64 a0_3,.string a0_4] 85 (0,0))) ∧ Aside0 (Below w.heap.size w wc))
 case first =>
  have H := HC2.out
  clear HC2
  by_cases c4 : a0_2 = 1
  ·rw [if_pos c4] at H
   have c4b0 : (a0_2 == 1) = true := beq_iff_eq.mpr c4
   have c4b1 : (a0_2 != 1) = false := bne_eq_false_iff_eq.mpr c4
   clear c4
   (first | rw [c4b0] | (simp only [i64_w,i32_w];rw [c4b0]) | skip)
   have H' := am_ H
   clear H
   obtain ⟨hcz5_0,hcz5_1,hcz5_2,hcz5_3,hcz5_4,hfz5_0,hfz5_1,hfz5_2,hfz5_3,hfz5_4⟩ := zc5 BK1224
   go_wp2
   go_meet
   case rel => exact ⟨_,(true),(by first | rfl | (simp;done) | (simp [*];done)),H',⟨by first | omega | exact Nat.le_refl _⟩,⟨by (with_reducible repeat (first | apply k1_ | apply k2_ | apply k3_));exact BK1224.out⟩,⟨zl_ HB⟩⟩
  ·rw [if_neg c4] at H
   have c4b0 : (a0_2 == 1) = false := beq_eq_false_iff_ne.mpr c4
   have c4b1 : (a0_2 != 1) = true := bne_iff_ne.mpr c4
   (first | rw [c4b0] | (simp only [i64_w,i32_w];rw [c4b0]) | skip)
   have H' := am_ H
   clear H
   obtain ⟨hcz6_0,hcz6_1,hcz6_2,hcz6_3,hcz6_4,hfz6_0,hfz6_1,hfz6_2,hfz6_3,hfz6_4⟩ := zc5 BK1224
   go_wp2
   go_meet
   case rel => exact ⟨_,((a0_2 == 3)),(by first | rfl | (simp;done) | (simp [*];done)),H',⟨by first | omega | exact Nat.le_refl _⟩,⟨by (with_reducible repeat (first | apply k1_ | apply k2_ | apply k3_));exact BK1224.out⟩,⟨zl_ HB⟩⟩
 case rest =>
  clear HC2
  try clear c1
  try clear p2
  try clear c4
  try clear c4b0
  try clear c4b1
  try clear hcz5_0
  try clear hcz5_1
  try clear hcz5_2
  try clear hcz5_3
  try clear hcz5_4
  try clear hcz6_0
  try clear hcz6_1
  try clear hcz6_2
  try clear hcz6_3
  try clear hcz6_4
  try clear hfz5_0
  try clear hfz5_1
  try clear hfz5_2
  try clear hfz5_3
  try clear hfz5_4
  try clear hfz6_0
  try clear hfz6_1
  try clear hfz6_2
  try clear hfz6_3
  try clear hfz6_4
  obtain ⟨kq,x12_1,rfl,HA,HJ1,BK1224,HB⟩ := hcut
  cases kq with
  | zero => exact absurd HA.out (by simp [impl_RequestOK.j0])
  | succ kj1 =>
   have H := HA.out
   clear HA
   simp only [impl_RequestOK.j0] at H
   have HC7 := am_ H
   clear H
   go_upto_if 12 with (fail)
   go_cut [3,4] (fun v3 v4 wc => ∃ (kq : Nat) (x3_6 : Int) (x4_6 : Int),v3 = .int .i64 x3_6 ∧ v4 = .int .i64 x4_6 ∧ Aside0 (impl_RequestOK.j1 kq x3_6 x4_6 a0_0 a0_1 a0_2 a0_3 a0_4 = some r) ∧ Aside0 (kq ≤ kj1) ∧ Aside0 (wc.heap[gb1224]? = some (.cells #[.int .i64 a0_0,.int .i64 a0_1,.int .i64 a0_2,.int .i64 a0_3,.string a0_4] 85 (0,0))) ∧ Aside0 (Below w.heap.size w wc))
   case first =>
    have H := HC7.out
    clear HC7
    by_cases c8 : x12_1 = true
    ·subst c8
     have H1 : (impl_RequestOK.j1 kj1 1 1000 a0_0 a0_1 a0_2 a0_3 a0_4) = some r := by rw [if_pos rfl] at H;exact H
     clear H
     have H := H1
     clear H1
     have H' := am_ H
     clear H
     go_wp2
     go_meet
     case rel => exact ⟨_,(1),(1000),(by first | rfl | (simp;done) | (simp [*];done)),(by first | rfl | (simp;done) | (simp [*];done)),H',⟨by have := HJ1.out;first | omega | exact Nat.le_refl _⟩,⟨by (with_reducible repeat (first | apply k1_ | apply k2_ | apply k3_));exact BK1224.out⟩,⟨zl_ HB⟩⟩
    ·replace c8 := Bool.eq_false_iff.mpr c8
     subst c8
     have H1 : (impl_RequestOK.j1 kj1 0 0 a0_0 a0_1 a0_2 a0_3 a0_4) = some r := by rw [if_neg (show ¬ (false = true) by decide)] at H;exact H
     clear H
     have H := H1
     clear H1
     have H' := am_ H
     clear H
     go_wp2
     go_meet
     case rel => exact ⟨_,(0),(0),(by first | rfl | (simp;done) | (simp [*];done)),(by first | rfl | (simp;done) | (simp [*];done)),H',⟨by have := HJ1.out;first | omega | exact Nat.le_refl _⟩,⟨by (with_reducible repeat (first | apply k1_ | apply k2_ | apply k3_));exact BK1224.out⟩,⟨zl_ HB⟩⟩
   case rest =>
    clear HC7
    try clear c1
    try clear p2
    try clear c4
    try clear c4b0
    try clear c4b1
    try clear c8
    try clear hcz5_0
    try clear hcz5_1
    try clear hcz5_2
    try clear hcz5_3
    try clear hcz5_4
    try clear hcz6_0
    try clear hcz6_1
    try clear hcz6_2
    try clear hcz6_3
    try clear hcz6_4
    try clear hfz5_0
    try clear hfz5_1
    try clear hfz5_2
    try clear hfz5_3
    try clear hfz5_4
    try clear hfz6_0
    try clear hfz6_1
    try clear hfz6_2
    try clear hfz6_3
    try clear hfz6_4
    try clear p2
    obtain ⟨kq,x3_6,x4_6,rfl,rfl,HA,HJ6,BK1224,HB⟩ := hcut
    cases kq with
    | zero => exact absurd HA.out (by simp [impl_RequestOK.j1])
    | succ kj6 =>
     have H := HA.out
     clear HA
     simp only [impl_RequestOK.j1] at H
     replace H := Option.bind_eq_some_iff.mp H
     obtain ⟨t1225,A90,H⟩ := H
     try dsimp only at H
     have A9 := am_ A90
     clear A90
     by_cases c10 : t1225 = true
     ·subst c10
      have H1 : ((impl_within.f a0_1 1 65535).bind fun t1226 => (if t1226 = true then ((impl_within.f a0_2 1 4).bind fun t1227 => (if t1227 = true then ((impl_within.f a0_3 x3_6 x4_6).bind fun t1228 => (if t1228 = true then ((impl_isOpName.f kj6 a0_4).bind fun t1229 => (some t1229)) else (some false))) else (some false))) else (some false))) = some r := by rw [if_pos rfl] at H;exact H
      clear H
      have H := H1
      clear H1
      replace H := Option.bind_eq_some_iff.mp H
      obtain ⟨t1226,A110,H⟩ := H
      try dsimp only at H
      have A11 := am_ A110
      clear A110
      by_cases c12 : t1226 = true
      ·subst c12
       have H1 : ((impl_within.f a0_2 1 4).bind fun t1227 => (if t1227 = true then ((impl_within.f a0_3 x3_6 x4_6).bind fun t1228 => (if t1228 = true then ((impl_isOpName.f kj6 a0_4).bind fun t1229 => (some t1229)) else (some false))) else (some false))) = some r := by rw [if_pos rfl] at H;exact H
       clear H
       have H := H1
       clear H1
       replace H := Option.bind_eq_some_iff.mp H
       obtain ⟨t1227,A130,H⟩ := H
       try dsimp only at H
       have A13 := am_ A130
       clear A130
       by_cases c14 : t1227 = true
       ·subst c14
        have H1 : ((impl_within.f a0_3 x3_6 x4_6).bind fun t1228 => (if t1228 = true then ((impl_isOpName.f kj6 a0_4).bind fun t1229 => (some t1229)) else (some false))) = some r := by rw [if_pos rfl] at H;exact H
        clear H
        have H := H1
        clear H1
        replace H := Option.bind_eq_some_iff.mp H
        obtain ⟨t1228,A150,H⟩ := H
        try dsimp only at H
        have A15 := am_ A150
        clear A150
        by_cases c16 : t1228 = true
        ·subst c16
         have H1 : ((impl_isOpName.f kj6 a0_4).bind fun t1229 => (some t1229)) = some r := by rw [if_pos rfl] at H;exact H
         clear H
         have H := H1
         clear H1
         replace H := Option.bind_eq_some_iff.mp H
         obtain ⟨t1229,A170,H⟩ := H
         try dsimp only at H
         have A17 := am_ A170
         clear A170
         obtain rfl := Option.some.inj H
         obtain ⟨hcz18_0,hcz18_1,hcz18_2,hcz18_3,hcz18_4,hfz18_0,hfz18_1,hfz18_2,hfz18_3,hfz18_4⟩ := zc5 BK1224
         go_wp2_with (first | ((with_reducible refine gate_callee (f := 80) rfl ?_);refine zgl (some 15) Tryd.func80 #[.int .i64 a0_0,.int .i64 0,.int .i64 255] ?_;(with_reducible refine (impl_within.calls a0_0 0 255 true _ A9.out).mono ?_);rintro e w' ⟨rfl,⟨nd,rfl⟩⟩;refine ⟨_,rfl,?_⟩) | (go_at_call 80;(with_reducible refine (impl_within.calls a0_1 1 65535 true _ A11.out).mono ?_);rintro e w' ⟨rfl,⟨nd,rfl⟩⟩) | (go_at_call 80;(with_reducible refine (impl_within.calls a0_2 1 4 true _ A13.out).mono ?_);rintro e w' ⟨rfl,⟨nd,rfl⟩⟩) | (go_at_call 80;(with_reducible refine (impl_within.calls a0_3 x3_6 x4_6 true _ A15.out).mono ?_);rintro e w' ⟨rfl,⟨nd,rfl⟩⟩) | (go_at_call 119;(with_reducible refine (impl_isOpName.calls kj6 a0_4 t1229 _ A17.out).mono ?_);rintro e w' ⟨rfl,⟨nd,rfl⟩⟩))
         go_ret
         exact ⟨zt_,zl_ HB⟩
        ·replace c16 := Bool.eq_false_iff.mpr c16
         subst c16
         have H1 : (some false) = some r := by rw [if_neg (show ¬ (false = true) by decide)] at H;exact H
         clear H
         have H := H1
         clear H1
         obtain rfl := Option.some.inj H
         obtain ⟨hcz19_0,hcz19_1,hcz19_2,hcz19_3,hcz19_4,hfz19_0,hfz19_1,hfz19_2,hfz19_3,hfz19_4⟩ := zc5 BK1224
         go_wp2_with (first | ((with_reducible refine gate_callee (f := 80) rfl ?_);refine zgl (some 15) Tryd.func80 #[.int .i64 a0_0,.int .i64 0,.int .i64 255] ?_;(with_reducible refine (impl_within.calls a0_0 0 255 true _ A9.out).mono ?_);rintro e w' ⟨rfl,⟨nd,rfl⟩⟩;refine ⟨_,rfl,?_⟩) | (go_at_call 80;(with_reducible refine (impl_within.calls a0_1 1 65535 true _ A11.out).mono ?_);rintro e w' ⟨rfl,⟨nd,rfl⟩⟩) | (go_at_call 80;(with_reducible refine (impl_within.calls a0_2 1 4 true _ A13.out).mono ?_);rintro e w' ⟨rfl,⟨nd,rfl⟩⟩) | (go_at_call 80;(with_reducible refine (impl_within.calls a0_3 x3_6 x4_6 false _ A15.out).mono ?_);rintro e w' ⟨rfl,⟨nd,rfl⟩⟩))
         go_ret
         exact ⟨zt_,zl_ HB⟩
       ·replace c14 := Bool.eq_false_iff.mpr c14
        subst c14
        have H1 : (some false) = some r := by rw [if_neg (show ¬ (false = true) by decide)] at H;exact H
        clear H
        have H := H1
        clear H1
        obtain rfl := Option.some.inj H
        obtain ⟨hcz20_0,hcz20_1,hcz20_2,hcz20_3,hcz20_4,hfz20_0,hfz20_1,hfz20_2,hfz20_3,hfz20_4⟩ := zc5 BK1224
        go_wp2_with (first | ((with_reducible refine gate_callee (f := 80) rfl ?_);refine zgl (some 15) Tryd.func80 #[.int .i64 a0_0,.int .i64 0,.int .i64 255] ?_;(with_reducible refine (impl_within.calls a0_0 0 255 true _ A9.out).mono ?_);rintro e w' ⟨rfl,⟨nd,rfl⟩⟩;refine ⟨_,rfl,?_⟩) | (go_at_call 80;(with_reducible refine (impl_within.calls a0_1 1 65535 true _ A11.out).mono ?_);rintro e w' ⟨rfl,⟨nd,rfl⟩⟩) | (go_at_call 80;(with_reducible refine (impl_within.calls a0_2 1 4 false _ A13.out).mono ?_);rintro e w' ⟨rfl,⟨nd,rfl⟩⟩))
        go_ret
        exact ⟨zt_,zl_ HB⟩
      ·replace c12 := Bool.eq_false_iff.mpr c12
       subst c12
       have H1 : (some false) = some r := by rw [if_neg (show ¬ (false = true) by decide)] at H;exact H
       clear H
       have H := H1
       clear H1
       obtain rfl := Option.some.inj H
       obtain ⟨hcz21_0,hcz21_1,hcz21_2,hcz21_3,hcz21_4,hfz21_0,hfz21_1,hfz21_2,hfz21_3,hfz21_4⟩ := zc5 BK1224
       go_wp2_with (first | ((with_reducible refine gate_callee (f := 80) rfl ?_);refine zgl (some 15) Tryd.func80 #[.int .i64 a0_0,.int .i64 0,.int .i64 255] ?_;(with_reducible refine (impl_within.calls a0_0 0 255 true _ A9.out).mono ?_);rintro e w' ⟨rfl,⟨nd,rfl⟩⟩;refine ⟨_,rfl,?_⟩) | (go_at_call 80;(with_reducible refine (impl_within.calls a0_1 1 65535 false _ A11.out).mono ?_);rintro e w' ⟨rfl,⟨nd,rfl⟩⟩))
       go_ret
       exact ⟨zt_,zl_ HB⟩
     ·replace c10 := Bool.eq_false_iff.mpr c10
      subst c10
      have H1 : (some false) = some r := by rw [if_neg (show ¬ (false = true) by decide)] at H;exact H
      clear H
      have H := H1
      clear H1
      obtain rfl := Option.some.inj H
      obtain ⟨hcz22_0,hcz22_1,hcz22_2,hcz22_3,hcz22_4,hfz22_0,hfz22_1,hfz22_2,hfz22_3,hfz22_4⟩ := zc5 BK1224
      go_wp2_with (first | ((with_reducible refine gate_callee (f := 80) rfl ?_);refine zgl (some 15) Tryd.func80 #[.int .i64 a0_0,.int .i64 0,.int .i64 255] ?_;(with_reducible refine (impl_within.calls a0_0 0 255 false _ A9.out).mono ?_);rintro e w' ⟨rfl,⟨nd,rfl⟩⟩;refine ⟨_,rfl,?_⟩))
      go_ret
      exact ⟨zt_,zl_ HB⟩
set_option maxHeartbeats 8000000 in
set_option maxRecDepth 100000 in
theorem impl_isReading.calls (a0_0 : Int) (a0_1 : Int) (a0_2 : ByteArray) (r : Bool) (w : World) (h : impl_isReading.f a0_0 a0_1 a0_2 = some r) :
  Calls Tryd.prog 191 #[.agg #[.int .i64 a0_0,.int .i64 a0_1,.string a0_2]] w fun e w' => e = .returned (.bool r) ∧ Below w.heap.size w w' := by
 have hu185 := Tryd.underlying185
 have HB := am_ (Below.refl w.heap.size w)
 have H : ((impl_within.f a0_0 0 6).bind fun t1425 => (if t1425 = true then ((impl_within.f a0_1 0 1000000000).bind fun t1426 => (if t1426 = true then (some ((a0_2.size : Int) == 8)) else (some false))) else (some false))) = some r := h
 clear h
 replace H := Option.bind_eq_some_iff.mp H
 obtain ⟨t1425,A20,H⟩ := H
 try dsimp only at H
 have A2 := am_ A20
 clear A20
 by_cases c3 : t1425 = true
 ·subst c3
  have H1 : ((impl_within.f a0_1 0 1000000000).bind fun t1426 => (if t1426 = true then (some ((a0_2.size : Int) == 8)) else (some false))) = some r := by rw [if_pos rfl] at H;exact H
  clear H
  have H := H1
  clear H1
  replace H := Option.bind_eq_some_iff.mp H
  obtain ⟨t1426,A40,H⟩ := H
  try dsimp only at H
  have A4 := am_ A40
  clear A40
  by_cases c5 : t1426 = true
  ·subst c5
   have H1 : (some ((a0_2.size : Int) == 8)) = some r := by rw [if_pos rfl] at H;exact H
   clear H
   have H := H1
   clear H1
   obtain rfl := Option.some.inj H
   go_enter Tryd.func191,Tryd.ntmps191
   go_wp2_with (first | ((with_reducible refine gate_dst (N := 1) rfl ?_);(try (refine gate_guard (by rfl) ?_;dsimp only));refine zbx (N := 1) (cs := #[.int .i64 a0_0,.int .i64 a0_1,.string a0_2]) (t := 185) ?_;intro gb1424 hg w6 hbox hb;have BK1424 := am_ (hbox);have GW1424 := zw_ HB hg;have GE1424 := zw_ HB hg;replace HB := zs_ HB hb;clear hb hbox hg;obtain ⟨hcz7_0,hcz7_1,hcz7_2,hfz7_0,hfz7_1,hfz7_2⟩ := zc3 BK1424) | ((with_reducible refine gate_callee (f := 80) rfl ?_);refine zgl (some 5) Tryd.func80 #[.int .i64 a0_0,.int .i64 0,.int .i64 6] ?_;(with_reducible refine (impl_within.calls a0_0 0 6 true _ A2.out).mono ?_);rintro e w' ⟨rfl,⟨nd,rfl⟩⟩;refine ⟨_,rfl,?_⟩) | (go_at_call 80;(with_reducible refine (impl_within.calls a0_1 0 1000000000 true _ A4.out).mono ?_);rintro e w' ⟨rfl,⟨nd,rfl⟩⟩))
   go_ret
   exact ⟨zt_,zl_ HB⟩
  ·replace c5 := Bool.eq_false_iff.mpr c5
   subst c5
   have H1 : (some false) = some r := by rw [if_neg (show ¬ (false = true) by decide)] at H;exact H
   clear H
   have H := H1
   clear H1
   obtain rfl := Option.some.inj H
   go_enter Tryd.func191,Tryd.ntmps191
   go_wp2_with (first | ((with_reducible refine gate_dst (N := 1) rfl ?_);(try (refine gate_guard (by rfl) ?_;dsimp only));refine zbx (N := 1) (cs := #[.int .i64 a0_0,.int .i64 a0_1,.string a0_2]) (t := 185) ?_;intro gb1424 hg w8 hbox hb;have BK1424 := am_ (hbox);have GW1424 := zw_ HB hg;have GE1424 := zw_ HB hg;replace HB := zs_ HB hb;clear hb hbox hg;obtain ⟨hcz9_0,hcz9_1,hcz9_2,hfz9_0,hfz9_1,hfz9_2⟩ := zc3 BK1424) | ((with_reducible refine gate_callee (f := 80) rfl ?_);refine zgl (some 5) Tryd.func80 #[.int .i64 a0_0,.int .i64 0,.int .i64 6] ?_;(with_reducible refine (impl_within.calls a0_0 0 6 true _ A2.out).mono ?_);rintro e w' ⟨rfl,⟨nd,rfl⟩⟩;refine ⟨_,rfl,?_⟩) | (go_at_call 80;(with_reducible refine (impl_within.calls a0_1 0 1000000000 false _ A4.out).mono ?_);rintro e w' ⟨rfl,⟨nd,rfl⟩⟩))
   go_ret
   exact ⟨zt_,zl_ HB⟩
 ·replace c3 := Bool.eq_false_iff.mpr c3
  subst c3
  have H1 : (some false) = some r := by rw [if_neg (show ¬ (false = true) by decide)] at H;exact H
  clear H
  have H := H1
  clear H1
  obtain rfl := Option.some.inj H
  go_enter Tryd.func191,Tryd.ntmps191
  go_wp2_with (first | ((with_reducible refine gate_dst (N := 1) rfl ?_);(try (refine gate_guard (by rfl) ?_;dsimp only));refine zbx (N := 1) (cs := #[.int .i64 a0_0,.int .i64 a0_1,.string a0_2]) (t := 185) ?_;intro gb1424 hg w10 hbox hb;have BK1424 := am_ (hbox);have GW1424 := zw_ HB hg;have GE1424 := zw_ HB hg;replace HB := zs_ HB hb;clear hb hbox hg;obtain ⟨hcz11_0,hcz11_1,hcz11_2,hfz11_0,hfz11_1,hfz11_2⟩ := zc3 BK1424) | ((with_reducible refine gate_callee (f := 80) rfl ?_);refine zgl (some 5) Tryd.func80 #[.int .i64 a0_0,.int .i64 0,.int .i64 6] ?_;(with_reducible refine (impl_within.calls a0_0 0 6 false _ A2.out).mono ?_);rintro e w' ⟨rfl,⟨nd,rfl⟩⟩;refine ⟨_,rfl,?_⟩))
  go_ret
  exact ⟨zt_,zl_ HB⟩
end Go.Proofs.YtlifdodphkimpaaDoor.C
end

section
namespace Go.Proofs.YtlifdodphkimpaaDoor.C
open Go.RowKit Go.Proofs.YtlifdodphkimpaaDoorW.PrintWords Go.Proofs.YtlifdodphkimpaaDoorW.PrintLast Go.Proofs.YtlifdodphkimpaaDoorW.PrintMore
attribute [local go_sem] max2_int min2_int max_two min_two max_three min_three max_four min_four
attribute [local go_sem high] eqA85
def impl_isBatch.T8 : Bool × List (List Nat × List Nat) := (true,[([],[]),([0],[0]),([1],[1]),([2,1],[2]),([3],[3]),([4,3],[3,4]),([5,3,3],[3,5]),([6],[6]),([7,6],[6,7]),([6],[6]),([9,6],[6,9]),([8,10,6],[6,8,10]),([11,6],[6,11]),([12,6],[6,12]),([6],[6]),([14,6],[6,14]),([13,15,6],[6,13,15]),([6,16,3],[3,6,16]),([3,17],[3,17])])
def impl_isBatch.B8 : List Nat := [0,1,3,7,15,31,63,127,255,127,639,2047,4095,8191,127,16511,65535,131071,262143]
theorem impl_isBatch.tab8 : rtab .any (opsOf Tryd.f189 8) = impl_isBatch.T8 := by kernel_rfl
theorem impl_isBatch.bits8 : waitsOk impl_isBatch.T8.2 impl_isBatch.B8 = true := by kernel_rfl
set_option maxHeartbeats 8000000 in
set_option maxRecDepth 100000 in
theorem impl_isBatch.calls (k : Nat) (a0_0 : Bool) (a0_1 : Int) (a0_2 : Int) (a0_3 : Int) (a0_4 : Int) (a0_5 : ByteArray) (A0_6 : Option Addr) (c0_6 : Nat) (l0_6 : List (S185)) (r : Bool) (w : World) (hr0_6 : Kd.C k185 w A0_6 l0_6.length l0_6) (hc0_6 : l0_6.length ≤ c0_6) (h : impl_isBatch.f k a0_0 a0_1 a0_2 a0_3 a0_4 a0_5 l0_6 = some r) :
  Calls Tryd.prog 189 #[.agg #[.bool a0_0,.int .i64 a0_1,.int .i64 a0_2,.int .i64 a0_3,.int .i64 a0_4,.string a0_5,.slice A0_6 l0_6.length c0_6]] w fun e w' => e = .returned (.bool r) ∧ Below w.heap.size w w' := by
 have hu165 := Tryd.underlying165
 have hu85 := Tryd.underlying85
 have hu185 := Tryd.underlying185
 have HR0_6 := am_ hr0_6
 have HC0_6 := am_ hc0_6
 clear hr0_6 hc0_6
 have HB := am_ (Below.refl w.heap.size w)
 have H : (if a0_0 = true then (if (a0_1 == 0 && (a0_2 == 0 && (a0_3 == 0 && (a0_4 == 0 && (a0_5.toList == ([] : List UInt8)))))) = true then (some ((l0_6.length : Int) == 0)) else (some false)) else ((impl_RequestOK.f k a0_1 a0_2 a0_3 a0_4 a0_5).bind fun t1428 => (if t1428 = true then (impl_isBatch.j0 k (decide ((l0_6.length : Int) > 7)) a0_0 a0_1 a0_2 a0_3 a0_4 a0_5 l0_6) else (impl_isBatch.j0 k true a0_0 a0_1 a0_2 a0_3 a0_4 a0_5 l0_6)))) = some r := h
 clear h
 by_cases c2 : a0_0 = true
 ·subst c2
  have H1 : (if (a0_1 == 0 && (a0_2 == 0 && (a0_3 == 0 && (a0_4 == 0 && (a0_5.toList == ([] : List UInt8)))))) = true then (some ((l0_6.length : Int) == 0)) else (some false)) = some r := by rw [if_pos rfl] at H;exact H
  clear H
  have H := H1
  clear H1
  by_cases c3 : (a0_1 == 0 && (a0_2 == 0 && (a0_3 == 0 && (a0_4 == 0 && (a0_5.toList == ([] : List UInt8)))))) = true
  ·rw [if_pos c3] at H
   have c3k := am_ c3
   have c3b0 : (a0_1 == 0 && (a0_2 == 0 && (a0_3 == 0 && (a0_4 == 0 && (a0_5.toList == ([] : List UInt8)))))) = true := c3k.out
   (try (have c3b1 : decide (a0_1 = 0 && (a0_2 == 0 && (a0_3 == 0 && (a0_4 == 0 && (a0_5.toList == ([] : List UInt8)))))) = true := by simpa using c3k.out))
   (try (have c3b2 : (a0_1 == 0 && (a0_2 == 0 && (a0_3 == 0 && (a0_4 == 0 && (a0_5.toList == ([] : List UInt8)))))) = true := by simpa using c3k.out))
   (try have c3e0 := c3b0;simp only [e3_,e4_] at c3e0)
   (try have c3e1 := c3b1;simp only [e3_,e4_] at c3e1)
   (try have c3e2 := c3b2;simp only [e3_,e4_] at c3e2)
   (try simp only [*,Bool.not_true,Bool.not_false,Bool.false_or,Bool.true_or,Bool.or_false,Bool.or_true,Bool.true_and,Bool.and_true,Bool.false_and,Bool.and_false] at c3)
   have c3bs := c3
   clear c3k
   clear c3
   obtain rfl := Option.some.inj H
   go_enter Tryd.func189,Tryd.ntmps189
   go_wp2_with (first | ((with_reducible refine gate_dst (N := 1) rfl ?_);(try (refine gate_guard (by rfl) ?_;dsimp only));refine zbx (N := 1) (cs := #[.bool true,.int .i64 a0_1,.int .i64 a0_2,.int .i64 a0_3,.int .i64 a0_4,.string a0_5,.slice A0_6 l0_6.length c0_6]) (t := 165) ?_;intro gb1427 hg w4 hbox hb;have BK1427 := am_ (hbox);have GW1427 := zw_ HB hg;have GE1427 := zw_ HB hg;replace HB := zs_ HB hb;clear hb hbox hg;obtain ⟨hcz5_0,hcz5_1,hcz5_2,hcz5_3,hcz5_4,hcz5_5,hcz5_6,hfz5_0,hfz5_1,hfz5_2,hfz5_3,hfz5_4,hfz5_5,hfz5_6⟩ := zc7 BK1427))
   go_ret
   exact ⟨zt_,zl_ HB⟩
  ·rw [if_neg c3] at H
   have c3k := am_ c3
   have c3b0 : (a0_1 == 0 && (a0_2 == 0 && (a0_3 == 0 && (a0_4 == 0 && (a0_5.toList == ([] : List UInt8)))))) = false := by simpa using c3k.out
   (try (have c3b1 : decide (a0_1 = 0 && (a0_2 == 0 && (a0_3 == 0 && (a0_4 == 0 && (a0_5.toList == ([] : List UInt8)))))) = false := by simpa using c3k.out))
   (try (have c3b2 : (a0_1 == 0 && (a0_2 == 0 && (a0_3 == 0 && (a0_4 == 0 && (a0_5.toList == ([] : List UInt8)))))) = false := by simpa using c3k.out))
   (try (have c3b3 : ¬ (a0_1 = 0 && (a0_2 == 0 && (a0_3 == 0 && (a0_4 == 0 && (a0_5.toList == ([] : List UInt8)))))) := by simpa using c3k.out))
   (try have c3e0 := c3b0;simp only [e3_,e4_] at c3e0)
   (try have c3e1 := c3b1;simp only [e3_,e4_] at c3e1)
   (try have c3e2 := c3b2;simp only [e3_,e4_] at c3e2)
   (try have c3e3 := c3b3;simp only [e3_,e4_] at c3e3)
   (try simp only [*,Bool.not_true,Bool.not_false,Bool.false_or,Bool.true_or,Bool.or_false,Bool.or_true,Bool.true_and,Bool.and_true,Bool.false_and,Bool.and_false] at c3)
   have c3bs := c3
   clear c3k
   clear c3
   obtain rfl := Option.some.inj H
   go_enter Tryd.func189,Tryd.ntmps189
   go_wp2_with (first | ((with_reducible refine gate_dst (N := 1) rfl ?_);(try (refine gate_guard (by rfl) ?_;dsimp only));refine zbx (N := 1) (cs := #[.bool true,.int .i64 a0_1,.int .i64 a0_2,.int .i64 a0_3,.int .i64 a0_4,.string a0_5,.slice A0_6 l0_6.length c0_6]) (t := 165) ?_;intro gb1427 hg w6 hbox hb;have BK1427 := am_ (hbox);have GW1427 := zw_ HB hg;have GE1427 := zw_ HB hg;replace HB := zs_ HB hb;clear hb hbox hg;obtain ⟨hcz7_0,hcz7_1,hcz7_2,hcz7_3,hcz7_4,hcz7_5,hcz7_6,hfz7_0,hfz7_1,hfz7_2,hfz7_3,hfz7_4,hfz7_5,hfz7_6⟩ := zc7 BK1427))
   go_ret
   exact ⟨zt_,zl_ HB⟩
 ·replace c2 := Bool.eq_false_iff.mpr c2
  subst c2
  have H1 : ((impl_RequestOK.f k a0_1 a0_2 a0_3 a0_4 a0_5).bind fun t1428 => (if t1428 = true then (impl_isBatch.j0 k (decide ((l0_6.length : Int) > 7)) false a0_1 a0_2 a0_3 a0_4 a0_5 l0_6) else (impl_isBatch.j0 k true false a0_1 a0_2 a0_3 a0_4 a0_5 l0_6))) = some r := by rw [if_neg (show ¬ (false = true) by decide)] at H;exact H
  clear H
  have H := H1
  clear H1
  have HC8 := am_ H
  clear H
  go_enter Tryd.func189,Tryd.ntmps189
  go_upto_region 3 with (first | ((with_reducible refine gate_dst (N := 1) rfl ?_);(try (refine gate_guard (by rfl) ?_;dsimp only));refine zbx (N := 1) (cs := #[.bool false,.int .i64 a0_1,.int .i64 a0_2,.int .i64 a0_3,.int .i64 a0_4,.string a0_5,.slice A0_6 l0_6.length c0_6]) (t := 165) ?_;intro gb1427 hg w9 hbox hb;have BK1427 := am_ (hbox);have GW1427 := zw_ HB hg;have GE1427 := zw_ HB hg;replace HB := zs_ HB hb;clear hb hbox hg;obtain ⟨hcz10_0,hcz10_1,hcz10_2,hcz10_3,hcz10_4,hcz10_5,hcz10_6,hfz10_0,hfz10_1,hfz10_2,hfz10_3,hfz10_4,hfz10_5,hfz10_6⟩ := zc7 BK1427))
  (try simp only [Act.put,p1_,p2_,p3_])
  go_cut [26] (fun v26 wc => ∃ (kq : Nat) (x26_7 : Bool),v26 = .bool x26_7 ∧ Aside0 (impl_isBatch.j0 kq x26_7 false a0_1 a0_2 a0_3 a0_4 a0_5 l0_6 = some r) ∧ Aside0 (kq ≤ k) ∧ Aside0 (wc.heap[gb1427]? = some (.cells #[.bool false,.int .i64 a0_1,.int .i64 a0_2,.int .i64 a0_3,.int .i64 a0_4,.string a0_5,(.slice A0_6 l0_6.length c0_6)] 165 (0,0))) ∧ Aside0 (Below w.heap.size w wc))
  case first =>
   have H := HC8.out
   clear HC8
   replace H := Option.bind_eq_some_iff.mp H
   obtain ⟨t1428,A110,H⟩ := H
   try dsimp only at H
   have A11 := am_ A110
   clear A110
   by_cases c12 : t1428 = true
   ·subst c12
    have H1 : (impl_isBatch.j0 k (decide ((l0_6.length : Int) > 7)) false a0_1 a0_2 a0_3 a0_4 a0_5 l0_6) = some r := by rw [if_pos rfl] at H;exact H
    clear H
    have H := H1
    clear H1
    have H' := am_ H
    clear H
    obtain ⟨hcz13_0,hcz13_1,hcz13_2,hcz13_3,hcz13_4,hcz13_5,hcz13_6,hfz13_0,hfz13_1,hfz13_2,hfz13_3,hfz13_4,hfz13_5,hfz13_6⟩ := zc7 BK1427
    go_wp2_with (first | ((with_reducible refine gate_callee (f := 145) rfl ?_);refine zgl (some 19) Tryd.func145 #[.agg #[.int .i64 a0_1,.int .i64 a0_2,.int .i64 a0_3,.int .i64 a0_4,.string a0_5]] ?_;(with_reducible refine (impl_RequestOK.calls k a0_1 a0_2 a0_3 a0_4 a0_5 true _ A11.out).mono ?_);rintro e w14 ⟨rfl,hb⟩;refine ⟨_,rfl,?_⟩;replace BK1427 := zb BK1427 hb;replace HB := zs_ HB hb;(try clear hb);(try clear hb2);(try clear hk);(try clear hi);obtain ⟨hcz15_0,hcz15_1,hcz15_2,hcz15_3,hcz15_4,hcz15_5,hcz15_6,hfz15_0,hfz15_1,hfz15_2,hfz15_3,hfz15_4,hfz15_5,hfz15_6⟩ := zc7 BK1427))
    go_meet
    case rel => exact ⟨_,(decide ((l0_6.length : Int) > 7)),(by first | rfl | (simp;done) | (simp [*];done)),H',⟨by first | omega | exact Nat.le_refl _⟩,⟨by (with_reducible repeat (first | apply k1_ | apply k2_ | apply k3_));exact BK1427.out⟩,⟨zl_ HB⟩⟩
   ·replace c12 := Bool.eq_false_iff.mpr c12
    subst c12
    have H1 : (impl_isBatch.j0 k true false a0_1 a0_2 a0_3 a0_4 a0_5 l0_6) = some r := by rw [if_neg (show ¬ (false = true) by decide)] at H;exact H
    clear H
    have H := H1
    clear H1
    have H' := am_ H
    clear H
    obtain ⟨hcz16_0,hcz16_1,hcz16_2,hcz16_3,hcz16_4,hcz16_5,hcz16_6,hfz16_0,hfz16_1,hfz16_2,hfz16_3,hfz16_4,hfz16_5,hfz16_6⟩ := zc7 BK1427
    go_wp2_with (first | ((with_reducible refine gate_callee (f := 145) rfl ?_);refine zgl (some 19) Tryd.func145 #[.agg #[.int .i64 a0_1,.int .i64 a0_2,.int .i64 a0_3,.int .i64 a0_4,.string a0_5]] ?_;(with_reducible refine (impl_RequestOK.calls k a0_1 a0_2 a0_3 a0_4 a0_5 false _ A11.out).mono ?_);rintro e w17 ⟨rfl,hb⟩;refine ⟨_,rfl,?_⟩;replace BK1427 := zb BK1427 hb;replace HB := zs_ HB hb;(try clear hb);(try clear hb2);(try clear hk);(try clear hi)))
    go_meet
    case rel => exact ⟨_,(true),(by first | rfl | (simp;done) | (simp [*];done)),H',⟨by first | omega | exact Nat.le_refl _⟩,⟨by (with_reducible repeat (first | apply k1_ | apply k2_ | apply k3_));exact BK1427.out⟩,⟨zl_ HB⟩⟩
  case rest =>
   clear HC8
   try clear c1
   try clear c2
   try clear p2
   try clear c3
   try clear c3b0
   try clear c3b1
   try clear c3b2
   try clear c12
   try clear c14
   try clear hcz10_0
   try clear hcz10_1
   try clear hcz10_2
   try clear hcz10_3
   try clear hcz10_4
   try clear hcz10_5
   try clear hcz10_6
   try clear hcz13_0
   try clear hcz13_1
   try clear hcz13_2
   try clear hcz13_3
   try clear hcz13_4
   try clear hcz13_5
   try clear hcz13_6
   try clear hcz15_0
   try clear hcz15_1
   try clear hcz15_2
   try clear hcz15_3
   try clear hcz15_4
   try clear hcz15_5
   try clear hcz15_6
   try clear hcz16_0
   try clear hcz16_1
   try clear hcz16_2
   try clear hcz16_3
   try clear hcz16_4
   try clear hcz16_5
   try clear hcz16_6
   try clear hcz5_0
   try clear hcz5_1
   try clear hcz5_2
   try clear hcz5_3
   try clear hcz5_4
   try clear hcz5_5
   try clear hcz5_6
   try clear hcz7_0
   try clear hcz7_1
   try clear hcz7_2
   try clear hcz7_3
   try clear hcz7_4
   try clear hcz7_5
   try clear hcz7_6
   try clear hfz10_0
   try clear hfz10_1
   try clear hfz10_2
   try clear hfz10_3
   try clear hfz10_4
   try clear hfz10_5
   try clear hfz10_6
   try clear hfz13_0
   try clear hfz13_1
   try clear hfz13_2
   try clear hfz13_3
   try clear hfz13_4
   try clear hfz13_5
   try clear hfz13_6
   try clear hfz15_0
   try clear hfz15_1
   try clear hfz15_2
   try clear hfz15_3
   try clear hfz15_4
   try clear hfz15_5
   try clear hfz15_6
   try clear hfz16_0
   try clear hfz16_1
   try clear hfz16_2
   try clear hfz16_3
   try clear hfz16_4
   try clear hfz16_5
   try clear hfz16_6
   try clear hfz5_0
   try clear hfz5_1
   try clear hfz5_2
   try clear hfz5_3
   try clear hfz5_4
   try clear hfz5_5
   try clear hfz5_6
   try clear hfz7_0
   try clear hfz7_1
   try clear hfz7_2
   try clear hfz7_3
   try clear hfz7_4
   try clear hfz7_5
   try clear hfz7_6
   obtain ⟨kq,x26_7,rfl,HA,HJ7,BK1427,HB⟩ := hcut
   cases kq with
   | zero => exact absurd HA.out (by simp [impl_isBatch.j0])
   | succ kj7 =>
    have H := HA.out
    clear HA
    simp only [impl_isBatch.j0] at H
    by_cases c18 : x26_7 = true
    ·subst c18
     have H1 : (some false) = some r := by rw [if_pos rfl] at H;exact H
     clear H
     have H := H1
     clear H1
     obtain rfl := Option.some.inj H
     go_wp2
     go_ret
     exact ⟨zt_,zl_ HB⟩
    ·replace c18 := Bool.eq_false_iff.mpr c18
     subst c18
     have H1 : (impl_isBatch.l0 kj7 l0_6 (l0_6.length : Int) 0 false a0_1 a0_2 a0_3 a0_4 a0_5 l0_6) = some r := by rw [if_neg (show ¬ (false = true) by decide)] at H;exact H
     clear H
     have H := H1
     clear H1
     have H' := am_ H
     clear H
     obtain ⟨hcz19_0,hcz19_1,hcz19_2,hcz19_3,hcz19_4,hcz19_5,hcz19_6,hfz19_0,hfz19_1,hfz19_2,hfz19_3,hfz19_4,hfz19_5,hfz19_6⟩ := zc7 BK1427
     go_wp2
     go_loopg [30] kj7 (fun kq v30 w' => ∃ (x30_2 : Int),v30 = .int .i64 x30_2 ∧ Aside0 (impl_isBatch.l0 kq l0_6 (l0_6.length : Int) x30_2 false a0_1 a0_2 a0_3 a0_4 a0_5 l0_6 = some r) ∧ Aside0 (kq ≤ kj7) ∧ Aside0 (w'.heap[gb1427]? = some (.cells #[.bool false,.int .i64 a0_1,.int .i64 a0_2,.int .i64 a0_3,.int .i64 a0_4,.string a0_5,(.slice A0_6 l0_6.length c0_6)] 165 (0,0))) ∧ Aside0 (Below w.heap.size w w'))
     case atStart => exact ⟨(0),(by first | rfl | (simp;done) | (simp [*];done)),H',⟨Nat.le_refl _⟩,⟨by (with_reducible repeat (first | apply k1_ | apply k2_ | apply k3_));exact BK1427.out⟩,⟨zl_ HB⟩⟩
     case round =>
      clear H'
      try clear c1
      try clear c2
      try clear p2
      try clear c3
      try clear c3b0
      try clear c3b1
      try clear c3b2
      try clear c12
      try clear c14
      try clear c18
      try clear hcz10_0
      try clear hcz10_1
      try clear hcz10_2
      try clear hcz10_3
      try clear hcz10_4
      try clear hcz10_5
      try clear hcz10_6
      try clear hcz13_0
      try clear hcz13_1
      try clear hcz13_2
      try clear hcz13_3
      try clear hcz13_4
      try clear hcz13_5
      try clear hcz13_6
      try clear hcz15_0
      try clear hcz15_1
      try clear hcz15_2
      try clear hcz15_3
      try clear hcz15_4
      try clear hcz15_5
      try clear hcz15_6
      try clear hcz16_0
      try clear hcz16_1
      try clear hcz16_2
      try clear hcz16_3
      try clear hcz16_4
      try clear hcz16_5
      try clear hcz16_6
      try clear hcz19_0
      try clear hcz19_1
      try clear hcz19_2
      try clear hcz19_3
      try clear hcz19_4
      try clear hcz19_5
      try clear hcz19_6
      try clear hcz5_0
      try clear hcz5_1
      try clear hcz5_2
      try clear hcz5_3
      try clear hcz5_4
      try clear hcz5_5
      try clear hcz5_6
      try clear hcz7_0
      try clear hcz7_1
      try clear hcz7_2
      try clear hcz7_3
      try clear hcz7_4
      try clear hcz7_5
      try clear hcz7_6
      try clear hfz10_0
      try clear hfz10_1
      try clear hfz10_2
      try clear hfz10_3
      try clear hfz10_4
      try clear hfz10_5
      try clear hfz10_6
      try clear hfz13_0
      try clear hfz13_1
      try clear hfz13_2
      try clear hfz13_3
      try clear hfz13_4
      try clear hfz13_5
      try clear hfz13_6
      try clear hfz15_0
      try clear hfz15_1
      try clear hfz15_2
      try clear hfz15_3
      try clear hfz15_4
      try clear hfz15_5
      try clear hfz15_6
      try clear hfz16_0
      try clear hfz16_1
      try clear hfz16_2
      try clear hfz16_3
      try clear hfz16_4
      try clear hfz16_5
      try clear hfz16_6
      try clear hfz19_0
      try clear hfz19_1
      try clear hfz19_2
      try clear hfz19_3
      try clear hfz19_4
      try clear hfz19_5
      try clear hfz19_6
      try clear hfz5_0
      try clear hfz5_1
      try clear hfz5_2
      try clear hfz5_3
      try clear hfz5_4
      try clear hfz5_5
      try clear hfz5_6
      try clear hfz7_0
      try clear hfz7_1
      try clear hfz7_2
      try clear hfz7_3
      try clear hfz7_4
      try clear hfz7_5
      try clear hfz7_6
      try clear p2
      obtain ⟨x30_2,rfl,HA,HK2,BK1427,HB⟩ := hrel
      cases gk with
      | zero => exact absurd HA.out (by simp [impl_isBatch.l0])
      | succ k2 =>
       have H := HA.out
       clear HA
       simp only [impl_isBatch.l0] at H
       by_cases c20 : x30_2 < (l0_6.length : Int)
       ·rw [if_pos c20] at H
        have c20b0 : decide (x30_2 < (l0_6.length : Int)) = true := decide_eq_true c20
        clear c20
        by_cases c21 : 0 ≤ x30_2
        ·rw [if_pos c21] at H
         have c21b0 : decide (0 ≤ x30_2) = true := decide_eq_true c21
         clear c21
         by_cases c22 : x30_2 < (l0_6.length : Int)
         ·rw [if_pos c22] at H
          have c22b0 : decide (x30_2 < (l0_6.length : Int)) = true := decide_eq_true c22
          clear c22
          replace H := Option.bind_eq_some_iff.mp H
          obtain ⟨t1431,A230,H⟩ := H
          try dsimp only at H
          have A23 := am_ A230
          clear A230
          by_cases c24 : t1431 = true
          ·subst c24
           have H1 : (if x30_2 > 0 then (if 0 ≤ (wrap64 (x30_2 - 1)) then (if (wrap64 (x30_2 - 1)) < (l0_6.length : Int) then (if ((rd_T185 l0_6 (wrap64 (x30_2 - 1))).f0) ≥ ((rd_T185 l0_6 x30_2).f0) then (some false) else (impl_isBatch.l0 k2 l0_6 (l0_6.length : Int) (wrap64 (x30_2 + 1)) false a0_1 a0_2 a0_3 a0_4 a0_5 l0_6)) else (none)) else (none)) else (impl_isBatch.l0 k2 l0_6 (l0_6.length : Int) (wrap64 (x30_2 + 1)) false a0_1 a0_2 a0_3 a0_4 a0_5 l0_6)) = some r := by rw [if_pos rfl] at H;exact H
           clear H
           have H := H1
           clear H1
           by_cases c25 : x30_2 > 0
           ·rw [if_pos c25] at H
            have c25b0 : decide (0 < x30_2) = true := decide_eq_true c25
            clear c25
            obtain ⟨ji26,hji26⟩ : ∃ j_ : Int,(wrap64 (x30_2 - 1)) = j_ := ⟨_,rfl⟩
            replace H : (if 0 ≤ (ji26) then (if (ji26) < (l0_6.length : Int) then (if ((rd_T185 l0_6 (ji26)).f0) ≥ ((rd_T185 l0_6 x30_2).f0) then (some false) else (impl_isBatch.l0 k2 l0_6 (l0_6.length : Int) (wrap64 (x30_2 + 1)) false a0_1 a0_2 a0_3 a0_4 a0_5 l0_6)) else (none)) else (none)) = some r := by first | (rw [hji26] at H;exact H) | (simp only [hji26] at H ⊢;exact H)
            (try rw [hji26] at A23)
            have hji26w : (IntKind.i64.wrap (x30_2 - 1)) = ji26 := (i64_w _).trans hji26
            by_cases c27 : 0 ≤ (ji26)
            ·rw [if_pos c27] at H
             have c27b0 : decide (0 ≤ (ji26)) = true := decide_eq_true c27
             clear c27
             by_cases c28 : (ji26) < (l0_6.length : Int)
             ·rw [if_pos c28] at H
              have c28b0 : decide ((ji26) < (l0_6.length : Int)) = true := decide_eq_true c28
              clear c28
              by_cases c29 : ((rd_T185 l0_6 (ji26)).f0) ≥ ((rd_T185 l0_6 x30_2).f0)
              ·rw [if_pos c29] at H
               have c29b0 : decide (((rd_T185 l0_6 x30_2).f0) ≤ ((rd_T185 l0_6 (ji26)).f0)) = true := decide_eq_true c29
               clear c29
               obtain rfl := Option.some.inj H
               have p1429 : 0 ≤ (x30_2 : Int) := zo_
               have q1429 : x30_2 < (l0_6.length : Int) := zo_
               obtain ⟨ad1429,e1429,hx1429_0,hx1429_1,hx1429_2⟩ := at_T185 HR0_6.out x30_2 p1429 q1429
               cases e1429
               replace hx1429_0 := zx_ HB hx1429_0
               replace hx1429_1 := zx_ HB hx1429_1
               replace hx1429_2 := zx_ HB hx1429_2
               replace p1429 := eq_true p1429
               replace q1429 := eq_true q1429
               try go_wp2_with (first | ((with_reducible refine gate_dst (N := 4) rfl ?_);(try (refine gate_guard (by rfl) ?_;dsimp only));refine zbx (N := 4) (cs := #[.int .i64 0,.int .i64 0,.string ⟨#[]⟩]) (t := 185) ?_;intro gb1430 hg w30 hbox hb;have BK1430 := am_ (hbox);have GW1430 := zw_ HB hg;have GE1430 := zw_ HB hg;replace HB := zs_ HB hb;have NB1427_1430 := zl hg BK1427;have NB1430_1427 := zg hg BK1427;replace BK1427 := zb BK1427 hb;clear hb hbox hg;have hnb31 := NB1430_1427.out;have hnc31 := NB1427_1430.out;obtain ⟨hcz32_0,hcz32_1,hcz32_2,hfz32_0,hfz32_1,hfz32_2⟩ := zc3 BK1430))
               have n0_ : Aside0 ((((w30.setCell ⟨gb1430,0,none⟩ (.int .i64 ((rd_T185 l0_6 x30_2).f0))).setCell ⟨gb1430,1,none⟩ (.int .i64 ((rd_T185 l0_6 x30_2).f1))).setCell ⟨gb1430,2,none⟩ (.string ((rd_T185 l0_6 x30_2).f2))).heap[gb1427]? = some (.cells #[.bool false,.int .i64 a0_1,.int .i64 a0_2,.int .i64 a0_3,.int .i64 a0_4,.string a0_5,.slice (some ad1429) l0_6.length c0_6] 165 (0,0))) := ⟨zq BK1427⟩
               have n1_ : Aside0 ((((w30.setCell ⟨gb1430,0,none⟩ (.int .i64 ((rd_T185 l0_6 x30_2).f0))).setCell ⟨gb1430,1,none⟩ (.int .i64 ((rd_T185 l0_6 x30_2).f1))).setCell ⟨gb1430,2,none⟩ (.string ((rd_T185 l0_6 x30_2).f2))).heap[gb1430]? = some (.cells #[.int .i64 ((rd_T185 l0_6 x30_2).f0),.int .i64 ((rd_T185 l0_6 x30_2).f1),.string ((rd_T185 l0_6 x30_2).f2)] 185 (0,0))) := ⟨zq BK1430⟩
               have n2_ : Aside0 (Below w.heap.size w (((w30.setCell ⟨gb1430,0,none⟩ (.int .i64 ((rd_T185 l0_6 x30_2).f0))).setCell ⟨gb1430,1,none⟩ (.int .i64 ((rd_T185 l0_6 x30_2).f1))).setCell ⟨gb1430,2,none⟩ (.string ((rd_T185 l0_6 x30_2).f2)))) := ⟨zl_ HB⟩
               (try clear BK1427)
               (try clear BK1430)
               (try clear HB)
               generalize (((w30.setCell ⟨gb1430,0,none⟩ (.int .i64 ((rd_T185 l0_6 x30_2).f0))).setCell ⟨gb1430,1,none⟩ (.int .i64 ((rd_T185 l0_6 x30_2).f1))).setCell ⟨gb1430,2,none⟩ (.string ((rd_T185 l0_6 x30_2).f2))) = w33 at n0_ n1_ n2_ ⊢
               have BK1427 := n0_
               have BK1430 := n1_
               have HB := n2_
               clear n0_ n1_ n2_
               replace BK1427 := am_ (blk_drew BK1427.out)
               replace BK1430 := am_ (blk_drew BK1430.out)
               replace HB := am_ (below_drew1 HB.out)
               have p1432 : 0 ≤ ((ji26) : Int) := zo_
               have q1432 : (ji26) < (l0_6.length : Int) := zo_
               obtain ⟨ad1432,e1432,hx1432_0,hx1432_1,hx1432_2⟩ := at_T185 HR0_6.out (ji26) p1432 q1432
               have hw1432_2 := hx1432_2
               have hw1432_1 := hx1432_1
               have hw1432_0 := hx1432_0
               obtain rfl : ad1429 = ad1432 := (by injection e1432)
               replace hx1432_0 := zx_ HB hx1432_0
               replace hx1432_1 := zx_ HB hx1432_1
               replace hx1432_2 := zx_ HB hx1432_2
               replace p1432 := eq_true p1432
               replace q1432 := eq_true q1432
               refine start_ (n := 19) (S := fun w' => w'.cell? ⟨gb1430,0,none⟩ = some (.int .i64 ((rd_T185 l0_6 x30_2).f0)) ∧ w'.cell? ⟨gb1430,1,none⟩ = some (.int .i64 ((rd_T185 l0_6 x30_2).f1)) ∧ w'.cell? ⟨gb1430,2,none⟩ = some (.string ((rd_T185 l0_6 x30_2).f2)) ∧ w'.cell? ⟨gb1427,0,none⟩ = some (.bool false) ∧ w'.cell? ⟨gb1427,1,none⟩ = some (.int .i64 a0_1) ∧ w'.cell? ⟨gb1427,2,none⟩ = some (.int .i64 a0_2) ∧ w'.cell? ⟨gb1427,3,none⟩ = some (.int .i64 a0_3) ∧ w'.cell? ⟨gb1427,4,none⟩ = some (.int .i64 a0_4) ∧ w'.cell? ⟨gb1427,5,none⟩ = some (.string a0_5) ∧ w'.cell? ⟨gb1427,6,none⟩ = some (.slice (some ad1429) l0_6.length c0_6) ∧ w'.cell? (ad1429.add (((ji26)).toNat * 3)) = some (.int .i64 ((rd_T185 l0_6 (ji26)).f0)) ∧ w'.cell? ⟨(ad1429.add (((ji26)).toNat * 3)).block,(ad1429.add (((ji26)).toNat * 3)).off + 1,none⟩ = some (.int .i64 ((rd_T185 l0_6 (ji26)).f1)) ∧ w'.cell? ⟨(ad1429.add (((ji26)).toNat * 3)).block,(ad1429.add (((ji26)).toNat * 3)).off + 2,none⟩ = some (.string ((rd_T185 l0_6 (ji26)).f2))) (ds := []) #[false,false,false,false,false,false,false,false,false,false,false,false,false,false,false,false,false,false,false] (by kernel_rfl) rfl rfl ⟨(blk_cell BK1430.out 0).trans rfl,(blk_cell BK1430.out 1).trans rfl,(blk_cell BK1430.out 2).trans rfl,(blk_cell BK1427.out 0).trans rfl,(blk_cell BK1427.out 1).trans rfl,(blk_cell BK1427.out 2).trans rfl,(blk_cell BK1427.out 3).trans rfl,(blk_cell BK1427.out 4).trans rfl,(blk_cell BK1427.out 5).trans rfl,(blk_cell BK1427.out 6).trans rfl,(zx_ HB hw1432_0),(zx_ HB hw1432_1),(zx_ HB hw1432_2)⟩ (fun hHeld => ?_);refine with_tabW impl_isBatch.tab8 impl_isBatch.bits8 (fun HT_ HW_ => ?_)
               generalize w33.drew = w34 at BK1427 BK1430 HB hx1432_0 hx1432_1 hx1432_2 hHeld ⊢
               refine ztk 0 (N := some 35) HT_ HW_ hHeld ?_
               refine zon 1 (N := some 36) HT_ (fun K hK => ?_)
               refine zgo Tryd.func191 #[.agg #[.int .i64 ((rd_T185 l0_6 x30_2).f0),.int .i64 ((rd_T185 l0_6 x30_2).f1),.string ((rd_T185 l0_6 x30_2).f2)]] ?_
               with_reducible refine (impl_isReading.calls ((rd_T185 l0_6 x30_2).f0) ((rd_T185 l0_6 x30_2).f1) ((rd_T185 l0_6 x30_2).f2) true _ A23.out).mono ?_
               rintro e w35 ⟨rfl,hb⟩
               refine ⟨_,rfl,?_⟩
               replace BK1427 := zb BK1427 hb
               replace BK1430 := zb BK1430 hb
               replace HB := zs_ HB hb
               (try clear hb)
               (try clear hb2)
               (try clear hk)
               (try clear hi)
               refine hK.out _ _ ⟨(blk_cell BK1430.out 0).trans rfl,(blk_cell BK1430.out 1).trans rfl,(blk_cell BK1430.out 2).trans rfl,(blk_cell BK1427.out 0).trans rfl,(blk_cell BK1427.out 1).trans rfl,(blk_cell BK1427.out 2).trans rfl,(blk_cell BK1427.out 3).trans rfl,(blk_cell BK1427.out 4).trans rfl,(blk_cell BK1427.out 5).trans rfl,(blk_cell BK1427.out 6).trans rfl,(zx_ HB hw1432_0),(zx_ HB hw1432_1),(zx_ HB hw1432_2)⟩ (fun hHeld => ?_)
               clear hK K
               refine norm_ (a' := ?_) ?_ ?_
               rotate_left
               ·show Act.put _ (some 36) _ = _
                simp only [Act.put,p1_,p2_,p3_,i64_w,i32_w]
                rfl
               refine zpu 2 (N := some 37) HT_ ?_
               refine zpu 3 (N := some 38) HT_ ?_
               refine zpu 4 (N := some 39) HT_ ?_
               refine zpu 5 (N := some 40) HT_ ?_
               refine zpu 6 (N := some 41) HT_ ?_
               refine zpu 7 (N := some 42) HT_ ?_
               refine zpu 9 (N := some 44) HT_ ?_
               refine zpu 10 (N := some 45) HT_ ?_
               refine zpu 14 (N := some 49) HT_ ?_
               refine ztk 8 (N := some 43) HT_ HW_ hHeld ?_
               refine zpu 11 (N := some 46) HT_ ?_
               refine zpu 12 (N := some 47) HT_ ?_
               refine ztk 13 (N := some 48) HT_ HW_ hHeld ?_
               refine ztk 15 (N := some 50) HT_ HW_ hHeld ?_
               refine zpu 16 (N := some 51) HT_ ?_
               refine zpu 17 (N := some 52) HT_ ?_
               refine zpu 18 (N := some 53) HT_ ?_
               refine done_ (done_of HT_.out (by kernel_rfl)) ?_
               try go_wp2
               go_ret
               exact ⟨by first | rfl | (simp [e1_,e2_] <;> rfl) | (simp only [← hji26];first | rfl | (simp [e1_,e2_] <;> rfl)) | (simp [*,e1_,e2_] <;> rfl) | (simp [e3_,e4_];done) | (simp [*,e3_,e4_];done),zl_ HB⟩
              ·rw [if_neg c29] at H
               have c29b0 : decide (((rd_T185 l0_6 x30_2).f0) ≤ ((rd_T185 l0_6 (ji26)).f0)) = false := decide_eq_false c29
               clear c29
               have H' := am_ H
               clear H
               have p1429 : 0 ≤ (x30_2 : Int) := zo_
               have q1429 : x30_2 < (l0_6.length : Int) := zo_
               obtain ⟨ad1429,e1429,hx1429_0,hx1429_1,hx1429_2⟩ := at_T185 HR0_6.out x30_2 p1429 q1429
               cases e1429
               replace hx1429_0 := zx_ HB hx1429_0
               replace hx1429_1 := zx_ HB hx1429_1
               replace hx1429_2 := zx_ HB hx1429_2
               replace p1429 := eq_true p1429
               replace q1429 := eq_true q1429
               try go_wp2_with (first | ((with_reducible refine gate_dst (N := 4) rfl ?_);(try (refine gate_guard (by rfl) ?_;dsimp only));refine zbx (N := 4) (cs := #[.int .i64 0,.int .i64 0,.string ⟨#[]⟩]) (t := 185) ?_;intro gb1430 hg w36 hbox hb;have BK1430 := am_ (hbox);have GW1430 := zw_ HB hg;have GE1430 := zw_ HB hg;replace HB := zs_ HB hb;have NB1427_1430 := zl hg BK1427;have NB1430_1427 := zg hg BK1427;replace BK1427 := zb BK1427 hb;clear hb hbox hg;have hnb37 := NB1430_1427.out;have hnc37 := NB1427_1430.out;obtain ⟨hcz38_0,hcz38_1,hcz38_2,hfz38_0,hfz38_1,hfz38_2⟩ := zc3 BK1430))
               have n0_ : Aside0 ((((w36.setCell ⟨gb1430,0,none⟩ (.int .i64 ((rd_T185 l0_6 x30_2).f0))).setCell ⟨gb1430,1,none⟩ (.int .i64 ((rd_T185 l0_6 x30_2).f1))).setCell ⟨gb1430,2,none⟩ (.string ((rd_T185 l0_6 x30_2).f2))).heap[gb1427]? = some (.cells #[.bool false,.int .i64 a0_1,.int .i64 a0_2,.int .i64 a0_3,.int .i64 a0_4,.string a0_5,.slice (some ad1429) l0_6.length c0_6] 165 (0,0))) := ⟨zq BK1427⟩
               have n1_ : Aside0 ((((w36.setCell ⟨gb1430,0,none⟩ (.int .i64 ((rd_T185 l0_6 x30_2).f0))).setCell ⟨gb1430,1,none⟩ (.int .i64 ((rd_T185 l0_6 x30_2).f1))).setCell ⟨gb1430,2,none⟩ (.string ((rd_T185 l0_6 x30_2).f2))).heap[gb1430]? = some (.cells #[.int .i64 ((rd_T185 l0_6 x30_2).f0),.int .i64 ((rd_T185 l0_6 x30_2).f1),.string ((rd_T185 l0_6 x30_2).f2)] 185 (0,0))) := ⟨zq BK1430⟩
               have n2_ : Aside0 (Below w.heap.size w (((w36.setCell ⟨gb1430,0,none⟩ (.int .i64 ((rd_T185 l0_6 x30_2).f0))).setCell ⟨gb1430,1,none⟩ (.int .i64 ((rd_T185 l0_6 x30_2).f1))).setCell ⟨gb1430,2,none⟩ (.string ((rd_T185 l0_6 x30_2).f2)))) := ⟨zl_ HB⟩
               (try clear BK1427)
               (try clear BK1430)
               (try clear HB)
               generalize (((w36.setCell ⟨gb1430,0,none⟩ (.int .i64 ((rd_T185 l0_6 x30_2).f0))).setCell ⟨gb1430,1,none⟩ (.int .i64 ((rd_T185 l0_6 x30_2).f1))).setCell ⟨gb1430,2,none⟩ (.string ((rd_T185 l0_6 x30_2).f2))) = w39 at n0_ n1_ n2_ ⊢
               have BK1427 := n0_
               have BK1430 := n1_
               have HB := n2_
               clear n0_ n1_ n2_
               replace BK1427 := am_ (blk_drew BK1427.out)
               replace BK1430 := am_ (blk_drew BK1430.out)
               replace HB := am_ (below_drew1 HB.out)
               have p1432 : 0 ≤ ((ji26) : Int) := zo_
               have q1432 : (ji26) < (l0_6.length : Int) := zo_
               obtain ⟨ad1432,e1432,hx1432_0,hx1432_1,hx1432_2⟩ := at_T185 HR0_6.out (ji26) p1432 q1432
               have hw1432_2 := hx1432_2
               have hw1432_1 := hx1432_1
               have hw1432_0 := hx1432_0
               obtain rfl : ad1429 = ad1432 := (by injection e1432)
               replace hx1432_0 := zx_ HB hx1432_0
               replace hx1432_1 := zx_ HB hx1432_1
               replace hx1432_2 := zx_ HB hx1432_2
               replace p1432 := eq_true p1432
               replace q1432 := eq_true q1432
               refine start_ (n := 19) (S := fun w' => w'.cell? ⟨gb1430,0,none⟩ = some (.int .i64 ((rd_T185 l0_6 x30_2).f0)) ∧ w'.cell? ⟨gb1430,1,none⟩ = some (.int .i64 ((rd_T185 l0_6 x30_2).f1)) ∧ w'.cell? ⟨gb1430,2,none⟩ = some (.string ((rd_T185 l0_6 x30_2).f2)) ∧ w'.cell? ⟨gb1427,0,none⟩ = some (.bool false) ∧ w'.cell? ⟨gb1427,1,none⟩ = some (.int .i64 a0_1) ∧ w'.cell? ⟨gb1427,2,none⟩ = some (.int .i64 a0_2) ∧ w'.cell? ⟨gb1427,3,none⟩ = some (.int .i64 a0_3) ∧ w'.cell? ⟨gb1427,4,none⟩ = some (.int .i64 a0_4) ∧ w'.cell? ⟨gb1427,5,none⟩ = some (.string a0_5) ∧ w'.cell? ⟨gb1427,6,none⟩ = some (.slice (some ad1429) l0_6.length c0_6) ∧ w'.cell? (ad1429.add (((ji26)).toNat * 3)) = some (.int .i64 ((rd_T185 l0_6 (ji26)).f0)) ∧ w'.cell? ⟨(ad1429.add (((ji26)).toNat * 3)).block,(ad1429.add (((ji26)).toNat * 3)).off + 1,none⟩ = some (.int .i64 ((rd_T185 l0_6 (ji26)).f1)) ∧ w'.cell? ⟨(ad1429.add (((ji26)).toNat * 3)).block,(ad1429.add (((ji26)).toNat * 3)).off + 2,none⟩ = some (.string ((rd_T185 l0_6 (ji26)).f2))) (ds := []) #[false,false,false,false,false,false,false,false,false,false,false,false,false,false,false,false,false,false,false] (by kernel_rfl) rfl rfl ⟨(blk_cell BK1430.out 0).trans rfl,(blk_cell BK1430.out 1).trans rfl,(blk_cell BK1430.out 2).trans rfl,(blk_cell BK1427.out 0).trans rfl,(blk_cell BK1427.out 1).trans rfl,(blk_cell BK1427.out 2).trans rfl,(blk_cell BK1427.out 3).trans rfl,(blk_cell BK1427.out 4).trans rfl,(blk_cell BK1427.out 5).trans rfl,(blk_cell BK1427.out 6).trans rfl,(zx_ HB hw1432_0),(zx_ HB hw1432_1),(zx_ HB hw1432_2)⟩ (fun hHeld => ?_);refine with_tabW impl_isBatch.tab8 impl_isBatch.bits8 (fun HT_ HW_ => ?_)
               generalize w39.drew = w40 at BK1427 BK1430 HB hx1432_0 hx1432_1 hx1432_2 hHeld ⊢
               refine ztk 0 (N := some 35) HT_ HW_ hHeld ?_
               refine zon 1 (N := some 36) HT_ (fun K hK => ?_)
               refine zgo Tryd.func191 #[.agg #[.int .i64 ((rd_T185 l0_6 x30_2).f0),.int .i64 ((rd_T185 l0_6 x30_2).f1),.string ((rd_T185 l0_6 x30_2).f2)]] ?_
               with_reducible refine (impl_isReading.calls ((rd_T185 l0_6 x30_2).f0) ((rd_T185 l0_6 x30_2).f1) ((rd_T185 l0_6 x30_2).f2) true _ A23.out).mono ?_
               rintro e w41 ⟨rfl,hb⟩
               refine ⟨_,rfl,?_⟩
               replace BK1427 := zb BK1427 hb
               replace BK1430 := zb BK1430 hb
               replace HB := zs_ HB hb
               (try clear hb)
               (try clear hb2)
               (try clear hk)
               (try clear hi)
               refine hK.out _ _ ⟨(blk_cell BK1430.out 0).trans rfl,(blk_cell BK1430.out 1).trans rfl,(blk_cell BK1430.out 2).trans rfl,(blk_cell BK1427.out 0).trans rfl,(blk_cell BK1427.out 1).trans rfl,(blk_cell BK1427.out 2).trans rfl,(blk_cell BK1427.out 3).trans rfl,(blk_cell BK1427.out 4).trans rfl,(blk_cell BK1427.out 5).trans rfl,(blk_cell BK1427.out 6).trans rfl,(zx_ HB hw1432_0),(zx_ HB hw1432_1),(zx_ HB hw1432_2)⟩ (fun hHeld => ?_)
               clear hK K
               refine norm_ (a' := ?_) ?_ ?_
               rotate_left
               ·show Act.put _ (some 36) _ = _
                simp only [Act.put,p1_,p2_,p3_,i64_w,i32_w]
                rfl
               refine zpu 2 (N := some 37) HT_ ?_
               refine zpu 3 (N := some 38) HT_ ?_
               refine zpu 4 (N := some 39) HT_ ?_
               refine zpu 5 (N := some 40) HT_ ?_
               refine zpu 6 (N := some 41) HT_ ?_
               refine zpu 7 (N := some 42) HT_ ?_
               refine zpu 9 (N := some 44) HT_ ?_
               refine zpu 10 (N := some 45) HT_ ?_
               refine zpu 14 (N := some 49) HT_ ?_
               refine ztk 8 (N := some 43) HT_ HW_ hHeld ?_
               refine zpu 11 (N := some 46) HT_ ?_
               refine zpu 12 (N := some 47) HT_ ?_
               refine ztk 13 (N := some 48) HT_ HW_ hHeld ?_
               refine ztk 15 (N := some 50) HT_ HW_ hHeld ?_
               refine zpu 16 (N := some 51) HT_ ?_
               refine zpu 17 (N := some 52) HT_ ?_
               refine zpu 18 (N := some 53) HT_ ?_
               refine done_ (done_of HT_.out (by kernel_rfl)) ?_
               try go_wp2
               go_roundg k2
               case measure => have := HJ7.out;have := HK2.out;omega
               case rel => exact ⟨(wrap64 (x30_2 + 1)),(by first | rfl | (simp;done) | (simp [*];done)),H',⟨by have := HJ7.out;have := HK2.out;omega⟩,⟨by (with_reducible repeat (first | apply k1_ | apply k2_ | apply k3_));exact BK1427.out⟩,⟨zl_ HB⟩⟩
             ·rw [if_neg c28] at H
              exact absurd H (by simp)
            ·rw [if_neg c27] at H
             exact absurd H (by simp)
           ·rw [if_neg c25] at H
            have c25b0 : decide (0 < x30_2) = false := decide_eq_false c25
            clear c25
            have H' := am_ H
            clear H
            have p1429 : 0 ≤ (x30_2 : Int) := zo_
            have q1429 : x30_2 < (l0_6.length : Int) := zo_
            obtain ⟨ad1429,e1429,hx1429_0,hx1429_1,hx1429_2⟩ := at_T185 HR0_6.out x30_2 p1429 q1429
            cases e1429
            replace hx1429_0 := zx_ HB hx1429_0
            replace hx1429_1 := zx_ HB hx1429_1
            replace hx1429_2 := zx_ HB hx1429_2
            replace p1429 := eq_true p1429
            replace q1429 := eq_true q1429
            try go_wp2_with (first | ((with_reducible refine gate_dst (N := 4) rfl ?_);(try (refine gate_guard (by rfl) ?_;dsimp only));refine zbx (N := 4) (cs := #[.int .i64 0,.int .i64 0,.string ⟨#[]⟩]) (t := 185) ?_;intro gb1430 hg w42 hbox hb;have BK1430 := am_ (hbox);have GW1430 := zw_ HB hg;have GE1430 := zw_ HB hg;replace HB := zs_ HB hb;have NB1427_1430 := zl hg BK1427;have NB1430_1427 := zg hg BK1427;replace BK1427 := zb BK1427 hb;clear hb hbox hg;have hnb43 := NB1430_1427.out;have hnc43 := NB1427_1430.out;obtain ⟨hcz44_0,hcz44_1,hcz44_2,hfz44_0,hfz44_1,hfz44_2⟩ := zc3 BK1430))
            have n0_ : Aside0 ((((w42.setCell ⟨gb1430,0,none⟩ (.int .i64 ((rd_T185 l0_6 x30_2).f0))).setCell ⟨gb1430,1,none⟩ (.int .i64 ((rd_T185 l0_6 x30_2).f1))).setCell ⟨gb1430,2,none⟩ (.string ((rd_T185 l0_6 x30_2).f2))).heap[gb1427]? = some (.cells #[.bool false,.int .i64 a0_1,.int .i64 a0_2,.int .i64 a0_3,.int .i64 a0_4,.string a0_5,.slice (some ad1429) l0_6.length c0_6] 165 (0,0))) := ⟨zq BK1427⟩
            have n1_ : Aside0 ((((w42.setCell ⟨gb1430,0,none⟩ (.int .i64 ((rd_T185 l0_6 x30_2).f0))).setCell ⟨gb1430,1,none⟩ (.int .i64 ((rd_T185 l0_6 x30_2).f1))).setCell ⟨gb1430,2,none⟩ (.string ((rd_T185 l0_6 x30_2).f2))).heap[gb1430]? = some (.cells #[.int .i64 ((rd_T185 l0_6 x30_2).f0),.int .i64 ((rd_T185 l0_6 x30_2).f1),.string ((rd_T185 l0_6 x30_2).f2)] 185 (0,0))) := ⟨zq BK1430⟩
            have n2_ : Aside0 (Below w.heap.size w (((w42.setCell ⟨gb1430,0,none⟩ (.int .i64 ((rd_T185 l0_6 x30_2).f0))).setCell ⟨gb1430,1,none⟩ (.int .i64 ((rd_T185 l0_6 x30_2).f1))).setCell ⟨gb1430,2,none⟩ (.string ((rd_T185 l0_6 x30_2).f2)))) := ⟨zl_ HB⟩
            (try clear BK1427)
            (try clear BK1430)
            (try clear HB)
            generalize (((w42.setCell ⟨gb1430,0,none⟩ (.int .i64 ((rd_T185 l0_6 x30_2).f0))).setCell ⟨gb1430,1,none⟩ (.int .i64 ((rd_T185 l0_6 x30_2).f1))).setCell ⟨gb1430,2,none⟩ (.string ((rd_T185 l0_6 x30_2).f2))) = w45 at n0_ n1_ n2_ ⊢
            have BK1427 := n0_
            have BK1430 := n1_
            have HB := n2_
            clear n0_ n1_ n2_
            replace BK1427 := am_ (blk_drew BK1427.out)
            replace BK1430 := am_ (blk_drew BK1430.out)
            replace HB := am_ (below_drew1 HB.out)
            refine start_ (n := 19) (S := fun w' => w'.cell? ⟨gb1430,0,none⟩ = some (.int .i64 ((rd_T185 l0_6 x30_2).f0)) ∧ w'.cell? ⟨gb1430,1,none⟩ = some (.int .i64 ((rd_T185 l0_6 x30_2).f1)) ∧ w'.cell? ⟨gb1430,2,none⟩ = some (.string ((rd_T185 l0_6 x30_2).f2))) (ds := []) #[false,false,false,false,false,false,false,false,false,false,false,false,false,false,false,false,false,false,false] (by kernel_rfl) rfl rfl ⟨(blk_cell BK1430.out 0).trans rfl,(blk_cell BK1430.out 1).trans rfl,(blk_cell BK1430.out 2).trans rfl⟩ (fun hHeld => ?_);refine with_tabW impl_isBatch.tab8 impl_isBatch.bits8 (fun HT_ HW_ => ?_)
            generalize w45.drew = w46 at BK1427 BK1430 HB hHeld ⊢
            refine ztk 0 (N := some 35) HT_ HW_ hHeld ?_
            refine zon 1 (N := some 36) HT_ (fun K hK => ?_)
            refine zgo Tryd.func191 #[.agg #[.int .i64 ((rd_T185 l0_6 x30_2).f0),.int .i64 ((rd_T185 l0_6 x30_2).f1),.string ((rd_T185 l0_6 x30_2).f2)]] ?_
            with_reducible refine (impl_isReading.calls ((rd_T185 l0_6 x30_2).f0) ((rd_T185 l0_6 x30_2).f1) ((rd_T185 l0_6 x30_2).f2) true _ A23.out).mono ?_
            rintro e w47 ⟨rfl,hb⟩
            refine ⟨_,rfl,?_⟩
            replace BK1427 := zb BK1427 hb
            replace BK1430 := zb BK1430 hb
            replace HB := zs_ HB hb
            (try clear hb)
            (try clear hb2)
            (try clear hk)
            (try clear hi)
            refine hK.out _ _ ⟨(blk_cell BK1430.out 0).trans rfl,(blk_cell BK1430.out 1).trans rfl,(blk_cell BK1430.out 2).trans rfl⟩ (fun hHeld => ?_)
            clear hK K
            refine norm_ (a' := ?_) ?_ ?_
            rotate_left
            ·show Act.put _ (some 36) _ = _
             simp only [Act.put,p1_,p2_,p3_,i64_w,i32_w]
             rfl
            refine zpu 2 (N := some 37) HT_ ?_
            refine zpu 3 (N := some 38) HT_ ?_
            refine zpu 4 (N := some 39) HT_ ?_
            refine zpu 5 (N := some 40) HT_ ?_
            refine zpu 6 (N := some 41) HT_ ?_
            refine zpx 7 (N := some 42) HT_ ?_
            refine zpx 8 (N := some 43) HT_ ?_
            refine zpx 9 (N := some 44) HT_ ?_
            refine zpx 10 (N := some 45) HT_ ?_
            refine zpx 11 (N := some 46) HT_ ?_
            refine zpx 12 (N := some 47) HT_ ?_
            refine zpx 13 (N := some 48) HT_ ?_
            refine zpx 14 (N := some 49) HT_ ?_
            refine zpx 15 (N := some 50) HT_ ?_
            refine zpx 16 (N := some 51) HT_ ?_
            refine zpu 17 (N := some 52) HT_ ?_
            refine zpu 18 (N := some 53) HT_ ?_
            refine done_ (done_of HT_.out (by kernel_rfl)) ?_
            try go_wp2
            go_roundg k2
            case measure => have := HJ7.out;have := HK2.out;omega
            case rel => exact ⟨(wrap64 (x30_2 + 1)),(by first | rfl | (simp;done) | (simp [*];done)),H',⟨by have := HJ7.out;have := HK2.out;omega⟩,⟨by (with_reducible repeat (first | apply k1_ | apply k2_ | apply k3_));exact BK1427.out⟩,⟨zl_ HB⟩⟩
          ·replace c24 := Bool.eq_false_iff.mpr c24
           subst c24
           have H1 : (some false) = some r := by rw [if_neg (show ¬ (false = true) by decide)] at H;exact H
           clear H
           have H := H1
           clear H1
           obtain rfl := Option.some.inj H
           have p1429 : 0 ≤ (x30_2 : Int) := zo_
           have q1429 : x30_2 < (l0_6.length : Int) := zo_
           obtain ⟨ad1429,e1429,hx1429_0,hx1429_1,hx1429_2⟩ := at_T185 HR0_6.out x30_2 p1429 q1429
           cases e1429
           replace hx1429_0 := zx_ HB hx1429_0
           replace hx1429_1 := zx_ HB hx1429_1
           replace hx1429_2 := zx_ HB hx1429_2
           replace p1429 := eq_true p1429
           replace q1429 := eq_true q1429
           try go_wp2_with (first | ((with_reducible refine gate_dst (N := 4) rfl ?_);(try (refine gate_guard (by rfl) ?_;dsimp only));refine zbx (N := 4) (cs := #[.int .i64 0,.int .i64 0,.string ⟨#[]⟩]) (t := 185) ?_;intro gb1430 hg w48 hbox hb;have BK1430 := am_ (hbox);have GW1430 := zw_ HB hg;have GE1430 := zw_ HB hg;replace HB := zs_ HB hb;have NB1427_1430 := zl hg BK1427;have NB1430_1427 := zg hg BK1427;replace BK1427 := zb BK1427 hb;clear hb hbox hg;have hnb49 := NB1430_1427.out;have hnc49 := NB1427_1430.out;obtain ⟨hcz50_0,hcz50_1,hcz50_2,hfz50_0,hfz50_1,hfz50_2⟩ := zc3 BK1430))
           have n0_ : Aside0 ((((w48.setCell ⟨gb1430,0,none⟩ (.int .i64 ((rd_T185 l0_6 x30_2).f0))).setCell ⟨gb1430,1,none⟩ (.int .i64 ((rd_T185 l0_6 x30_2).f1))).setCell ⟨gb1430,2,none⟩ (.string ((rd_T185 l0_6 x30_2).f2))).heap[gb1427]? = some (.cells #[.bool false,.int .i64 a0_1,.int .i64 a0_2,.int .i64 a0_3,.int .i64 a0_4,.string a0_5,.slice (some ad1429) l0_6.length c0_6] 165 (0,0))) := ⟨zq BK1427⟩
           have n1_ : Aside0 ((((w48.setCell ⟨gb1430,0,none⟩ (.int .i64 ((rd_T185 l0_6 x30_2).f0))).setCell ⟨gb1430,1,none⟩ (.int .i64 ((rd_T185 l0_6 x30_2).f1))).setCell ⟨gb1430,2,none⟩ (.string ((rd_T185 l0_6 x30_2).f2))).heap[gb1430]? = some (.cells #[.int .i64 ((rd_T185 l0_6 x30_2).f0),.int .i64 ((rd_T185 l0_6 x30_2).f1),.string ((rd_T185 l0_6 x30_2).f2)] 185 (0,0))) := ⟨zq BK1430⟩
           have n2_ : Aside0 (Below w.heap.size w (((w48.setCell ⟨gb1430,0,none⟩ (.int .i64 ((rd_T185 l0_6 x30_2).f0))).setCell ⟨gb1430,1,none⟩ (.int .i64 ((rd_T185 l0_6 x30_2).f1))).setCell ⟨gb1430,2,none⟩ (.string ((rd_T185 l0_6 x30_2).f2)))) := ⟨zl_ HB⟩
           (try clear BK1427)
           (try clear BK1430)
           (try clear HB)
           generalize (((w48.setCell ⟨gb1430,0,none⟩ (.int .i64 ((rd_T185 l0_6 x30_2).f0))).setCell ⟨gb1430,1,none⟩ (.int .i64 ((rd_T185 l0_6 x30_2).f1))).setCell ⟨gb1430,2,none⟩ (.string ((rd_T185 l0_6 x30_2).f2))) = w51 at n0_ n1_ n2_ ⊢
           have BK1427 := n0_
           have BK1430 := n1_
           have HB := n2_
           clear n0_ n1_ n2_
           replace BK1427 := am_ (blk_drew BK1427.out)
           replace BK1430 := am_ (blk_drew BK1430.out)
           replace HB := am_ (below_drew1 HB.out)
           refine start_ (n := 19) (S := fun w' => w'.cell? ⟨gb1430,0,none⟩ = some (.int .i64 ((rd_T185 l0_6 x30_2).f0)) ∧ w'.cell? ⟨gb1430,1,none⟩ = some (.int .i64 ((rd_T185 l0_6 x30_2).f1)) ∧ w'.cell? ⟨gb1430,2,none⟩ = some (.string ((rd_T185 l0_6 x30_2).f2))) (ds := []) #[false,false,false,false,false,false,false,false,false,false,false,false,false,false,false,false,false,false,false] (by kernel_rfl) rfl rfl ⟨(blk_cell BK1430.out 0).trans rfl,(blk_cell BK1430.out 1).trans rfl,(blk_cell BK1430.out 2).trans rfl⟩ (fun hHeld => ?_);refine with_tabW impl_isBatch.tab8 impl_isBatch.bits8 (fun HT_ HW_ => ?_)
           generalize w51.drew = w52 at BK1427 BK1430 HB hHeld ⊢
           refine ztk 0 (N := some 35) HT_ HW_ hHeld ?_
           refine zon 1 (N := some 36) HT_ (fun K hK => ?_)
           refine zgo Tryd.func191 #[.agg #[.int .i64 ((rd_T185 l0_6 x30_2).f0),.int .i64 ((rd_T185 l0_6 x30_2).f1),.string ((rd_T185 l0_6 x30_2).f2)]] ?_
           with_reducible refine (impl_isReading.calls ((rd_T185 l0_6 x30_2).f0) ((rd_T185 l0_6 x30_2).f1) ((rd_T185 l0_6 x30_2).f2) false _ A23.out).mono ?_
           rintro e w53 ⟨rfl,hb⟩
           refine ⟨_,rfl,?_⟩
           replace BK1430 := zb BK1430 hb
           replace HB := zs_ HB hb
           (try clear hb)
           (try clear hb2)
           (try clear hk)
           (try clear hi)
           refine hK.out _ _ ⟨(blk_cell BK1430.out 0).trans rfl,(blk_cell BK1430.out 1).trans rfl,(blk_cell BK1430.out 2).trans rfl⟩ (fun hHeld => ?_)
           clear hK K
           refine norm_ (a' := ?_) ?_ ?_
           rotate_left
           ·show Act.put _ (some 36) _ = _
            simp only [Act.put,p1_,p2_,p3_,i64_w,i32_w]
            rfl
           refine zpu 2 (N := some 37) HT_ ?_
           refine zpu 3 (N := some 38) HT_ ?_
           refine zpx 4 (N := some 39) HT_ ?_
           refine zpx 5 (N := some 40) HT_ ?_
           refine zpx 6 (N := some 41) HT_ ?_
           refine zpx 7 (N := some 42) HT_ ?_
           refine zpx 8 (N := some 43) HT_ ?_
           refine zpx 9 (N := some 44) HT_ ?_
           refine zpx 10 (N := some 45) HT_ ?_
           refine zpx 11 (N := some 46) HT_ ?_
           refine zpx 12 (N := some 47) HT_ ?_
           refine zpx 13 (N := some 48) HT_ ?_
           refine zpx 14 (N := some 49) HT_ ?_
           refine zpx 15 (N := some 50) HT_ ?_
           refine zpx 16 (N := some 51) HT_ ?_
           refine zpx 17 (N := some 52) HT_ ?_
           refine zpu 18 (N := some 53) HT_ ?_
           refine done_ (done_of HT_.out (by kernel_rfl)) ?_
           try go_wp2
           go_ret
           exact ⟨zt_,zl_ HB⟩
         ·rw [if_neg c22] at H
          exact absurd H (by simp)
        ·rw [if_neg c21] at H
         exact absurd H (by simp)
       ·rw [if_neg c20] at H
        have c20b0 : decide (x30_2 < (l0_6.length : Int)) = false := decide_eq_false c20
        clear c20
        obtain rfl := Option.some.inj H
        go_wp2
        go_ret
        exact ⟨zt_,zl_ HB⟩
end Go.Proofs.YtlifdodphkimpaaDoor.C
end

section
namespace Go.Proofs.YtlifdodphkimpaaDoor.C
open Go.RowKit Go.Proofs.YtlifdodphkimpaaDoorW.PrintWords Go.Proofs.YtlifdodphkimpaaDoorW.PrintLast Go.Proofs.YtlifdodphkimpaaDoorW.PrintMore
attribute [local go_sem] max2_int min2_int max_two min_two max_three min_three max_four min_four
set_option maxHeartbeats 8000000 in
set_option maxRecDepth 100000 in
theorem impl_reader_done.calls (g : Nat) (s0_0 : ByteArray) (s0_1 : Bool) (r1 : Bool) (r2 : ByteArray) (r3 : Bool) (w0 w : World) (hI : IsS199 w0 w g s0_0 s0_1) (hB : Below w0.heap.size w0 w) (h : impl_reader_done.f s0_0 s0_1 = some (r1,r2,r3)) :
  Calls Tryd.prog 188 #[.pointer (some ⟨g,0,none⟩)] w fun e w' => e = .returned (.bool r1) ∧ IsS199 w0 w' g r2 r3 ∧ Below w0.heap.size w0 w' ∧ KeepBut w w' g none := by
 have HI0 := am_ hI
 have HK := am_ (KeepBut.refl w g none)
 have HL := am_ hB.size
 clear hI
 have HW0 := am_ hB.size
 have HB := am_ hB
 clear hB
 have H : (if s0_1 = true then (some (false,s0_0,s0_1)) else (some ((s0_0.toList == ([] : List UInt8)),s0_0,s0_1))) = some (r1,r2,r3) := h
 clear h
 by_cases c2 : s0_1 = true
 ·subst c2
  have H1 : (some (false,s0_0,true)) = some (r1,r2,r3) := by rw [if_pos rfl] at H;exact H
  clear H
  have H := H1
  clear H1
  simp only [Option.some.injEq,Prod.mk.injEq] at H
  obtain ⟨rfl,rfl,rfl⟩ := H
  obtain ⟨HGz3,hgz3⟩ := HI0.out
  have hcz3_0 := cellS199_0 HGz3
  have hcz3_1 := cellS199_1 HGz3
  have hfz3_0 := blk_frozen HGz3 0
  have hfz3_1 := blk_frozen HGz3 1
  clear HGz3 hgz3
  go_enter Tryd.func188,Tryd.ntmps188
  go_wp2
  go_ret
  exact ⟨zt_,(zi199 HI0),zl_ HB,zh_ HK⟩
 ·replace c2 := Bool.eq_false_iff.mpr c2
  subst c2
  have H1 : (some ((s0_0.toList == ([] : List UInt8)),s0_0,false)) = some (r1,r2,r3) := by rw [if_neg (show ¬ (false = true) by decide)] at H;exact H
  clear H
  have H := H1
  clear H1
  simp only [Option.some.injEq,Prod.mk.injEq] at H
  obtain ⟨rfl,rfl,rfl⟩ := H
  obtain ⟨HGz4,hgz4⟩ := HI0.out
  have hcz4_0 := cellS199_0 HGz4
  have hcz4_1 := cellS199_1 HGz4
  have hfz4_0 := blk_frozen HGz4 0
  have hfz4_1 := blk_frozen HGz4 1
  clear HGz4 hgz4
  go_enter Tryd.func188,Tryd.ntmps188
  go_wp2
  go_ret
  exact ⟨zt_,(zi199 HI0),zl_ HB,zh_ HK⟩
set_option maxHeartbeats 8000000 in
set_option maxRecDepth 100000 in
theorem impl_reader_take.calls (g : Nat) (s0_0 : ByteArray) (s0_1 : Bool) (a1 : Int) (r1 : ByteArray) (r2 : ByteArray) (r3 : Bool) (w0 w : World) (hI : IsS199 w0 w g s0_0 s0_1) (hB : Below w0.heap.size w0 w) (h : impl_reader_take.f s0_0 s0_1 a1 = some (r1,r2,r3)) :
  Calls Tryd.prog 186 #[.pointer (some ⟨g,0,none⟩),.int .i64 a1] w fun e w' => e = .returned (.string r1) ∧ IsS199 w0 w' g r2 r3 ∧ Below w0.heap.size w0 w' ∧ KeepBut w w' g none := by
 have HI0 := am_ hI
 have HK := am_ (KeepBut.refl w g none)
 have HL := am_ hB.size
 clear hI
 have HW0 := am_ hB.size
 have HB := am_ hB
 clear hB
 have H : (if s0_1 = true then (some ((⟨#[]⟩ : ByteArray),s0_0,true)) else (if a1 > (s0_0.size : Int) then (some ((⟨#[]⟩ : ByteArray),s0_0,true)) else (if 0 ≤ a1 then (if a1 ≤ (s0_0.size : Int) then (some (s0_0.extract 0 (a1 : Int).toNat,s0_0.extract (a1 : Int).toNat s0_0.size,s0_1)) else (none)) else (none)))) = some (r1,r2,r3) := h
 clear h
 by_cases c3 : s0_1 = true
 ·subst c3
  have H1 : (some ((⟨#[]⟩ : ByteArray),s0_0,true)) = some (r1,r2,r3) := by rw [if_pos rfl] at H;exact H
  clear H
  have H := H1
  clear H1
  simp only [Option.some.injEq,Prod.mk.injEq] at H
  obtain ⟨rfl,rfl,rfl⟩ := H
  obtain ⟨HGz4,hgz4⟩ := HI0.out
  have hcz4_0 := cellS199_0 HGz4
  have hcz4_1 := cellS199_1 HGz4
  have hfz4_0 := blk_frozen HGz4 0
  have hfz4_1 := blk_frozen HGz4 1
  clear HGz4 hgz4
  go_enter Tryd.func186,Tryd.ntmps186
  go_wp2
  go_ret
  exact ⟨zt_,(zi199 HI0),zl_ HB,zh_ HK⟩
 ·replace c3 := Bool.eq_false_iff.mpr c3
  subst c3
  have H1 : (if a1 > (s0_0.size : Int) then (some ((⟨#[]⟩ : ByteArray),s0_0,true)) else (if 0 ≤ a1 then (if a1 ≤ (s0_0.size : Int) then (some (s0_0.extract 0 (a1 : Int).toNat,s0_0.extract (a1 : Int).toNat s0_0.size,false)) else (none)) else (none))) = some (r1,r2,r3) := by rw [if_neg (show ¬ (false = true) by decide)] at H;exact H
  clear H
  have H := H1
  clear H1
  by_cases c5 : a1 > (s0_0.size : Int)
  ·rw [if_pos c5] at H
   have c5b0 : decide ((s0_0.size : Int) < a1) = true := decide_eq_true c5
   clear c5
   simp only [Option.some.injEq,Prod.mk.injEq] at H
   obtain ⟨rfl,rfl,rfl⟩ := H
   obtain ⟨HGz6,hgz6⟩ := HI0.out
   have hcz6_0 := cellS199_0 HGz6
   have hcz6_1 := cellS199_1 HGz6
   have hfz6_0 := blk_frozen HGz6 0
   have hfz6_1 := blk_frozen HGz6 1
   clear HGz6 hgz6
   go_enter Tryd.func186,Tryd.ntmps186
   go_wp2
   go_ret
   exact ⟨zt_,(zi199 HI0),zl_ HB,zh_ HK⟩
  ·rw [if_neg c5] at H
   have c5b0 : decide ((s0_0.size : Int) < a1) = false := decide_eq_false c5
   clear c5
   by_cases c7 : 0 ≤ a1
   ·rw [if_pos c7] at H
    have c7b0 := eq_true c7
    have c7b1 : decide (0 ≤ a1) = true := decide_eq_true c7
    clear c7
    by_cases c8 : a1 ≤ (s0_0.size : Int)
    ·rw [if_pos c8] at H
     have c8b0 := eq_true c8
     have c8b1 : decide (a1 ≤ (s0_0.size : Int)) = true := decide_eq_true c8
     clear c8
     have c9b0 := eq_true (zo_ : 0 ≤ a1)
     have c10b0 := eq_true (zo_ : a1 ≤ (s0_0.size : Int))
     simp only [Option.some.injEq,Prod.mk.injEq] at H
     obtain ⟨rfl,rfl,rfl⟩ := H
     obtain ⟨HGz11,hgz11⟩ := HI0.out
     have hcz11_0 := cellS199_0 HGz11
     have hcz11_1 := cellS199_1 HGz11
     have hfz11_0 := blk_frozen HGz11 0
     have hfz11_1 := blk_frozen HGz11 1
     clear HGz11 hgz11
     go_enter Tryd.func186,Tryd.ntmps186
     go_wp2
     go_ret
     exact ⟨zt_,(zi199 HI0),zl_ HB,zh_ HK⟩
    ·rw [if_neg c8] at H
     exact absurd H (by simp)
   ·rw [if_neg c7] at H
    exact absurd H (by simp)
set_option maxHeartbeats 8000000 in
set_option maxRecDepth 100000 in
theorem impl_reader_number.calls (k : Nat) (g : Nat) (s0_0 : ByteArray) (s0_1 : Bool) (a1 : Int) (r1 : Int) (r2 : ByteArray) (r3 : Bool) (w0 w : World) (hI : IsS199 w0 w g s0_0 s0_1) (hB : Below w0.heap.size w0 w) (h : impl_reader_number.f k s0_0 s0_1 a1 = some (r1,r2,r3)) :
  Calls Tryd.prog 185 #[.pointer (some ⟨g,0,none⟩),.int .i64 a1] w fun e w' => e = .returned (.int .i64 r1) ∧ IsS199 w0 w' g r2 r3 ∧ Below w0.heap.size w0 w' ∧ KeepBut w w' g none := by
 have HI0 := am_ hI
 have HK := am_ (KeepBut.refl w g none)
 have HL := am_ hB.size
 clear hI
 have HW0 := am_ hB.size
 have HB := am_ hB
 clear hB
 have H : ((impl_reader_take.f s0_0 s0_1 a1).bind fun bt1395 => (if bt1395.1.size ≤ 140737488355328 then ((some (bytesOf bt1395.1 : List Int)).bind fun y1398 => (impl_reader_number.l0 k 0 y1398 (y1398.length : Int) 0 bt1395.2.1 bt1395.2.2)) else (none))) = some (r1,r2,r3) := h
 clear h
 replace H := Option.bind_eq_some_iff.mp H
 obtain ⟨⟨t1395,t1396,t1397⟩,A30,H⟩ := H
 try dsimp only at H
 have A3 := am_ A30
 clear A30
 by_cases c4 : t1395.size ≤ 140737488355328
 ·rw [if_pos c4] at H
  have c4b0 := eq_true c4
  have c4b1 : decide (t1395.size ≤ 140737488355328) = true := decide_eq_true c4
  clear c4
  obtain ⟨y1398,hy1398⟩ : ∃ y_ : List Int,y_ = (bytesOf t1395) := ⟨_,rfl⟩
  replace H : (impl_reader_number.l0 k 0 y1398 (y1398.length : Int) 0 t1396 t1397) = some (r1,r2,r3) := by first | (rw [hy1398];with_reducible exact H) | (have H2_ := (Option.bind_some _ _).symm.trans H;rw [hy1398];with_reducible exact H2_) | (have H2_ := (Option.bind_some _ _).symm.trans H;with_reducible exact H2_) | with_reducible exact H | (rw [hy1398];exact H) | exact H
  have Ny1398 := am_ hy1398
  clear hy1398
  have H' := am_ H
  clear H
  go_enter Tryd.func185,Tryd.ntmps185
  go_wp2_with (first | ((with_reducible refine gate_callee (f := 186) rfl ?_);refine zgl (some 10) Tryd.func186 #[.pointer (some ⟨g,0,none⟩),.int .i64 a1] ?_;(with_reducible refine (impl_reader_take.calls g s0_0 s0_1 a1 t1395 t1396 t1397 w0 _ ?side1 ?side2 A3.out).mono ?_);(case side1 => exact zi199 HI0);(case side2 => exact zl_ HB);rintro e w5 ⟨rfl,hi,hb,hk⟩;refine ⟨_,rfl,?_⟩;replace HK := am_ (KeepBut.trans (zh_ HK) hk (.inl rfl));replace HB := am_ (hb);replace HI0 := am_ (hi);(try clear hb);(try clear hb2);(try clear hk);(try clear hi)) | ((with_reducible refine gate_dst (N := 11) rfl ?_);refine Kd.V_conv (Kd.int .u8) rfl _ 5 rfl (N := 11) rfl 9 46 _ rfl t1395 rfl Tryd.underlying9 Tryd.underlying46 Tryd.underlying5 (ok := fun k_ => w5.heap.size ≤ k_) (okp := fun _ => False) (fun _ hk => hk.elim) (Nat.le_refl _) (by have := o1_ (by first | (with_reducible assumption) | assumption : decide (t1395.size ≤ 140737488355328) = true);omega) (Below.refl _ _) (Nat.le_refl _) ?_;intro v1399 w6 ho7 hb hg_ hnew_;clear hg_ hnew_;(first | rw [← Ny1398.out] at ho7 | (simp only [Int.reduceToNat] at ho7;rw [← Ny1398.out] at ho7));have HO1400 := am_ (Kd.V_lower (Kd.V_mono (ok' := fun k_ => k_ ≠ g) ho7 (fun k_ hk_ => (IsS199.fresh (zi199 HI0) k_ hk_))) (keep_size (w := w) (g := g) (row := none) (zh_ HK)));replace HI0 := am_ (IsS199.below (zi199 HI0) hb);replace HK := am_ (KeepBut.trans (zh_ HK) (KeepBut.of_below hb g none) (.inl rfl));replace HB := zs_ HB hb;clear hb ho7;obtain ⟨Ao8,co8,eo8⟩ := Kd.V_slice HO1400.out;subst eo8))
  go_loopg [5,13] k (fun kq v5 v13 w' => ∃ (x5_1 : Int) (x13_1 : Int),v5 = .int .i64 x5_1 ∧ v13 = .int .i64 x13_1 ∧ Aside0 (impl_reader_number.l0 kq x5_1 y1398 (y1398.length : Int) x13_1 t1396 t1397 = some (r1,r2,r3)) ∧ Aside0 (kq ≤ k) ∧ Aside0 (Kd.V (Kd.int .u8) 5 w' w.heap.size (fun k_ => k_ ≠ g) (.slice Ao8 y1398.length co8) y1398) ∧ Aside0 (IsS199 w0 w' g t1396 t1397) ∧ Aside0 (KeepBut w w' g none) ∧ Aside0 (Below w0.heap.size w0 w'))
  case atStart => exact ⟨(0),(0),(by first | rfl | (simp;done) | (simp [*];done)),(by first | rfl | (simp;done) | (simp [*];done)),H',⟨Nat.le_refl _⟩,⟨by (with_reducible repeat (first | apply Kd.V_alloc | apply Kd.V_drewN | apply Kd.V_drew));exact HO1400.out⟩,⟨(zi199 HI0)⟩,⟨zh_ HK⟩,⟨zl_ HB⟩⟩
  case round =>
   clear H'
   try clear c1
   try clear p2
   try clear c4
   try clear c4b0
   try clear c4b1
   obtain ⟨x5_1,x13_1,rfl,rfl,HA,HK1,HO_11,HI0,HK,HB⟩ := hrel
   cases gk with
   | zero => exact absurd HA.out (by simp [impl_reader_number.l0])
   | succ k1 =>
    have H := HA.out
    clear HA
    simp only [impl_reader_number.l0] at H
    by_cases c9 : x13_1 < (y1398.length : Int)
    ·rw [if_pos c9] at H
     have c9b0 : decide (x13_1 < (y1398.length : Int)) = true := decide_eq_true c9
     clear c9
     by_cases c10 : 0 ≤ x13_1
     ·rw [if_pos c10] at H
      have c10b0 : decide (0 ≤ x13_1) = true := decide_eq_true c10
      clear c10
      by_cases c11 : x13_1 < (y1398.length : Int)
      ·rw [if_pos c11] at H
       have c11b0 : decide (x13_1 < (y1398.length : Int)) = true := decide_eq_true c11
       clear c11
       have H' := am_ H
       clear H
       have p1401 : 0 ≤ (x13_1 : Int) := zo_
       have q1401 : x13_1 < (y1398.length : Int) := zo_
       obtain ⟨ad1401,e1401,hx1401_0⟩ := Kd.at_int (Kd.V_reads' HO_11.out).2.2 x13_1 p1401 q1401
       cases e1401
       replace p1401 := eq_true p1401
       replace q1401 := eq_true q1401
       go_wp2
       go_roundg k1
       case measure => have := HK1.out;omega
       case rel => exact ⟨(Go.bits .or .i64 (wrap64 (x5_1 * 256)) (wrap64 (rd y1398 x13_1))),(wrap64 (x13_1 + 1)),(by first | rfl | (simp;done) | (simp [*];done)),(by first | rfl | (simp;done) | (simp [*];done)),H',⟨by have := HK1.out;omega⟩,⟨by (with_reducible repeat (first | apply Kd.V_alloc | apply Kd.V_drewN | apply Kd.V_drew));exact HO_11.out⟩,⟨(zi199 HI0)⟩,⟨zh_ HK⟩,⟨zl_ HB⟩⟩
      ·rw [if_neg c11] at H
       exact absurd H (by simp)
     ·rw [if_neg c10] at H
      exact absurd H (by simp)
    ·rw [if_neg c9] at H
     have c9b0 : decide (x13_1 < (y1398.length : Int)) = false := decide_eq_false c9
     clear c9
     simp only [Option.some.injEq,Prod.mk.injEq] at H
     obtain ⟨rfl,rfl,rfl⟩ := H
     go_wp2
     go_ret
     exact ⟨zt_,(zi199 HI0),zl_ HB,zh_ HK⟩
 ·rw [if_neg c4] at H
  exact absurd H (by simp)
set_option maxHeartbeats 8000000 in
set_option maxRecDepth 100000 in
theorem impl_reader_sized.calls (k : Nat) (g : Nat) (s0_0 : ByteArray) (s0_1 : Bool) (a1 : Int) (r1 : ByteArray) (r2 : ByteArray) (r3 : Bool) (w0 w : World) (hI : IsS199 w0 w g s0_0 s0_1) (hB : Below w0.heap.size w0 w) (h : impl_reader_sized.f k s0_0 s0_1 a1 = some (r1,r2,r3)) :
  Calls Tryd.prog 201 #[.pointer (some ⟨g,0,none⟩),.int .i64 a1] w fun e w' => e = .returned (.string r1) ∧ IsS199 w0 w' g r2 r3 ∧ Below w0.heap.size w0 w' ∧ KeepBut w w' g none := by
 have HI0 := am_ hI
 have HK := am_ (KeepBut.refl w g none)
 have HL := am_ hB.size
 clear hI
 have HW0 := am_ hB.size
 have HB := am_ hB
 clear hB
 have H : ((impl_reader_number.f k s0_0 s0_1 a1).bind fun bt1402 => ((impl_reader_take.f bt1402.2.1 bt1402.2.2 bt1402.1).bind fun bt1405 => (some (bt1405.1,bt1405.2.1,bt1405.2.2)))) = some (r1,r2,r3) := h
 clear h
 replace H := Option.bind_eq_some_iff.mp H
 obtain ⟨⟨t1402,t1403,t1404⟩,A30,H⟩ := H
 try dsimp only at H
 have A3 := am_ A30
 clear A30
 replace H := Option.bind_eq_some_iff.mp H
 obtain ⟨⟨t1405,t1406,t1407⟩,A40,H⟩ := H
 try dsimp only at H
 have A4 := am_ A40
 clear A40
 simp only [Option.some.injEq,Prod.mk.injEq] at H
 obtain ⟨rfl,rfl,rfl⟩ := H
 go_enter Tryd.func201,Tryd.ntmps201
 go_wp2_with (first | ((with_reducible refine gate_callee (f := 185) rfl ?_);refine zgl (some 8) Tryd.func185 #[.pointer (some ⟨g,0,none⟩),.int .i64 a1] ?_;(with_reducible refine (impl_reader_number.calls k g s0_0 s0_1 a1 t1402 t1403 t1404 w0 _ ?side1 ?side2 A3.out).mono ?_);(case side1 => exact zi199 HI0);(case side2 => exact zl_ HB);rintro e w5 ⟨rfl,hi,hb,hk⟩;refine ⟨_,rfl,?_⟩;replace HK := am_ (KeepBut.trans (zh_ HK) hk (.inl rfl));replace HB := am_ (hb);replace HI0 := am_ (hi);(try clear hb);(try clear hb2);(try clear hk);(try clear hi)) | ((with_reducible refine gate_callee (f := 186) rfl ?_);refine zgl (some 9) Tryd.func186 #[.pointer (some ⟨g,0,none⟩),.int .i64 t1402] ?_;(with_reducible refine (impl_reader_take.calls g t1403 t1404 t1402 t1405 t1406 t1407 w0 _ ?side1 ?side2 A4.out).mono ?_);(case side1 => exact zi199 HI0);(case side2 => exact zl_ HB);rintro e w6 ⟨rfl,hi,hb,hk⟩;refine ⟨_,rfl,?_⟩;replace HK := am_ (KeepBut.trans (zh_ HK) hk (.inl rfl));replace HB := am_ (hb);replace HI0 := am_ (hi);(try clear hb);(try clear hb2);(try clear hk);(try clear hi)))
 go_ret
 exact ⟨zt_,(zi199 HI0),zl_ HB,zh_ HK⟩
set_option maxHeartbeats 8000000 in
set_option maxRecDepth 100000 in
theorem impl_reader_request.calls (k : Nat) (g : Nat) (s0_0 : ByteArray) (s0_1 : Bool) (r1 : Int) (r2 : Int) (r3 : Int) (r4 : Int) (r5 : ByteArray) (r6 : ByteArray) (r7 : Bool) (w0 w : World) (hI : IsS199 w0 w g s0_0 s0_1) (hB : Below w0.heap.size w0 w) (h : impl_reader_request.f k s0_0 s0_1 = some (r1,r2,r3,r4,r5,r6,r7)) :
  Calls Tryd.prog 187 #[.pointer (some ⟨g,0,none⟩)] w fun e w' => e = .returned (.agg #[.int .i64 r1,.int .i64 r2,.int .i64 r3,.int .i64 r4,.string r5]) ∧ IsS199 w0 w' g r6 r7 ∧ Below w0.heap.size w0 w' ∧ KeepBut w w' g none := by
 have hu85 := Tryd.underlying85
 have HI0 := am_ hI
 have HK := am_ (KeepBut.refl w g none)
 have HL := am_ hB.size
 clear hI
 have HW0 := am_ hB.size
 have HB := am_ hB
 clear hB
 have H : ((impl_reader_number.f k s0_0 s0_1 1).bind fun bt1409 => ((impl_reader_number.f k bt1409.2.1 bt1409.2.2 2).bind fun bt1412 => ((impl_reader_number.f k bt1412.2.1 bt1412.2.2 1).bind fun bt1415 => ((impl_reader_number.f k bt1415.2.1 bt1415.2.2 2).bind fun bt1418 => ((impl_reader_sized.f k bt1418.2.1 bt1418.2.2 1).bind fun bt1421 => (some (bt1409.1,bt1412.1,bt1415.1,bt1418.1,bt1421.1,bt1421.2.1,bt1421.2.2))))))) = some (r1,r2,r3,r4,r5,r6,r7) := h
 clear h
 replace H := Option.bind_eq_some_iff.mp H
 obtain ⟨⟨t1409,t1410,t1411⟩,A20,H⟩ := H
 try dsimp only at H
 have A2 := am_ A20
 clear A20
 replace H := Option.bind_eq_some_iff.mp H
 obtain ⟨⟨t1412,t1413,t1414⟩,A30,H⟩ := H
 try dsimp only at H
 have A3 := am_ A30
 clear A30
 replace H := Option.bind_eq_some_iff.mp H
 obtain ⟨⟨t1415,t1416,t1417⟩,A40,H⟩ := H
 try dsimp only at H
 have A4 := am_ A40
 clear A40
 replace H := Option.bind_eq_some_iff.mp H
 obtain ⟨⟨t1418,t1419,t1420⟩,A50,H⟩ := H
 try dsimp only at H
 have A5 := am_ A50
 clear A50
 replace H := Option.bind_eq_some_iff.mp H
 obtain ⟨⟨t1421,t1422,t1423⟩,A60,H⟩ := H
 try dsimp only at H
 have A6 := am_ A60
 clear A60
 simp only [Option.some.injEq,Prod.mk.injEq] at H
 obtain ⟨rfl,rfl,rfl,rfl,rfl,rfl,rfl⟩ := H
 go_enter Tryd.func187,Tryd.ntmps187
 go_wp2_with (first | ((with_reducible refine gate_dst (N := 2) rfl ?_);refine zbx (N := 2) (cs := #[.int .i64 0,.int .i64 0,.int .i64 0,.int .i64 0,.string ⟨#[]⟩]) (t := 85) ?_;intro gb1408 hg w7 hbox hb;replace HB := zs_ HB hb;have BK1408 := am_ (hbox);have GW1408 := am_ ((by rw [hg];exact (keep_size (w := w) (g := g) (row := none) (zh_ HK)) : w.heap.size ≤ gb1408));have GE1408 := am_ ((Nat.le_trans HW0.out (by rw [hg];exact (keep_size (w := w) (g := g) (row := none) (zh_ HK)) : w.heap.size ≤ gb1408) : w0.heap.size ≤ gb1408));replace HK := am_ (KeepBut.trans (zh_ HK) (KeepBut.of_below hb g none) (.inl rfl));have NB0_1408 := am_ ((by rw [hg];exact Nat.ne_of_lt (IsS199.lt (show IsS199 w0 _ g s0_0 s0_1 from (zi199 HI0))) : g ≠ gb1408));have NB1408_0 := am_ ((by rw [hg];exact Nat.ne_of_gt (IsS199.lt (show IsS199 w0 _ g s0_0 s0_1 from (zi199 HI0))) : gb1408 ≠ g));replace HI0 := am_ (IsS199.below (zi199 HI0) hb);clear hb hbox hg) | ((with_reducible refine gate_callee (f := 185) rfl ?_);refine zgl (some 4) Tryd.func185 #[.pointer (some ⟨g,0,none⟩),.int .i64 1] ?_;(with_reducible refine (impl_reader_number.calls k g s0_0 s0_1 1 t1409 t1410 t1411 w0 _ ?side1 ?side2 A2.out).mono ?_);(case side1 => exact zi199 HI0);(case side2 => exact zl_ HB);rintro e w8 ⟨rfl,hi,hb,hk⟩;refine ⟨_,rfl,?_⟩;replace BK1408 := zkb hk BK1408 NB1408_0;replace HK := am_ (KeepBut.trans (zh_ HK) hk (.inl rfl));replace HB := am_ (hb);replace HI0 := am_ (hi);(try clear hb);(try clear hb2);(try clear hk);(try clear hi)) | ((with_reducible refine gate_callee (f := 185) rfl ?_);refine zgl (some 6) Tryd.func185 #[.pointer (some ⟨g,0,none⟩),.int .i64 2] ?_;(with_reducible refine (impl_reader_number.calls k g t1410 t1411 2 t1412 t1413 t1414 w0 _ ?side1 ?side2 A3.out).mono ?_);(case side1 => exact zi199 HI0);(case side2 => exact zl_ HB);rintro e w9 ⟨rfl,hi,hb,hk⟩;refine ⟨_,rfl,?_⟩;replace BK1408 := zkb hk BK1408 NB1408_0;replace HK := am_ (KeepBut.trans (zh_ HK) hk (.inl rfl));replace HB := am_ (hb);replace HI0 := am_ (hi);(try clear hb);(try clear hb2);(try clear hk);(try clear hi)) | ((with_reducible refine gate_callee (f := 185) rfl ?_);refine zgl (some 8) Tryd.func185 #[.pointer (some ⟨g,0,none⟩),.int .i64 1] ?_;(with_reducible refine (impl_reader_number.calls k g t1413 t1414 1 t1415 t1416 t1417 w0 _ ?side1 ?side2 A4.out).mono ?_);(case side1 => exact zi199 HI0);(case side2 => exact zl_ HB);rintro e w10 ⟨rfl,hi,hb,hk⟩;refine ⟨_,rfl,?_⟩;replace BK1408 := zkb hk BK1408 NB1408_0;replace HK := am_ (KeepBut.trans (zh_ HK) hk (.inl rfl));replace HB := am_ (hb);replace HI0 := am_ (hi);(try clear hb);(try clear hb2);(try clear hk);(try clear hi)) | ((with_reducible refine gate_callee (f := 185) rfl ?_);refine zgl (some 10) Tryd.func185 #[.pointer (some ⟨g,0,none⟩),.int .i64 2] ?_;(with_reducible refine (impl_reader_number.calls k g t1416 t1417 2 t1418 t1419 t1420 w0 _ ?side1 ?side2 A5.out).mono ?_);(case side1 => exact zi199 HI0);(case side2 => exact zl_ HB);rintro e w11 ⟨rfl,hi,hb,hk⟩;refine ⟨_,rfl,?_⟩;replace BK1408 := zkb hk BK1408 NB1408_0;replace HK := am_ (KeepBut.trans (zh_ HK) hk (.inl rfl));replace HB := am_ (hb);replace HI0 := am_ (hi);(try clear hb);(try clear hb2);(try clear hk);(try clear hi)) | ((with_reducible refine gate_callee (f := 201) rfl ?_);refine zgl (some 12) Tryd.func201 #[.pointer (some ⟨g,0,none⟩),.int .i64 1] ?_;(with_reducible refine (impl_reader_sized.calls k g t1419 t1420 1 t1421 t1422 t1423 w0 _ ?side1 ?side2 A6.out).mono ?_);(case side1 => exact zi199 HI0);(case side2 => exact zl_ HB);rintro e w12 ⟨rfl,hi,hb,hk⟩;refine ⟨_,rfl,?_⟩;replace BK1408 := zkb hk BK1408 NB1408_0;replace HK := am_ (KeepBut.trans (zh_ HK) hk (.inl rfl));replace HB := am_ (hb);replace HI0 := am_ (hi);(try clear hb);(try clear hb2);(try clear hk);(try clear hi);have hnb13 := NB1408_0.out;have hnc13 := NB0_1408.out;obtain ⟨hcz14_0,hcz14_1,hcz14_2,hcz14_3,hcz14_4,hfz14_0,hfz14_1,hfz14_2,hfz14_3,hfz14_4⟩ := zc5 BK1408))
 refine bodyPost_ret (results_cell_row rfl _ _ gb1408 85 #[.int .i64 t1409,.int .i64 t1412,.int .i64 t1415,.int .i64 t1418,.string t1421] (0,0) _ rfl (zq BK1408) Tryd.underlying85 rfl (by kernel_rfl)) rfl ?_
 exact ⟨zt_,(zi199 HI0),zl_ HB,zh_ HK⟩
def impl_readBatch.T10 : Bool × List (List Nat × List Nat) := (true,[([],[]),([0],[0]),([],[]),([2],[2]),([],[]),([4,3],[4]),([],[]),([6,5],[6]),([3,5,7],[3,5,7]),([8],[8]),([1,9,7],[1,9]),([0,1,2,3,4,5,6,7,8,9,10],[]),([11,10,10,0,1,2,3,4,5,6,7,8,9,10],[10,11])])
def impl_readBatch.B10 : List Nat := [0,1,0,4,0,28,0,124,252,508,1023,2047,4095]
theorem impl_readBatch.tab10 : rtab .any (opsOf Tryd.f176 10) = impl_readBatch.T10 := by kernel_rfl
theorem impl_readBatch.bits10 : waitsOk impl_readBatch.T10.2 impl_readBatch.B10 = true := by kernel_rfl
set_option maxHeartbeats 8000000 in
set_option maxRecDepth 100000 in
theorem impl_readBatch.calls (k : Nat) (a0 : ByteArray) (r1 : Bool) (r2 : Int) (r3 : Int) (r4 : Int) (r5 : Int) (r6 : ByteArray) (r7 : List (S185)) (r8 : Bool) (w : World) (h : impl_readBatch.f k a0 = some (r1,r2,r3,r4,r5,r6,r7,r8)) :
  Calls Tryd.prog 176 #[.string a0] w fun e w' => ∃ v6_ : Value,e = .returned (.tuple #[.agg #[.bool r1,.int .i64 r2,.int .i64 r3,.int .i64 r4,.int .i64 r5,.string r6,v6_],.bool r8]) ∧ Kd.R k185 185 w' w.heap.size (fun _ => True) v6_ r7 ∧ Below w.heap.size w w' := by
 have hu165 := Tryd.underlying165
 have hu199 := Tryd.underlying199
 have hu185 := Tryd.underlying185
 have hu85 := Tryd.underlying85
 have HB := am_ (Below.refl w.heap.size w)
 have H : (if a0.toList = ([0] : List UInt8) then (some (true,0,0,0,0,(⟨#[]⟩ : ByteArray),([] : List (S185)),true)) else ((impl_reader_number.f k a0 false 1).bind fun bt1435 => (if (wrap64 (bt1435.1 - 1)) > 7 then (some (false,0,0,0,0,(⟨#[]⟩ : ByteArray),([] : List (S185)),false)) else (impl_readBatch.l0 k (wrap64 (bt1435.1 - 1)) (mx (wrap64 (bt1435.1 - 1)) 0) 0 bt1435.2.1 bt1435.2.2 false 0 0 0 0 (⟨#[]⟩ : ByteArray) ([] : List (S185)))))) = some (r1,r2,r3,r4,r5,r6,r7,r8) := h
 clear h
 by_cases c2 : a0.toList = ([0] : List UInt8)
 ·rw [if_pos c2] at H
  have c2b0 : (a0.toList == ([0] : List UInt8)) = true := beq_iff_eq.mpr c2
  have c2b1 : (a0.toList != ([0] : List UInt8)) = false := bne_eq_false_iff_eq.mpr c2
  clear c2
  simp only [Option.some.injEq,Prod.mk.injEq] at H
  obtain ⟨rfl,rfl,rfl,rfl,rfl,rfl,rfl,rfl⟩ := H
  go_enter Tryd.func176,Tryd.ntmps176
  go_wp2_with (first | ((with_reducible refine gate_dst (N := 2) rfl ?_);refine zbx (N := 2) (cs := #[.bool false,.int .i64 0,.int .i64 0,.int .i64 0,.int .i64 0,.string ⟨#[]⟩,.slice none 0 0]) (t := 165) ?_;intro gb1433 hg w3 hbox hb;have BK1433 := am_ (hbox);have GW1433 := zw_ HB hg;have GE1433 := zw_ HB hg;replace HB := zs_ HB hb;clear hb hbox hg;obtain ⟨hcz4_0,hcz4_1,hcz4_2,hcz4_3,hcz4_4,hcz4_5,hcz4_6,hfz4_0,hfz4_1,hfz4_2,hfz4_3,hfz4_4,hfz4_5,hfz4_6⟩ := zc7 BK1433))
  refine bodyPost_ret (results_ct rfl _ _ gb1433 165 #[.bool true,.int .i64 0,.int .i64 0,.int .i64 0,.int .i64 0,.string ⟨#[]⟩,.slice none 0 0] (0,0) _ rfl (zq BK1433) Tryd.underlying165 rfl (by kernel_rfl)) rfl ?_
  exact ⟨_,zt_,by first | exact Kd.R_nil _ _ _ _ _ | exact Kd.N_nil _ _ _ _ _ | exact Kd.V_nil _ _ _ _ _ | exact Kd.Q_nil _ _ _ _ _ | exact Kd.S_nil _ _ _ _ _,zl_ HB⟩
 ·rw [if_neg c2] at H
  have c2b0 : (a0.toList == ([0] : List UInt8)) = false := beq_eq_false_iff_ne.mpr c2
  have c2b1 : (a0.toList != ([0] : List UInt8)) = true := bne_iff_ne.mpr c2
  replace H := Option.bind_eq_some_iff.mp H
  obtain ⟨⟨t1435,t1436,t1437⟩,A50,H⟩ := H
  try dsimp only at H
  have A5 := am_ A50
  clear A50
  by_cases c6 : (wrap64 (t1435 - 1)) > 7
  ·rw [if_pos c6] at H
   have c6b0 : decide (7 < (wrap64 (t1435 - 1))) = true := decide_eq_true c6
   clear c6
   simp only [Option.some.injEq,Prod.mk.injEq] at H
   obtain ⟨rfl,rfl,rfl,rfl,rfl,rfl,rfl,rfl⟩ := H
   go_enter Tryd.func176,Tryd.ntmps176
   go_wp2_with (first | ((with_reducible refine gate_dst (N := 2) rfl ?_);refine zbx (N := 2) (cs := #[.bool false,.int .i64 0,.int .i64 0,.int .i64 0,.int .i64 0,.string ⟨#[]⟩,.slice none 0 0]) (t := 165) ?_;intro gb1433 hg w7 hbox hb;have BK1433 := am_ (hbox);have GW1433 := zw_ HB hg;have GE1433 := zw_ HB hg;replace HB := zs_ HB hb;clear hb hbox hg) | ((with_reducible refine gate_dst (N := 12) rfl ?_);refine zbx (N := 12) (cs := #[.string a0,.bool false]) (t := 199) ?_;intro g1434 hg w8 hbox hb;have HI1434 := am_ ((show IsS199 w _ g1434 a0 false from ⟨hbox,(by rw [hg];exact (below_size (zl_ HB)) : w.heap.size ≤ g1434)⟩));replace HB := zs_ HB hb;have NB1434_1433 := zg hg BK1433;have NB1433_1434 := zl hg BK1433;replace BK1433 := zb BK1433 hb;clear hb hbox hg) | ((with_reducible refine gate_callee (f := 185) rfl ?_);refine zgl (some 14) Tryd.func185 #[.pointer (some ⟨g1434,0,none⟩),.int .i64 1] ?_;(with_reducible refine (impl_reader_number.calls k g1434 a0 false 1 t1435 t1436 t1437 w _ ?side1 ?side2 A5.out).mono ?_);(case side1 => exact zi199 HI1434);(case side2 => exact zl_ HB);rintro e w9 ⟨rfl,hi,hb,hk⟩;refine ⟨_,rfl,?_⟩;replace BK1433 := zkb hk BK1433 NB1433_1434;replace HB := am_ (hb);replace HI1434 := am_ (hi);(try clear hb);(try clear hb2);(try clear hk);(try clear hi);have hnb10 := NB1433_1434.out;have hnc10 := NB1434_1433.out;obtain ⟨hcz11_0,hcz11_1,hcz11_2,hcz11_3,hcz11_4,hcz11_5,hcz11_6,hfz11_0,hfz11_1,hfz11_2,hfz11_3,hfz11_4,hfz11_5,hfz11_6⟩ := zc7 BK1433))
   refine bodyPost_ret (results_ct rfl _ _ gb1433 165 #[.bool false,.int .i64 0,.int .i64 0,.int .i64 0,.int .i64 0,.string ⟨#[]⟩,.slice none 0 0] (0,0) _ rfl (zq BK1433) Tryd.underlying165 rfl (by kernel_rfl)) rfl ?_
   exact ⟨_,zt_,by first | exact Kd.R_nil _ _ _ _ _ | exact Kd.N_nil _ _ _ _ _ | exact Kd.V_nil _ _ _ _ _ | exact Kd.Q_nil _ _ _ _ _ | exact Kd.S_nil _ _ _ _ _,zl_ HB⟩
  ·rw [if_neg c6] at H
   have c6b0 : decide (7 < (wrap64 (t1435 - 1))) = false := decide_eq_false c6
   clear c6
   obtain ⟨ji12,hji12⟩ : ∃ j_ : Int,(mx (wrap64 (t1435 - 1)) 0) = j_ := ⟨_,rfl⟩
   replace H : (impl_readBatch.l0 k (wrap64 (t1435 - 1)) ji12 0 t1436 t1437 false 0 0 0 0 (⟨#[]⟩ : ByteArray) ([] : List (S185))) = some (r1,r2,r3,r4,r5,r6,r7,r8) := by first | (rw [hji12] at H;exact H) | (simp only [hji12] at H ⊢;exact H)
   (try rw [hji12] at A5)
   (try (have hji12l : 0 ≤ ji12 := by (rw [← hji12];unfold mx;(repeat' split) <;> omega)))
   (try (have hji12m : 0 ≤ ji12 := by omega))
   have hji12_ : (if (wrap64 (t1435 - 1)) < 0 then 0 else (wrap64 (t1435 - 1))) = ji12 := hji12
   have H' := am_ H
   clear H
   go_enter Tryd.func176,Tryd.ntmps176
   go_wp2_with (first | ((with_reducible refine gate_dst (N := 2) rfl ?_);refine zbx (N := 2) (cs := #[.bool false,.int .i64 0,.int .i64 0,.int .i64 0,.int .i64 0,.string ⟨#[]⟩,.slice none 0 0]) (t := 165) ?_;intro gb1433 hg w13 hbox hb;have BK1433 := am_ (hbox);have GW1433 := zw_ HB hg;have GE1433 := zw_ HB hg;replace HB := zs_ HB hb;clear hb hbox hg) | ((with_reducible refine gate_dst (N := 12) rfl ?_);refine zbx (N := 12) (cs := #[.string a0,.bool false]) (t := 199) ?_;intro g1434 hg w14 hbox hb;have HI1434 := am_ ((show IsS199 w _ g1434 a0 false from ⟨hbox,(by rw [hg];exact (below_size (zl_ HB)) : w.heap.size ≤ g1434)⟩));replace HB := zs_ HB hb;have NB1434_1433 := zg hg BK1433;have NB1433_1434 := zl hg BK1433;replace BK1433 := zb BK1433 hb;clear hb hbox hg) | ((with_reducible refine gate_callee (f := 185) rfl ?_);refine zgl (some 14) Tryd.func185 #[.pointer (some ⟨g1434,0,none⟩),.int .i64 1] ?_;(with_reducible refine (impl_reader_number.calls k g1434 a0 false 1 t1435 t1436 t1437 w _ ?side1 ?side2 A5.out).mono ?_);(case side1 => exact zi199 HI1434);(case side2 => exact zl_ HB);rintro e w15 ⟨rfl,hi,hb,hk⟩;refine ⟨_,rfl,?_⟩;replace BK1433 := zkb hk BK1433 NB1433_1434;replace HB := am_ (hb);replace HI1434 := am_ (hi);(try clear hb);(try clear hb2);(try clear hk);(try clear hi)) | ((with_reducible refine gate_dst (N := 6) rfl ?_);refine zbx (N := 6) (cs := #[.bool false,.int .i64 0,.int .i64 0,.int .i64 0,.int .i64 0,.string ⟨#[]⟩,.slice none 0 0]) (t := 165) ?_;intro gb1438 hg w16 hbox hb;have BK1438 := am_ (hbox);have GW1438 := zw_ HB hg;have GE1438 := zw_ HB hg;replace HB := zs_ HB hb;have NB1433_1438 := zl hg BK1433;have NB1438_1433 := zg hg BK1433;replace BK1433 := zb BK1433 hb;have NB1434_1438 := am_ ((by rw [hg];exact Nat.ne_of_lt (IsS199.lt (show IsS199 w _ g1434 t1436 t1437 from (zi199 HI1434))) : g1434 ≠ gb1438));have NB1438_1434 := am_ ((by rw [hg];exact Nat.ne_of_gt (IsS199.lt (show IsS199 w _ g1434 t1436 t1437 from (zi199 HI1434))) : gb1438 ≠ g1434));replace HI1434 := am_ (IsS199.below (zi199 HI1434) hb);clear hb hbox hg))
   go_loopg [21] k (fun kq v21 w' => ∃ (x21_1 : Int) (x1435000_1 : ByteArray) (x1435001_1 : Bool) (x1439006_1 : List (S185)) (u1439006 : Value),v21 = .int .i64 x21_1 ∧ Aside0 (impl_readBatch.l0 kq (wrap64 (t1435 - 1)) ji12 x21_1 x1435000_1 x1435001_1 false 0 0 0 0 (⟨#[]⟩ : ByteArray) x1439006_1 = some (r1,r2,r3,r4,r5,r6,r7,r8)) ∧ Aside0 (kq ≤ k) ∧ Aside0 (Kd.R k185 185 w' w.heap.size (fun _ => True) u1439006 x1439006_1) ∧ Aside0 (w'.heap[gb1433]? = some (.cells #[.bool false,.int .i64 0,.int .i64 0,.int .i64 0,.int .i64 0,.string ⟨#[]⟩,(.slice none 0 0)] 165 (0,0))) ∧ Aside0 (w'.heap[gb1438]? = some (.cells #[.bool false,.int .i64 0,.int .i64 0,.int .i64 0,.int .i64 0,.string ⟨#[]⟩,u1439006] 165 (0,0))) ∧ Aside0 (IsS199 w w' g1434 x1435000_1 x1435001_1) ∧ Aside0 (Below w.heap.size w w'))
   case atStart => exact ⟨(0),(t1436),(t1437),(([] : List (S185))),(.slice none 0 0),(by first | rfl | (simp;done) | (simp [*];done)),H',⟨Nat.le_refl _⟩,⟨by first | exact Kd.R_nil _ _ _ _ _ | exact Kd.N_nil _ _ _ _ _ | exact Kd.V_nil _ _ _ _ _ | exact Kd.Q_nil _ _ _ _ _ | exact Kd.S_nil _ _ _ _ _⟩,⟨by (with_reducible repeat (first | apply k1_ | apply k2_ | apply k3_));exact BK1433.out⟩,⟨by (with_reducible repeat (first | apply k1_ | apply k2_ | apply k3_));exact BK1438.out⟩,⟨(zi199 HI1434)⟩,⟨zl_ HB⟩⟩
   case round =>
    clear H'
    try clear c1
    try clear c2
    try clear c2b0
    try clear c2b1
    try clear p2
    try clear c6
    try clear c6b0
    try clear p6
    try clear c10
    try clear hcz11_0
    try clear hcz11_1
    try clear hcz11_2
    try clear hcz11_3
    try clear hcz11_4
    try clear hcz11_5
    try clear hcz11_6
    try clear hcz4_0
    try clear hcz4_1
    try clear hcz4_2
    try clear hcz4_3
    try clear hcz4_4
    try clear hcz4_5
    try clear hcz4_6
    try clear hfz11_0
    try clear hfz11_1
    try clear hfz11_2
    try clear hfz11_3
    try clear hfz11_4
    try clear hfz11_5
    try clear hfz11_6
    try clear hfz4_0
    try clear hfz4_1
    try clear hfz4_2
    try clear hfz4_3
    try clear hfz4_4
    try clear hfz4_5
    try clear hfz4_6
    obtain ⟨x21_1,x1435000_1,x1435001_1,x1439006_1,u1439006,rfl,HA,HK1,HO_1439006,BK1433,BK1438,HI1434,HB⟩ := hrel
    cases gk with
    | zero => exact absurd HA.out (by simp [impl_readBatch.l0])
    | succ k1 =>
     have H := HA.out
     clear HA
     simp only [impl_readBatch.l0] at H
     by_cases c17 : x21_1 < ji12
     ·rw [if_pos c17] at H
      have c17b0 : decide (x21_1 < ji12) = true := decide_eq_true c17
      clear c17
      replace H := Option.bind_eq_some_iff.mp H
      obtain ⟨⟨t1439,t1440,t1441⟩,A180,H⟩ := H
      try dsimp only at H
      have A18 := am_ A180
      clear A180
      replace H := Option.bind_eq_some_iff.mp H
      obtain ⟨⟨t1442,t1443,t1444⟩,A190,H⟩ := H
      try dsimp only at H
      have A19 := am_ A190
      clear A190
      replace H := Option.bind_eq_some_iff.mp H
      obtain ⟨⟨t1445,t1446,t1447⟩,A200,H⟩ := H
      try dsimp only at H
      have A20 := am_ A200
      clear A200
      by_cases c21 : x1439006_1.length < 4398046511104
      ·rw [if_pos c21] at H
       have LMc21 := am_ c21
       clear c21
       obtain ⟨y1448,hy1448⟩ : ∃ y_ : List (S185),y_ = (x1439006_1 ++ [(⟨t1439,t1442,t1445⟩ : S185)]) := ⟨_,rfl⟩
       replace H : (impl_readBatch.l0 k1 (wrap64 (t1435 - 1)) ji12 (wrap64 (x21_1 + 1)) t1446 t1447 false 0 0 0 0 (⟨#[]⟩ : ByteArray) y1448) = some (r1,r2,r3,r4,r5,r6,r7,r8) := by first | (rw [hy1448];with_reducible exact H) | (have H2_ := (Option.bind_some _ _).symm.trans H;rw [hy1448];with_reducible exact H2_) | (have H2_ := (Option.bind_some _ _).symm.trans H;with_reducible exact H2_) | with_reducible exact H | (rw [hy1448];exact H) | exact H
       have Ny1448 := am_ hy1448
       clear hy1448
       have H' := am_ H
       clear H
       try go_wp2
       replace HO_1439006 := am_ (Kd.R_drew HO_1439006.out)
       replace BK1433 := am_ (blk_drew BK1433.out)
       replace BK1438 := am_ (blk_drew BK1438.out)
       replace HI1434 := am_ (IsS199.drew HI1434.out)
       replace HB := am_ (below_drew1 HB.out)
       refine start_ (n := 13) (S := fun w' => w'.cell? ⟨gb1438,0,none⟩ = some (.bool false) ∧ w'.cell? ⟨gb1438,1,none⟩ = some (.int .i64 0) ∧ w'.cell? ⟨gb1438,2,none⟩ = some (.int .i64 0) ∧ w'.cell? ⟨gb1438,3,none⟩ = some (.int .i64 0) ∧ w'.cell? ⟨gb1438,4,none⟩ = some (.int .i64 0) ∧ w'.cell? ⟨gb1438,5,none⟩ = some (.string ⟨#[]⟩) ∧ w'.cell? ⟨gb1438,6,none⟩ = some (u1439006)) (ds := [12]) #[false,false,false,false,false,false,false,false,false,false,false,false,false] (by kernel_rfl) rfl rfl ⟨(blk_cell BK1438.out 0).trans rfl,(blk_cell BK1438.out 1).trans rfl,(blk_cell BK1438.out 2).trans rfl,(blk_cell BK1438.out 3).trans rfl,(blk_cell BK1438.out 4).trans rfl,(blk_cell BK1438.out 5).trans rfl,(blk_cell BK1438.out 6).trans rfl⟩ (fun hHeld => ?_);refine with_tabW impl_readBatch.tab10 impl_readBatch.bits10 (fun HT_ HW_ => ?_)
       generalize wr.drew = w22 at HO_1439006 BK1433 BK1438 HI1434 HB hHeld ⊢
       refine zpu 0 (N := some 23) HT_ ?_
       refine zpu 2 (N := some 25) HT_ ?_
       refine zpu 4 (N := some 27) HT_ ?_
       refine zpu 6 (N := some 29) HT_ ?_
       refine ztk 1 (N := some 24) HT_ HW_ hHeld ?_
       refine zon 3 (N := some 26) HT_ (fun K hK => ?_)
       refine zgo Tryd.func185 #[.pointer (some ⟨g1434,0,none⟩),.int .i64 1] ?_
       with_reducible refine (impl_reader_number.calls k1 g1434 x1435000_1 x1435001_1 1 t1439 t1440 t1441 w _ ?side1 ?side2 A18.out).mono ?_
       (case side1 => exact zi199 HI1434)
       (case side2 => exact zl_ HB)
       rintro e w23 ⟨rfl,hi,hb,hk⟩
       refine ⟨_,rfl,?_⟩
       replace HO_1439006 := am_ (Kd.R_mono (Kd.R_keep (IsS199.apart (show IsS199 w _ g1434 x1435000_1 x1435001_1 from (zi199 HI1434)) (zr HO_1439006) (by decide)) hk (fun _ h => h.2)) (fun _ h => h.1))
       replace BK1433 := zkb hk BK1433 NB1433_1434
       replace BK1438 := zkb hk BK1438 NB1438_1434
       replace HB := am_ (hb)
       replace HI1434 := am_ (hi)
       (try clear hb)
       (try clear hb2)
       (try clear hk)
       (try clear hi)
       refine hK.out _ _ ⟨(blk_cell BK1438.out 0).trans rfl,(blk_cell BK1438.out 1).trans rfl,(blk_cell BK1438.out 2).trans rfl,(blk_cell BK1438.out 3).trans rfl,(blk_cell BK1438.out 4).trans rfl,(blk_cell BK1438.out 5).trans rfl,(blk_cell BK1438.out 6).trans rfl⟩ (fun hHeld => ?_)
       clear hK K
       refine norm_ (a' := ?_) ?_ ?_
       rotate_left
       ·show Act.put _ (some 26) _ = _
        simp only [Act.put,p1_,p2_,p3_,i64_w,i32_w]
        rfl
       refine zon 5 (N := some 28) HT_ (fun K hK => ?_)
       refine zgo Tryd.func185 #[.pointer (some ⟨g1434,0,none⟩),.int .i64 4] ?_
       with_reducible refine (impl_reader_number.calls k1 g1434 t1440 t1441 4 t1442 t1443 t1444 w _ ?side1 ?side2 A19.out).mono ?_
       (case side1 => exact zi199 HI1434)
       (case side2 => exact zl_ HB)
       rintro e w24 ⟨rfl,hi,hb,hk⟩
       refine ⟨_,rfl,?_⟩
       replace HO_1439006 := am_ (Kd.R_mono (Kd.R_keep (IsS199.apart (show IsS199 w _ g1434 t1440 t1441 from (zi199 HI1434)) (zr HO_1439006) (by decide)) hk (fun _ h => h.2)) (fun _ h => h.1))
       replace BK1433 := zkb hk BK1433 NB1433_1434
       replace BK1438 := zkb hk BK1438 NB1438_1434
       replace HB := am_ (hb)
       replace HI1434 := am_ (hi)
       (try clear hb)
       (try clear hb2)
       (try clear hk)
       (try clear hi)
       refine hK.out _ _ ⟨(blk_cell BK1438.out 0).trans rfl,(blk_cell BK1438.out 1).trans rfl,(blk_cell BK1438.out 2).trans rfl,(blk_cell BK1438.out 3).trans rfl,(blk_cell BK1438.out 4).trans rfl,(blk_cell BK1438.out 5).trans rfl,(blk_cell BK1438.out 6).trans rfl⟩ (fun hHeld => ?_)
       clear hK K
       refine norm_ (a' := ?_) ?_ ?_
       rotate_left
       ·show Act.put _ (some 28) _ = _
        simp only [Act.put,p1_,p2_,p3_,i64_w,i32_w]
        rfl
       refine zon 7 (N := some 30) HT_ (fun K hK => ?_)
       refine zgo Tryd.func186 #[.pointer (some ⟨g1434,0,none⟩),.int .i64 8] ?_
       with_reducible refine (impl_reader_take.calls g1434 t1443 t1444 8 t1445 t1446 t1447 w _ ?side1 ?side2 A20.out).mono ?_
       (case side1 => exact zi199 HI1434)
       (case side2 => exact zl_ HB)
       rintro e w25 ⟨rfl,hi,hb,hk⟩
       refine ⟨_,rfl,?_⟩
       replace HO_1439006 := am_ (Kd.R_mono (Kd.R_keep (IsS199.apart (show IsS199 w _ g1434 t1443 t1444 from (zi199 HI1434)) (zr HO_1439006) (by decide)) hk (fun _ h => h.2)) (fun _ h => h.1))
       replace BK1433 := zkb hk BK1433 NB1433_1434
       replace BK1438 := zkb hk BK1438 NB1438_1434
       replace HB := am_ (hb)
       replace HI1434 := am_ (hi)
       (try clear hb)
       (try clear hb2)
       (try clear hk)
       (try clear hi)
       refine hK.out _ _ ⟨(blk_cell BK1438.out 0).trans rfl,(blk_cell BK1438.out 1).trans rfl,(blk_cell BK1438.out 2).trans rfl,(blk_cell BK1438.out 3).trans rfl,(blk_cell BK1438.out 4).trans rfl,(blk_cell BK1438.out 5).trans rfl,(blk_cell BK1438.out 6).trans rfl⟩ (fun hHeld => ?_)
       clear hK K
       refine norm_ (a' := ?_) ?_ ?_
       rotate_left
       ·show Act.put _ (some 30) _ = _
        simp only [Act.put,p1_,p2_,p3_,i64_w,i32_w]
        rfl
       refine zpu 8 (N := some 31) HT_ ?_
       refine zon 9 (N := some 32) HT_ (fun K hK => ?_)
       refine value_ (w1 := ?_) (v := ?_) (by rfl) rfl ?_ ?_
       rotate_left 2
       ·go_simp
        constructor
        ·rfl
        ·rfl
       refine hK.out _ _ ⟨(blk_cell (blk_alloc BK1438.out _) 0).trans rfl,(blk_cell (blk_alloc BK1438.out _) 1).trans rfl,(blk_cell (blk_alloc BK1438.out _) 2).trans rfl,(blk_cell (blk_alloc BK1438.out _) 3).trans rfl,(blk_cell (blk_alloc BK1438.out _) 4).trans rfl,(blk_cell (blk_alloc BK1438.out _) 5).trans rfl,(blk_cell (blk_alloc BK1438.out _) 6).trans rfl⟩ (fun hHeld => ?_)
       clear hK K
       refine norm_ (a' := ?_) ?_ ?_
       rotate_left
       ·show Act.put _ (some 32) _ = _
        simp only [Act.put,p1_,p2_,p3_,i64_w,i32_w]
        rfl
       refine zon 10 (N := some 33) HT_ (fun K hK => ?_)
       refine Kd.R_append_step k185 (w0 := w) w.heap.size (by rfl) (.tmp 24) (.tmp 32) 163 185 (.agg #[(.int .i64 0),(.int .i64 0),(.string ⟨#[]⟩)]) 32 rfl Tryd.underlying163 info185 rfl (by decide) (by omega) u1439006 x1439006_1 (⟨t1439,t1442,t1445⟩ : S185) [.int .i64 t1439,.int .i64 t1442,.string t1445] (fun _ => True) (fun _ => False) rfl rfl ?aP (fun _ hk => hk.elim) ?aF ?aO ?aB ?aS ?aL ?_
       (case aP => exact k185_mkM _ _ _ (⟨t1439,t1442,t1445⟩ : S185))
       (case aB => exact (zl_ HB))
       (case aF => exact (fun _ _ => trivial))
       (case aO => exact (zr HO_1439006))
       (case aS => exact (below_size (zl_ HB)))
       (case aL => have := LMc21.out;omega)
       intro v1449 w26 ho hb hg hat
       rw [← Ny1448.out] at ho
       replace BK1433 := am_ (blk_grown (g := gb1433) (o := .cells #[.bool false,.int .i64 0,.int .i64 0,.int .i64 0,.int .i64 0,.string ⟨#[]⟩,.slice none 0 0] 165 (0,0)) (zk BK1433) hg (Kd.R_ne HO_1439006.out BK1433.out (by decide)))
       replace BK1438 := am_ (blk_grown (g := gb1438) (o := .cells #[.bool false,.int .i64 0,.int .i64 0,.int .i64 0,.int .i64 0,.string ⟨#[]⟩,u1439006] 165 (0,0)) (zk BK1438) hg (Kd.R_ne HO_1439006.out BK1438.out (by decide)))
       replace HI1434 := am_ (IsS199.grown (zi199 HI1434) hg (IsS199.own_ne HI1434.out HO_1439006.out (by decide)))
       replace HB := am_ (hb)
       have HO1450 := am_ (ho)
       clear HO_1439006
       clear ho hb hg hat
       obtain ⟨Ao27,co27,eo27⟩ := Kd.R_slice HO1450.out
       (first | subst eo27 | (injection eo27 with f1_ f2_ f3_;have f4_ := f1_.symm;have f5_ := f3_.symm;clear f1_ f2_ f3_;subst f4_;subst f5_))
       refine hK.out _ _ ⟨(blk_cell BK1438.out 0).trans rfl,(blk_cell BK1438.out 1).trans rfl,(blk_cell BK1438.out 2).trans rfl,(blk_cell BK1438.out 3).trans rfl,(blk_cell BK1438.out 4).trans rfl,(blk_cell BK1438.out 5).trans rfl,(blk_cell BK1438.out 6).trans rfl⟩ (fun hHeld => ?_)
       clear hK K
       refine norm_ (a' := ?_) ?_ ?_
       rotate_left
       ·show Act.put _ (some 33) _ = _
        simp only [Act.put,p1_,p2_,p3_,i64_w,i32_w]
        rfl
       refine zpu 11 (N := some 34) HT_ ?_
       refine last_ (i := 12) (N := none) #[true,true,true,true,true,true,true,true,true,true,true,true,true] rfl rfl (one_of HT_.out (by kernel_rfl)) (by decide) (fun K hK => ?_)
       have hs28 : w26.cell? ⟨gb1438,6,none⟩ = some (u1439006) := (blk_cell BK1438.out 6).trans rfl
       have hfs28 := blk_frozen BK1438.out 6
       have hns28_0 := NB1433_1438.out
       have hms28_0 := NB1438_1433.out
       refine skip_ (w1 := ?_) (by rfl) rfl ?_ ?_
       rotate_left
       ·go_simp
        rfl
       refine hK.out _ _ ?_
       clear hK K
       refine done_ (done_of HT_.out (by kernel_rfl)) ?_
       try go_wp2
       go_roundg k1
       case measure => have := HK1.out;omega
       case rel => exact ⟨(wrap64 (x21_1 + 1)),(t1446),(t1447),(y1448),(.slice Ao27 y1448.length co27),(by first | rfl | (simp;done) | (simp [*];done)),H',⟨by have := HK1.out;omega⟩,⟨by (with_reducible repeat (first | apply r1_ | apply r2_ | apply r3_));exact Kd.R_mono (zrf (Kd.R_types HO1450.out BK1438.out (by decide))) (fun _ hk => trivial)⟩,⟨zq BK1433⟩,⟨zq BK1438⟩,⟨(zi199 HI1434)⟩,⟨zl_ HB⟩⟩
      ·rw [if_neg c21] at H
       exact absurd H (by simp)
     ·rw [if_neg c17] at H
      have c17b0 : decide (x21_1 < ji12) = false := decide_eq_false c17
      clear c17
      replace H := Option.bind_eq_some_iff.mp H
      obtain ⟨⟨t1451,t1452,t1453,t1454,t1455,t1456,t1457⟩,A290,H⟩ := H
      try dsimp only at H
      have A29 := am_ A290
      clear A290
      by_cases c30 : (wrap64 (t1435 - 1)) < 0
      ·rw [if_pos c30] at H
       have c30b0 : decide ((wrap64 (t1435 - 1)) < 0) = true := decide_eq_true c30
       clear c30
       simp only [Option.some.injEq,Prod.mk.injEq] at H
       obtain ⟨rfl,rfl,rfl,rfl,rfl,rfl,rfl,rfl⟩ := H
       go_wp2_with (first | ((with_reducible refine gate_callee (f := 187) rfl ?_);refine zgl (some 37) Tryd.func187 #[.pointer (some ⟨g1434,0,none⟩)] ?_;(with_reducible refine (impl_reader_request.calls k1 g1434 x1435000_1 x1435001_1 t1451 t1452 t1453 t1454 t1455 t1456 t1457 w _ ?side1 ?side2 A29.out).mono ?_);(case side1 => exact zi199 HI1434);(case side2 => exact zl_ HB);rintro e w31 ⟨rfl,hi,hb,hk⟩;refine ⟨_,rfl,?_⟩;replace HO_1439006 := am_ (Kd.R_mono (Kd.R_keep (IsS199.apart (show IsS199 w _ g1434 x1435000_1 x1435001_1 from (zi199 HI1434)) (zr HO_1439006) (by decide)) hk (fun _ h => h.2)) (fun _ h => h.1));replace BK1433 := zkb hk BK1433 NB1433_1434;replace BK1438 := zkb hk BK1438 NB1438_1434;replace HB := am_ (hb);replace HI1434 := am_ (hi);(try clear hb);(try clear hb2);(try clear hk);(try clear hi);have hnb32 := NB1438_1433.out;have hnc32 := NB1433_1438.out;have hnb33 := NB1438_1434.out;have hnc33 := NB1434_1438.out;obtain ⟨hcz34_0,hcz34_1,hcz34_2,hcz34_3,hcz34_4,hcz34_5,hcz34_6,hfz34_0,hfz34_1,hfz34_2,hfz34_3,hfz34_4,hfz34_5,hfz34_6⟩ := zc7 BK1438;have hnb35 := NB1433_1434.out;have hnc35 := NB1434_1433.out;obtain ⟨hcz36_0,hcz36_1,hcz36_2,hcz36_3,hcz36_4,hcz36_5,hcz36_6,hfz36_0,hfz36_1,hfz36_2,hfz36_3,hfz36_4,hfz36_5,hfz36_6⟩ := zc7 BK1433))
       refine bodyPost_ret (results_ct rfl _ _ gb1433 165 #[.bool false,.int .i64 0,.int .i64 0,.int .i64 0,.int .i64 0,.string ⟨#[]⟩,.slice none 0 0] (0,0) _ rfl (zq BK1433) Tryd.underlying165 rfl (by kernel_rfl)) rfl ?_
       exact ⟨_,by first | rfl | (simp [e1_,e2_] <;> rfl) | (simp only [← hji12];first | rfl | (simp [e1_,e2_] <;> rfl)) | (simp [*,e1_,e2_] <;> rfl) | (simp [e3_,e4_];done) | (simp [*,e3_,e4_];done),by first | exact Kd.R_nil _ _ _ _ _ | exact Kd.N_nil _ _ _ _ _ | exact Kd.V_nil _ _ _ _ _ | exact Kd.Q_nil _ _ _ _ _ | exact Kd.S_nil _ _ _ _ _,zl_ HB⟩
      ·rw [if_neg c30] at H
       have c30b0 : decide ((wrap64 (t1435 - 1)) < 0) = false := decide_eq_false c30
       clear c30
       replace H := Option.bind_eq_some_iff.mp H
       obtain ⟨⟨t1458,t1459,t1460⟩,A370,H⟩ := H
       try dsimp only at H
       have A37 := am_ A370
       clear A370
       by_cases c38 : t1458 = true
       ·subst c38
        have H1 : ((impl_isBatch.f k1 false t1451 t1452 t1453 t1454 t1455 x1439006_1).bind fun t1461 => (if t1461 = true then (some (false,t1451,t1452,t1453,t1454,t1455,x1439006_1,true)) else (some (false,0,0,0,0,(⟨#[]⟩ : ByteArray),([] : List (S185)),false)))) = some (r1,r2,r3,r4,r5,r6,r7,r8) := by rw [if_pos rfl] at H;exact H
        clear H
        have H := H1
        clear H1
        replace H := Option.bind_eq_some_iff.mp H
        obtain ⟨t1461,A390,H⟩ := H
        try dsimp only at H
        have A39 := am_ A390
        clear A390
        by_cases c40 : t1461 = true
        ·subst c40
         have H1 : (some (false,t1451,t1452,t1453,t1454,t1455,x1439006_1,true)) = some (r1,r2,r3,r4,r5,r6,r7,r8) := by rw [if_pos rfl] at H;exact H
         clear H
         have H := H1
         clear H1
         simp only [Option.some.injEq,Prod.mk.injEq] at H
         obtain ⟨rfl,rfl,rfl,rfl,rfl,rfl,rfl,rfl⟩ := H
         go_wp2_with (first | ((with_reducible refine gate_callee (f := 187) rfl ?_);refine zgl (some 37) Tryd.func187 #[.pointer (some ⟨g1434,0,none⟩)] ?_;(with_reducible refine (impl_reader_request.calls k1 g1434 x1435000_1 x1435001_1 t1451 t1452 t1453 t1454 t1455 t1456 t1457 w _ ?side1 ?side2 A29.out).mono ?_);(case side1 => exact zi199 HI1434);(case side2 => exact zl_ HB);rintro e w41 ⟨rfl,hi,hb,hk⟩;refine ⟨_,rfl,?_⟩;replace HO_1439006 := am_ (Kd.R_mono (Kd.R_keep (IsS199.apart (show IsS199 w _ g1434 x1435000_1 x1435001_1 from (zi199 HI1434)) (zr HO_1439006) (by decide)) hk (fun _ h => h.2)) (fun _ h => h.1));replace BK1433 := zkb hk BK1433 NB1433_1434;replace BK1438 := zkb hk BK1438 NB1438_1434;replace HB := am_ (hb);replace HI1434 := am_ (hi);(try clear hb);(try clear hb2);(try clear hk);(try clear hi);have hnb42 := NB1438_1433.out;have hnc42 := NB1433_1438.out;have hnb43 := NB1438_1434.out;have hnc43 := NB1434_1438.out;obtain ⟨hcz44_0,hcz44_1,hcz44_2,hcz44_3,hcz44_4,hcz44_5,hcz44_6,hfz44_0,hfz44_1,hfz44_2,hfz44_3,hfz44_4,hfz44_5,hfz44_6⟩ := zc7 BK1438) | (go_at_call 188;(with_reducible refine (impl_reader_done.calls g1434 t1456 t1457 true t1459 t1460 w _ ?side1 ?side2 A37.out).mono ?_);(case side1 => exact zi199 HI1434);(case side2 => exact zl_ HB);rintro e w45 ⟨rfl,hi,hb,hk⟩;replace HO_1439006 := am_ (Kd.R_mono (Kd.R_keep (IsS199.apart (show IsS199 w _ g1434 t1456 t1457 from (zi199 HI1434)) (by (with_reducible repeat (first | apply r1_ | apply r2_ | apply r3_));exact (Kd.R_mono (zrf (Kd.R_types HO_1439006.out BK1438.out (by decide))) (fun _ h_ => h_.1))) (by decide)) hk (fun _ h => h.2)) (fun _ h => h.1));replace BK1433 := am_ (KeepBut.blk hk (g' := gb1433) (o := .cells #[.bool false,.int .i64 0,.int .i64 0,.int .i64 0,.int .i64 0,.string ⟨#[]⟩,.slice none 0 0] 165 (0,0)) (zq BK1433) NB1433_1434.out (by simp));replace BK1438 := am_ (KeepBut.blk hk (g' := gb1438) (o := .cells #[.bool false,.int .i64 t1451,.int .i64 t1452,.int .i64 t1453,.int .i64 t1454,.string t1455,u1439006] 165 (0,0)) (zq BK1438) NB1438_1434.out (by simp));replace HB := am_ (hb);replace HI1434 := am_ (hi);(try clear hb);(try clear hb2);(try clear hk);(try clear hi);obtain ⟨hcz46_0,hcz46_1,hcz46_2,hcz46_3,hcz46_4,hcz46_5,hcz46_6,hfz46_0,hfz46_1,hfz46_2,hfz46_3,hfz46_4,hfz46_5,hfz46_6⟩ := zc7 BK1438;obtain ⟨Ao47,co47,eo47⟩ := Kd.R_slice HO_1439006.out;subst eo47) | (go_at_call 189;(with_reducible refine (impl_isBatch.calls k1 false t1451 t1452 t1453 t1454 t1455 _ _ x1439006_1 true _ ?side1 ?side2 A39.out).mono ?_);(case side1 => repeat (first | exact (Kd.R_reads' HO_1439006.out).2.2 | (with_reducible refine Kd.C_alloc ?_ _) | (with_reducible refine Kd.C_drewN ?_ _) | (with_reducible refine Kd.C_drew ?_)));(case side2 => exact (Kd.R_reads' HO_1439006.out).2.1);rintro e w48 ⟨rfl,hb⟩;replace HO_1439006 := zrb HO_1439006 hb;replace BK1433 := zb BK1433 hb;replace BK1438 := zb BK1438 hb;replace HI1434 := am_ (IsS199.below (zi199 HI1434) hb);replace HB := zs_ HB hb;(try clear hb);(try clear hb2);(try clear hk);(try clear hi);obtain ⟨hcz49_0,hcz49_1,hcz49_2,hcz49_3,hcz49_4,hcz49_5,hcz49_6,hfz49_0,hfz49_1,hfz49_2,hfz49_3,hfz49_4,hfz49_5,hfz49_6⟩ := zc7 BK1438;have hnb50 := NB1433_1434.out;have hnc50 := NB1434_1433.out;obtain ⟨hcz51_0,hcz51_1,hcz51_2,hcz51_3,hcz51_4,hcz51_5,hcz51_6,hfz51_0,hfz51_1,hfz51_2,hfz51_3,hfz51_4,hfz51_5,hfz51_6⟩ := zc7 BK1433))
         refine bodyPost_ret (results_ct rfl _ _ gb1433 165 #[.bool false,.int .i64 t1451,.int .i64 t1452,.int .i64 t1453,.int .i64 t1454,.string t1455,.slice Ao47 x1439006_1.length co47] (0,0) _ rfl (zq BK1433) Tryd.underlying165 rfl (by kernel_rfl)) rfl ?_
         exact ⟨_,by first | rfl | (simp [e1_,e2_] <;> rfl) | (simp only [← hji12];first | rfl | (simp [e1_,e2_] <;> rfl)) | (simp [*,e1_,e2_] <;> rfl) | (simp [e3_,e4_];done) | (simp [*,e3_,e4_];done),by (with_reducible repeat (first | apply r1_ | apply r2_ | apply r3_));exact Kd.R_mono (zrf (Kd.R_types HO_1439006.out BK1433.out (by decide))) (fun _ hk => trivial),zl_ HB⟩
        ·replace c40 := Bool.eq_false_iff.mpr c40
         subst c40
         have H1 : (some (false,0,0,0,0,(⟨#[]⟩ : ByteArray),([] : List (S185)),false)) = some (r1,r2,r3,r4,r5,r6,r7,r8) := by rw [if_neg (show ¬ (false = true) by decide)] at H;exact H
         clear H
         have H := H1
         clear H1
         simp only [Option.some.injEq,Prod.mk.injEq] at H
         obtain ⟨rfl,rfl,rfl,rfl,rfl,rfl,rfl,rfl⟩ := H
         go_wp2_with (first | ((with_reducible refine gate_callee (f := 187) rfl ?_);refine zgl (some 37) Tryd.func187 #[.pointer (some ⟨g1434,0,none⟩)] ?_;(with_reducible refine (impl_reader_request.calls k1 g1434 x1435000_1 x1435001_1 t1451 t1452 t1453 t1454 t1455 t1456 t1457 w _ ?side1 ?side2 A29.out).mono ?_);(case side1 => exact zi199 HI1434);(case side2 => exact zl_ HB);rintro e w52 ⟨rfl,hi,hb,hk⟩;refine ⟨_,rfl,?_⟩;replace HO_1439006 := am_ (Kd.R_mono (Kd.R_keep (IsS199.apart (show IsS199 w _ g1434 x1435000_1 x1435001_1 from (zi199 HI1434)) (zr HO_1439006) (by decide)) hk (fun _ h => h.2)) (fun _ h => h.1));replace BK1433 := zkb hk BK1433 NB1433_1434;replace BK1438 := zkb hk BK1438 NB1438_1434;replace HB := am_ (hb);replace HI1434 := am_ (hi);(try clear hb);(try clear hb2);(try clear hk);(try clear hi);have hnb53 := NB1438_1433.out;have hnc53 := NB1433_1438.out;have hnb54 := NB1438_1434.out;have hnc54 := NB1434_1438.out;obtain ⟨hcz55_0,hcz55_1,hcz55_2,hcz55_3,hcz55_4,hcz55_5,hcz55_6,hfz55_0,hfz55_1,hfz55_2,hfz55_3,hfz55_4,hfz55_5,hfz55_6⟩ := zc7 BK1438) | (go_at_call 188;(with_reducible refine (impl_reader_done.calls g1434 t1456 t1457 true t1459 t1460 w _ ?side1 ?side2 A37.out).mono ?_);(case side1 => exact zi199 HI1434);(case side2 => exact zl_ HB);rintro e w56 ⟨rfl,hi,hb,hk⟩;replace HO_1439006 := am_ (Kd.R_mono (Kd.R_keep (IsS199.apart (show IsS199 w _ g1434 t1456 t1457 from (zi199 HI1434)) (by (with_reducible repeat (first | apply r1_ | apply r2_ | apply r3_));exact (Kd.R_mono (zrf (Kd.R_types HO_1439006.out BK1438.out (by decide))) (fun _ h_ => h_.1))) (by decide)) hk (fun _ h => h.2)) (fun _ h => h.1));replace BK1433 := am_ (KeepBut.blk hk (g' := gb1433) (o := .cells #[.bool false,.int .i64 0,.int .i64 0,.int .i64 0,.int .i64 0,.string ⟨#[]⟩,.slice none 0 0] 165 (0,0)) (zq BK1433) NB1433_1434.out (by simp));replace BK1438 := am_ (KeepBut.blk hk (g' := gb1438) (o := .cells #[.bool false,.int .i64 t1451,.int .i64 t1452,.int .i64 t1453,.int .i64 t1454,.string t1455,u1439006] 165 (0,0)) (zq BK1438) NB1438_1434.out (by simp));replace HB := am_ (hb);replace HI1434 := am_ (hi);(try clear hb);(try clear hb2);(try clear hk);(try clear hi);obtain ⟨hcz57_0,hcz57_1,hcz57_2,hcz57_3,hcz57_4,hcz57_5,hcz57_6,hfz57_0,hfz57_1,hfz57_2,hfz57_3,hfz57_4,hfz57_5,hfz57_6⟩ := zc7 BK1438;obtain ⟨Ao58,co58,eo58⟩ := Kd.R_slice HO_1439006.out;subst eo58) | (go_at_call 189;(with_reducible refine (impl_isBatch.calls k1 false t1451 t1452 t1453 t1454 t1455 _ _ x1439006_1 false _ ?side1 ?side2 A39.out).mono ?_);(case side1 => repeat (first | exact (Kd.R_reads' HO_1439006.out).2.2 | (with_reducible refine Kd.C_alloc ?_ _) | (with_reducible refine Kd.C_drewN ?_ _) | (with_reducible refine Kd.C_drew ?_)));(case side2 => exact (Kd.R_reads' HO_1439006.out).2.1);rintro e w59 ⟨rfl,hb⟩;replace BK1433 := zb BK1433 hb;replace HI1434 := am_ (IsS199.below (zi199 HI1434) hb);replace HB := zs_ HB hb;(try clear hb);(try clear hb2);(try clear hk);(try clear hi);have hnb60 := NB1433_1434.out;have hnc60 := NB1434_1433.out;obtain ⟨hcz61_0,hcz61_1,hcz61_2,hcz61_3,hcz61_4,hcz61_5,hcz61_6,hfz61_0,hfz61_1,hfz61_2,hfz61_3,hfz61_4,hfz61_5,hfz61_6⟩ := zc7 BK1433))
         refine bodyPost_ret (results_ct rfl _ _ gb1433 165 #[.bool false,.int .i64 0,.int .i64 0,.int .i64 0,.int .i64 0,.string ⟨#[]⟩,.slice none 0 0] (0,0) _ rfl (zq BK1433) Tryd.underlying165 rfl (by kernel_rfl)) rfl ?_
         exact ⟨_,by first | rfl | (simp [e1_,e2_] <;> rfl) | (simp only [← hji12];first | rfl | (simp [e1_,e2_] <;> rfl)) | (simp [*,e1_,e2_] <;> rfl) | (simp [e3_,e4_];done) | (simp [*,e3_,e4_];done),by first | exact Kd.R_nil _ _ _ _ _ | exact Kd.N_nil _ _ _ _ _ | exact Kd.V_nil _ _ _ _ _ | exact Kd.Q_nil _ _ _ _ _ | exact Kd.S_nil _ _ _ _ _,zl_ HB⟩
       ·replace c38 := Bool.eq_false_iff.mpr c38
        subst c38
        have H1 : (some (false,0,0,0,0,(⟨#[]⟩ : ByteArray),([] : List (S185)),false)) = some (r1,r2,r3,r4,r5,r6,r7,r8) := by rw [if_neg (show ¬ (false = true) by decide)] at H;exact H
        clear H
        have H := H1
        clear H1
        simp only [Option.some.injEq,Prod.mk.injEq] at H
        obtain ⟨rfl,rfl,rfl,rfl,rfl,rfl,rfl,rfl⟩ := H
        go_wp2_with (first | ((with_reducible refine gate_callee (f := 187) rfl ?_);refine zgl (some 37) Tryd.func187 #[.pointer (some ⟨g1434,0,none⟩)] ?_;(with_reducible refine (impl_reader_request.calls k1 g1434 x1435000_1 x1435001_1 t1451 t1452 t1453 t1454 t1455 t1456 t1457 w _ ?side1 ?side2 A29.out).mono ?_);(case side1 => exact zi199 HI1434);(case side2 => exact zl_ HB);rintro e w62 ⟨rfl,hi,hb,hk⟩;refine ⟨_,rfl,?_⟩;replace BK1433 := zkb hk BK1433 NB1433_1434;replace BK1438 := zkb hk BK1438 NB1438_1434;replace HB := am_ (hb);replace HI1434 := am_ (hi);(try clear hb);(try clear hb2);(try clear hk);(try clear hi);have hnb63 := NB1438_1433.out;have hnc63 := NB1433_1438.out;have hnb64 := NB1438_1434.out;have hnc64 := NB1434_1438.out;obtain ⟨hcz65_0,hcz65_1,hcz65_2,hcz65_3,hcz65_4,hcz65_5,hcz65_6,hfz65_0,hfz65_1,hfz65_2,hfz65_3,hfz65_4,hfz65_5,hfz65_6⟩ := zc7 BK1438) | (go_at_call 188;(with_reducible refine (impl_reader_done.calls g1434 t1456 t1457 false t1459 t1460 w _ ?side1 ?side2 A37.out).mono ?_);(case side1 => exact zi199 HI1434);(case side2 => exact zl_ HB);rintro e w66 ⟨rfl,hi,hb,hk⟩;replace BK1433 := am_ (KeepBut.blk hk (g' := gb1433) (o := .cells #[.bool false,.int .i64 0,.int .i64 0,.int .i64 0,.int .i64 0,.string ⟨#[]⟩,.slice none 0 0] 165 (0,0)) (zq BK1433) NB1433_1434.out (by simp));replace HB := am_ (hb);replace HI1434 := am_ (hi);(try clear hb);(try clear hb2);(try clear hk);(try clear hi);have hnb67 := NB1433_1434.out;have hnc67 := NB1434_1433.out;obtain ⟨hcz68_0,hcz68_1,hcz68_2,hcz68_3,hcz68_4,hcz68_5,hcz68_6,hfz68_0,hfz68_1,hfz68_2,hfz68_3,hfz68_4,hfz68_5,hfz68_6⟩ := zc7 BK1433))
        refine bodyPost_ret (results_ct rfl _ _ gb1433 165 #[.bool false,.int .i64 0,.int .i64 0,.int .i64 0,.int .i64 0,.string ⟨#[]⟩,.slice none 0 0] (0,0) _ rfl (zq BK1433) Tryd.underlying165 rfl (by kernel_rfl)) rfl ?_
        exact ⟨_,by first | rfl | (simp [e1_,e2_] <;> rfl) | (simp only [← hji12];first | rfl | (simp [e1_,e2_] <;> rfl)) | (simp [*,e1_,e2_] <;> rfl) | (simp [e3_,e4_];done) | (simp [*,e3_,e4_];done),by first | exact Kd.R_nil _ _ _ _ _ | exact Kd.N_nil _ _ _ _ _ | exact Kd.V_nil _ _ _ _ _ | exact Kd.Q_nil _ _ _ _ _ | exact Kd.S_nil _ _ _ _ _,zl_ HB⟩
set_option maxHeartbeats 8000000 in
set_option maxRecDepth 100000 in
theorem cmp_isNaN_int.calls (a0 : Int) (r : Bool) (w : World) (h : cmp_isNaN_int.f a0 = some r) :
  Calls Tryd.prog 232 #[.int .i64 a0] w fun e w' => e = .returned (.bool r) ∧ Drawn0 w w' := by
 have H : (some (a0 != a0)) = some r := h
 clear h
 obtain rfl := Option.some.inj H
 go_enter Tryd.func232,Tryd.ntmps232
 go_wp2
 go_ret
 exact ⟨by first | rfl | (simp;done) | (simp [*];done),by repeat (first | exact Drawn0.refl _ | apply Drawn0.step)⟩
set_option maxHeartbeats 8000000 in
set_option maxRecDepth 100000 in
theorem cmp_Less_int.calls (a0 : Int) (a1 : Int) (r : Bool) (w : World) (h : cmp_Less_int.f a0 a1 = some r) :
  Calls Tryd.prog 223 #[.int .i64 a0,.int .i64 a1] w fun e w' => e = .returned (.bool r) ∧ Drawn0 w w' := by
 have H : ((cmp_isNaN_int.f a0).bind fun t1464 => (if t1464 = true then ((cmp_isNaN_int.f a1).bind fun t1465 => (if t1465 = true then (some (decide (a0 < a1))) else (some true))) else (some (decide (a0 < a1))))) = some r := h
 clear h
 replace H := Option.bind_eq_some_iff.mp H
 obtain ⟨t1464,A30,H⟩ := H
 try dsimp only at H
 have A3 := am_ A30
 clear A30
 by_cases c4 : t1464 = true
 ·subst c4
  have H1 : ((cmp_isNaN_int.f a1).bind fun t1465 => (if t1465 = true then (some (decide (a0 < a1))) else (some true))) = some r := by rw [if_pos rfl] at H;exact H
  clear H
  have H := H1
  clear H1
  replace H := Option.bind_eq_some_iff.mp H
  obtain ⟨t1465,A50,H⟩ := H
  try dsimp only at H
  have A5 := am_ A50
  clear A50
  by_cases c6 : t1465 = true
  ·subst c6
   have H1 : (some (decide (a0 < a1))) = some r := by rw [if_pos rfl] at H;exact H
   clear H
   have H := H1
   clear H1
   obtain rfl := Option.some.inj H
   go_enter Tryd.func223,Tryd.ntmps223
   go_wp2_with (first | ((with_reducible refine gate_callee (f := 232) rfl ?_);refine zgl (some 6) Tryd.func232 #[.int .i64 a0] ?_;(with_reducible refine (cmp_isNaN_int.calls a0 true _ A3.out).mono ?_);rintro e w' ⟨rfl,⟨nd,rfl⟩⟩;refine ⟨_,rfl,?_⟩) | (go_at_call 232;(with_reducible refine (cmp_isNaN_int.calls a1 true _ A5.out).mono ?_);rintro e w' ⟨rfl,⟨nd,rfl⟩⟩))
   go_ret
   exact ⟨by first | rfl | (simp;done) | (simp [*];done),by repeat (first | exact Drawn0.refl _ | apply Drawn0.step)⟩
  ·replace c6 := Bool.eq_false_iff.mpr c6
   subst c6
   have H1 : (some true) = some r := by rw [if_neg (show ¬ (false = true) by decide)] at H;exact H
   clear H
   have H := H1
   clear H1
   obtain rfl := Option.some.inj H
   go_enter Tryd.func223,Tryd.ntmps223
   go_wp2_with (first | ((with_reducible refine gate_callee (f := 232) rfl ?_);refine zgl (some 6) Tryd.func232 #[.int .i64 a0] ?_;(with_reducible refine (cmp_isNaN_int.calls a0 true _ A3.out).mono ?_);rintro e w' ⟨rfl,⟨nd,rfl⟩⟩;refine ⟨_,rfl,?_⟩) | (go_at_call 232;(with_reducible refine (cmp_isNaN_int.calls a1 false _ A5.out).mono ?_);rintro e w' ⟨rfl,⟨nd,rfl⟩⟩))
   go_ret
   exact ⟨by first | rfl | (simp;done) | (simp [*];done),by repeat (first | exact Drawn0.refl _ | apply Drawn0.step)⟩
 ·replace c4 := Bool.eq_false_iff.mpr c4
  subst c4
  have H1 : (some (decide (a0 < a1))) = some r := by rw [if_neg (show ¬ (false = true) by decide)] at H;exact H
  clear H
  have H := H1
  clear H1
  obtain rfl := Option.some.inj H
  go_enter Tryd.func223,Tryd.ntmps223
  go_wp2_with (first | ((with_reducible refine gate_callee (f := 232) rfl ?_);refine zgl (some 6) Tryd.func232 #[.int .i64 a0] ?_;(with_reducible refine (cmp_isNaN_int.calls a0 false _ A3.out).mono ?_);rintro e w' ⟨rfl,⟨nd,rfl⟩⟩;refine ⟨_,rfl,?_⟩))
  go_ret
  exact ⟨by first | rfl | (simp;done) | (simp [*];done),by repeat (first | exact Drawn0.refl _ | apply Drawn0.step)⟩
def slices_insertionSortOrdered_int.T4 : Bool × List (List Nat × List Nat) := (true,[([],[]),([],[]),([0,1],[0,1]),([2],[2]),([3],[3]),([3],[3]),([4,5,3],[3,4,5]),([6,3],[3,6]),([3],[3]),([3],[3]),([9,3],[3,9]),([8,10,3],[3,8,10]),([11,3],[3,11]),([7,12,3,3],[3,7,12]),([3,13],[3,13])])
def slices_insertionSortOrdered_int.B4 : List Nat := [0,0,3,7,15,15,63,127,15,15,527,1807,3855,8191,16383]
theorem slices_insertionSortOrdered_int.tab4 : rtab .any (opsOf Tryd.f217 4) = slices_insertionSortOrdered_int.T4 := by kernel_rfl
theorem slices_insertionSortOrdered_int.bits4 : waitsOk slices_insertionSortOrdered_int.T4.2 slices_insertionSortOrdered_int.B4 = true := by kernel_rfl
def slices_insertionSortOrdered_int.T6 : Bool × List (List Nat × List Nat) := (true,[([],[]),([],[]),([],[]),([],[]),([3],[3]),([],[]),([],[]),([6],[6]),([5,7],[5,7]),([8],[8]),([],[]),([],[]),([10,11],[10,11]),([12],[12]),([0,1,0,1,5,6,7,8,9,13],[0,1]),([14,9,0,1,5,6,7,8,9,13],[9,14]),([2,4,0,1,2,3,4,5,6,7,8,9,10,11,12,13,14,15],[2,4]),([16,13,15,0,1,2,3,4,5,6,7,8,9,10,11,12,13,14,15],[13,16])])
def slices_insertionSortOrdered_int.B6 : List Nat := [0,0,0,0,8,0,0,64,224,480,0,0,3072,7168,16355,32739,65535,131071]
theorem slices_insertionSortOrdered_int.tab6 : rtab .any (opsOf Tryd.f217 6) = slices_insertionSortOrdered_int.T6 := by kernel_rfl
theorem slices_insertionSortOrdered_int.bits6 : waitsOk slices_insertionSortOrdered_int.T6.2 slices_insertionSortOrdered_int.B6 = true := by kernel_rfl
set_option maxHeartbeats 8000000 in
set_option maxRecDepth 100000 in
theorem slices_insertionSortOrdered_int.calls (k : Nat) (P0_ : Nat → Prop) (u9000_ : Value) (l0 : List Int) (a1 : Int) (a2 : Int) (r : List Int) (w0 w : World) (hB : Below w0.heap.size w0 w) (ho0 : Kd.R (Kd.int .i64) 3 w w0.heap.size P0_ u9000_ l0) (h : slices_insertionSortOrdered_int.f k l0 a1 a2 = some r) :
  Calls Tryd.prog 217 #[u9000_,.int .i64 a1,.int .i64 a2] w fun e w' => e = .returned (.tuple #[]) ∧ Kd.R (Kd.int .i64) 3 w' w0.heap.size (fun k_ => (P0_ k_ ∨ w.heap.size ≤ k_)) u9000_ r ∧ Below w0.heap.size w0 w' ∧ Kept w w' (fun k_ => P0_ k_) := by
 have HO0 := am_ (show Kd.R (Kd.int .i64) 3 w w0.heap.size (fun k_ => (P0_ k_ ∨ w.heap.size ≤ k_)) u9000_ l0 from Kd.R_mono ho0 (fun k_ hk => (.inl hk)))
 have HK := am_ (Kept.refl w (fun k_ => P0_ k_))
 have HW0 := am_ hB.size
 have HB := am_ hB
 clear hB
 have H : (slices_insertionSortOrdered_int.l0 k l0 a1 a2 (wrap64 (a1 + 1))) = some r := h
 clear h
 have H' := am_ H
 clear H
 go_enter Tryd.func217,Tryd.ntmps217
 go_wp2
 go_loopg [6] k (fun kq v6 w' => ∃ (x0_1 : List Int) (x6_1 : Int),v6 = .int .i64 x6_1 ∧ Aside0 (slices_insertionSortOrdered_int.l0 kq x0_1 a1 a2 x6_1 = some r) ∧ Aside0 (kq ≤ k) ∧ Aside0 (Kd.R (Kd.int .i64) 3 w' w0.heap.size (fun k_ => (P0_ k_ ∨ w.heap.size ≤ k_)) u9000_ x0_1) ∧ Aside0 (Kept w w' (fun k_ => P0_ k_)) ∧ Aside0 (Below w0.heap.size w0 w'))
 case atStart => exact ⟨(l0),(wrap64 (a1 + 1)),(by first | rfl | (simp;done) | (simp [*];done)),H',⟨Nat.le_refl _⟩,⟨zr HO0⟩,⟨by repeat (first | (with_reducible first | exact HK.out | apply Kept.alloc | apply Kept.drewN | apply Kept.drew) | exact HK.out)⟩,⟨zl_ HB⟩⟩
 case round =>
  clear H'
  try clear c2
  try clear p2
  obtain ⟨x0_1,x6_1,rfl,HA,HK1,HO_0,HK,HB⟩ := hrel
  cases gk with
  | zero => exact absurd HA.out (by simp [slices_insertionSortOrdered_int.l0])
  | succ k1 =>
   have H := HA.out
   clear HA
   simp only [slices_insertionSortOrdered_int.l0] at H
   by_cases c4 : x6_1 < a2
   ·rw [if_pos c4] at H
    have c4b0 : decide (x6_1 < a2) = true := decide_eq_true c4
    clear c4
    have H' := am_ H
    clear H
    go_wp2
    go_loopg [7] k1 (fun kq v7 w' => ∃ (x0_2 : List Int) (x7_2 : Int),v7 = .int .i64 x7_2 ∧ Aside0 (slices_insertionSortOrdered_int.l1 kq x0_2 a1 a2 x6_1 x7_2 = some r) ∧ Aside0 (kq ≤ k1) ∧ Aside0 (Kd.R (Kd.int .i64) 3 w' w0.heap.size (fun k_ => (P0_ k_ ∨ w.heap.size ≤ k_)) u9000_ x0_2) ∧ Aside0 (Kept w w' (fun k_ => P0_ k_)) ∧ Aside0 (Below w0.heap.size w0 w'))
    case atStart => exact ⟨(x0_1),(x6_1),(by first | rfl | (simp;done) | (simp [*];done)),H',⟨Nat.le_refl _⟩,⟨zr HO_0⟩,⟨by repeat (first | (with_reducible first | exact HK.out | apply Kept.alloc | apply Kept.drewN | apply Kept.drew) | exact HK.out)⟩,⟨zl_ HB⟩⟩
    case round =>
     clear H'
     try clear c2
     try clear p2
     try clear c4
     try clear c4b0
     try clear p2
     obtain ⟨x0_2,x7_2,rfl,HA,HK2,HO_0,HK,HB⟩ := hrel
     cases gk with
     | zero => exact absurd HA.out (by simp [slices_insertionSortOrdered_int.l1])
     | succ k2 =>
      have H := HA.out
      clear HA
      simp only [slices_insertionSortOrdered_int.l1] at H
      by_cases c5 : x7_2 > a1
      ·rw [if_pos c5] at H
       have c5b0 : decide (a1 < x7_2) = true := decide_eq_true c5
       clear c5
       by_cases c6 : 0 ≤ x7_2
       ·rw [if_pos c6] at H
        have c6b0 : decide (0 ≤ x7_2) = true := decide_eq_true c6
        clear c6
        by_cases c7 : x7_2 < (x0_2.length : Int)
        ·rw [if_pos c7] at H
         have c7b0 : decide (x7_2 < (x0_2.length : Int)) = true := decide_eq_true c7
         clear c7
         obtain ⟨ji8,hji8⟩ : ∃ j_ : Int,(wrap64 (x7_2 - 1)) = j_ := ⟨_,rfl⟩
         replace H : (if 0 ≤ (ji8) then (if (ji8) < (x0_2.length : Int) then ((cmp_Less_int.f (rd x0_2 x7_2) (rd x0_2 (ji8))).bind fun t1468 => (if t1468 = true then (slices_insertionSortOrdered_int.l1 k2 ((x0_2.set (x7_2 : Int).toNat (rd x0_2 (ji8))).set ((ji8) : Int).toNat (rd x0_2 x7_2)) a1 a2 x6_1 ji8) else (slices_insertionSortOrdered_int.l0 k2 x0_2 a1 a2 (wrap64 (x6_1 + 1))))) else (none)) else (none)) = some r := by first | (rw [hji8] at H;exact H) | (simp only [hji8] at H ⊢;exact H)
         have hji8w : (IntKind.i64.wrap (x7_2 - 1)) = ji8 := (i64_w _).trans hji8
         by_cases c9 : 0 ≤ (ji8)
         ·rw [if_pos c9] at H
          have c9b0 : decide (0 ≤ (ji8)) = true := decide_eq_true c9
          clear c9
          by_cases c10 : (ji8) < (x0_2.length : Int)
          ·rw [if_pos c10] at H
           have c10b0 : decide ((ji8) < (x0_2.length : Int)) = true := decide_eq_true c10
           clear c10
           replace H := Option.bind_eq_some_iff.mp H
           obtain ⟨t1468,A110,H⟩ := H
           try dsimp only at H
           have A11 := am_ A110
           clear A110
           by_cases c12 : t1468 = true
           ·subst c12
            have H1 : (slices_insertionSortOrdered_int.l1 k2 ((x0_2.set (x7_2 : Int).toNat (rd x0_2 (ji8))).set ((ji8) : Int).toNat (rd x0_2 x7_2)) a1 a2 x6_1 ji8) = some r := by rw [if_pos rfl] at H;exact H
            clear H
            have H := H1
            clear H1
            obtain ⟨y1471,hy1471⟩ : ∃ y_ : List Int,y_ = (x0_2.set (x7_2 : Int).toNat (rd x0_2 (ji8))) := ⟨_,rfl⟩
            replace H : (slices_insertionSortOrdered_int.l1 k2 (y1471.set ((ji8) : Int).toNat (rd x0_2 x7_2)) a1 a2 x6_1 ji8) = some r := by first | (rw [hy1471];with_reducible exact H) | (have H2_ := (Option.bind_some _ _).symm.trans H;rw [hy1471];with_reducible exact H2_) | (have H2_ := (Option.bind_some _ _).symm.trans H;with_reducible exact H2_) | with_reducible exact H | (rw [hy1471];exact H) | exact H
            have Ny1471 := am_ hy1471
            clear hy1471
            obtain ⟨y1472,hy1472⟩ : ∃ y_ : List Int,y_ = (y1471.set ((ji8) : Int).toNat (rd x0_2 x7_2)) := ⟨_,rfl⟩
            replace H : (slices_insertionSortOrdered_int.l1 k2 y1472 a1 a2 x6_1 ji8) = some r := by first | (rw [hy1472];with_reducible exact H) | (have H2_ := (Option.bind_some _ _).symm.trans H;rw [hy1472];with_reducible exact H2_) | (have H2_ := (Option.bind_some _ _).symm.trans H;with_reducible exact H2_) | with_reducible exact H | (rw [hy1472];exact H) | exact H
            have Ny1472 := am_ hy1472
            clear hy1472
            have H' := am_ H
            clear H
            try go_wp2
            replace HO_0 := am_ (Kd.R_drew HO_0.out)
            replace HK := am_ (Kept.drew HK.out)
            replace HB := am_ (below_drew1 HB.out)
            obtain ⟨Ao16,co16,eo16⟩ := Kd.R_slice HO_0.out
            (first | subst eo16 | (injection eo16 with f1_ f2_ f3_;have f4_ := f1_.symm;have f5_ := f3_.symm;clear f1_ f2_ f3_;subst f4_;subst f5_))
            have p1466 : 0 ≤ (x7_2 : Int) := zo_
            have q1466 : x7_2 < (x0_2.length : Int) := zo_
            obtain ⟨ad1466,e1466,hx1466_0⟩ := Kd.at_int (Kd.R_reads' HO_0.out).2.2 x7_2 p1466 q1466
            cases e1466
            replace p1466 := eq_true p1466
            replace q1466 := eq_true q1466
            have p1467 : 0 ≤ ((ji8) : Int) := zo_
            have q1467 : (ji8) < (x0_2.length : Int) := zo_
            obtain ⟨ad1467,e1467,hx1467_0⟩ := Kd.at_int (Kd.R_reads' HO_0.out).2.2 (ji8) p1467 q1467
            obtain rfl : ad1466 = ad1467 := (by injection e1467)
            replace p1467 := eq_true p1467
            replace q1467 := eq_true q1467
            refine start_ (n := 15) (S := fun w' => w'.cell? (ad1466.add (x7_2).toNat) = some (.int .i64 (rd x0_2 x7_2)) ∧ w'.cell? (ad1466.add ((ji8)).toNat) = some (.int .i64 (rd x0_2 (ji8)))) (ds := []) #[false,false,false,false,false,false,false,false,false,false,false,false,false,false,false] (by kernel_rfl) rfl rfl ⟨hx1466_0,hx1467_0⟩ (fun hHeld => ?_);refine with_tabW slices_insertionSortOrdered_int.tab4 slices_insertionSortOrdered_int.bits4 (fun HT_ HW_ => ?_)
            generalize wr.drew = w15 at HO_0 HK HB hx1466_0 hx1467_0 hHeld ⊢
            refine zpu 0 (N := some 16) HT_ ?_
            refine zpu 1 (N := some 17) HT_ ?_
            refine zpu 2 (N := some 18) HT_ ?_
            refine zpu 3 (N := some 19) HT_ ?_
            refine zpu 4 (N := some 20) HT_ ?_
            refine zpu 5 (N := some 21) HT_ ?_
            refine zpu 6 (N := some 22) HT_ ?_
            refine zpu 8 (N := some 24) HT_ ?_
            refine zpu 9 (N := some 25) HT_ ?_
            refine zpu 10 (N := some 26) HT_ ?_
            refine zpu 11 (N := some 27) HT_ ?_
            refine ztk 7 (N := some 23) HT_ HW_ hHeld ?_
            refine ztk 12 (N := some 28) HT_ HW_ hHeld ?_
            refine zon 13 (N := some 29) HT_ (fun K hK => ?_)
            refine goes_ Tryd.func223 (by kernel_rfl) rfl #[.int .i64 (rd x0_2 x7_2),.int .i64 (rd x0_2 (ji8))] (by rfl) rfl rfl (by (try simp only [m1_,m2_,m3_]);first | done | (simp only [hji8];rfl) | rfl | (simp only [d1_,d2_];rfl)) ?_
            with_reducible refine (cmp_Less_int.calls (rd x0_2 x7_2) (rd x0_2 (ji8)) true _ A11.out).mono ?_
            rintro e w' ⟨rfl,⟨nd,rfl⟩⟩
            refine ⟨_,rfl,?_⟩
            refine hK.out _ _ ⟨hHeld.1,hHeld.2⟩ (fun hHeld => ?_)
            clear hK K
            refine norm_ (a' := ?_) ?_ ?_
            rotate_left
            ·show Act.put _ (some 29) _ = _
             simp only [Act.put,p1_,p2_,p3_,i64_w,i32_w]
             rfl
            refine zpu 14 (N := some 30) HT_ ?_
            refine done_ (done_of HT_.out (by kernel_rfl)) ?_
            try go_wp2
            (try (rw [drewN_self w15];generalize hq_ : World.drewN w15 _ = w15;have n0_ : Aside0 (Kd.R (Kd.int .i64) 3 w15 w0.heap.size (fun k_ => (P0_ k_ ∨ w.heap.size ≤ k_)) (.slice (some ad1466) x0_2.length co16) x0_2) := ⟨by rw [← hq_];exact (zr HO_0)⟩;have n1_ : Aside0 (Kept w w15 (fun k_ => P0_ k_)) := ⟨by rw [← hq_];exact (by repeat (first | (with_reducible first | exact HK.out | apply Kept.alloc | apply Kept.drewN | apply Kept.drew) | exact HK.out))⟩;have n2_ : Aside0 (Below w0.heap.size w0 w15) := ⟨by rw [← hq_];exact (zl_ HB)⟩;clear HO_0 HK HB hq_;have HO_0 := n0_;have HK := n1_;have HB := n2_;clear n0_ n1_ n2_))
            replace HO_0 := am_ (Kd.R_drew HO_0.out)
            replace HK := am_ (Kept.drew HK.out)
            replace HB := am_ (below_drew1 HB.out)
            have p1469 : 0 ≤ ((ji8) : Int) := zo_
            have q1469 : (ji8) < (x0_2.length : Int) := zo_
            obtain ⟨ad1469,e1469,hx1469_0⟩ := Kd.at_int (Kd.R_reads' HO_0.out).2.2 (ji8) p1469 q1469
            obtain rfl : ad1466 = ad1469 := (by injection e1469)
            replace p1469 := eq_true p1469
            replace q1469 := eq_true q1469
            have p1470 : 0 ≤ (x7_2 : Int) := zo_
            have q1470 : x7_2 < (x0_2.length : Int) := zo_
            obtain ⟨ad1470,e1470,hx1470_0⟩ := Kd.at_int (Kd.R_reads' HO_0.out).2.2 x7_2 p1470 q1470
            obtain rfl : ad1466 = ad1470 := (by injection e1470)
            replace p1470 := eq_true p1470
            replace q1470 := eq_true q1470
            have p13 : 0 ≤ (x7_2 : Int) := zo_
            have q13 : (x7_2 : Int) < ((x0_2.length : Int) : Int) := zo_
            obtain ⟨go13,co13,eo13,gb13,gl13,cl13,HG13⟩ := Kd.R_form HO_0.out (by omega)
            (first | cases eo13 | (injection eo13 with ea_ en_ ec_;(first | subst ea_ | (injection ea_ with ea_;subst ea_));subst ec_;clear en_))
            have GB13 := am_ gb13
            have GG13 := am_ HG13
            clear gb13 gl13 HG13
            have HMgo13 := am_ (show (P0_ go13 ∨ w.heap.size ≤ go13) from (HO_0.out.1 _ rfl))
            (first | simp only [add_plain] at hx1466_0 | skip)
            (first | simp only [add_plain] at hx1467_0 | skip)
            (first | simp only [add_plain] at hx1469_0 | skip)
            (first | simp only [add_plain] at hx1470_0 | skip)
            obtain ⟨hx13_0,hf13_0⟩ := Kd.R_celln 0 HO_0.out (x7_2 : Int) p13 q13
            replace p13 := eq_true p13
            replace q13 := eq_true q13
            have HP18 := Kd.R_putn HO_0.out (x7_2 : Int) (rd x0_2 (ji8))
            rw [← Ny1471.out] at HP18
            have HQ18 := am_ HP18
            clear HP18
            have p14 : 0 ≤ ((ji8) : Int) := zo_
            have q14 : ((ji8) : Int) < ((x0_2.length : Int) : Int) := zo_
            obtain ⟨hx14_0,hf14_0⟩ := Kd.R_celln 0 HQ18.out ((ji8) : Int) p14 q14
            replace p14 := eq_true p14
            replace q14 := eq_true q14
            have HP19 := Kd.R_putn HQ18.out ((ji8) : Int) (rd x0_2 x7_2)
            rw [← Ny1472.out] at HP19
            have HQ19 := am_ HP19
            clear HP19
            refine start_ (n := 18) (S := fun w' => w'.cell? ⟨go13,((ji8)).toNat,none⟩ = some (.int .i64 (rd x0_2 (ji8))) ∧ w'.cell? ⟨go13,(x7_2).toNat,none⟩ = some (.int .i64 (rd x0_2 x7_2))) (ds := [15,17]) #[false,false,false,false,false,false,false,false,false,false,false,false,false,false,false,false,false,false] (by kernel_rfl) rfl rfl ⟨hx1469_0,hx1470_0⟩ (fun hHeld => ?_);refine with_tabW slices_insertionSortOrdered_int.tab6 slices_insertionSortOrdered_int.bits6 (fun HT_ HW_ => ?_)
            generalize w15.drew = w17 at HO_0 HK HB GG13 HQ18 HQ19 hf13_0 hf14_0 hx13_0 hx1466_0 hx1467_0 hx1469_0 hx1470_0 hx14_0 hHeld ⊢
            refine zpu 0 (N := some 33) HT_ ?_
            refine zpu 1 (N := some 34) HT_ ?_
            refine zpu 2 (N := some 35) HT_ ?_
            refine zpu 3 (N := some 36) HT_ ?_
            refine zpu 4 (N := some 37) HT_ ?_
            refine zpu 5 (N := some 38) HT_ ?_
            refine zpu 6 (N := some 39) HT_ ?_
            refine zpu 7 (N := some 40) HT_ ?_
            refine zpu 8 (N := some 41) HT_ ?_
            refine zpu 10 (N := some 43) HT_ ?_
            refine zpu 11 (N := some 44) HT_ ?_
            refine zpu 12 (N := some 45) HT_ ?_
            refine ztk 9 (N := some 42) HT_ HW_ hHeld ?_
            refine ztk 13 (N := some 46) HT_ HW_ hHeld ?_
            refine zpu 14 (N := some 47) HT_ ?_
            refine last_ (i := 15) (N := none) #[true,true,true,true,true,true,true,true,true,true,true,true,true,true,true,true,false,false] rfl rfl (one_of HT_.out (by kernel_rfl)) (by decide) (fun K hK => ?_)
            refine skip_ (w1 := ?_) (by rfl) rfl ?_ ?_
            rotate_left
            ·go_simp
             rfl
            refine hK.out _ _ ?_
            clear hK K
            refine zpu 16 (N := some 48) HT_ ?_
            refine last_ (i := 17) (N := none) #[true,true,true,true,true,true,true,true,true,true,true,true,true,true,true,true,true,true] rfl rfl (one_of HT_.out (by kernel_rfl)) (by decide) (fun K hK => ?_)
            refine skip_ (w1 := ?_) (by rfl) rfl ?_ ?_
            rotate_left
            ·go_simp
             rfl
            refine hK.out _ _ ?_
            clear hK K
            refine done_ (done_of HT_.out (by kernel_rfl)) ?_
            try go_wp2
            go_roundg k2
            case measure => have := HK1.out;have := HK2.out;omega
            case rel => exact ⟨(y1472),(ji8),(by first | rfl | (simp;done) | (simp only [← hji8] <;> (first | rfl | simp)) | (simp [*];done)),H',⟨by have := HK1.out;have := HK2.out;omega⟩,⟨by (with_reducible repeat (first | apply r1_ | apply r2_ | apply r3_));exact HQ19.out⟩,⟨by repeat (first | (with_reducible first | exact HK.out | apply Kept.alloc | apply Kept.drewN | apply Kept.drew | refine Kept.setCell ?_ HMgo13.out _ | refine Kept.setCell ?_ HMgo13.out _) | exact HK.out)⟩,⟨by repeat (first | (with_reducible first | exact HB.out | apply b1_ | apply b2_ | apply b3_ | refine below_set ?_ GB13.out | refine below_set ?_ GB13.out) | exact HB.out)⟩⟩
           ·replace c12 := Bool.eq_false_iff.mpr c12
            subst c12
            have H1 : (slices_insertionSortOrdered_int.l0 k2 x0_2 a1 a2 (wrap64 (x6_1 + 1))) = some r := by rw [if_neg (show ¬ (false = true) by decide)] at H;exact H
            clear H
            have H := H1
            clear H1
            have H' := am_ H
            clear H
            try go_wp2
            replace HO_0 := am_ (Kd.R_drew HO_0.out)
            replace HK := am_ (Kept.drew HK.out)
            replace HB := am_ (below_drew1 HB.out)
            obtain ⟨Ao21,co21,eo21⟩ := Kd.R_slice HO_0.out
            (first | subst eo21 | (injection eo21 with f1_ f2_ f3_;have f4_ := f1_.symm;have f5_ := f3_.symm;clear f1_ f2_ f3_;subst f4_;subst f5_))
            have p1466 : 0 ≤ (x7_2 : Int) := zo_
            have q1466 : x7_2 < (x0_2.length : Int) := zo_
            obtain ⟨ad1466,e1466,hx1466_0⟩ := Kd.at_int (Kd.R_reads' HO_0.out).2.2 x7_2 p1466 q1466
            cases e1466
            replace p1466 := eq_true p1466
            replace q1466 := eq_true q1466
            have p1467 : 0 ≤ ((ji8) : Int) := zo_
            have q1467 : (ji8) < (x0_2.length : Int) := zo_
            obtain ⟨ad1467,e1467,hx1467_0⟩ := Kd.at_int (Kd.R_reads' HO_0.out).2.2 (ji8) p1467 q1467
            obtain rfl : ad1466 = ad1467 := (by injection e1467)
            replace p1467 := eq_true p1467
            replace q1467 := eq_true q1467
            refine start_ (n := 15) (S := fun w' => w'.cell? (ad1466.add (x7_2).toNat) = some (.int .i64 (rd x0_2 x7_2)) ∧ w'.cell? (ad1466.add ((ji8)).toNat) = some (.int .i64 (rd x0_2 (ji8)))) (ds := []) #[false,false,false,false,false,false,false,false,false,false,false,false,false,false,false] (by kernel_rfl) rfl rfl ⟨hx1466_0,hx1467_0⟩ (fun hHeld => ?_);refine with_tabW slices_insertionSortOrdered_int.tab4 slices_insertionSortOrdered_int.bits4 (fun HT_ HW_ => ?_)
            generalize wr.drew = w20 at HO_0 HK HB hx1466_0 hx1467_0 hHeld ⊢
            refine zpu 0 (N := some 16) HT_ ?_
            refine zpu 1 (N := some 17) HT_ ?_
            refine zpu 2 (N := some 18) HT_ ?_
            refine zpu 3 (N := some 19) HT_ ?_
            refine zpu 4 (N := some 20) HT_ ?_
            refine zpu 5 (N := some 21) HT_ ?_
            refine zpu 6 (N := some 22) HT_ ?_
            refine zpu 8 (N := some 24) HT_ ?_
            refine zpu 9 (N := some 25) HT_ ?_
            refine zpu 10 (N := some 26) HT_ ?_
            refine zpu 11 (N := some 27) HT_ ?_
            refine ztk 7 (N := some 23) HT_ HW_ hHeld ?_
            refine ztk 12 (N := some 28) HT_ HW_ hHeld ?_
            refine zon 13 (N := some 29) HT_ (fun K hK => ?_)
            refine goes_ Tryd.func223 (by kernel_rfl) rfl #[.int .i64 (rd x0_2 x7_2),.int .i64 (rd x0_2 (ji8))] (by rfl) rfl rfl (by (try simp only [m1_,m2_,m3_]);first | done | (simp only [hji8];rfl) | rfl | (simp only [d1_,d2_];rfl)) ?_
            with_reducible refine (cmp_Less_int.calls (rd x0_2 x7_2) (rd x0_2 (ji8)) false _ A11.out).mono ?_
            rintro e w' ⟨rfl,⟨nd,rfl⟩⟩
            refine ⟨_,rfl,?_⟩
            refine hK.out _ _ ⟨hHeld.1,hHeld.2⟩ (fun hHeld => ?_)
            clear hK K
            refine norm_ (a' := ?_) ?_ ?_
            rotate_left
            ·show Act.put _ (some 29) _ = _
             simp only [Act.put,p1_,p2_,p3_,i64_w,i32_w]
             rfl
            refine zpu 14 (N := some 30) HT_ ?_
            refine done_ (done_of HT_.out (by kernel_rfl)) ?_
            try go_wp2
            go_roundg k2
            case measure => have := HK1.out;have := HK2.out;omega
            case rel => exact ⟨(x0_2),(wrap64 (x6_1 + 1)),(by first | rfl | (simp;done) | (simp [*];done)),H',⟨by have := HK1.out;have := HK2.out;omega⟩,⟨zr HO_0⟩,⟨by repeat (first | (with_reducible first | exact HK.out | apply Kept.alloc | apply Kept.drewN | apply Kept.drew) | exact HK.out)⟩,⟨zl_ HB⟩⟩
          ·rw [if_neg c10] at H
           exact absurd H (by simp)
         ·rw [if_neg c9] at H
          exact absurd H (by simp)
        ·rw [if_neg c7] at H
         exact absurd H (by simp)
       ·rw [if_neg c6] at H
        exact absurd H (by simp)
      ·rw [if_neg c5] at H
       have c5b0 : decide (a1 < x7_2) = false := decide_eq_false c5
       clear c5
       have H' := am_ H
       clear H
       try go_wp2
       replace HO_0 := am_ (Kd.R_drew HO_0.out)
       replace HK := am_ (Kept.drew HK.out)
       replace HB := am_ (below_drew1 HB.out)
       refine start_ (n := 15) (S := fun w' => True) (ds := []) #[false,false,false,false,false,false,false,false,false,false,false,false,false,false,false] (by kernel_rfl) rfl rfl trivial (fun hHeld => ?_);refine with_tabW slices_insertionSortOrdered_int.tab4 slices_insertionSortOrdered_int.bits4 (fun HT_ HW_ => ?_)
       generalize wr.drew = w22 at HO_0 HK HB hHeld ⊢
       refine zpu 0 (N := some 16) HT_ ?_
       refine zpu 1 (N := some 17) HT_ ?_
       refine zpu 2 (N := some 18) HT_ ?_
       refine zpu 3 (N := some 19) HT_ ?_
       refine zpx 4 (N := some 20) HT_ ?_
       refine zpx 5 (N := some 21) HT_ ?_
       refine zpx 6 (N := some 22) HT_ ?_
       refine zpx 7 (N := some 23) HT_ ?_
       refine zpx 8 (N := some 24) HT_ ?_
       refine zpx 9 (N := some 25) HT_ ?_
       refine zpx 10 (N := some 26) HT_ ?_
       refine zpx 11 (N := some 27) HT_ ?_
       refine zpx 12 (N := some 28) HT_ ?_
       refine zpx 13 (N := some 29) HT_ ?_
       refine zpu 14 (N := some 30) HT_ ?_
       refine done_ (done_of HT_.out (by kernel_rfl)) ?_
       try go_wp2
       go_roundg k2
       case measure => have := HK1.out;have := HK2.out;omega
       case rel => exact ⟨(x0_2),(wrap64 (x6_1 + 1)),(by first | rfl | (simp;done) | (simp [*];done)),H',⟨by have := HK1.out;have := HK2.out;omega⟩,⟨zr HO_0⟩,⟨by repeat (first | (with_reducible first | exact HK.out | apply Kept.alloc | apply Kept.drewN | apply Kept.drew) | exact HK.out)⟩,⟨zl_ HB⟩⟩
   ·rw [if_neg c4] at H
    have c4b0 : decide (x6_1 < a2) = false := decide_eq_false c4
    clear c4
    obtain rfl := Option.some.inj H
    go_wp2
    first | go_end0 | ((try simp only [Exit.inBlock,Exit.then]);refine bodyPost_ret (results_none rfl _ _ _) rfl ?_)
    exact ⟨zt_,zr HO_0,zl_ HB,by repeat (first | (with_reducible first | exact HK.out | apply Kept.alloc | apply Kept.drewN | apply Kept.drew) | exact HK.out)⟩
end Go.Proofs.YtlifdodphkimpaaDoor.C
end

section
namespace Go.Proofs.YtlifdodphkimpaaDoor.C
open Go Go.RowKit Go.Shelf Go.Proofs.YtlifdodphkimpaaDoorW.PrintWords
attribute [local go_sem] Oper.semAt_some
def upto {α : Type} (f : Nat → α) (k : Nat) : List α := (List.range k).map f
theorem add_block (ad : Addr) (j : Nat) : (ad.add j).block = ad.block := by unfold Addr.add; split <;> rfl
theorem upto_succ {α : Type} (f : Nat → α) (k : Nat) : upto f (k + 1) = upto f k ++ [f k] := by simp [upto, List.range_succ]
theorem upto_length {α : Type} (f : Nat → α) (k : Nat) : (upto f k).length = k := by simp [upto]
theorem upto_all (zs : List Int) : upto (fun j => zs[j]?.getD 0) zs.length = zs := by
  apply List.ext_getElem
  · simp [upto]
  · intro i h1 h2
    simp [upto, h2]
set_option maxRecDepth 100000 in
set_option maxHeartbeats 2000000 in
theorem vals1 (F : Fence) (n : Nat) (h7 : F.fn 211) (hro : F.round = none) (hn : 1 ≤ n) (l Bs n₀ len cap : Nat) (ad : Addr) (zs : List Int) (hreach : len * 8 ≤ 140737488351232) (hb : ad.block < n₀) (J Jx : List Int → World → Prop)
    (hY : ∀ pre x W, J pre W → pre.length < len → YieldAt F (n - 1) Tryd.prog l #[.int .i64 x] W fun e W' =>
      (e = .returned (.bool true) ∧ J (pre ++ [x]) W' ∧ Below n₀ W W') ∨ (e = .returned (.bool false) ∧ Jx (pre ++ [x]) W'))
    (W : World) (hBs : W.cell? ⟨Bs, 0, none⟩ = some (.slice (some ad) len cap)) (hc : ∀ j, j < len → W.cell? (ad.add j) = some (.int .i64 (zs[j]?.getD 0))) (h0 : J [] W) :
    CallsIn F n Tryd.prog 211 #[.func (.yield l) #[] #[], .pointer (some ⟨Bs, 0, none⟩)] W fun e W' => (∃ v, e = .returned v) ∧
      ((∃ ys, ys = upto (fun j => zs[j]?.getD 0) len ∧ J ys W') ∨ (∃ pre, (∃ k, k ≤ len ∧ pre = upto (fun j => zs[j]?.getD 0) k) ∧ Jx pre W')) := by
  refine callsIn_of_wp Tryd.func211 rfl h7 ?_ hro
  simp only [Tryd.ntmps211, List.size_toArray, List.length_cons, List.length_nil, Nat.reduceAdd, Nat.reduceSub, Array.replicate_succ, Array.replicate_zero, List.push_toArray, List.append_toArray, List.nil_append, List.cons_append]
  gi_wp2
  gi_loopw [7] (fun i wr => ∃ k : Nat, k ≤ len ∧ i = .int .i64 k ∧ J (upto (fun j => zs[j]?.getD 0) k) wr ∧ Below n₀ W wr)
    (fun i _ => len - (intOf i).toNat)
  case atStart => exact ⟨0, Nat.zero_le _, rfl, h0, Below.refl _ _⟩
  case round =>
    obtain ⟨k, hk, rfl, hJs, hnx⟩ := hrel
    have hcx : k < len → wr.cell? (ad.add k) = some (.int .i64 (zs[k]?.getD 0)) := fun h => (hnx.cell (p := ad.add k) (by rw [add_block]; exact hb)).trans (hc k h)
    by_cases hlt : k < len
    · obtain ⟨fn, tmps, assign, body, hy, hR⟩ := hY _ (zs[k]?.getD 0) wr hJs (by rw [upto_length]; exact hlt)
      have hcx' := hcx hlt
      gi_wp2
      refine hR.mono ?_
      rintro e W3 (⟨rfl, hJ3, hk3⟩ | ⟨rfl, hJx3⟩)
      · gi_wp2
        go_roundw
        case rel => exact ⟨k + 1, by omega, by simp, by rw [upto_succ]; exact hJ3, hnx.trans hk3⟩
        case measure => simp [intOf]; omega
      · gi_wp2
        refine bodyPost_ret (results_none rfl _ _ _) rfl ?_
        exact ⟨⟨_, rfl⟩, .inr ⟨_, ⟨k + 1, by omega, (upto_succ _ _).symm⟩, hJx3⟩⟩
    · obtain rfl : k = len := by omega
      gi_wp2
      go_end0
      exact ⟨⟨_, rfl⟩, .inl ⟨_, rfl, hJs⟩⟩
set_option maxHeartbeats 1000000 in
theorem vals_in (F : Fence) (n : Nat) (h5 : F.fn 203) (hro : F.round = none) (a : Option Addr) (len cap : Nat) (w : World) :
    CallsIn F n Tryd.prog 203 #[.slice a len cap] w fun e w' => e = .returned (.func (.func 211) #[] #[.pointer (some ⟨w.heap.size, 0, none⟩)]) ∧ w' = w.alloc (.cells #[.slice a len cap] 24) := by
  refine callsIn_of_wp Tryd.func203 rfl h5 ?_ hro
  simp only [Tryd.ntmps203, List.size_toArray, List.length_cons, List.length_nil, Nat.reduceAdd, Nat.reduceSub, Array.replicate_succ, Array.replicate_zero, List.push_toArray, List.append_toArray, List.nil_append, List.cons_append]
  gi_wp2
  go_ret
  exact ⟨rfl, rfl⟩
theorem vals_stops (F : Fence) (n : Nat) (h7 : F.fn 211) (hro : F.round = none) (hn : 1 ≤ n) (Bs n₀ cap : Nat) (ad : Addr) (zs : List Int) (hreach : zs.length * 8 ≤ 140737488351232) (w : World) (hBs : Bs < w.heap.size) (hn₀ : n₀ ≤ w.heap.size)
    (hc : w.cell? ⟨Bs, 0, none⟩ = some (.slice (some ad) zs.length cap)) (hb : ad.block < n₀) (hcs : ∀ j, j < zs.length → w.cell? (ad.add j) = some (.int .i64 (zs[j]?.getD 0))) :
    SeqStopsK F n Tryd.prog 211 #[.pointer (some ⟨Bs, 0, none⟩)] (fun x : Int => #[Value.int .i64 x]) (Below n₀) (fun ys => ys = zs) (fun _ => True) zs.length w := fun l J Jx W hW _ _ hY h0 => by
  have hc' := (hW.cell (p := ⟨Bs, 0, none⟩) hBs).trans hc
  have hcs' : ∀ j, j < zs.length → W.cell? (ad.add j) = some (.int .i64 (zs[j]?.getD 0)) := fun j hj => (hW.cell (p := ad.add j) (by rw [add_block]; exact Nat.lt_of_lt_of_le hb hn₀)).trans (hcs j hj)
  refine (vals1 F n h7 hro hn l Bs n₀ zs.length cap ad zs hreach hb J Jx hY W hc' hcs' h0).mono ?_
  rintro e W' ⟨he, ⟨ys, rfl, hJ⟩ | ⟨pre, _, hJ⟩⟩
  · exact ⟨he, .inl ⟨_, upto_all zs, hJ⟩⟩
  · exact ⟨he, .inr ⟨pre, trivial, hJ⟩⟩
theorem med_info : (Tryd.prog.info? 3).map (fun i => (i.zero, i.size, i.bytes)) = some (some (.int .i64 0), 1, 8) := by kernel_rfl
set_option maxRecDepth 100000 in
set_option maxHeartbeats 2000000 in
theorem aps_in (F : Fence) (n : Nat) (h3 : F.fn 214) (h5 : F.fn 211) (hro : F.round = none) (hn : 3 ≤ n) (Bv cap n₀ : Nat) (ad : Addr) (xs : List Int) (hlen : xs.length ≤ 1000000) (w : World) (hBv : Bv < w.heap.size) (hn₀ : n₀ ≤ w.heap.size)
    (hcv : w.cell? ⟨Bv, 0, none⟩ = some (.slice (some ad) xs.length cap)) (hb : ad.block < n₀) (hcs : ∀ j, j < xs.length → w.cell? (ad.add j) = some (.int .i64 (xs[j]?.getD 0))) :
    CallsIn F n Tryd.prog 214 #[.slice none 0 0, .func (.func 211) #[] #[.pointer (some ⟨Bv, 0, none⟩)]] w fun e W' => ∃ v, e = .returned v ∧ W'.ownsRow w.heap.size 3 1 v xs.length (xs.map (Value.int .i64)) ∧ Below w.heap.size w W' := by
  have h1 : 1 ≤ n := by omega
  obtain ⟨i0, hi, hz0, hz1, hz2⟩ := info_parts med_info
  refine callsIn_of_wp_marks Tryd.func214 rfl h3 ?_ hro
  simp only [Tryd.ntmps214, List.size_toArray, List.length_cons, List.length_nil, Nat.reduceAdd, Nat.reduceSub, Array.replicate_succ, Array.replicate_zero, List.push_toArray, List.append_toArray, List.nil_append, List.cons_append]
  gi_wp2
  have bO := Boxed.new w 24 (.slice none 0 0)
  have hB0 : Below w.heap.size w (w.alloc (.cells #[.slice none 0 0] 24)) := (Below.refl _ w).alloc (Nat.le_refl _) _
  have hcv0 := (hB0.cell (p := ⟨Bv, 0, none⟩) hBv).trans hcv
  have hcs0 : ∀ j, j < xs.length → (w.alloc (.cells #[.slice none 0 0] 24)).cell? (ad.add j) = some (.int .i64 (xs[j]?.getD 0)) := fun j hj => (hB0.cell (p := ad.add j) (by rw [add_block]; exact Nat.lt_of_lt_of_le hb hn₀)).trans (hcs j hj)
  refine wpIn_rangeFunc_ownG hro h1 (gf := 211) (lb := #[.pointer (some ⟨Bv, 0, none⟩)]) rfl h5 (enters_of Tryd.func211 (by kernel_rfl) rfl)
    (vals_stops F (n - 1) h5 hro (by omega) Bv w.heap.size cap ad xs (by omega) _ (by simp; omega) (by simp) hcv0 (Nat.lt_of_lt_of_le hb hn₀) hcs0) belowK_t (belowK_b (by simp)) (Below.refl _ _) (fun _ => rfl)
    (fun pre W => (∃ v, Boxed W w.heap.size 24 v ∧ W.ownsRow w.heap.size 3 1 v pre.length (pre.map (Value.int .i64)) ∧ (v = .slice none 0 0 ↔ pre = [])) ∧ Below w.heap.size w W)
    (fun _ _ _ => False)
    (OwnFrom.and (Own.from (holdsRow_own w.heap.size w.heap.size 24 3 1 (fun pre => pre.length) (fun pre => pre.map (Value.int .i64)) (fun pre v => v = .slice none 0 0 ↔ pre = [])) _) (ownFrom_below (Nat.le_refl _) (by simp)))
    (fun _ _ _ _ _ hs _ _ => hs)
    ⟨⟨_, bO, World.ownsRow_nil _ _ _ _, by simp⟩, hB0⟩
    (fun x => { tmps := #[.slice none 0 0, .func (.func 211) #[] #[.pointer (some ⟨Bv, 0, none⟩)], .pointer (some ⟨w.heap.size, 0, none⟩), undef, .slice none 0 0, .int .i64 x, .func (.func 211) #[] #[.pointer (some ⟨Bv, 0, none⟩)], .int .i64 x, undef, undef, undef, undef, undef], defers := [] }) ?assign ?body ?done ?stop
  case assign =>
    intro l x W K hK
    gi_wp2
    exact hK
  case body =>
    rintro l pre x W ⟨⟨v, hv, hrow, hnil⟩, hB⟩ hlt
    have hc := hv.cell
    gi_wp2_with (gi_at_builtin; refine wpListIn_append_own _ rfl _ _ 24 rfl w.heap.size 3 i0 (.int .i64 0) 1 8 Tryd.underlying24 hi hz0 hz1 hz2 rfl (by decide) _ _ _ rfl (hrow.alloc _) ⟨W.heap.size, 0, none⟩ 1 1 [.int .i64 x] rfl rfl (cell_one_new _ _ _) (by simp [Value.oneCell']) (by unfold maxLen; omega) (by omega) (by have := hB.size; simp; omega) ?_; intro v' w1 hown' hgrow _; obtain ⟨g', cap', rfl⟩ := ownsRow_succ hown'; obtain ⟨hv1, hv2, hr2, hk2, hb2⟩ := hv.appended (by decide) hrow hB.size (Nat.le_refl _) hown' hgrow; have hc1 := hv1.cell; have hf1 := hv1.frozen)
    exact ⟨hk2.from _, hb2, ⟨_, hv2, by simpa using hr2, by simp⟩, hB.trans hb2⟩
  case done =>
    rintro D ys W hD rfl ⟨⟨v, hv, hrow, hnil⟩, hB⟩ hK
    have hc := hv.cell
    gi_wp2
    refine ⟨by simp, .inl ⟨_, _, rfl, run_takeDeferred hK, ?_⟩⟩
    exact ⟨_, results_tmp rfl _ _ _, v, rfl, ownsRow_putObj hrow _ hK rfl, hB.trans (belowK_b (w := w) (Nat.le_refl _) W D _ _ (by simp at hD; omega) hK rfl rfl)⟩
  case stop =>
    rintro D c pre W _ _ h _
    exact h.elim
set_option maxHeartbeats 1000000 in
theorem col_in (F : Fence) (n : Nat) (h2 : F.fn 209) (h3 : F.fn 214) (h5 : F.fn 211) (hro : F.round = none) (hn : 4 ≤ n) (Bv cap n₀ : Nat) (ad : Addr) (xs : List Int) (hlen : xs.length ≤ 1000000) (w : World) (hBv : Bv < w.heap.size) (hn₀ : n₀ ≤ w.heap.size)
    (hcv : w.cell? ⟨Bv, 0, none⟩ = some (.slice (some ad) xs.length cap)) (hb : ad.block < n₀) (hcs : ∀ j, j < xs.length → w.cell? (ad.add j) = some (.int .i64 (xs[j]?.getD 0))) :
    CallsIn F n Tryd.prog 209 #[.func (.func 211) #[] #[.pointer (some ⟨Bv, 0, none⟩)]] w fun e W' => ∃ v, e = .returned v ∧ W'.ownsRow w.heap.size 3 1 v xs.length (xs.map (Value.int .i64)) ∧ Below w.heap.size w W' := by
  have h1 : 1 ≤ n := by omega
  refine callsIn_of_wp Tryd.func209 rfl h2 ?_ hro
  simp only [Tryd.ntmps209, List.size_toArray, List.length_cons, List.length_nil, Nat.reduceAdd, Nat.reduceSub, Array.replicate_succ, Array.replicate_zero, List.push_toArray, List.append_toArray, List.nil_append, List.cons_append]
  gi_wp2_with (gi_at_call 214; refine (aps_in F (n - 1) h3 h5 hro (by omega) Bv cap n₀ ad xs hlen w hBv hn₀ hcv hb hcs).mono ?_; rintro e w' ⟨v, rfl, hrow, hb⟩)
  go_ret
  exact ⟨v, rfl, hrow, hb⟩
theorem col_calls (Bv cap n₀ : Nat) (ad : Addr) (xs : List Int) (hlen : xs.length ≤ 1000000) (w : World) (hBv : Bv < w.heap.size) (hn₀ : n₀ ≤ w.heap.size)
    (hcv : w.cell? ⟨Bv, 0, none⟩ = some (.slice (some ad) xs.length cap)) (hb : ad.block < n₀) (hcs : ∀ j, j < xs.length → w.cell? (ad.add j) = some (.int .i64 (xs[j]?.getD 0))) :
    Calls Tryd.prog 209 #[.func (.func 211) #[] #[.pointer (some ⟨Bv, 0, none⟩)]] w fun e W' => ∃ v, e = .returned v ∧ W'.ownsRow w.heap.size 3 1 v xs.length (xs.map (Value.int .i64)) ∧ Below w.heap.size w W' :=
  (callsIn_wide (n := 6)).1 (col_in Fence.wide 6 trivial trivial trivial rfl (by omega) Bv cap n₀ ad xs hlen w hBv hn₀ hcv hb hcs)
theorem vals_calls (a : Option Addr) (len cap : Nat) (w : World) : Calls Tryd.prog 203 #[.slice a len cap] w fun e w' => e = .returned (.func (.func 211) #[] #[.pointer (some ⟨w.heap.size, 0, none⟩)]) ∧ w' = w.alloc (.cells #[.slice a len cap] 24) :=
  (callsIn_wide (n := 3)).1 (vals_in Fence.wide 3 trivial rfl a len cap w)
theorem ins_len : ∀ k : Nat, (∀ x0 x1 x2 x6 r, slices_insertionSortOrdered_int.l0 k x0 x1 x2 x6 = some r → r.length = x0.length) ∧ (∀ x0 x1 x2 x6 x7 r, slices_insertionSortOrdered_int.l1 k x0 x1 x2 x6 x7 = some r → r.length = x0.length)
  | 0 => ⟨fun x0 x1 x2 x6 r h => by simp [slices_insertionSortOrdered_int.l0] at h, fun x0 x1 x2 x6 x7 r h => by simp [slices_insertionSortOrdered_int.l1] at h⟩
  | k + 1 => by
    obtain ⟨ih0, ih1⟩ := ins_len k
    refine ⟨fun x0 x1 x2 x6 r h => ?_, fun x0 x1 x2 x6 x7 r h => ?_⟩
    · simp only [slices_insertionSortOrdered_int.l0] at h
      split at h
      · exact ih1 _ _ _ _ _ _ h
      · rw [← Option.some.inj h]
    · simp only [slices_insertionSortOrdered_int.l1] at h
      repeat' split at h
      all_goals first | cases h | skip
      all_goals try exact ih0 _ _ _ _ _ h
      obtain ⟨b, _, h⟩ := Option.bind_eq_some_iff.1 h
      split at h
      · have := ih1 _ _ _ _ _ _ h
        simpa using this
      · exact ih0 _ _ _ _ _ h
theorem len_at (n : Int) (h : n = 1 ∨ n = 3 ∨ n = 5) (w : World) : Calls Tryd.prog 216 #[.int .u64 n] w fun e w' => (∃ i, e = .returned (.int .i64 i)) ∧ w' = w := by
  rcases h with rfl | rfl | rfl
  all_goals
    go_enter Tryd.func216, Tryd.ntmps216
    go_wp2_with go_in
    go_ret
    exact ⟨⟨_, rfl⟩, rfl⟩
set_option maxHeartbeats 2000000 in
theorem pdq_at (k : Nat) (n : Nat) (hn : n = 1 ∨ n = 3 ∨ n = 5) (lim : Int) (u : Value) (l0 r : List Int) (w0 w : World) (hB : Below w0.heap.size w0 w) (ho0 : Kd.R (Kd.int .i64) 3 w w0.heap.size (fun _ => True) u l0) (h : slices_insertionSortOrdered_int.f k l0 0 (n : Int) = some r) :
    Calls Tryd.prog 215 #[u, .int .i64 0, .int .i64 n, .int .i64 lim] w fun e w' => e = .returned (.tuple #[]) ∧ Kd.R (Kd.int .i64) 3 w' w0.heap.size (fun _ => True) u r ∧ Below w0.heap.size w0 w' := by
  have hc := slices_insertionSortOrdered_int.calls k (fun _ => True) u l0 0 (n : Int) r w0 w hB ho0 h
  clear h ho0
  rcases hn with rfl | rfl | rfl
  all_goals
    have HC := Aside0.mk hc
    clear hc
    go_enter Tryd.func215, Tryd.ntmps215
    go_wp2
    refine wp_loop_rounds 1 ?_
    rw [rounds_succ]
    go_wp2_with (go_at_call 217; refine HC.out.mono ?_; rintro e w' ⟨rfl, hr, hb, hk⟩)
    refine bodyPost_ret (results_none rfl _ _ _) rfl ?_
    exact ⟨rfl, Kd.R_mono hr (fun _ _ => trivial), hb⟩
set_option maxHeartbeats 2000000 in
theorem sort_at (k : Nat) (n : Nat) (hn : n = 1 ∨ n = 3 ∨ n = 5) (a : Option Addr) (c : Nat) (l0 r : List Int) (hl : l0.length = n) (w0 w : World) (hB : Below w0.heap.size w0 w) (ho0 : Kd.R (Kd.int .i64) 3 w w0.heap.size (fun _ => True) (.slice a n c) l0) (h : slices_insertionSortOrdered_int.f k l0 0 (n : Int) = some r) :
    Calls Tryd.prog 210 #[.slice a n c] w fun e w' => e = .returned (.tuple #[]) ∧ Kd.R (Kd.int .i64) 3 w' w0.heap.size (fun _ => True) (.slice a n c) r ∧ Below w0.heap.size w0 w' := by
  have hp := fun lim => pdq_at k n hn lim (.slice a n c) l0 r w0 w hB ho0 h
  have HL := Aside0.mk len_at
  clear h ho0
  rcases hn with rfl | rfl | rfl
  all_goals
    have HP := Aside0.mk hp
    clear hp
    go_enter Tryd.func210, Tryd.ntmps210
    go_wp2_with (first | (go_at_call 216; refine (HL.out _ (by decide) _).mono ?_; rintro e w' ⟨⟨i_, rfl⟩, rfl⟩) | (go_at_call 215; refine (HP.out _).mono ?_; rintro e w' ⟨rfl, hr, hb⟩))
    go_end0
    exact ⟨rfl, hr, hb⟩
set_option maxHeartbeats 2000000 in
theorem sorted_at (k : Nat) (n : Nat) (hn : n = 1 ∨ n = 3 ∨ n = 5) (Bv cap n₀ : Nat) (ad : Addr) (xs r : List Int) (hl : xs.length = n) (w : World) (hBv : Bv < w.heap.size) (hn₀ : n₀ ≤ w.heap.size)
    (hcv : w.cell? ⟨Bv, 0, none⟩ = some (.slice (some ad) n cap)) (hb : ad.block < n₀) (hcs : ∀ j, j < xs.length → w.cell? (ad.add j) = some (.int .i64 (xs[j]?.getD 0))) (h : slices_insertionSortOrdered_int.f k xs 0 (n : Int) = some r) :
    Calls Tryd.prog 202 #[.func (.func 211) #[] #[.pointer (some ⟨Bv, 0, none⟩)]] w fun e w' => ∃ a c, e = .returned (.slice a n c) ∧ Kd.R (Kd.int .i64) 3 w' w.heap.size (fun _ => True) (.slice a n c) r ∧ Below w.heap.size w w' := by
  have hcol := col_calls Bv cap n₀ ad xs (by omega) w hBv hn₀ (by rw [hl]; exact hcv) hb hcs
  have HC := Aside0.mk hcol
  have HS := Aside0.mk (fun (a : Option Addr) (c : Nat) (W : World) (hB : Below w.heap.size w W) ho => sort_at k n hn a c xs r hl w W hB ho h)
  clear hcol h
  go_enter Tryd.func202, Tryd.ntmps202
  go_wp2_with (first
    | (go_at_call 209; refine HC.out.mono ?_; rintro e w1 ⟨v, rfl, hrow, hB1⟩; have hR := Kd.R_of_own (h1 := fun _ => rfl) (enc := Value.int .i64) (ok := fun _ => True) (xs := xs) hrow (fun _ _ => trivial); obtain ⟨a_, c_, rfl⟩ := Kd.R_slice hR; rw [hl] at hR ⊢; have HR := Aside0.mk hR; have HB1 := Aside0.mk hB1; clear hR hB1 hrow)
    | (go_at_call 210; refine (HS.out a_ c_ _ HB1.out HR.out).mono ?_; rintro e w2 ⟨rfl, hR2, hB2⟩; have HR2 := Aside0.mk hR2; have HB2 := Aside0.mk hB2; clear hR2 hB2))
  go_ret
  exact ⟨_, _, rfl, HR2.out, HB2.out⟩
set_option maxRecDepth 100000 in
set_option maxHeartbeats 2000000 in
theorem median_walk (k : Nat) (A0 : Option Addr) (c0 : Nat) (l0 s : List Int) (w : World) (hr0 : Kd.C (Kd.int .i64) w A0 l0.length l0) (hc0 : l0.length ≤ c0) (hn : l0.length = 1 ∨ l0.length = 3 ∨ l0.length = 5) (h : slices_insertionSortOrdered_int.f k l0 0 (l0.length : Int) = some s) :
    Calls Tryd.prog 193 #[.slice A0 l0.length c0] w fun e w' => e = .returned (.int .i64 (rd s (Int.tdiv (l0.length : Int) 2))) ∧ Below w.heap.size w w' := by
  obtain ⟨ad, e0, _⟩ := Kd.at_int hr0 0 (by omega) (by omega)
  subst e0
  have hlen : s.length = l0.length := (ins_len k).1 _ _ _ _ _ h
  have hcs' : ∀ j, j < l0.length → w.cell? (ad.add j) = some (.int .i64 (l0[j]?.getD 0)) := fun j hj => by
    obtain ⟨ad', e', hx⟩ := Kd.at_int hr0 (j : Int) (by omega) (by omega)
    injection e' with e'
    subst e'
    simpa [rd, List.getD] using hx
  have hblk : ad.block < w.heap.size := by have := World.block_lt_of_cell? w _ (hcs' 0 (by omega)); rwa [add_block] at this
  obtain ⟨n, hnl⟩ : ∃ n, l0.length = n := ⟨_, rfl⟩
  rw [hnl] at hn h hlen ⊢
  have HS := Aside0.mk (fun (W : World) (Bv : Nat) (h1 : Bv < W.heap.size) (h2 : w.heap.size ≤ W.heap.size) (h3 : W.cell? ⟨Bv, 0, none⟩ = some (.slice (some ad) n c0)) (h4 : ∀ j, j < l0.length → W.cell? (ad.add j) = some (.int .i64 (l0[j]?.getD 0))) => sorted_at k n hn Bv c0 w.heap.size ad l0 s hnl W h1 h2 h3 hblk h4 h)
  have HV := Aside0.mk vals_calls
  have HCS := Aside0.mk hcs'
  have HBK := Aside0.mk hblk
  have HL := Aside0.mk hlen
  clear hr0 hc0 hcs' h hblk hlen
  rcases hn with rfl | rfl | rfl
  all_goals
    go_enter Tryd.func193, Tryd.ntmps193
    go_wp2_with (first
      | (go_at_call 203; refine (HV.out _ _ _ _).mono ?_; rintro e w1 ⟨rfl, rfl⟩)
      | (go_at_call 202; refine (HS.out _ w.heap.size (by simp) (by simp) (blk_cell (blk_new w _) 0 |>.trans rfl) (fun j hj => (((Below.refl w.heap.size w).alloc (Nat.le_refl _) _).cell (p := ad.add j) (by rw [add_block]; exact HBK.out)).trans (HCS.out j hj))).mono ?_; rintro e w2 ⟨a_, c_, rfl, hR2, hB2⟩; obtain ⟨g_, cp_, e2, -, -, -⟩ := Kd.R_form hR2 (by rw [HL.out]; decide); rw [HL.out] at e2; simp only [Value.slice.injEq] at e2; obtain ⟨e3, -, -⟩ := e2; subst e3; have hxa : w2.cell? ⟨g_, 0, none⟩ = some (.int .i64 (rd s 0)) := (Kd.R_celln 0 hR2 0 (by decide) (by decide)).1; (try have hxb : w2.cell? ⟨g_, 1, none⟩ = some (.int .i64 (rd s 1)) := (Kd.R_celln 0 hR2 1 (by decide) (by decide)).1); (try have hxc : w2.cell? ⟨g_, 2, none⟩ = some (.int .i64 (rd s 2)) := (Kd.R_celln 0 hR2 2 (by decide) (by decide)).1); have HB2 := Aside0.mk hB2; clear hR2 hB2))
    go_ret
    exact ⟨rfl, ((Below.refl w.heap.size w).alloc (Nat.le_refl _) _).trans (HB2.out.mono (by simp))⟩
end Go.Proofs.YtlifdodphkimpaaDoor.C
end

section
namespace Go.Proofs.YtlifdodphkimpaaDoor.C
open Go.RowKit Go.Proofs.YtlifdodphkimpaaDoorW.PrintWords Go.Proofs.YtlifdodphkimpaaDoorW.PrintLast Go.Proofs.YtlifdodphkimpaaDoorW.PrintMore
attribute [local go_sem] max2_int min2_int max_two min_two max_three min_three max_four min_four
theorem impl_median.calls (k : Nat) (A0 : Option Addr) (c0 : Nat) (l0 : List Int) (r : Int) (w : World) (hr0 : Kd.C (Kd.int .i64) w A0 l0.length l0) (hc0 : l0.length ≤ c0) (h : impl_median.f k l0 = some r) :
  Calls Tryd.prog 193 #[.slice A0 l0.length c0] w fun e w' => e = .returned (.int .i64 r) ∧ Below w.heap.size w w' := by
 unfold impl_median.f at h
 by_cases c : l0.length = 1 ∨ l0.length = 3 ∨ l0.length = 5
 ·rw [if_pos c] at h
  obtain ⟨s,hs,h⟩ := Option.bind_eq_some_iff.1 h
  obtain rfl := Option.some.inj h
  exact median_walk k A0 c0 l0 s w hr0 hc0 c hs
 ·rw [if_neg c] at h
  cases h
set_option maxHeartbeats 8000000 in
set_option maxRecDepth 100000 in
theorem impl_quorum.calls (a0 : Int) (r : Int) (w : World) (h : impl_quorum.f a0 = some r) :
  Calls Tryd.prog 190 #[.int .i64 a0] w fun e w' => e = .returned (.int .i64 r) ∧ Drawn0 w w' := by
 have H : (some (wrap64 ((wrap64 ((wrap64 (Int.tdiv (wrap64 (a0 - 1)) 3)) * 2)) + 1))) = some r := h
 clear h
 obtain rfl := Option.some.inj H
 go_enter Tryd.func190,Tryd.ntmps190
 go_wp2
 go_ret
 exact ⟨by first | rfl | (simp;done) | (simp [*];done),by repeat (first | exact Drawn0.refl _ | apply Drawn0.step)⟩
end Go.Proofs.YtlifdodphkimpaaDoor.C
end

section
namespace Go.Proofs.YtlifdodphkimpaaDoor.C
open Go.RowKit Go.Proofs.YtlifdodphkimpaaDoorW.PrintWords Go.Proofs.YtlifdodphkimpaaDoorW.PrintLast Go.Proofs.YtlifdodphkimpaaDoorW.PrintMore
/-- Block g holds the words l; they may be written. -/
structure Au (W : World) (g : Nat) (l : List Int) : Prop where
  cell : ∀ j, j < l.length → W.cell? ⟨g, j, none⟩ = some (.int .u32 (l.getD j 0))
  free : ∀ j, j < l.length → W.frozen? ⟨g, j, none⟩ = false
theorem Au.at {W W' : World} {g : Nat} {l : List Int} (h : Au W g l) (e : W'.heap[g]? = W.heap[g]?) : Au W' g l :=
  ⟨fun j hj => (World.cell?_of_block (a := ⟨g, j, none⟩) e).trans (h.cell j hj), fun j hj => (World.frozen?_of_block (a := ⟨g, j, none⟩) e).trans (h.free j hj)⟩
theorem Au.of_row {W : World} {g : Nat} (l : List Int) {e : Nat} (h : W.heap[g]? = some (.cells (l.map (Value.int .u32)).toArray e (0, 0))) : Au W g l := by
  refine ⟨fun j hj => ?_, fun j hj => ?_⟩
  · unfold World.cell?
    rw [h]
    simp [List.getD, List.getElem?_eq_getElem hj]
  · unfold World.frozen?
    rw [h]
    simp
theorem Au.set {W : World} {g : Nat} {l : List Int} (h : Au W g l) (j : Nat) (hj : j < l.length) (x : Int) : Au (W.setCell ⟨g, j, none⟩ (.int .u32 x)) g (l.set j x) := by
  refine ⟨fun i hi => ?_, fun i hi => ?_⟩
  · rw [List.length_set] at hi
    by_cases c : i = j
    · subst c
      rw [World.cell?_setCell_same _ _ _ (h.cell i hi)]
      simp [List.getD, hi]
    · rw [World.cell?_setCell_other _ _ _ _ (by simp <;> omega), h.cell i hi]
      simp [List.getD, List.getElem?_set, Ne.symm c]
  · rw [List.length_set] at hi
    rw [World.frozen?_setCell]
    exact h.free i hi
theorem setCell_old (W : World) (a : Addr) (v : Value) (k : Nat) (hk : k ≠ a.block) : (W.setCell a v).heap[k]? = W.heap[k]? := by
  simp [World.setCell, Array.getElem?_modify, Ne.symm hk]
theorem Au.far {W : World} {g g' : Nat} {l : List Int} (h : Au W g l) (hg : g ≠ g') (j : Nat) (v : Value) : Au (W.setCell ⟨g', j, none⟩ v) g l :=
  h.at (setCell_old W _ v g hg)
theorem Au.drew {W : World} {g : Nat} {l : List Int} (h : Au W g l) : Au W.drew g l := h.at rfl
theorem Au.drewN {W : World} {g : Nat} {l : List Int} (h : Au W g l) (n : Nat) : Au (W.drewN n) g l := h.at rfl
theorem Au.setCells {W : World} {g : Nat} {l : List Int} (h : Au W g l) (l' : List Int) (hl : l'.length = l.length) : Au (W.setCells g 0 (l'.map (Value.int .u32))) g l' := by
  refine ⟨fun j hj => ?_, fun j hj => ?_⟩
  · have := World.cell?_setCells_in g (l'.map (Value.int .u32)) 0 W (fun i hi => by rw [Nat.zero_add, h.cell i (by simpa [hl] using hi)]; rfl) j (by simpa using hj)
    rw [Nat.zero_add] at this
    rw [this]
    simp [List.getD, hj]
  · rw [World.frozen?_setCells]
    exact h.free j (by omega)
/-- What the block's walk keeps: its three arrays behind block n, and what was there. -/
structure Bk (w W : World) (n : Nat) (lh lr lw : List Int) : Prop where
  hh : Au W n lh
  hr : Au W (n + 1) lr
  hw : Au W (n + 2) lw
  below : Below n w W
  size : W.heap.size = n + 3
theorem w64id (x : Int) (h1 : -9223372036854775808 ≤ x) (h2 : x ≤ 9223372036854775807) : IntKind.i64.wrap x = x := by rw [IntKind.wrap_i64]; omega
theorem alloc_at (W : World) (o : Obj) (k : Nat) : (W.alloc o).heap[k]? = if k = W.heap.size then some o else W.heap[k]? := by
  simp [World.alloc, -World.alloc_eq, Array.getElem?_push]
theorem alloc_sz (W : World) (o : Obj) : (W.alloc o).heap.size = W.heap.size + 1 := by simp [World.alloc, -World.alloc_eq]
theorem Bk.start (w : World) (h a b : List Int) (t1 t2 t3 : Nat) :
    Bk w (((w.alloc (.cells (h.map (Value.int .u32)).toArray t1)).alloc (.cells (a.map (Value.int .u32)).toArray t2)).alloc (.cells (b.map (Value.int .u32)).toArray t3)) w.heap.size h a b := by
  refine ⟨Au.of_row (e := t1) _ ?_, Au.of_row (e := t2) _ ?_, Au.of_row (e := t3) _ ?_, ⟨rfl, rfl, rfl, ?_, fun k hk => ?_⟩, ?_⟩
  · rw [alloc_at, alloc_at, alloc_at, alloc_sz, alloc_sz, if_neg (by omega), if_neg (by omega), if_pos rfl]
  · rw [alloc_at, alloc_at, alloc_sz, alloc_sz, if_neg (by omega), if_pos rfl]
  · rw [alloc_at, alloc_sz, alloc_sz, if_pos rfl]
  · rw [alloc_sz, alloc_sz, alloc_sz]; omega
  · rw [alloc_at, alloc_at, alloc_at, alloc_sz, alloc_sz, if_neg (by omega), if_neg (by omega), if_neg (by omega)]
  · rw [alloc_sz, alloc_sz, alloc_sz]
theorem below_drew_h {w W : World} {n : Nat} (h : Below n w W) : Below n w W.drew := ⟨h.os, h.tape, h.output, h.size, h.block⟩
theorem below_set_h {w W : World} {n g j : Nat} {v : Value} (h : Below n w W) (hg : n ≤ g) : Below n w (W.setCell ⟨g, j, none⟩ v) :=
  ⟨h.os, h.tape, h.output, by simpa [World.setCell] using h.size, fun k hk => (setCell_old W _ v k (by dsimp only; omega)).trans (h.block k hk)⟩
/-- A store into the words. -/
theorem Bk.word {w W : World} {n : Nat} {lh lr lw : List Int} (h : Bk w W n lh lr lw) (j : Nat) (hj : j < lw.length) (x : Int) : Bk w (W.setCell ⟨n + 2, j, none⟩ (.int .u32 x)) n lh lr (lw.set j x) :=
  ⟨h.hh.far (by omega) j _, h.hr.far (by omega) j _, h.hw.set j hj x, below_set_h h.below (by omega), by simpa [World.setCell] using h.size⟩
theorem Bk.drew {w W : World} {n : Nat} {lh lr lw : List Int} (h : Bk w W n lh lr lw) : Bk w W.drew n lh lr lw :=
  ⟨h.hh.drew, h.hr.drew, h.hw.drew, below_drew_h h.below, h.size⟩
theorem Bk.old {w W : World} {n : Nat} {lh lr lw : List Int} (h : Bk w W n lh lr lw) {g j : Nat} {v : Value} (hg : g < n) (hc : w.cell? ⟨g, j, none⟩ = some v) : W.cell? ⟨g, j, none⟩ = some v :=
  (World.cell?_of_block (a := ⟨g, j, none⟩) (h.below.block g hg)).trans hc
theorem Bk.drewN {w W : World} {n : Nat} {lh lr lw : List Int} (h : Bk w W n lh lr lw) (m : Nat) : Bk w (W.drewN m) n lh lr lw :=
  ⟨h.hh.drewN m, h.hr.drewN m, h.hw.drewN m, ⟨h.below.os, h.below.tape, h.below.output, h.below.size, h.below.block⟩, h.size⟩
/-- .. with the eight letters behind them. -/
structure Bk2 (w W : World) (n : Nat) (lh lr lw la : List Int) : Prop where
  hh : Au W n lh
  hr : Au W (n + 1) lr
  hw : Au W (n + 2) lw
  ha : Au W (n + 3) la
  below : Below n w W
theorem Bk2.start {w W : World} {n : Nat} {lh lr lw : List Int} (h : Bk w W n lh lr lw) (la : List Int) (t : Nat) : Bk2 w (W.alloc (.cells (la.map (Value.int .u32)).toArray t)) n lh lr lw la := by
  have hs := h.size
  have e : ∀ k, k < n + 3 → (W.alloc (.cells (la.map (Value.int .u32)).toArray t)).heap[k]? = W.heap[k]? := fun k hk => by rw [alloc_at, if_neg (by omega)]
  refine ⟨h.hh.at (e _ (by omega)), h.hr.at (e _ (by omega)), h.hw.at (e _ (by omega)), Au.of_row (e := t) _ ?_, ⟨h.below.os, h.below.tape, h.below.output, ?_, fun k hk => (e k (by omega)).trans (h.below.block k hk)⟩⟩
  · rw [alloc_at, if_pos (by omega)]
  · rw [alloc_sz]; have := h.below.size; omega
theorem Bk2.drewN {w W : World} {n : Nat} {lh lr lw la : List Int} (h : Bk2 w W n lh lr lw la) (m : Nat) : Bk2 w (W.drewN m) n lh lr lw la :=
  ⟨h.hh.drewN m, h.hr.drewN m, h.hw.drewN m, h.ha.drewN m, ⟨h.below.os, h.below.tape, h.below.output, h.below.size, h.below.block⟩⟩
theorem Bk2.drew {w W : World} {n : Nat} {lh lr lw la : List Int} (h : Bk2 w W n lh lr lw la) : Bk2 w W.drew n lh lr lw la :=
  ⟨h.hh.drew, h.hr.drew, h.hw.drew, h.ha.drew, below_drew_h h.below⟩
theorem Bk2.set {w W : World} {n : Nat} {lh lr lw la : List Int} (h : Bk2 w W n lh lr lw la) (j : Nat) (hj : j < la.length) (x : Int) : Bk2 w (W.setCell ⟨n + 3, j, none⟩ (.int .u32 x)) n lh lr lw (la.set j x) :=
  ⟨h.hh.far (by omega) j _, h.hr.far (by omega) j _, h.hw.far (by omega) j _, h.ha.set j hj x, below_set_h h.below (by omega)⟩
theorem Bk2.head {w W : World} {n : Nat} {lh lr lw la : List Int} (h : Bk2 w W n lh lr lw la) (j : Nat) (hj : j < lh.length) (x : Int) : Bk2 w (W.setCell ⟨n, j, none⟩ (.int .u32 x)) n (lh.set j x) lr lw la :=
  ⟨h.hh.set j hj x, h.hr.far (by omega) j _, h.hw.far (by omega) j _, h.ha.far (by omega) j _, below_set_h h.below (by omega)⟩
theorem Bk2.out {w W : World} {n : Nat} {lh lr lw la : List Int} (h : Bk2 w W n lh lr lw la) (j : Nat) (hj : j < lr.length) (x : Int) : Bk2 w (W.setCell ⟨n + 1, j, none⟩ (.int .u32 x)) n lh (lr.set j x) lw la :=
  ⟨h.hh.far (by omega) j _, h.hr.set j hj x, h.hw.far (by omega) j _, h.ha.far (by omega) j _, below_set_h h.below (by omega)⟩
theorem Bk2.old {w W : World} {n : Nat} {lh lr lw la : List Int} (h : Bk2 w W n lh lr lw la) {g j : Nat} {v : Value} (hg : g < n) (hc : w.cell? ⟨g, j, none⟩ = some v) : W.cell? ⟨g, j, none⟩ = some v :=
  (World.cell?_of_block (a := ⟨g, j, none⟩) (h.below.block g hg)).trans hc
/-- Eight words, cell for cell. -/
theorem Au.eight {W : World} {g : Nat} {a0 a1 a2 a3 a4 a5 a6 a7 : Int} (h : Au W g [a0, a1, a2, a3, a4, a5, a6, a7]) :
    (W.cell? ⟨g, 0, none⟩ = some (.int .u32 a0) ∧ W.cell? ⟨g, 1, none⟩ = some (.int .u32 a1) ∧ W.cell? ⟨g, 2, none⟩ = some (.int .u32 a2) ∧ W.cell? ⟨g, 3, none⟩ = some (.int .u32 a3) ∧ W.cell? ⟨g, 4, none⟩ = some (.int .u32 a4) ∧ W.cell? ⟨g, 5, none⟩ = some (.int .u32 a5) ∧ W.cell? ⟨g, 6, none⟩ = some (.int .u32 a6) ∧ W.cell? ⟨g, 7, none⟩ = some (.int .u32 a7)) ∧
    (W.frozen? ⟨g, 0, none⟩ = false ∧ W.frozen? ⟨g, 1, none⟩ = false ∧ W.frozen? ⟨g, 2, none⟩ = false ∧ W.frozen? ⟨g, 3, none⟩ = false ∧ W.frozen? ⟨g, 4, none⟩ = false ∧ W.frozen? ⟨g, 5, none⟩ = false ∧ W.frozen? ⟨g, 6, none⟩ = false ∧ W.frozen? ⟨g, 7, none⟩ = false) :=
  ⟨⟨h.cell 0 (by simp), h.cell 1 (by simp), h.cell 2 (by simp), h.cell 3 (by simp), h.cell 4 (by simp), h.cell 5 (by simp), h.cell 6 (by simp), h.cell 7 (by simp)⟩,
   ⟨h.free 0 (by simp), h.free 1 (by simp), h.free 2 (by simp), h.free 3 (by simp), h.free 4 (by simp), h.free 5 (by simp), h.free 6 (by simp), h.free 7 (by simp)⟩⟩
theorem eight {l : List Int} (h : l.length = 8) : ∃ a0 a1 a2 a3 a4 a5 a6 a7, l = [a0, a1, a2, a3, a4, a5, a6, a7] := by
  match l, h with
  | [a0, a1, a2, a3, a4, a5, a6, a7], _ => exact ⟨a0, a1, a2, a3, a4, a5, a6, a7, rfl⟩
theorem u32w_h (x : Int) : IntKind.u32.wrap x = x % 4294967296 := by unfold IntKind.wrap; simp [IntKind.bits, IntKind.signed]
theorem or_comm_h (k : IntKind) (x y : Int) : Go.bits .or k x y = Go.bits .or k y x := by
  unfold Go.bits
  simp only [BitVec.or_comm]
/-- What a turn answers. -/
def turnH (x n : Int) : Int := Go.bits .or .u32 (shr .u32 x n) (shl .u32 x (32 - n))
theorem sturn2 (x : Int) : spec_l01Turn.f x 2 = some (turnH x 2) := by
  unfold spec_l01Turn.f
  rw [if_pos (by decide), show IntKind.u64.wrap (32 - 2) = 30 from by kernel_rfl, if_pos (by decide)]
  rfl
theorem sturn6 (x : Int) : spec_l01Turn.f x 6 = some (turnH x 6) := by
  unfold spec_l01Turn.f
  rw [if_pos (by decide), show IntKind.u64.wrap (32 - 6) = 26 from by kernel_rfl, if_pos (by decide)]
  rfl
theorem sturn7 (x : Int) : spec_l01Turn.f x 7 = some (turnH x 7) := by
  unfold spec_l01Turn.f
  rw [if_pos (by decide), show IntKind.u64.wrap (32 - 7) = 25 from by kernel_rfl, if_pos (by decide)]
  rfl
theorem sturn11 (x : Int) : spec_l01Turn.f x 11 = some (turnH x 11) := by
  unfold spec_l01Turn.f
  rw [if_pos (by decide), show IntKind.u64.wrap (32 - 11) = 21 from by kernel_rfl, if_pos (by decide)]
  rfl
theorem sturn13 (x : Int) : spec_l01Turn.f x 13 = some (turnH x 13) := by
  unfold spec_l01Turn.f
  rw [if_pos (by decide), show IntKind.u64.wrap (32 - 13) = 19 from by kernel_rfl, if_pos (by decide)]
  rfl
theorem sturn17 (x : Int) : spec_l01Turn.f x 17 = some (turnH x 17) := by
  unfold spec_l01Turn.f
  rw [if_pos (by decide), show IntKind.u64.wrap (32 - 17) = 15 from by kernel_rfl, if_pos (by decide)]
  rfl
theorem sturn18 (x : Int) : spec_l01Turn.f x 18 = some (turnH x 18) := by
  unfold spec_l01Turn.f
  rw [if_pos (by decide), show IntKind.u64.wrap (32 - 18) = 14 from by kernel_rfl, if_pos (by decide)]
  rfl
theorem sturn19 (x : Int) : spec_l01Turn.f x 19 = some (turnH x 19) := by
  unfold spec_l01Turn.f
  rw [if_pos (by decide), show IntKind.u64.wrap (32 - 19) = 13 from by kernel_rfl, if_pos (by decide)]
  rfl
theorem sturn22 (x : Int) : spec_l01Turn.f x 22 = some (turnH x 22) := by
  unfold spec_l01Turn.f
  rw [if_pos (by decide), show IntKind.u64.wrap (32 - 22) = 10 from by kernel_rfl, if_pos (by decide)]
  rfl
theorem sturn25 (x : Int) : spec_l01Turn.f x 25 = some (turnH x 25) := by
  unfold spec_l01Turn.f
  rw [if_pos (by decide), show IntKind.u64.wrap (32 - 25) = 7 from by kernel_rfl, if_pos (by decide)]
  rfl
set_option maxHeartbeats 8000000 in
set_option maxRecDepth 100000 in
theorem sturn_same (a0 : Int) (a1 : Int) (r : Int) (w : World) (h : spec_l01Turn.f a0 a1 = some r) :
    Calls Tryd.prog 179 #[.int .u32 a0, .int .u64 a1] w fun e w' => e = .returned (.int .u32 r) ∧ w' = w := by
  have H : (if 0 ≤ a1 then (if 0 ≤ (IntKind.u64.wrap (32 - a1)) then (some (Go.bits .or .u32 (shr .u32 a0 a1) (shl .u32 a0 (IntKind.u64.wrap (32 - a1))))) else (none)) else (none)) = some r := h
  clear h
  by_cases c3 : 0 ≤ a1
  · rw [if_pos c3] at H
    have c3b0 := eq_true c3
    have c3b1 : decide (0 ≤ a1) = true := decide_eq_true c3
    clear c3
    obtain ⟨ji4, hji4⟩ : ∃ j_ : Int, (shr .u32 a0 a1) = j_ := ⟨_, rfl⟩
    replace H : (if 0 ≤ (IntKind.u64.wrap (32 - a1)) then (some (Go.bits .or .u32 (ji4) (shl .u32 a0 (IntKind.u64.wrap (32 - a1))))) else (none)) = some r := by first | (rw [hji4] at H; exact H) | (simp only [hji4] at H ⊢; exact H)
    have hji4_ : (a0 / 2 ^ min a1.toNat 32) = ji4 := hji4
    have hji4z : a1 ≤ 32 → (a0 / 2 ^ a1.toNat) = ji4 := shr_small hji4
    obtain ⟨ji5, hji5⟩ : ∃ j_ : Int, (IntKind.u64.wrap (32 - a1)) = j_ := ⟨_, rfl⟩
    replace H : (if 0 ≤ (ji5) then (some (Go.bits .or .u32 (ji4) (shl .u32 a0 (ji5)))) else (none)) = some r := by first | (rw [hji5] at H; exact H) | (simp only [hji5] at H ⊢; exact H)
    by_cases c6 : 0 ≤ (ji5)
    · rw [if_pos c6] at H
      have c6b0 := eq_true c6
      have c6b1 : decide (0 ≤ (ji5)) = true := decide_eq_true c6
      clear c6
      obtain ⟨ji7, hji7⟩ : ∃ j_ : Int, (shl .u32 a0 (ji5)) = j_ := ⟨_, rfl⟩
      replace H : (some (Go.bits .or .u32 (ji4) (ji7))) = some r := by first | (rw [hji7] at H; exact H) | (simp only [hji7] at H ⊢; exact H)
      have hji7_ : (IntKind.u32.wrap (a0 * 2 ^ min (ji5).toNat 32)) = ji7 := hji7
      have hji7z : (ji5) ≤ 32 → (IntKind.u32.wrap (a0 * 2 ^ (ji5).toNat)) = ji7 := shl_small hji7
      obtain rfl := Option.some.inj H
      go_enter Tryd.func179, Tryd.ntmps179
      go_wp2
      go_ret
      exact ⟨by first | rfl | (simp; done) | (simp only [← hji4, ← hji5, ← hji7] <;> (first | rfl | simp)) | (simp [*]; done), rfl⟩
    · rw [if_neg c6] at H
      exact absurd H (by simp)
  · rw [if_neg c3] at H
    exact absurd H (by simp)
theorem stn2 (x : Int) (w : World) : Calls Tryd.prog 179 #[.int .u32 x, .int .u64 2] w fun e w' => e = .returned (.int .u32 (turnH x 2)) ∧ w' = w := sturn_same x 2 _ w (sturn2 x)
theorem stn6 (x : Int) (w : World) : Calls Tryd.prog 179 #[.int .u32 x, .int .u64 6] w fun e w' => e = .returned (.int .u32 (turnH x 6)) ∧ w' = w := sturn_same x 6 _ w (sturn6 x)
theorem stn7 (x : Int) (w : World) : Calls Tryd.prog 179 #[.int .u32 x, .int .u64 7] w fun e w' => e = .returned (.int .u32 (turnH x 7)) ∧ w' = w := sturn_same x 7 _ w (sturn7 x)
theorem stn11 (x : Int) (w : World) : Calls Tryd.prog 179 #[.int .u32 x, .int .u64 11] w fun e w' => e = .returned (.int .u32 (turnH x 11)) ∧ w' = w := sturn_same x 11 _ w (sturn11 x)
theorem stn13 (x : Int) (w : World) : Calls Tryd.prog 179 #[.int .u32 x, .int .u64 13] w fun e w' => e = .returned (.int .u32 (turnH x 13)) ∧ w' = w := sturn_same x 13 _ w (sturn13 x)
theorem stn17 (x : Int) (w : World) : Calls Tryd.prog 179 #[.int .u32 x, .int .u64 17] w fun e w' => e = .returned (.int .u32 (turnH x 17)) ∧ w' = w := sturn_same x 17 _ w (sturn17 x)
theorem stn18 (x : Int) (w : World) : Calls Tryd.prog 179 #[.int .u32 x, .int .u64 18] w fun e w' => e = .returned (.int .u32 (turnH x 18)) ∧ w' = w := sturn_same x 18 _ w (sturn18 x)
theorem stn19 (x : Int) (w : World) : Calls Tryd.prog 179 #[.int .u32 x, .int .u64 19] w fun e w' => e = .returned (.int .u32 (turnH x 19)) ∧ w' = w := sturn_same x 19 _ w (sturn19 x)
theorem stn22 (x : Int) (w : World) : Calls Tryd.prog 179 #[.int .u32 x, .int .u64 22] w fun e w' => e = .returned (.int .u32 (turnH x 22)) ∧ w' = w := sturn_same x 22 _ w (sturn22 x)
theorem stn25 (x : Int) (w : World) : Calls Tryd.prog 179 #[.int .u32 x, .int .u64 25] w fun e w' => e = .returned (.int .u32 (turnH x 25)) ∧ w' = w := sturn_same x 25 _ w (sturn25 x)
theorem w64n (x : Int) (h1 : -9223372036854775808 ≤ x) (h2 : x ≤ 9223372036854775807) : wrap64 x = x := (i64_w x).symm.trans (w64id x h1 h2)
def word4 (x0 x1 x2 x3 : Int) : Int := Go.bits .or .u32 (Go.bits .or .u32 (Go.bits .or .u32 (IntKind.u32.wrap (IntKind.u32.wrap x0 * 16777216)) (IntKind.u32.wrap (IntKind.u32.wrap x1 * 65536))) (IntKind.u32.wrap (IntKind.u32.wrap x2 * 256))) (IntKind.u32.wrap x3)
theorem step0 (h bs ks ws : List Int) (i : Nat) (r : List Int) (hb : bs.length = 64) (hw : ws.length = 64) (hi : i < 16) (H : spec_l01Block.lv0 h bs ks ws i = some r) :
    spec_l01Block.lv0 h bs ks (ws.set i (word4 (bs.getD (4 * i) 0) (bs.getD (4 * i + 1) 0) (bs.getD (4 * i + 2) 0) (bs.getD (4 * i + 3) 0))) ((i + 1 : Nat) : Int) = some r := by
  have c1 : (i : Int) < 16 := by omega
  have c2 : (0 : Int) ≤ 4 * (i : Int) := by omega
  have c3 : 4 * (i : Int) < (bs.length : Int) := by omega
  have c4 : (0 : Int) ≤ 4 * (i : Int) + 1 := by omega
  have c5 : 4 * (i : Int) + 1 < (bs.length : Int) := by omega
  have c6 : (0 : Int) ≤ 4 * (i : Int) + 2 := by omega
  have c7 : 4 * (i : Int) + 2 < (bs.length : Int) := by omega
  have c8 : (0 : Int) ≤ 4 * (i : Int) + 3 := by omega
  have c9 : 4 * (i : Int) + 3 < (bs.length : Int) := by omega
  have d1 : (0 : Int) ≤ (i : Int) := by omega
  have d2 : (i : Int) < (ws.length : Int) := by omega
  have e0 : (4 * (i : Int)).toNat = 4 * i := by omega
  have e1 : (4 * (i : Int) + 1).toNat = 4 * i + 1 := by omega
  have e2 : (4 * (i : Int) + 2).toNat = 4 * i + 2 := by omega
  have e3 : (4 * (i : Int) + 3).toNat = 4 * i + 3 := by omega
  have w : wrap64 ((i : Int) + 1) = ((i + 1 : Nat) : Int) := by rw [w64n _ (by omega) (by omega)]; omega
  have w0 : wrap64 (4 * (i : Int)) = 4 * (i : Int) := w64n _ (by omega) (by omega)
  have w1 : wrap64 (4 * (i : Int) + 1) = 4 * (i : Int) + 1 := w64n _ (by omega) (by omega)
  have w2 : wrap64 (4 * (i : Int) + 2) = 4 * (i : Int) + 2 := w64n _ (by omega) (by omega)
  have w3 : wrap64 (4 * (i : Int) + 3) = 4 * (i : Int) + 3 := w64n _ (by omega) (by omega)
  rw [spec_l01Block.lv0_eq] at H
  simp only [w, w0, w1, w2, w3, if_pos c1, if_pos c2, if_pos c3, if_pos c4, if_pos c5, if_pos c6, if_pos c7, if_pos c8, if_pos c9, if_pos d1, if_pos d2, rd, e0, e1, e2, e3, Int.toNat_natCast] at H
  simpa only [word4, u32w_h] using H
theorem exit0 (h bs ks ws : List Int) (r : List Int) (i : Int) (hi : ¬ i < 16) (H : spec_l01Block.lv0 h bs ks ws i = some r) : spec_l01Block.lv1 h ks ws ((16 : Nat) : Int) = some r := by
  rw [spec_l01Block.lv0_eq, if_neg hi] at H
  rw [show ((16 : Nat) : Int) = 16 from rfl]
  exact H
def wordX (a b c d : Int) : Int := (a + b + c + d) % 4294967296
def sig (x p q s : Int) : Int := Go.bits .xor .u32 (Go.bits .xor .u32 (turnH x p) (turnH x q)) s
theorem sub_nat (i k : Nat) (h : k ≤ i) : ((i : Int) - (k : Int)).toNat = i - k := by omega
theorem wsub (i k : Nat) (hk : k ≤ i) (hi : i ≤ 64) : wrap64 ((i : Int) - (k : Int)) = (i : Int) - (k : Int) := w64n _ (by omega) (by omega)
theorem wadd (i : Nat) (hi : i ≤ 64) : wrap64 ((i : Int) + 1) = ((i + 1 : Nat) : Int) := by rw [w64n _ (by omega) (by omega)]; omega
theorem step1 (h ks ws : List Int) (i : Nat) (r : List Int) (hw : ws.length = 64) (h16 : 16 ≤ i) (hi : i < 64) (H : spec_l01Block.lv1 h ks ws i = some r) :
    spec_l01Block.lv1 h ks (ws.set i (wordX (ws.getD (i - 16) 0) (sig (ws.getD (i - 15) 0) 7 18 (ws.getD (i - 15) 0 / 8)) (ws.getD (i - 7) 0) (sig (ws.getD (i - 2) 0) 17 19 (ws.getD (i - 2) 0 / 1024)))) ((i + 1 : Nat) : Int) = some r := by
  have g1 : 15 ≤ i := by omega
  have g2 : 2 ≤ i := by omega
  have g3 : 7 ≤ i := by omega
  have g4 : i ≤ 64 := by omega
  have c1 : (i : Int) < 64 := by omega
  have c2 : (0 : Int) ≤ (i : Int) - 15 := by omega
  have c3 : (i : Int) - 15 < (ws.length : Int) := by omega
  have c4 : (0 : Int) ≤ (i : Int) - 2 := by omega
  have c5 : (i : Int) - 2 < (ws.length : Int) := by omega
  have c6 : (0 : Int) ≤ (i : Int) - 16 := by omega
  have c7 : (i : Int) - 16 < (ws.length : Int) := by omega
  have c8 : (0 : Int) ≤ (i : Int) - 7 := by omega
  have c9 : (i : Int) - 7 < (ws.length : Int) := by omega
  have d1 : (0 : Int) ≤ (i : Int) := by omega
  have d2 : (i : Int) < (ws.length : Int) := by omega
  have e0 : ((i : Int) - 15).toNat = i - 15 := sub_nat i 15 g1
  have e1 : ((i : Int) - 2).toNat = i - 2 := sub_nat i 2 g2
  have e2 : ((i : Int) - 16).toNat = i - 16 := sub_nat i 16 h16
  have e3 : ((i : Int) - 7).toNat = i - 7 := sub_nat i 7 g3
  have w : wrap64 ((i : Int) + 1) = ((i + 1 : Nat) : Int) := wadd i g4
  have w1 : wrap64 ((i : Int) - 15) = (i : Int) - 15 := wsub i 15 g1 g4
  have w2 : wrap64 ((i : Int) - 2) = (i : Int) - 2 := wsub i 2 g2 g4
  have w3 : wrap64 ((i : Int) - 16) = (i : Int) - 16 := wsub i 16 h16 g4
  have w4 : wrap64 ((i : Int) - 7) = (i : Int) - 7 := wsub i 7 g3 g4
  rw [spec_l01Block.lv1_eq] at H
  simp only [w, w1, w2, w3, w4, if_pos c1, if_pos c2, if_pos c3, if_pos c4, if_pos c5, if_pos c6, if_pos c7, if_pos c8, if_pos c9, if_pos d1, if_pos d2, spec_l01Turn.v, sturn7, sturn18, sturn17, sturn19, Option.bind_some, rd, e0, e1, e2, e3, Int.toNat_natCast] at H
  simpa only [wordX, sig, u32w_h, Int.emod_add_emod] using H
theorem exit1 (h ks ws : List Int) (r : List Int) (hh : h.length = 8) (i : Int) (hi : ¬ i < 64) (H : spec_l01Block.lv1 h ks ws i = some r) : spec_l01Block.lv2 h ks ws h ((0 : Nat) : Int) = some r := by
  rw [spec_l01Block.lv1_eq, if_neg hi, Option.bind_some, if_pos (by simp; omega), List.nil_append] at H
  rw [show ((0 : Nat) : Int) = 0 from rfl]
  exact H
theorem ch_bv (n : Nat) (o e f g : BitVec n) (ho : o = BitVec.allOnes n) : (e &&& f) ^^^ ((o ^^^ e) &&& g) = (e &&& f) ||| ((o ^^^ e) &&& g) := by
  subst ho
  apply BitVec.eq_of_getLsbD_eq
  intro j hj
  simp only [BitVec.getLsbD_xor, BitVec.getLsbD_and, BitVec.getLsbD_or, BitVec.getLsbD_allOnes, hj, decide_true]
  cases e.getLsbD j <;> cases f.getLsbD j <;> cases g.getLsbD j <;> rfl
theorem bits_of (b : BitVec IntKind.u32.bits) : BitVec.ofInt IntKind.u32.bits (IntKind.u32.wrap (b.toNat : Int)) = b := by
  have := b.isLt
  rw [show (2 ^ IntKind.u32.bits : Nat) = 4294967296 from rfl] at this
  rw [u32w_h, Int.emod_eq_of_lt (by omega) (by omega)]
  simp
theorem and_back (x y : Int) : BitVec.ofInt IntKind.u32.bits (Go.bits .and .u32 x y) = BitVec.ofInt IntKind.u32.bits x &&& BitVec.ofInt IntKind.u32.bits y := bits_of _
theorem xor_back (x y : Int) : BitVec.ofInt IntKind.u32.bits (Go.bits .xor .u32 x y) = BitVec.ofInt IntKind.u32.bits x ^^^ BitVec.ofInt IntKind.u32.bits y := bits_of _
theorem ch_eq (e f g : Int) : Go.bits .xor .u32 (Go.bits .and .u32 e f) (Go.bits .and .u32 (Go.bits .xor .u32 4294967295 e) g) = Go.bits .or .u32 (Go.bits .and .u32 e f) (Go.bits .and .u32 (Go.bits .xor .u32 4294967295 e) g) := by
  have h : ∀ x y : Int, BitVec.ofInt IntKind.u32.bits x ^^^ BitVec.ofInt IntKind.u32.bits y = BitVec.ofInt IntKind.u32.bits x ||| BitVec.ofInt IntKind.u32.bits y → Go.bits .xor .u32 x y = Go.bits .or .u32 x y := by
    intro x y h
    show IntKind.u32.wrap ((BitVec.ofInt IntKind.u32.bits x ^^^ BitVec.ofInt IntKind.u32.bits y).toNat : Int) = IntKind.u32.wrap ((BitVec.ofInt IntKind.u32.bits x ||| BitVec.ofInt IntKind.u32.bits y).toNat : Int)
    rw [h]
  apply h
  rw [and_back, and_back, xor_back]
  exact ch_bv _ _ _ _ _ (by decide)
def pF (a7 e f g k x : Int) : Int := (a7 + sig e 6 11 (turnH e 25) + Go.bits .or .u32 (Go.bits .and .u32 e f) (Go.bits .and .u32 (Go.bits .xor .u32 4294967295 e) g) + k + x)
def qF (a b c : Int) : Int := (sig a 2 13 (turnH a 22) + Go.bits .xor .u32 (Go.bits .xor .u32 (Go.bits .and .u32 a b) (Go.bits .and .u32 a c)) (Go.bits .and .u32 b c))
theorem step2 (h ks ws : List Int) (a0 a1 a2 a3 a4 a5 a6 a7 : Int) (i : Nat) (r : List Int) (hw : ws.length = 64) (hk : ks.length = 64) (hi : i < 64) (H : spec_l01Block.lv2 h ks ws [a0, a1, a2, a3, a4, a5, a6, a7] i = some r) :
    spec_l01Block.lv2 h ks ws [(pF a7 a4 a5 a6 (ks.getD i 0) (ws.getD i 0) + qF a0 a1 a2) % 4294967296, a0, a1, a2, (a3 + pF a7 a4 a5 a6 (ks.getD i 0) (ws.getD i 0)) % 4294967296, a4, a5, a6] ((i + 1 : Nat) : Int) = some r := by
  have c1 : (i : Int) < 64 := by omega
  have c7 : (0 : Int) ≤ (i : Int) := by omega
  have c8 : (i : Int) < (ks.length : Int) := by omega
  have c9 : (i : Int) < (ws.length : Int) := by omega
  have w : wrap64 ((i : Int) + 1) = ((i + 1 : Nat) : Int) := wadd i (by omega)
  have l : ([a0, a1, a2, a3, a4, a5, a6, a7] : List Int).length = 8 := rfl
  rw [spec_l01Block.lv2_eq] at H
  have k0 : (4 : Int) < ((8 : Nat) : Int) := by decide
  have k1 : (0 : Int) < ((8 : Nat) : Int) := by decide
  have k2 : (7 : Int) < ((8 : Nat) : Int) := by decide
  have k3 : (5 : Int) < ((8 : Nat) : Int) := by decide
  have k4 : (6 : Int) < ((8 : Nat) : Int) := by decide
  have k5 : (1 : Int) < ((8 : Nat) : Int) := by decide
  have k6 : (2 : Int) < ((8 : Nat) : Int) := by decide
  have k7 : (3 : Int) < ((8 : Nat) : Int) := by decide
  have r0 : rd [a0, a1, a2, a3, a4, a5, a6, a7] 0 = a0 := rfl
  have r1 : rd [a0, a1, a2, a3, a4, a5, a6, a7] 1 = a1 := rfl
  have r2 : rd [a0, a1, a2, a3, a4, a5, a6, a7] 2 = a2 := rfl
  have r3 : rd [a0, a1, a2, a3, a4, a5, a6, a7] 3 = a3 := rfl
  have r4 : rd [a0, a1, a2, a3, a4, a5, a6, a7] 4 = a4 := rfl
  have r5 : rd [a0, a1, a2, a3, a4, a5, a6, a7] 5 = a5 := rfl
  have r6 : rd [a0, a1, a2, a3, a4, a5, a6, a7] 6 = a6 := rfl
  have r7 : rd [a0, a1, a2, a3, a4, a5, a6, a7] 7 = a7 := rfl
  have rk : rd ks (i : Int) = ks.getD i 0 := by simp [rd]
  have rw_ : rd ws (i : Int) = ws.getD i 0 := by simp [rd]
  simp only [l, w, r0, r1, r2, r3, r4, r5, r6, r7, rk, rw_, if_pos c1, if_pos c7, if_pos c8, if_pos c9, if_pos k0, if_pos k1, if_pos k2, if_pos k3, if_pos k4, if_pos k5, if_pos k6, if_pos k7, spec_l01Turn.v, sturn6, sturn11, sturn25, sturn2, sturn13, sturn22, Option.bind_some, ch_eq] at H
  simpa only [pF, qF, sig, u32w_h, Int.emod_add_emod, Int.add_emod_emod] using H
theorem u32max_h : IntKind.u32.max = 4294967295 := by decide
def pW (a7 e f g k x : Int) : Int := IntKind.u32.wrap (IntKind.u32.wrap (IntKind.u32.wrap (IntKind.u32.wrap (a7 + sig e 6 11 (turnH e 25)) + Go.bits .or .u32 (Go.bits .and .u32 e f) (Go.bits .and .u32 (Go.bits .xor .u32 IntKind.u32.max e) g)) + k) + x)
def qW (a b c : Int) : Int := IntKind.u32.wrap (sig a 2 13 (turnH a 22) + Go.bits .xor .u32 (Go.bits .xor .u32 (Go.bits .and .u32 a b) (Go.bits .and .u32 a c)) (Go.bits .and .u32 b c))
theorem step2w (h ks ws : List Int) (a0 a1 a2 a3 a4 a5 a6 a7 : Int) (i : Nat) (r : List Int) (hw : ws.length = 64) (hk : ks.length = 64) (hi : i < 64) (xk xw xp xq : Int) (hxk : ks.getD i 0 = xk) (hxw : ws.getD i 0 = xw) (hp : pW a7 a4 a5 a6 xk xw = xp) (hq : qW a0 a1 a2 = xq) (H : spec_l01Block.lv2 h ks ws [a0, a1, a2, a3, a4, a5, a6, a7] i = some r) :
    spec_l01Block.lv2 h ks ws [(xp + xq) % 4294967296, a0, a1, a2, (a3 + xp) % 4294967296, a4, a5, a6] ((i + 1 : Nat) : Int) = some r := by
  have := step2 h ks ws a0 a1 a2 a3 a4 a5 a6 a7 i r hw hk hi H
  rw [hxk, hxw] at this
  rw [← this, ← hp, ← hq]
  simp only [pW, qW, pF, qF, u32w_h, u32max_h, Int.emod_add_emod, Int.add_emod_emod]
def pX (a7 e f g k x : Int) : Int := IntKind.u32.wrap (IntKind.u32.wrap (IntKind.u32.wrap (IntKind.u32.wrap (a7 + sig e 6 11 (turnH e 25)) + Go.bits .xor .u32 (Go.bits .and .u32 e f) (Go.bits .and .u32 (Go.bits .xor .u32 IntKind.u32.max e) g)) + k) + x)
theorem pX_eq (a7 e f g k x : Int) : pX a7 e f g k x = pW a7 e f g k x := by
  unfold pX pW
  rw [u32max_h, ch_eq]
theorem exit2 (h ks ws v : List Int) (r : List Int) (i : Int) (hi : ¬ i < 64) (H : spec_l01Block.lv2 h ks ws v i = some r) : spec_l01Block.lv3 h v ((0 : Nat) : Int) = some r := by
  rw [spec_l01Block.lv2_eq, if_neg hi] at H
  rw [show ((0 : Nat) : Int) = 0 from rfl]
  exact H
theorem step3 (h v : List Int) (i : Nat) (r : List Int) (hh : h.length = 8) (hv : v.length = 8) (hi : i < 8) (H : spec_l01Block.lv3 h v i = some r) :
    spec_l01Block.lv3 (h.set i (IntKind.u32.wrap (h.getD i 0 + v.getD i 0))) v ((i + 1 : Nat) : Int) = some r := by
  have g0 : (i : Int) < 8 := by omega
  have g1 : (0 : Int) ≤ i := by omega
  have g2 : (i : Int) < (h.length : Int) := by omega
  have g3 : (i : Int) < (v.length : Int) := by omega
  have w : wrap64 ((i : Int) + 1) = ((i + 1 : Nat) : Int) := wadd i (by omega)
  have r0 : rd h (i : Int) = h.getD i 0 := by simp [rd]
  have r1 : rd v (i : Int) = v.getD i 0 := by simp [rd]
  rw [spec_l01Block.lv3_eq, w, if_pos g0, if_pos g1, if_pos g2, if_pos g3, r0, r1] at H
  simpa only [u32w_h, Int.toNat_natCast] using H
theorem exit3 (h v : List Int) (r : List Int) (i : Int) (hi : ¬ i < 8) (H : spec_l01Block.lv3 h v i = some r) : h = r := by
  rw [spec_l01Block.lv3_eq, if_neg hi] at H
  exact Option.some.inj H
theorem start0 (h bs ks : List Int) (r : List Int) (H : spec_l01Block.v h bs ks = some r) : spec_l01Block.lv0 h bs ks (List.replicate 64 0) ((0 : Nat) : Int) = some r := by
  rw [spec_l01Block.v_eq] at H
  split at H
  · rw [if_pos (by omega)] at H
    rw [show ((0 : Nat) : Int) = 0 from rfl]
    exact H
  · cases H
set_option maxHeartbeats 8000000 in
set_option maxRecDepth 100000 in
theorem rot_same (a0 : Int) (a1 : Int) (r : Int) (w : World) (h : bits_RotateLeft32.f a0 a1 = some r) :
    Calls Tryd.prog 196 #[.int .u32 a0, .int .i64 a1] w fun e w' => e = .returned (.int .u32 r) ∧ w' = w := by
  have H : (if 0 ≤ (Go.bits .and .u64 (IntKind.u64.wrap (a1)) 31) then (if 0 ≤ (IntKind.u64.wrap (32 - (Go.bits .and .u64 (IntKind.u64.wrap (a1)) 31))) then (some (Go.bits .or .u32 (shl .u32 a0 (Go.bits .and .u64 (IntKind.u64.wrap (a1)) 31)) (shr .u32 a0 (IntKind.u64.wrap (32 - (Go.bits .and .u64 (IntKind.u64.wrap (a1)) 31)))))) else (none)) else (none)) = some r := h
  clear h
  obtain ⟨ji3, hji3⟩ : ∃ j_ : Int, (Go.bits .and .u64 (IntKind.u64.wrap (a1)) 31) = j_ := ⟨_, rfl⟩
  replace H : (if 0 ≤ (ji3) then (if 0 ≤ (IntKind.u64.wrap (32 - (ji3))) then (some (Go.bits .or .u32 (shl .u32 a0 (ji3)) (shr .u32 a0 (IntKind.u64.wrap (32 - (ji3)))))) else (none)) else (none)) = some r := by first | (rw [hji3] at H; exact H) | (simp only [hji3] at H ⊢; exact H)
  by_cases c4 : 0 ≤ (ji3)
  · rw [if_pos c4] at H
    have c4b0 := eq_true c4
    have c4b1 : decide (0 ≤ (ji3)) = true := decide_eq_true c4
    clear c4
    obtain ⟨ji5, hji5⟩ : ∃ j_ : Int, (shl .u32 a0 (ji3)) = j_ := ⟨_, rfl⟩
    replace H : (if 0 ≤ (IntKind.u64.wrap (32 - (ji3))) then (some (Go.bits .or .u32 (ji5) (shr .u32 a0 (IntKind.u64.wrap (32 - (ji3)))))) else (none)) = some r := by first | (rw [hji5] at H; exact H) | (simp only [hji5] at H ⊢; exact H)
    have hji5_ : (IntKind.u32.wrap (a0 * 2 ^ min (ji3).toNat 32)) = ji5 := hji5
    have hji5z : (ji3) ≤ 32 → (IntKind.u32.wrap (a0 * 2 ^ (ji3).toNat)) = ji5 := shl_small hji5
    obtain ⟨ji6, hji6⟩ : ∃ j_ : Int, (IntKind.u64.wrap (32 - (ji3))) = j_ := ⟨_, rfl⟩
    replace H : (if 0 ≤ (ji6) then (some (Go.bits .or .u32 (ji5) (shr .u32 a0 (ji6)))) else (none)) = some r := by first | (rw [hji6] at H; exact H) | (simp only [hji6] at H ⊢; exact H)
    by_cases c7 : 0 ≤ (ji6)
    · rw [if_pos c7] at H
      have c7b0 := eq_true c7
      have c7b1 : decide (0 ≤ (ji6)) = true := decide_eq_true c7
      clear c7
      obtain ⟨ji8, hji8⟩ : ∃ j_ : Int, (shr .u32 a0 (ji6)) = j_ := ⟨_, rfl⟩
      replace H : (some (Go.bits .or .u32 (ji5) (ji8))) = some r := by first | (rw [hji8] at H; exact H) | (simp only [hji8] at H ⊢; exact H)
      have hji8_ : (a0 / 2 ^ min (ji6).toNat 32) = ji8 := hji8
      have hji8z : (ji6) ≤ 32 → (a0 / 2 ^ (ji6).toNat) = ji8 := shr_small hji8
      obtain rfl := Option.some.inj H
      go_enter Tryd.func196, Tryd.ntmps196
      go_wp2
      go_ret
      exact ⟨by first | rfl | (simp; done) | (simp only [← hji3, ← hji5, ← hji6, ← hji8] <;> (first | rfl | simp)) | (simp [*]; done), rfl⟩
    · rw [if_neg c7] at H
      exact absurd H (by simp)
  · rw [if_neg c4] at H
    exact absurd H (by simp)
set_option maxHeartbeats 8000000 in
set_option maxRecDepth 100000 in
theorem turned_same (a0 : Int) (a1 : Int) (r : Int) (w : World) (h : impl_turned.f a0 a1 = some r) :
    Calls Tryd.prog 181 #[.int .u32 a0, .int .i64 a1] w fun e w' => e = .returned (.int .u32 r) ∧ w' = w := by
  have H : ((bits_RotateLeft32.f a0 (wrap64 (-a1))).bind fun t209 => (some t209)) = some r := h
  clear h
  replace H := Option.bind_eq_some_iff.mp H
  obtain ⟨t209, A30, H⟩ := H
  replace H : (some t209) = some r := H
  have A3 := Aside0.mk A30
  clear A30
  obtain rfl := Option.some.inj H
  go_enter Tryd.func181, Tryd.ntmps181
  go_wp2_with (first | ((with_reducible refine gate_callee (f := 196) rfl ?_); refine goesL_ (some 8) rfl rfl Tryd.func196 (by kernel_rfl) rfl #[.int .u32 a0, .int .i64 (wrap64 (-a1))] rfl (by (try simp only [List.map_toArray, List.map_cons, List.map_nil]); first | done | rfl | (simp only [List.length_drop, List.length_take]; rfl)) ?_; (with_reducible refine (rot_same a0 (wrap64 (-a1)) t209 _ A3.out).mono ?_); rintro e w' ⟨rfl, rfl⟩; refine ⟨_, rfl, ?_⟩))
  go_ret
  exact ⟨by first | rfl | (simp; done) | (simp [*]; done), rfl⟩
theorem turned_f (x n s : Int) (h1 : Go.bits .and .u64 (IntKind.u64.wrap (wrap64 (-n))) 31 = s) (h2 : IntKind.u64.wrap (32 - s) = n) (h3 : 32 - n = s) (h4 : 0 ≤ s) (h5 : 0 ≤ n) : impl_turned.f x n = some (turnH x n) := by
  unfold impl_turned.f bits_RotateLeft32.f
  rw [h1, h2, if_pos h4, if_pos h5, Option.bind_some, turnH, or_comm_h, h3]
theorem turned_at (x n s : Int) (w : World) (h1 : Go.bits .and .u64 (IntKind.u64.wrap (wrap64 (-n))) 31 = s) (h2 : IntKind.u64.wrap (32 - s) = n) (h3 : 32 - n = s) (h4 : 0 ≤ s) (h5 : 0 ≤ n) :
    Calls Tryd.prog 181 #[.int .u32 x, .int .i64 n] w fun e w' => e = .returned (.int .u32 (turnH x n)) ∧ w' = w :=
  turned_same x n _ w (turned_f x n s h1 h2 h3 h4 h5)
theorem turn2 (x : Int) (w : World) : Calls Tryd.prog 181 #[.int .u32 x, .int .i64 2] w fun e w' => e = .returned (.int .u32 (turnH x 2)) ∧ w' = w := turned_at x 2 30 w (by kernel_rfl) (by kernel_rfl) (by decide) (by decide) (by decide)
theorem turn6 (x : Int) (w : World) : Calls Tryd.prog 181 #[.int .u32 x, .int .i64 6] w fun e w' => e = .returned (.int .u32 (turnH x 6)) ∧ w' = w := turned_at x 6 26 w (by kernel_rfl) (by kernel_rfl) (by decide) (by decide) (by decide)
theorem turn7 (x : Int) (w : World) : Calls Tryd.prog 181 #[.int .u32 x, .int .i64 7] w fun e w' => e = .returned (.int .u32 (turnH x 7)) ∧ w' = w := turned_at x 7 25 w (by kernel_rfl) (by kernel_rfl) (by decide) (by decide) (by decide)
theorem turn11 (x : Int) (w : World) : Calls Tryd.prog 181 #[.int .u32 x, .int .i64 11] w fun e w' => e = .returned (.int .u32 (turnH x 11)) ∧ w' = w := turned_at x 11 21 w (by kernel_rfl) (by kernel_rfl) (by decide) (by decide) (by decide)
theorem turn13 (x : Int) (w : World) : Calls Tryd.prog 181 #[.int .u32 x, .int .i64 13] w fun e w' => e = .returned (.int .u32 (turnH x 13)) ∧ w' = w := turned_at x 13 19 w (by kernel_rfl) (by kernel_rfl) (by decide) (by decide) (by decide)
theorem turn17 (x : Int) (w : World) : Calls Tryd.prog 181 #[.int .u32 x, .int .i64 17] w fun e w' => e = .returned (.int .u32 (turnH x 17)) ∧ w' = w := turned_at x 17 15 w (by kernel_rfl) (by kernel_rfl) (by decide) (by decide) (by decide)
theorem turn18 (x : Int) (w : World) : Calls Tryd.prog 181 #[.int .u32 x, .int .i64 18] w fun e w' => e = .returned (.int .u32 (turnH x 18)) ∧ w' = w := turned_at x 18 14 w (by kernel_rfl) (by kernel_rfl) (by decide) (by decide) (by decide)
theorem turn19 (x : Int) (w : World) : Calls Tryd.prog 181 #[.int .u32 x, .int .i64 19] w fun e w' => e = .returned (.int .u32 (turnH x 19)) ∧ w' = w := turned_at x 19 13 w (by kernel_rfl) (by kernel_rfl) (by decide) (by decide) (by decide)
theorem turn22 (x : Int) (w : World) : Calls Tryd.prog 181 #[.int .u32 x, .int .i64 22] w fun e w' => e = .returned (.int .u32 (turnH x 22)) ∧ w' = w := turned_at x 22 10 w (by kernel_rfl) (by kernel_rfl) (by decide) (by decide) (by decide)
theorem turn25 (x : Int) (w : World) : Calls Tryd.prog 181 #[.int .u32 x, .int .i64 25] w fun e w' => e = .returned (.int .u32 (turnH x 25)) ∧ w' = w := turned_at x 25 7 w (by kernel_rfl) (by kernel_rfl) (by decide) (by decide) (by decide)
theorem res121 (tmps : Array Value) (W : World) (g : Nat) (h4 : tmps.getD 4 undef = .pointer (some ⟨g, 0, none⟩)) (b0 b1 b2 b3 b4 b5 b6 b7 : Int)
    (r0 : W.cell? ⟨g, 0, none⟩ = some (.int .u32 b0)) (r1 : W.cell? ⟨g, 1, none⟩ = some (.int .u32 b1)) (r2 : W.cell? ⟨g, 2, none⟩ = some (.int .u32 b2)) (r3 : W.cell? ⟨g, 3, none⟩ = some (.int .u32 b3))
    (r4 : W.cell? ⟨g, 4, none⟩ = some (.int .u32 b4)) (r5 : W.cell? ⟨g, 5, none⟩ = some (.int .u32 b5)) (r6 : W.cell? ⟨g, 6, none⟩ = some (.int .u32 b6)) (r7 : W.cell? ⟨g, 7, none⟩ = some (.int .u32 b7)) :
    (results Tryd.f160 tmps).run Tryd.prog W = .ok (.agg #[.int .u32 b0, .int .u32 b1, .int .u32 b2, .int .u32 b3, .int .u32 b4, .int .u32 b5, .int .u32 b6, .int .u32 b7]) W := by
  have h4' : tmps[4]?.getD undef = .pointer (some ⟨g, 0, none⟩) := by simpa using h4
  have hres : Tryd.f160.results = #[.cell 4 178] := rfl
  simp only [results, hres, List.mapM_toArray, List.mapM_cons, List.mapM_nil, h4, asAddr]
  go_simp
end Go.Proofs.YtlifdodphkimpaaDoor.C
end
