/- A part of the proof that FnRequests returns true at every input: plain functions, contracts and lemmas. No conditions. -/
import Derived.Test.YtdpdbegglkdgnaaQRequestsb
import Derived.Lib.SlBy
import Derived.Lib.Walk
import Derived.StillTailTactics
set_option linter.unusedVariables false
set_option linter.unusedSimpArgs false
set_option linter.unusedSectionVars false
section
namespace Go.Proofs.Ytdpdbegglkdgnaa.A
open Go.RowKit Go.Proofs.YtdpdbegglkdgnaaW.PrintWords Go.Proofs.YtdpdbegglkdgnaaW.PrintLast Go.Proofs.YtdpdbegglkdgnaaW.PrintMore
abbrev k1_ := @blk_drewN
abbrev k2_ := @blk_drew
abbrev k3_ := @blk_alloc
abbrev b1_ := @below_alloc
abbrev b2_ := @pw_below_drewN
abbrev b3_ := @below_drew1
abbrev r1_ := @Kd.R_alloc
abbrev r2_ := @Kd.R_drewN
abbrev r3_ := @Kd.R_drew
theorem d1_ {α : Type _} (l : List α) (i : Nat) : (l.drop i).length = l.length - i := List.length_drop
theorem d2_ {α : Type _} (l : List α) (i : Nat) : (l.take i).length = min i l.length := List.length_take
theorem o1_ {p : Prop} [Decidable p] (h : decide p = true) : p := of_decide_eq_true h
theorem e3_ (l : List UInt8) : (l == []) = l.isEmpty := mp_beq_nil l
theorem e4_ (l : List UInt8) : (l != []) = !l.isEmpty := mp_bne_nil l
theorem am_ {p : Prop} (h : p) : Aside0 p := ⟨h⟩
theorem p1_ {α : Type _} (l : List α) (i : Nat) (a : α) : l.toArray.setIfInBounds i a = (l.set i a).toArray := List.setIfInBounds_toArray ..
theorem p2_ {α : Type _} (x : α) (xs : List α) (a : α) : (x :: xs).set 0 a = a :: xs := List.set_cons_zero
theorem p3_ {α : Type _} (x : α) (xs : List α) (i : Nat) (a : α) : (x :: xs).set (i + 1) a = x :: xs.set i a := List.set_cons_succ
theorem m1_ {α β : Type _} (f : α → β) (l : List α) : l.toArray.map f = (l.map f).toArray := List.map_toArray
theorem m2_ {α β : Type _} (f : α → β) (a : α) (l : List α) : (a :: l).map f = f a :: l.map f := List.map_cons
theorem m3_ {α β : Type _} (f : α → β) : ([] : List α).map f = [] := List.map_nil
attribute [local go_sem] max2_int min2_int max_two min_two max_three min_three max_four min_four
def errW : Option Int → Value
  | none => .nilIface
  | some c => .iface 0 (.int .i64 c)
theorem errW_none : errW none = .nilIface := rfl
theorem errW_some (c : Int) : errW (some c) = .iface 0 (.int .i64 c) := rfl
theorem e1_ : errW none = .nilIface := rfl
theorem e2_ (c : Int) : errW (some c) = .iface 0 (.int .i64 c) := rfl
theorem info5 : (Try.prog.info? 5).map (fun i => (i.zero, i.size, i.bytes)) = some (some (.int .u8 0), 1, 1) := by kernel_rfl
theorem info70 : (Try.prog.info? 70).map (fun i => (i.zero, i.size, i.bytes)) = some (some (.agg #[(.int .i64 0), (.int .i64 0), (.string ⟨#[]⟩)]), 3, 32) := by kernel_rfl
theorem info88 : (Try.prog.info? 88).map (fun i => (i.zero, i.size, i.bytes)) = some (some (.int .u32 0), 1, 4) := by kernel_rfl
def k70 : Kd S70 := Kd.iso (Kd.pair (Kd.int .i64) (Kd.pair (Kd.int .i64) Kd.string)) (fun x : S70 => (x.f0, x.f1, x.f2))
theorem k70_open {w : World} {x : S70} {cs : List Value} (h : k70.K w x cs) : cs = [.int .i64 x.f0, .int .i64 x.f1, .string x.f2] := by
  obtain ⟨_, _, rfl, rfl, ⟨_, _, rfl, rfl, rfl⟩⟩ := h
  exact rfl
theorem k70_mkM (w : World) (base : Nat) (ok : Nat → Prop) (x : S70)  : k70.M w base ok x [.int .i64 x.f0, .int .i64 x.f1, .string x.f2] := ⟨[.int .i64 x.f0], [.int .i64 x.f1, .string x.f2], rfl, rfl, ⟨[.int .i64 x.f1], [.string x.f2], rfl, rfl, rfl⟩⟩
theorem at_T70 {w : World} {A : Option Addr} {n : Nat} {xs : List S70} (h : Kd.C k70 w A n xs) (i : Int) (h0 : 0 ≤ i) (h1 : i < n) : ∃ ad , A = some ad ∧ w.cell? (ad.add (i.toNat * 3)) = some (.int .i64 (rd_T70 xs i).f0) ∧ w.cell? ⟨(ad.add (i.toNat * 3)).block, (ad.add (i.toNat * 3)).off + 1, none⟩ = some (.int .i64 (rd_T70 xs i).f1) ∧ w.cell? ⟨(ad.add (i.toNat * 3)).block, (ad.add (i.toNat * 3)).off + 2, none⟩ = some (.string (rd_T70 xs i).f2) := by
  obtain ⟨ad, c, e, _, hK, hc0⟩ := Kd.C_get h z70 i h0 h1
  have hc : ∀ j u, c[j]? = some u → w.cell? (ad.add (i.toNat * 3 + j)) = some u := hc0
  obtain rfl := k70_open hK
  exact ⟨ad, e, hc 0 _ rfl, by rw [← add_field _ _ 1 (by omega)]; exact hc 1 _ rfl, by rw [← add_field _ _ 2 (by omega)]; exact hc 2 _ rfl⟩
/-- A state of type 72 at block g of W; what its slices lead to came in by w0. -/
def IsS72 (w0 W : World) (g : Nat) (f0 : List Int) (f1 : Int) (f2 : Int) : Prop := ∃ A0 c0, W.heap[g]? = some (.cells #[.slice A0 f0.length c0, .int .i64 f1, .int .i64 f2] 72 (0, 0)) ∧ w0.heap.size ≤ g ∧ Kd.C (Kd.int .u8) w0 A0 f0.length f0
theorem IsS72.grown {w0 W : World} {g : Nat} {f0 : List Int} {f1 : Int} {f2 : Int} {W1 : World} {row : Option Nat} (h : IsS72 w0 W g f0 f1 f2) (hw : W.grownBy W1 row) (hne : some g ≠ row) : IsS72 w0 W1 g f0 f1 f2 := by
  obtain ⟨A0, c0, hb, hg, hr0⟩ := h
  exact ⟨A0, c0, blk_grown hb hw hne, hg, hr0⟩
theorem IsS72.fresh {w0 W : World} {g : Nat} {f0 : List Int} {f1 : Int} {f2 : Int} (h : IsS72 w0 W g f0 f1 f2) : ∀ k, W.heap.size ≤ k → k ≠ g := by
  obtain ⟨A0, c0, hb, hg, hr0⟩ := h
  exact Kd.freshB hb
theorem IsS72.kept {w0 W : World} {g : Nat} {f0 : List Int} {f1 : Int} {f2 : Int} {W1 : World} {S : Nat → Prop} (h : IsS72 w0 W g f0 f1 f2) (hk : Kept W W1 S) (hne : ¬ S g) : IsS72 w0 W1 g f0 f1 f2 := by
  obtain ⟨A0, c0, hb, hg, hr0⟩ := h
  exact ⟨A0, c0, blk_kept hb hk hne, hg, hr0⟩
theorem IsS72.below {w0 W : World} {g : Nat} {f0 : List Int} {f1 : Int} {f2 : Int} {W1 : World} (h : IsS72 w0 W g f0 f1 f2) (hw : Below W.heap.size W W1) : IsS72 w0 W1 g f0 f1 f2 := h.grown (grown_of_below hw none) (by simp)
theorem IsS72.alloc {w0 W : World} {g : Nat} {f0 : List Int} {f1 : Int} {f2 : Int} (h : IsS72 w0 W g f0 f1 f2) (o : Obj) : IsS72 w0 (W.alloc o) g f0 f1 f2 := h.below (below_alloc (Below.refl _ _) o)
theorem IsS72.drewN {w0 W : World} {g : Nat} {f0 : List Int} {f1 : Int} {f2 : Int} (h : IsS72 w0 W g f0 f1 f2) (m : Nat) : IsS72 w0 (W.drewN m) g f0 f1 f2 := h
theorem IsS72.drew {w0 W : World} {g : Nat} {f0 : List Int} {f1 : Int} {f2 : Int} (h : IsS72 w0 W g f0 f1 f2) : IsS72 w0 W.drew g f0 f1 f2 := h
theorem IsS72.at_ {w0 W : World} {g : Nat} {f0 : List Int} {f1 : Int} {f2 : Int} {w' : World} {m : Nat} (hq : W.drewN m = w') (h : IsS72 w0 W g f0 f1 f2) : IsS72 w0 w' g f0 f1 f2 := by subst hq; exact IsS72.drewN h m
theorem IsS72.apart {w0 W : World} {g : Nat} {f0 : List Int} {f1 : Int} {f2 : Int} {α : Type} {d : Kd α} {e : Nat} {base : Nat} {ok : Nat → Prop} {v : Value} {xs : List α} (h : IsS72 w0 W g f0 f1 f2) (ho : d.R e W base ok v xs) (ht : ∀ q, q ∈ e :: d.E → q ≠ 72) : d.R e W base (fun k => ok k ∧ k ≠ g) v xs := by
  obtain ⟨A0, c0, hb, hg, hr0⟩ := h
  exact Kd.R_types ho hb ht
theorem IsS72.own_ne {w0 W : World} {g : Nat} {f0 : List Int} {f1 : Int} {f2 : Int} {α : Type} {d : Kd α} {e : Nat} {base : Nat} {ok : Nat → Prop} {v : Value} {xs : List α} (h : IsS72 w0 W g f0 f1 f2) (ho : d.R e W base ok v xs) (ht : e ≠ 72) : some g ≠ v.ownBlock := by
  obtain ⟨A0, c0, hb, hg, hr0⟩ := h
  exact Kd.R_ne ho hb ht
theorem IsS72.lt {w0 W : World} {g : Nat} {f0 : List Int} {f1 : Int} {f2 : Int} (h : IsS72 w0 W g f0 f1 f2) : g < W.heap.size := by
  obtain ⟨A0, c0, hb, hg, hr0⟩ := h
  exact blk_lt hb
theorem IsS72.ge {w0 W : World} {g : Nat} {f0 : List Int} {f1 : Int} {f2 : Int} (h : IsS72 w0 W g f0 f1 f2) : w0.heap.size ≤ g := by
  obtain ⟨A0, c0, hb, hg, hr0⟩ := h
  exact hg
theorem IsS72.ne_blk {w0 W : World} {g : Nat} {f0 : List Int} {f1 : Int} {f2 : Int} {a : Nat} {cs : Array Value} {t : TypeId} {fr : Nat × Nat} (h : IsS72 w0 W g f0 f1 f2) (hb2 : W.heap[a]? = some (.cells cs t fr)) (ht : t ≠ 72) : g ≠ a := by
  obtain ⟨A0, c0, hb, hg, hr0⟩ := h
  rintro rfl
  rw [hb] at hb2
  injection hb2 with hb2
  injection hb2 with _ ht2
  exact ht ht2.symm
theorem IsS72.far {w0 W : World} {g : Nat} {f0 : List Int} {f1 : Int} {f2 : Int} {p : Addr} (h : IsS72 w0 W g f0 f1 f2) (hne : g ≠ p.block) (u : Value) : IsS72 w0 (W.setCell p u) g f0 f1 f2 := by
  obtain ⟨A0, c0, hb, hg, hr0⟩ := h
  exact ⟨A0, c0, blk_far hb hne u, hg, hr0⟩
theorem cellS72_0 {W : World} {g : Nat} {A0 : Option Addr} {c0 : Nat} {f0 : List Int} {f1 : Int} {f2 : Int} (h : W.heap[g]? = some (.cells #[.slice A0 f0.length c0, .int .i64 f1, .int .i64 f2] 72 (0, 0))) : W.cell? ⟨g, 0, none⟩ = some (.slice A0 f0.length c0) := (blk_cell h 0).trans rfl
theorem cellS72_1 {W : World} {g : Nat} {A0 : Option Addr} {c0 : Nat} {f0 : List Int} {f1 : Int} {f2 : Int} (h : W.heap[g]? = some (.cells #[.slice A0 f0.length c0, .int .i64 f1, .int .i64 f2] 72 (0, 0))) : W.cell? ⟨g, 1, none⟩ = some (.int .i64 f1) := (blk_cell h 1).trans rfl
theorem IsS72.set_1 {w0 W : World} {g : Nat} {f0 : List Int} {f1 : Int} {f2 : Int} (h : IsS72 w0 W g f0 f1 f2) (x : Int) : IsS72 w0 (W.setCell ⟨g, 1, none⟩ (.int .i64 x)) g f0 x f2 := by
  obtain ⟨A0, c0, hb, hg, hr0⟩ := h
  exact ⟨A0, c0, by simpa using blk_set hb 1 (.int .i64 x), hg, hr0⟩
theorem cellS72_2 {W : World} {g : Nat} {A0 : Option Addr} {c0 : Nat} {f0 : List Int} {f1 : Int} {f2 : Int} (h : W.heap[g]? = some (.cells #[.slice A0 f0.length c0, .int .i64 f1, .int .i64 f2] 72 (0, 0))) : W.cell? ⟨g, 2, none⟩ = some (.int .i64 f2) := (blk_cell h 2).trans rfl
theorem IsS72.set_2 {w0 W : World} {g : Nat} {f0 : List Int} {f1 : Int} {f2 : Int} (h : IsS72 w0 W g f0 f1 f2) (x : Int) : IsS72 w0 (W.setCell ⟨g, 2, none⟩ (.int .i64 x)) g f0 f1 x := by
  obtain ⟨A0, c0, hb, hg, hr0⟩ := h
  exact ⟨A0, c0, by simpa using blk_set hb 2 (.int .i64 x), hg, hr0⟩
/-- A state of type 61 at block g of W; what its slices lead to came in by w0. -/
def IsS61 (w0 W : World) (g : Nat) (f0 : ByteArray) (f1 : Bool) : Prop := W.heap[g]? = some (.cells #[.string f0, .bool f1] 61 (0, 0)) ∧ w0.heap.size ≤ g
theorem IsS61.grown {w0 W : World} {g : Nat} {f0 : ByteArray} {f1 : Bool} {W1 : World} {row : Option Nat} (h : IsS61 w0 W g f0 f1) (hw : W.grownBy W1 row) (hne : some g ≠ row) : IsS61 w0 W1 g f0 f1 := by
  obtain ⟨hb, hg⟩ := h
  exact ⟨blk_grown hb hw hne, hg⟩
theorem IsS61.fresh {w0 W : World} {g : Nat} {f0 : ByteArray} {f1 : Bool} (h : IsS61 w0 W g f0 f1) : ∀ k, W.heap.size ≤ k → k ≠ g := by
  obtain ⟨hb, hg⟩ := h
  exact Kd.freshB hb
theorem IsS61.kept {w0 W : World} {g : Nat} {f0 : ByteArray} {f1 : Bool} {W1 : World} {S : Nat → Prop} (h : IsS61 w0 W g f0 f1) (hk : Kept W W1 S) (hne : ¬ S g) : IsS61 w0 W1 g f0 f1 := by
  obtain ⟨hb, hg⟩ := h
  exact ⟨blk_kept hb hk hne, hg⟩
theorem IsS61.below {w0 W : World} {g : Nat} {f0 : ByteArray} {f1 : Bool} {W1 : World} (h : IsS61 w0 W g f0 f1) (hw : Below W.heap.size W W1) : IsS61 w0 W1 g f0 f1 := h.grown (grown_of_below hw none) (by simp)
theorem IsS61.alloc {w0 W : World} {g : Nat} {f0 : ByteArray} {f1 : Bool} (h : IsS61 w0 W g f0 f1) (o : Obj) : IsS61 w0 (W.alloc o) g f0 f1 := h.below (below_alloc (Below.refl _ _) o)
theorem IsS61.drewN {w0 W : World} {g : Nat} {f0 : ByteArray} {f1 : Bool} (h : IsS61 w0 W g f0 f1) (m : Nat) : IsS61 w0 (W.drewN m) g f0 f1 := h
theorem IsS61.drew {w0 W : World} {g : Nat} {f0 : ByteArray} {f1 : Bool} (h : IsS61 w0 W g f0 f1) : IsS61 w0 W.drew g f0 f1 := h
theorem IsS61.at_ {w0 W : World} {g : Nat} {f0 : ByteArray} {f1 : Bool} {w' : World} {m : Nat} (hq : W.drewN m = w') (h : IsS61 w0 W g f0 f1) : IsS61 w0 w' g f0 f1 := by subst hq; exact IsS61.drewN h m
theorem IsS61.apart {w0 W : World} {g : Nat} {f0 : ByteArray} {f1 : Bool} {α : Type} {d : Kd α} {e : Nat} {base : Nat} {ok : Nat → Prop} {v : Value} {xs : List α} (h : IsS61 w0 W g f0 f1) (ho : d.R e W base ok v xs) (ht : ∀ q, q ∈ e :: d.E → q ≠ 61) : d.R e W base (fun k => ok k ∧ k ≠ g) v xs := by
  obtain ⟨hb, hg⟩ := h
  exact Kd.R_types ho hb ht
theorem IsS61.own_ne {w0 W : World} {g : Nat} {f0 : ByteArray} {f1 : Bool} {α : Type} {d : Kd α} {e : Nat} {base : Nat} {ok : Nat → Prop} {v : Value} {xs : List α} (h : IsS61 w0 W g f0 f1) (ho : d.R e W base ok v xs) (ht : e ≠ 61) : some g ≠ v.ownBlock := by
  obtain ⟨hb, hg⟩ := h
  exact Kd.R_ne ho hb ht
theorem IsS61.lt {w0 W : World} {g : Nat} {f0 : ByteArray} {f1 : Bool} (h : IsS61 w0 W g f0 f1) : g < W.heap.size := by
  obtain ⟨hb, hg⟩ := h
  exact blk_lt hb
theorem IsS61.ge {w0 W : World} {g : Nat} {f0 : ByteArray} {f1 : Bool} (h : IsS61 w0 W g f0 f1) : w0.heap.size ≤ g := by
  obtain ⟨hb, hg⟩ := h
  exact hg
theorem IsS61.ne_blk {w0 W : World} {g : Nat} {f0 : ByteArray} {f1 : Bool} {a : Nat} {cs : Array Value} {t : TypeId} {fr : Nat × Nat} (h : IsS61 w0 W g f0 f1) (hb2 : W.heap[a]? = some (.cells cs t fr)) (ht : t ≠ 61) : g ≠ a := by
  obtain ⟨hb, hg⟩ := h
  rintro rfl
  rw [hb] at hb2
  injection hb2 with hb2
  injection hb2 with _ ht2
  exact ht ht2.symm
theorem IsS61.far {w0 W : World} {g : Nat} {f0 : ByteArray} {f1 : Bool} {p : Addr} (h : IsS61 w0 W g f0 f1) (hne : g ≠ p.block) (u : Value) : IsS61 w0 (W.setCell p u) g f0 f1 := by
  obtain ⟨hb, hg⟩ := h
  exact ⟨blk_far hb hne u, hg⟩
theorem cellS61_0 {W : World} {g : Nat} {f0 : ByteArray} {f1 : Bool} (h : W.heap[g]? = some (.cells #[.string f0, .bool f1] 61 (0, 0))) : W.cell? ⟨g, 0, none⟩ = some (.string f0) := (blk_cell h 0).trans rfl
theorem IsS61.set_0 {w0 W : World} {g : Nat} {f0 : ByteArray} {f1 : Bool} (h : IsS61 w0 W g f0 f1) (x : ByteArray) : IsS61 w0 (W.setCell ⟨g, 0, none⟩ (.string x)) g x f1 := by
  obtain ⟨hb, hg⟩ := h
  exact ⟨by simpa using blk_set hb 0 (.string x), hg⟩
theorem cellS61_1 {W : World} {g : Nat} {f0 : ByteArray} {f1 : Bool} (h : W.heap[g]? = some (.cells #[.string f0, .bool f1] 61 (0, 0))) : W.cell? ⟨g, 1, none⟩ = some (.bool f1) := (blk_cell h 1).trans rfl
theorem IsS61.set_1 {w0 W : World} {g : Nat} {f0 : ByteArray} {f1 : Bool} (h : IsS61 w0 W g f0 f1) (x : Bool) : IsS61 w0 (W.setCell ⟨g, 1, none⟩ (.bool x)) g f0 x := by
  obtain ⟨hb, hg⟩ := h
  exact ⟨by simpa using blk_set hb 1 (.bool x), hg⟩
theorem zl_ {w W0 W : World} (b : Aside0 (Below w.heap.size w W0)) (h : Below w.heap.size w W := by repeat (first | (with_reducible first | exact HB.out | apply below_alloc | apply pw_below_drewN | apply below_drew1 | refine below_set ?_ (Aside0.out (by with_reducible assumption)) | refine below_set ?_ (IsS72.ge (Aside0.out (by with_reducible assumption))) | refine below_set ?_ (IsS61.ge (Aside0.out (by with_reducible assumption)))) | exact HB.out)) : Below w.heap.size w W := h
theorem zs_ {w W0 W W1 : World} (b : Aside0 (Below w.heap.size w W0)) (hb : Below W.heap.size W W1) (h : Below w.heap.size w W := by repeat (first | (with_reducible first | exact HB.out | apply below_alloc | apply pw_below_drewN | apply below_drew1 | refine below_set ?_ (Aside0.out (by with_reducible assumption)) | refine below_set ?_ (IsS72.ge (Aside0.out (by with_reducible assumption))) | refine below_set ?_ (IsS61.ge (Aside0.out (by with_reducible assumption)))) | exact HB.out)) : Aside0 (Below w.heap.size w W1) := ⟨below_step h hb⟩
theorem zw_ {w W0 W : World} {g : Nat} (b : Aside0 (Below w.heap.size w W0)) (hg : g = W.heap.size) (h : Below w.heap.size w W := by repeat (first | (with_reducible first | exact HB.out | apply below_alloc | apply pw_below_drewN | apply below_drew1 | refine below_set ?_ (Aside0.out (by with_reducible assumption)) | refine below_set ?_ (IsS72.ge (Aside0.out (by with_reducible assumption))) | refine below_set ?_ (IsS61.ge (Aside0.out (by with_reducible assumption)))) | exact HB.out)) : Aside0 (w.heap.size ≤ g) := ⟨by rw [hg]; exact below_size h⟩
theorem zt_ {p : Prop} (h : p := by first | rfl | (simp [errW_none, errW_some] <;> rfl) | (simp [*, errW_none, errW_some] <;> rfl) | (simp [mp_beq_nil, mp_bne_nil]; done) | (simp [*, mp_beq_nil, mp_bne_nil]; done)) : p := h
theorem zc3 {w : World} {g : Nat} {t : TypeId} {a0 a1 a2 : Value} (h : Aside0 (w.heap[g]? = some (.cells #[a0, a1, a2] t (0, 0)))) : w.cell? ⟨g, 0, none⟩ = some a0 ∧ w.cell? ⟨g, 1, none⟩ = some a1 ∧ w.cell? ⟨g, 2, none⟩ = some a2 ∧ w.frozen? ⟨g, 0, none⟩ = false ∧ w.frozen? ⟨g, 1, none⟩ = false ∧ w.frozen? ⟨g, 2, none⟩ = false := ⟨(blk_cell h.out 0).trans rfl, (blk_cell h.out 1).trans rfl, (blk_cell h.out 2).trans rfl, blk_frozen h.out 0, blk_frozen h.out 1, blk_frozen h.out 2⟩
theorem zc5 {w : World} {g : Nat} {t : TypeId} {a0 a1 a2 a3 a4 : Value} (h : Aside0 (w.heap[g]? = some (.cells #[a0, a1, a2, a3, a4] t (0, 0)))) : w.cell? ⟨g, 0, none⟩ = some a0 ∧ w.cell? ⟨g, 1, none⟩ = some a1 ∧ w.cell? ⟨g, 2, none⟩ = some a2 ∧ w.cell? ⟨g, 3, none⟩ = some a3 ∧ w.cell? ⟨g, 4, none⟩ = some a4 ∧ w.frozen? ⟨g, 0, none⟩ = false ∧ w.frozen? ⟨g, 1, none⟩ = false ∧ w.frozen? ⟨g, 2, none⟩ = false ∧ w.frozen? ⟨g, 3, none⟩ = false ∧ w.frozen? ⟨g, 4, none⟩ = false := ⟨(blk_cell h.out 0).trans rfl, (blk_cell h.out 1).trans rfl, (blk_cell h.out 2).trans rfl, (blk_cell h.out 3).trans rfl, (blk_cell h.out 4).trans rfl, blk_frozen h.out 0, blk_frozen h.out 1, blk_frozen h.out 2, blk_frozen h.out 3, blk_frozen h.out 4⟩
theorem zc7 {w : World} {g : Nat} {t : TypeId} {a0 a1 a2 a3 a4 a5 a6 : Value} (h : Aside0 (w.heap[g]? = some (.cells #[a0, a1, a2, a3, a4, a5, a6] t (0, 0)))) : w.cell? ⟨g, 0, none⟩ = some a0 ∧ w.cell? ⟨g, 1, none⟩ = some a1 ∧ w.cell? ⟨g, 2, none⟩ = some a2 ∧ w.cell? ⟨g, 3, none⟩ = some a3 ∧ w.cell? ⟨g, 4, none⟩ = some a4 ∧ w.cell? ⟨g, 5, none⟩ = some a5 ∧ w.cell? ⟨g, 6, none⟩ = some a6 ∧ w.frozen? ⟨g, 0, none⟩ = false ∧ w.frozen? ⟨g, 1, none⟩ = false ∧ w.frozen? ⟨g, 2, none⟩ = false ∧ w.frozen? ⟨g, 3, none⟩ = false ∧ w.frozen? ⟨g, 4, none⟩ = false ∧ w.frozen? ⟨g, 5, none⟩ = false ∧ w.frozen? ⟨g, 6, none⟩ = false := ⟨(blk_cell h.out 0).trans rfl, (blk_cell h.out 1).trans rfl, (blk_cell h.out 2).trans rfl, (blk_cell h.out 3).trans rfl, (blk_cell h.out 4).trans rfl, (blk_cell h.out 5).trans rfl, (blk_cell h.out 6).trans rfl, blk_frozen h.out 0, blk_frozen h.out 1, blk_frozen h.out 2, blk_frozen h.out 3, blk_frozen h.out 4, blk_frozen h.out 5, blk_frozen h.out 6⟩
theorem zi72 {w0 W : World} {g : Nat} {f0 : List Int} {f1 : Int} {f2 : Int} {W' : World} {f0' : List Int} {f1' : Int} {f2' : Int} (b : Aside0 (IsS72 w0 W g f0 f1 f2)) (m : IsS72 w0 W g f0 f1 f2 → IsS72 w0 W' g f0' f1' f2' := by intro h_; repeat (first | (with_reducible first | exact h_ | apply IsS72.alloc | apply IsS72.drewN | apply IsS72.drew | apply IsS72.set_1 | apply IsS72.set_2 | refine IsS72.far ?_ (Aside0.out (by with_reducible assumption)) _) | exact h_)) : IsS72 w0 W' g f0' f1' f2' := m b.out
theorem zi61 {w0 W : World} {g : Nat} {f0 : ByteArray} {f1 : Bool} {W' : World} {f0' : ByteArray} {f1' : Bool} (b : Aside0 (IsS61 w0 W g f0 f1)) (m : IsS61 w0 W g f0 f1 → IsS61 w0 W' g f0' f1' := by intro h_; repeat (first | (with_reducible first | exact h_ | apply IsS61.alloc | apply IsS61.drewN | apply IsS61.drew | apply IsS61.set_0 | apply IsS61.set_1 | refine IsS61.far ?_ (Aside0.out (by with_reducible assumption)) _) | exact h_)) : IsS61 w0 W' g f0' f1' := m b.out
theorem zh_ {w W0 W : World} {g : Nat} {row : Option Nat} (k : Aside0 (KeepBut w W0 g row)) (h : KeepBut w W g row := by repeat (first | (with_reducible first | exact HK.out | apply KeepBut.set_ | apply keep_drewN | apply keep_drew | apply keep_alloc | refine keep_far ?_ (Aside0.out (by with_reducible assumption)) _) | exact HK.out)) : KeepBut w W g row := h
end Go.Proofs.Ytdpdbegglkdgnaa.A
end

section
namespace Go.Proofs.Ytdpdbegglkdgnaa.A
open Go.RowKit Go.Proofs.YtdpdbegglkdgnaaW.PrintWords Go.Proofs.YtdpdbegglkdgnaaW.PrintLast Go.Proofs.YtdpdbegglkdgnaaW.PrintMore
attribute [local go_sem] max2_int min2_int max_two min_two max_three min_three max_four min_four
theorem eqA33 (d : Nat) (w : World) (x0 y0 : Int) (x1 y1 : Int) (x2 y2 : Int) (x3 y3 : Int) (x4 y4 : ByteArray) :
    (Op.equalIn (d + 2) 33 (.agg #[.int .i64 x0, .int .i64 x1, .int .i64 x2, .int .i64 x3, .string x4]) (.agg #[.int .i64 y0, .int .i64 y1, .int .i64 y2, .int .i64 y3, .string y4])).run Try.prog w = .ok (x0 == y0 && (x1 == y1 && (x2 == y2 && (x3 == y3 && (x4.toList == y4.toList))))) w := by
  refine eqA_of Try.underlying33 (by kernel_rfl) ?_
  refine eqf_cons (by rfl) (by go_simp; rfl) (by go_simp; rfl) (by go_simp) ?_
  refine eqf_cons (by rfl) (by go_simp; rfl) (by go_simp; rfl) (by go_simp) ?_
  refine eqf_cons (by rfl) (by go_simp; rfl) (by go_simp; rfl) (by go_simp) ?_
  refine eqf_cons (by rfl) (by go_simp; rfl) (by go_simp; rfl) (by go_simp) ?_
  exact eqf_last (by rfl) (by go_simp; rfl) (by go_simp; rfl) (by go_simp)
set_option maxHeartbeats 8000000 in
set_option maxRecDepth 100000 in
theorem impl_number.calls (k : Nat) (a0 : Int) (a1 : Int) (r : ByteArray) (w : World) (h : impl_number.f k a0 a1 = some r) :
  Calls Try.prog 56 #[.int .i64 a0,.int .i64 a1] w fun e w' => e = .returned (.string r) ∧ Below w.heap.size w w' := by
 have HB := am_ (Below.refl w.heap.size w)
 have H : (if 0 ≤ a1 then (if (a1 : Int).toNat ≤ 281474976710656 then (impl_number.l0 k a0 (List.replicate (a1 : Int).toNat 0) (wrap64 (a1 - 1))) else (none)) else (none)) = some r := h
 clear h
 by_cases c3 : 0 ≤ a1
 ·rw [if_pos c3] at H
  have c3b0 := eq_true c3
  have c3b1 : decide (0 ≤ a1) = true := decide_eq_true c3
  clear c3
  by_cases c4 : (a1 : Int).toNat ≤ 281474976710656
  ·rw [if_pos c4] at H
   have c4b0 := eq_true c4
   have c4b1 : decide ((a1 : Int).toNat ≤ 281474976710656) = true := decide_eq_true c4
   clear c4
   obtain ⟨y418,hy418⟩ : ∃ y_ : List Int,y_ = (List.replicate (a1 : Int).toNat 0) := ⟨_,rfl⟩
   replace H : (impl_number.l0 k a0 y418 (wrap64 (a1 - 1))) = some r := by first | (rw [hy418];with_reducible exact H) | (have H2_ := (Option.bind_some _ _).symm.trans H;rw [hy418];with_reducible exact H2_) | (have H2_ := (Option.bind_some _ _).symm.trans H;with_reducible exact H2_) | with_reducible exact H | (rw [hy418];exact H) | exact H
   have Ny418 := am_ hy418
   clear hy418
   have H' := am_ H
   clear H
   go_enter Try.func56,Try.ntmps56
   go_wp2_with (first | ((with_reducible refine gate_dst (N := 8) rfl ?_);refine Kd.R_make (Kd.int .u8) _ 5 rfl (N := 8) rfl 22 _ _ rfl a1 rfl rfl Try.underlying22 (.int .u8 0) 1 info5 rfl (by decide) (by omega) 0 (ok := fun _ => True) (okp := fun _ => True) rfl (fun _ hk => hk) trivial (o1_ (by first | (with_reducible assumption) | assumption)) (Nat.le_trans (Nat.mul_le_mul_right _ (o1_ (by first | (with_reducible assumption) | assumption) : a1.toNat ≤ 281474976710656)) (by omega)) (Below.refl _ _) (Nat.le_refl _) ?_;intro v419 w5 ho6 hb hg_ hnew_;clear hg_ hnew_;(first | rw [← Ny418.out] at ho6 | (simp only [Int.reduceToNat] at ho6;rw [← Ny418.out] at ho6));have HO420 := am_ (Kd.R_lower ho6 (below_size (zl_ HB)));replace HB := zs_ HB hb;clear hb ho6))
   go_loopg [0,6] k (fun kq v0 v6 w' => ∃ (x0_1 : Int) (x5_1 : List Int) (x6_1 : Int),v0 = .int .i64 x0_1 ∧ v6 = .int .i64 x6_1 ∧ Aside0 (impl_number.l0 kq x0_1 x5_1 x6_1 = some r) ∧ Aside0 (kq ≤ k) ∧ Aside0 (Kd.R (Kd.int .u8) 5 w' w.heap.size (fun _ => True) v419 x5_1) ∧ Aside0 (Below w.heap.size w w'))
   case atStart => exact ⟨(a0),(y418),(wrap64 (a1 - 1)),(by first | rfl | (simp;done) | (simp [*];done)),(by first | rfl | (simp;done) | (simp [*];done)),H',⟨Nat.le_refl _⟩,⟨by (with_reducible repeat (first | apply r1_ | apply r2_ | apply r3_));exact HO420.out⟩,⟨zl_ HB⟩⟩
   case round =>
    clear H'
    try clear p2
    try clear c3
    try clear c3b0
    try clear c3b1
    try clear c4
    try clear c4b0
    try clear c4b1
    try clear c5
    try clear p6
    obtain ⟨x0_1,x5_1,x6_1,rfl,rfl,HA,HK1,HO_5,HB⟩ := hrel
    cases gk with
    | zero => exact absurd HA.out (by simp [impl_number.l0])
    | succ k1 =>
     have H := HA.out
     clear HA
     simp only [impl_number.l0] at H
     by_cases c7 : x6_1 ≥ 0
     ·rw [if_pos c7] at H
      have c7b0 : decide (0 ≤ x6_1) = true := decide_eq_true c7
      clear c7
      by_cases c8 : 0 ≤ x6_1
      ·rw [if_pos c8] at H
       have c8b0 : decide (0 ≤ x6_1) = true := decide_eq_true c8
       clear c8
       by_cases c9 : x6_1 < (x5_1.length : Int)
       ·rw [if_pos c9] at H
        have c9b0 : decide (x6_1 < (x5_1.length : Int)) = true := decide_eq_true c9
        clear c9
        obtain ⟨y421,hy421⟩ : ∃ y_ : List Int,y_ = (x5_1.set (x6_1 : Int).toNat ((x0_1) % 256)) := ⟨_,rfl⟩
        replace H : (impl_number.l0 k1 (x0_1 / 256) y421 (wrap64 (x6_1 - 1))) = some r := by first | (rw [hy421];with_reducible exact H) | (have H2_ := (Option.bind_some _ _).symm.trans H;rw [hy421];with_reducible exact H2_) | (have H2_ := (Option.bind_some _ _).symm.trans H;with_reducible exact H2_) | with_reducible exact H | (rw [hy421];exact H) | exact H
        have Ny421 := am_ hy421
        clear hy421
        have H' := am_ H
        clear H
        have p10 : 0 ≤ (x6_1 : Int) := o1_ (by first | (with_reducible assumption) | assumption)
        have q10 : (x6_1 : Int) < ((x5_1.length : Int) : Int) := o1_ (by first | (with_reducible assumption) | assumption)
        obtain ⟨go10,co10,eo10,gb10,gl10,cl10,HG10⟩ := Kd.R_form HO_5.out (by omega)
        (first | cases eo10 | (injection eo10 with ea_ en_ ec_;(first | subst ea_ | (injection ea_ with ea_;subst ea_));subst ec_;clear en_))
        have GB10 := am_ gb10
        have GG10 := am_ HG10
        clear gb10 gl10 HG10
        obtain ⟨hx10_0,hf10_0⟩ := Kd.R_celln 0 HO_5.out (x6_1 : Int) p10 q10
        replace p10 := eq_true p10
        replace q10 := eq_true q10
        have HP11 := Kd.R_putg HO_5.out (x6_1 : Int) ((x0_1) % 256)
        go_wp2_with (first | ((with_reducible refine gate_store (t := 5) (p := 19) rfl ?_);refine store_event (t := 5) (p := 19) (v := ?vo_w12) (w1 := (wr.setCell ⟨go10,(x6_1 : Int).toNat,none⟩ (.int .u8 ((x0_1) % 256)))) ?hg ?ho ?hn ?hr ?_;(case ho => rfl);(case hg => rfl);(case hn => rfl);(case hr => first | (go_simp;done) | (go_simp;rfl));intro w12 hw;have hg : wr.grownBy w12 (some go10) := (by rw [hw];exact HP11.2);have hp_ : Kd.R (Kd.int .u8) 5 w12 w.heap.size (fun _ => True) (.slice (some ⟨go10,0,none⟩) x5_1.length co10) y421 := (by rw [hw,Ny421.out];exact HP11.1);clear HP11;replace HO_5 := am_ (hp_);replace HB := am_ ((by rw [hw];exact below_set (HB.out) GB10.out : Below w.heap.size w w12));clear hg hw hp_))
        go_roundg k1
        case measure => have := HK1.out;omega
        case rel => exact ⟨(x0_1 / 256),(y421),(wrap64 (x6_1 - 1)),(by first | rfl | (simp;done) | (simp [*];done)),(by first | rfl | (simp;done) | (simp [*];done)),H',⟨by have := HK1.out;omega⟩,⟨by (with_reducible repeat (first | apply r1_ | apply r2_ | apply r3_));exact HO_5.out⟩,⟨zl_ HB⟩⟩
       ·rw [if_neg c9] at H
        exact absurd H (by simp)
      ·rw [if_neg c8] at H
       exact absurd H (by simp)
     ·rw [if_neg c7] at H
      have c7b0 : decide (0 ≤ x6_1) = false := decide_eq_false c7
      clear c7
      obtain rfl := Option.some.inj H
      have hcv13 := own_string (P := Try.prog) Try.underlying22 Try.underlying5 Try.underlying9 (Kd.own_of_R HO_5.out)
      go_wp2
      go_ret
      exact ⟨zt_,zl_ HB⟩
  ·rw [if_neg c4] at H
   exact absurd H (by simp)
 ·rw [if_neg c3] at H
  exact absurd H (by simp)
def impl_requestText.T1 : Bool × List (List Nat × List Nat) := (true,[([],[]),([0],[0]),([1],[1]),([],[]),([3],[3]),([4,2],[4]),([2,5],[2,5]),([],[]),([7],[7]),([8,5],[8]),([6,9],[6,9]),([],[]),([11],[11]),([12,9],[12]),([10,13],[10,13]),([],[]),([15],[15]),([16],[16]),([17,13],[17]),([14,18],[14,18]),([],[]),([20],[20]),([19,21],[19,21]),([22,18,0,1,2,3,4,5,6,7,8,9,10,11,12,13,14,15,16,17,18,19,20,21,22],[22])])
def impl_requestText.B1 : List Nat := [0,1,3,0,8,31,63,0,128,447,1023,0,2048,7103,16383,0,32768,98304,244671,524287,0,1048576,4194303,8388607]
theorem impl_requestText.tab1 : rtab .any (opsOf Try.f32 1) = impl_requestText.T1 := by kernel_rfl
theorem impl_requestText.bits1 : waitsOk impl_requestText.T1.2 impl_requestText.B1 = true := by kernel_rfl
set_option maxHeartbeats 8000000 in
set_option maxRecDepth 100000 in
theorem impl_requestText.calls (k : Nat) (a0_0 : Int) (a0_1 : Int) (a0_2 : Int) (a0_3 : Int) (a0_4 : ByteArray) (r : ByteArray) (w : World) (h : impl_requestText.f k a0_0 a0_1 a0_2 a0_3 a0_4 = some r) :
  Calls Try.prog 32 #[.agg #[.int .i64 a0_0,.int .i64 a0_1,.int .i64 a0_2,.int .i64 a0_3,.string a0_4]] w fun e w' => e = .returned (.string r) ∧ Below w.heap.size w w' := by
 have hu33 := Try.underlying33
 have HB := am_ (Below.refl w.heap.size w)
 have H : ((impl_number.f k a0_0 1).bind fun t610 => ((impl_number.f k a0_1 2).bind fun t611 => (if t610.size + t611.size ≤ 9223372036854775807 then ((impl_number.f k a0_2 1).bind fun t612 => (if (t610 ++ t611).size + t612.size ≤ 9223372036854775807 then ((impl_number.f k a0_3 2).bind fun t613 => (if ((t610 ++ t611) ++ t612).size + t613.size ≤ 9223372036854775807 then ((impl_number.f k (a0_4.size : Int) 1).bind fun t614 => (if (((t610 ++ t611) ++ t612) ++ t613).size + t614.size ≤ 9223372036854775807 then (if ((((t610 ++ t611) ++ t612) ++ t613) ++ t614).size + a0_4.size ≤ 9223372036854775807 then (some (((((t610 ++ t611) ++ t612) ++ t613) ++ t614) ++ a0_4)) else (none)) else (none))) else (none))) else (none))) else (none)))) = some r := h
 clear h
 replace H := Option.bind_eq_some_iff.mp H
 obtain ⟨t610,A20,H⟩ := H
 try dsimp only at H
 have A2 := am_ A20
 clear A20
 replace H := Option.bind_eq_some_iff.mp H
 obtain ⟨t611,A30,H⟩ := H
 try dsimp only at H
 have A3 := am_ A30
 clear A30
 by_cases c4 : t610.size + t611.size ≤ 9223372036854775807
 ·rw [if_pos c4] at H
  have c4b0 := eq_true c4
  have c4b1 : decide (t610.size + t611.size ≤ 9223372036854775807) = true := decide_eq_true c4
  try have c4b2 : (9223372036854775807 < t610.size + t611.size) = False := eq_false (Nat.not_lt.2 c4)
  replace H := Option.bind_eq_some_iff.mp H
  obtain ⟨t612,A50,H⟩ := H
  try dsimp only at H
  have A5 := am_ A50
  clear A50
  by_cases c6 : (t610 ++ t611).size + t612.size ≤ 9223372036854775807
  ·rw [if_pos c6] at H
   have c6b0 := eq_true c6
   have c6b1 : decide ((t610 ++ t611).size + t612.size ≤ 9223372036854775807) = true := decide_eq_true c6
   try have c6b2 : (9223372036854775807 < (t610 ++ t611).size + t612.size) = False := eq_false (Nat.not_lt.2 c6)
   (try have c6b3 := c6b2;simp only [ByteArray.size_append] at c6b3)
   replace H := Option.bind_eq_some_iff.mp H
   obtain ⟨t613,A70,H⟩ := H
   try dsimp only at H
   have A7 := am_ A70
   clear A70
   by_cases c8 : ((t610 ++ t611) ++ t612).size + t613.size ≤ 9223372036854775807
   ·rw [if_pos c8] at H
    have c8b0 := eq_true c8
    have c8b1 : decide (((t610 ++ t611) ++ t612).size + t613.size ≤ 9223372036854775807) = true := decide_eq_true c8
    try have c8b2 : (9223372036854775807 < ((t610 ++ t611) ++ t612).size + t613.size) = False := eq_false (Nat.not_lt.2 c8)
    (try have c8b3 := c8b2;simp only [ByteArray.size_append] at c8b3)
    replace H := Option.bind_eq_some_iff.mp H
    obtain ⟨t614,A90,H⟩ := H
    try dsimp only at H
    have A9 := am_ A90
    clear A90
    by_cases c10 : (((t610 ++ t611) ++ t612) ++ t613).size + t614.size ≤ 9223372036854775807
    ·rw [if_pos c10] at H
     have c10b0 := eq_true c10
     have c10b1 : decide ((((t610 ++ t611) ++ t612) ++ t613).size + t614.size ≤ 9223372036854775807) = true := decide_eq_true c10
     try have c10b2 : (9223372036854775807 < (((t610 ++ t611) ++ t612) ++ t613).size + t614.size) = False := eq_false (Nat.not_lt.2 c10)
     (try have c10b3 := c10b2;simp only [ByteArray.size_append] at c10b3)
     by_cases c11 : ((((t610 ++ t611) ++ t612) ++ t613) ++ t614).size + a0_4.size ≤ 9223372036854775807
     ·rw [if_pos c11] at H
      have c11b0 := eq_true c11
      have c11b1 : decide (((((t610 ++ t611) ++ t612) ++ t613) ++ t614).size + a0_4.size ≤ 9223372036854775807) = true := decide_eq_true c11
      try have c11b2 : (9223372036854775807 < ((((t610 ++ t611) ++ t612) ++ t613) ++ t614).size + a0_4.size) = False := eq_false (Nat.not_lt.2 c11)
      (try have c11b3 := c11b2;simp only [ByteArray.size_append] at c11b3)
      obtain rfl := Option.some.inj H
      go_enter Try.func32,Try.ntmps32
      try go_wp2_with (first | ((with_reducible refine gate_dst (N := 1) rfl ?_);refine zbx (N := 1) (cs := #[.int .i64 a0_0,.int .i64 a0_1,.int .i64 a0_2,.int .i64 a0_3,.string a0_4]) (t := 33) ?_;intro gb609 hg w12 hbox hb;have BK609 := am_ (hbox);have GW609 := zw_ HB hg;have GE609 := zw_ HB hg;replace HB := zs_ HB hb;clear hb hbox hg))
      replace BK609 := am_ (blk_drew BK609.out)
      replace HB := am_ (below_drew1 HB.out)
      refine start_ (n := 24) (S := fun w' => w'.cell? ⟨gb609,0,none⟩ = some (.int .i64 a0_0) ∧ w'.cell? ⟨gb609,1,none⟩ = some (.int .i64 a0_1) ∧ w'.cell? ⟨gb609,2,none⟩ = some (.int .i64 a0_2) ∧ w'.cell? ⟨gb609,3,none⟩ = some (.int .i64 a0_3) ∧ w'.cell? ⟨gb609,4,none⟩ = some (.string a0_4)) (ds := []) #[false,false,false,false,false,false,false,false,false,false,false,false,false,false,false,false,false,false,false,false,false,false,false,false] (by kernel_rfl) rfl rfl ⟨(blk_cell BK609.out 0).trans rfl,(blk_cell BK609.out 1).trans rfl,(blk_cell BK609.out 2).trans rfl,(blk_cell BK609.out 3).trans rfl,(blk_cell BK609.out 4).trans rfl⟩ (fun hHeld => ?_);refine with_tabW impl_requestText.tab1 impl_requestText.bits1 (fun HT_ HW_ => ?_)
      generalize w12.drew = w13 at BK609 HB hHeld ⊢
      refine zpu 0 (N := some 3) #[true,false,false,false,false,false,false,false,false,false,false,false,false,false,false,false,false,false,false,false,false,false,false,false] HT_ ?_
      refine zpu 3 (N := some 6) #[true,false,false,true,false,false,false,false,false,false,false,false,false,false,false,false,false,false,false,false,false,false,false,false] HT_ ?_
      refine zpu 7 (N := some 10) #[true,false,false,true,false,false,false,true,false,false,false,false,false,false,false,false,false,false,false,false,false,false,false,false] HT_ ?_
      refine zpu 11 (N := some 14) #[true,false,false,true,false,false,false,true,false,false,false,true,false,false,false,false,false,false,false,false,false,false,false,false] HT_ ?_
      refine zpu 15 (N := some 18) #[true,false,false,true,false,false,false,true,false,false,false,true,false,false,false,true,false,false,false,false,false,false,false,false] HT_ ?_
      refine zpu 20 (N := some 23) #[true,false,false,true,false,false,false,true,false,false,false,true,false,false,false,true,false,false,false,false,true,false,false,false] HT_ ?_
      refine ztk 1 (N := some 4) #[true,true,false,true,false,false,false,true,false,false,false,true,false,false,false,true,false,false,false,false,true,false,false,false] HT_ HW_ hHeld ?_
      refine ztk 4 (N := some 7) #[true,true,false,true,true,false,false,true,false,false,false,true,false,false,false,true,false,false,false,false,true,false,false,false] HT_ HW_ hHeld ?_
      refine ztk 8 (N := some 11) #[true,true,false,true,true,false,false,true,true,false,false,true,false,false,false,true,false,false,false,false,true,false,false,false] HT_ HW_ hHeld ?_
      refine ztk 12 (N := some 15) #[true,true,false,true,true,false,false,true,true,false,false,true,true,false,false,true,false,false,false,false,true,false,false,false] HT_ HW_ hHeld ?_
      refine ztk 16 (N := some 19) #[true,true,false,true,true,false,false,true,true,false,false,true,true,false,false,true,true,false,false,false,true,false,false,false] HT_ HW_ hHeld ?_
      refine zpu 17 (N := some 20) #[true,true,false,true,true,false,false,true,true,false,false,true,true,false,false,true,true,true,false,false,true,false,false,false] HT_ ?_
      refine ztk 21 (N := some 24) #[true,true,false,true,true,false,false,true,true,false,false,true,true,false,false,true,true,true,false,false,true,true,false,false] HT_ HW_ hHeld ?_
      refine one_ (i := 2) (N := some 5) #[true,true,true,true,true,false,false,true,true,false,false,true,true,false,false,true,true,true,false,false,true,true,false,false] rfl rfl (one_of HT_.out (by kernel_rfl)) (by decide) (fun K hK => ?_)
      refine goes_ Try.func56 (by kernel_rfl) rfl #[.int .i64 a0_0,.int .i64 1] (by rfl) rfl rfl (by (try simp only [m1_,m2_,m3_]);first | done | rfl | (simp only [d1_,d2_];rfl)) ?_
      with_reducible refine (impl_number.calls k a0_0 1 t610 _ A2.out).mono ?_
      rintro e w14 ⟨rfl,hb⟩
      refine ⟨_,rfl,?_⟩
      replace BK609 := zb BK609 hb
      replace HB := zs_ HB hb
      (try clear hb)
      (try clear hb2)
      (try clear hk)
      (try clear hi)
      refine hK.out _ _ ⟨(blk_cell BK609.out 0).trans rfl,(blk_cell BK609.out 1).trans rfl,(blk_cell BK609.out 2).trans rfl,(blk_cell BK609.out 3).trans rfl,(blk_cell BK609.out 4).trans rfl⟩ (fun hHeld => ?_)
      clear hK K
      refine norm_ (a' := ?_) ?_ ?_
      rotate_left
      ·show Act.put _ (some 5) _ = _
       simp only [Act.put,p1_,p2_,p3_,i64_w,i32_w]
       rfl
      refine one_ (i := 5) (N := some 8) #[true,true,true,true,true,true,false,true,true,false,false,true,true,false,false,true,true,true,false,false,true,true,false,false] rfl rfl (one_of HT_.out (by kernel_rfl)) (by decide) (fun K hK => ?_)
      refine goes_ Try.func56 (by kernel_rfl) rfl #[.int .i64 a0_1,.int .i64 2] (by rfl) rfl rfl (by (try simp only [m1_,m2_,m3_]);first | done | rfl | (simp only [d1_,d2_];rfl)) ?_
      with_reducible refine (impl_number.calls k a0_1 2 t611 _ A3.out).mono ?_
      rintro e w15 ⟨rfl,hb⟩
      refine ⟨_,rfl,?_⟩
      replace BK609 := zb BK609 hb
      replace HB := zs_ HB hb
      (try clear hb)
      (try clear hb2)
      (try clear hk)
      (try clear hi)
      refine hK.out _ _ ⟨(blk_cell BK609.out 0).trans rfl,(blk_cell BK609.out 1).trans rfl,(blk_cell BK609.out 2).trans rfl,(blk_cell BK609.out 3).trans rfl,(blk_cell BK609.out 4).trans rfl⟩ (fun hHeld => ?_)
      clear hK K
      refine norm_ (a' := ?_) ?_ ?_
      rotate_left
      ·show Act.put _ (some 8) _ = _
       simp only [Act.put,p1_,p2_,p3_,i64_w,i32_w]
       rfl
      refine zpu 6 (N := some 9) #[true,true,true,true,true,true,true,true,true,false,false,true,true,false,false,true,true,true,false,false,true,true,false,false] HT_ ?_
      refine one_ (i := 9) (N := some 12) #[true,true,true,true,true,true,true,true,true,true,false,true,true,false,false,true,true,true,false,false,true,true,false,false] rfl rfl (one_of HT_.out (by kernel_rfl)) (by decide) (fun K hK => ?_)
      refine goes_ Try.func56 (by kernel_rfl) rfl #[.int .i64 a0_2,.int .i64 1] (by rfl) rfl rfl (by (try simp only [m1_,m2_,m3_]);first | done | rfl | (simp only [d1_,d2_];rfl)) ?_
      with_reducible refine (impl_number.calls k a0_2 1 t612 _ A5.out).mono ?_
      rintro e w16 ⟨rfl,hb⟩
      refine ⟨_,rfl,?_⟩
      replace BK609 := zb BK609 hb
      replace HB := zs_ HB hb
      (try clear hb)
      (try clear hb2)
      (try clear hk)
      (try clear hi)
      refine hK.out _ _ ⟨(blk_cell BK609.out 0).trans rfl,(blk_cell BK609.out 1).trans rfl,(blk_cell BK609.out 2).trans rfl,(blk_cell BK609.out 3).trans rfl,(blk_cell BK609.out 4).trans rfl⟩ (fun hHeld => ?_)
      clear hK K
      refine norm_ (a' := ?_) ?_ ?_
      rotate_left
      ·show Act.put _ (some 12) _ = _
       simp only [Act.put,p1_,p2_,p3_,i64_w,i32_w]
       rfl
      refine zpu 10 (N := some 13) #[true,true,true,true,true,true,true,true,true,true,true,true,true,false,false,true,true,true,false,false,true,true,false,false] HT_ ?_
      refine one_ (i := 13) (N := some 16) #[true,true,true,true,true,true,true,true,true,true,true,true,true,true,false,true,true,true,false,false,true,true,false,false] rfl rfl (one_of HT_.out (by kernel_rfl)) (by decide) (fun K hK => ?_)
      refine goes_ Try.func56 (by kernel_rfl) rfl #[.int .i64 a0_3,.int .i64 2] (by rfl) rfl rfl (by (try simp only [m1_,m2_,m3_]);first | done | rfl | (simp only [d1_,d2_];rfl)) ?_
      with_reducible refine (impl_number.calls k a0_3 2 t613 _ A7.out).mono ?_
      rintro e w17 ⟨rfl,hb⟩
      refine ⟨_,rfl,?_⟩
      replace BK609 := zb BK609 hb
      replace HB := zs_ HB hb
      (try clear hb)
      (try clear hb2)
      (try clear hk)
      (try clear hi)
      refine hK.out _ _ ⟨(blk_cell BK609.out 0).trans rfl,(blk_cell BK609.out 1).trans rfl,(blk_cell BK609.out 2).trans rfl,(blk_cell BK609.out 3).trans rfl,(blk_cell BK609.out 4).trans rfl⟩ (fun hHeld => ?_)
      clear hK K
      refine norm_ (a' := ?_) ?_ ?_
      rotate_left
      ·show Act.put _ (some 16) _ = _
       simp only [Act.put,p1_,p2_,p3_,i64_w,i32_w]
       rfl
      refine zpu 14 (N := some 17) #[true,true,true,true,true,true,true,true,true,true,true,true,true,true,true,true,true,true,false,false,true,true,false,false] HT_ ?_
      refine one_ (i := 18) (N := some 21) #[true,true,true,true,true,true,true,true,true,true,true,true,true,true,true,true,true,true,true,false,true,true,false,false] rfl rfl (one_of HT_.out (by kernel_rfl)) (by decide) (fun K hK => ?_)
      refine goes_ Try.func56 (by kernel_rfl) rfl #[.int .i64 (a0_4.size : Int),.int .i64 1] (by rfl) rfl rfl (by (try simp only [m1_,m2_,m3_]);first | done | rfl | (simp only [d1_,d2_];rfl)) ?_
      with_reducible refine (impl_number.calls k (a0_4.size : Int) 1 t614 _ A9.out).mono ?_
      rintro e w18 ⟨rfl,hb⟩
      refine ⟨_,rfl,?_⟩
      replace BK609 := zb BK609 hb
      replace HB := zs_ HB hb
      (try clear hb)
      (try clear hb2)
      (try clear hk)
      (try clear hi)
      refine hK.out _ _ ⟨(blk_cell BK609.out 0).trans rfl,(blk_cell BK609.out 1).trans rfl,(blk_cell BK609.out 2).trans rfl,(blk_cell BK609.out 3).trans rfl,(blk_cell BK609.out 4).trans rfl⟩ (fun hHeld => ?_)
      clear hK K
      refine norm_ (a' := ?_) ?_ ?_
      rotate_left
      ·show Act.put _ (some 21) _ = _
       simp only [Act.put,p1_,p2_,p3_,i64_w,i32_w]
       rfl
      refine zpu 19 (N := some 22) #[true,true,true,true,true,true,true,true,true,true,true,true,true,true,true,true,true,true,true,true,true,true,false,false] HT_ ?_
      refine zpu 22 (N := some 25) #[true,true,true,true,true,true,true,true,true,true,true,true,true,true,true,true,true,true,true,true,true,true,true,false] HT_ ?_
      refine zpu 23 (N := some 2) #[true,true,true,true,true,true,true,true,true,true,true,true,true,true,true,true,true,true,true,true,true,true,true,true] HT_ ?_
      refine done_ (done_of HT_.out (by kernel_rfl)) ?_
      try go_wp2
      go_ret
      exact ⟨zt_,zl_ HB⟩
     ·rw [if_neg c11] at H
      exact absurd H (by simp)
    ·rw [if_neg c10] at H
     exact absurd H (by simp)
   ·rw [if_neg c8] at H
    exact absurd H (by simp)
  ·rw [if_neg c6] at H
   exact absurd H (by simp)
 ·rw [if_neg c4] at H
  exact absurd H (by simp)
def impl_batchText.T7 : Bool × List (List Nat × List Nat) := (true,[([],[]),([],[]),([1],[1]),([2],[2]),([],[]),([4],[4]),([5,3],[5]),([3,6],[3,6]),([],[]),([8],[8]),([7,9],[7,9]),([0,10],[0,10]),([11,6,0,1,2,3,4,5,6,7,8,9,10,11],[0,11])])
def impl_batchText.B7 : List Nat := [0,0,2,6,0,16,62,126,0,256,1022,2047,4095]
theorem impl_batchText.tab7 : rtab .any (opsOf Try.f40 7) = impl_batchText.T7 := by kernel_rfl
theorem impl_batchText.bits7 : waitsOk impl_batchText.T7.2 impl_batchText.B7 = true := by kernel_rfl
set_option maxHeartbeats 8000000 in
set_option maxRecDepth 100000 in
theorem impl_batchText.calls (k : Nat) (a0_0 : Bool) (a0_1 : Int) (a0_2 : Int) (a0_3 : Int) (a0_4 : Int) (a0_5 : ByteArray) (A0_6 : Option Addr) (c0_6 : Nat) (l0_6 : List (S70)) (r : ByteArray) (w : World) (hr0_6 : Kd.C k70 w A0_6 l0_6.length l0_6) (hc0_6 : l0_6.length ≤ c0_6) (h : impl_batchText.f k a0_0 a0_1 a0_2 a0_3 a0_4 a0_5 l0_6 = some r) :
  Calls Try.prog 40 #[.agg #[.bool a0_0,.int .i64 a0_1,.int .i64 a0_2,.int .i64 a0_3,.int .i64 a0_4,.string a0_5,.slice A0_6 l0_6.length c0_6]] w fun e w' => e = .returned (.string r) ∧ Below w.heap.size w w' := by
 have hu41 := Try.underlying41
 have hu70 := Try.underlying70
 have hu33 := Try.underlying33
 have HR0_6 := am_ hr0_6
 have HC0_6 := am_ hc0_6
 clear hr0_6 hc0_6
 have HB := am_ (Below.refl w.heap.size w)
 have H : (if a0_0 = true then (some (⟨#[0]⟩ : ByteArray)) else ((impl_number.f k (wrap64 ((l0_6.length : Int) + 1)) 1).bind fun t697 => (impl_batchText.l0 k t697 l0_6 (l0_6.length : Int) 0 a0_0 a0_1 a0_2 a0_3 a0_4 a0_5 l0_6))) = some r := h
 clear h
 by_cases c2 : a0_0 = true
 ·subst c2
  have H1 : (some (⟨#[0]⟩ : ByteArray)) = some r := by rw [if_pos rfl] at H;exact H
  clear H
  have H := H1
  clear H1
  obtain rfl := Option.some.inj H
  go_enter Try.func40,Try.ntmps40
  go_wp2_with (first | ((with_reducible refine gate_dst (N := 1) rfl ?_);refine zbx (N := 1) (cs := #[.bool true,.int .i64 a0_1,.int .i64 a0_2,.int .i64 a0_3,.int .i64 a0_4,.string a0_5,.slice A0_6 l0_6.length c0_6]) (t := 41) ?_;intro gb696 hg w3 hbox hb;have BK696 := am_ (hbox);have GW696 := zw_ HB hg;have GE696 := zw_ HB hg;replace HB := zs_ HB hb;clear hb hbox hg;obtain ⟨hcz4_0,hcz4_1,hcz4_2,hcz4_3,hcz4_4,hcz4_5,hcz4_6,hfz4_0,hfz4_1,hfz4_2,hfz4_3,hfz4_4,hfz4_5,hfz4_6⟩ := zc7 BK696))
  go_ret
  exact ⟨zt_,zl_ HB⟩
 ·replace c2 := Bool.eq_false_iff.mpr c2
  subst c2
  have H1 : ((impl_number.f k (wrap64 ((l0_6.length : Int) + 1)) 1).bind fun t697 => (impl_batchText.l0 k t697 l0_6 (l0_6.length : Int) 0 false a0_1 a0_2 a0_3 a0_4 a0_5 l0_6)) = some r := by rw [if_neg (show ¬ (false = true) by decide)] at H;exact H
  clear H
  have H := H1
  clear H1
  replace H := Option.bind_eq_some_iff.mp H
  obtain ⟨t697,A50,H⟩ := H
  try dsimp only at H
  have A5 := am_ A50
  clear A50
  have H' := am_ H
  clear H
  go_enter Try.func40,Try.ntmps40
  go_wp2_with (first | ((with_reducible refine gate_dst (N := 1) rfl ?_);refine zbx (N := 1) (cs := #[.bool false,.int .i64 a0_1,.int .i64 a0_2,.int .i64 a0_3,.int .i64 a0_4,.string a0_5,.slice A0_6 l0_6.length c0_6]) (t := 41) ?_;intro gb696 hg w6 hbox hb;have BK696 := am_ (hbox);have GW696 := zw_ HB hg;have GE696 := zw_ HB hg;replace HB := zs_ HB hb;clear hb hbox hg;obtain ⟨hcz7_0,hcz7_1,hcz7_2,hcz7_3,hcz7_4,hcz7_5,hcz7_6,hfz7_0,hfz7_1,hfz7_2,hfz7_3,hfz7_4,hfz7_5,hfz7_6⟩ := zc7 BK696) | ((with_reducible refine gate_callee (f := 56) rfl ?_);refine zgl (some 12) Try.func56 #[.int .i64 (wrap64 ((l0_6.length : Int) + 1)),.int .i64 1] ?_;(with_reducible refine (impl_number.calls k (wrap64 ((l0_6.length : Int) + 1)) 1 t697 _ A5.out).mono ?_);rintro e w8 ⟨rfl,hb⟩;refine ⟨_,rfl,?_⟩;replace BK696 := zb BK696 hb;replace HB := zs_ HB hb;(try clear hb);(try clear hb2);(try clear hk);(try clear hi);obtain ⟨hcz9_0,hcz9_1,hcz9_2,hcz9_3,hcz9_4,hcz9_5,hcz9_6,hfz9_0,hfz9_1,hfz9_2,hfz9_3,hfz9_4,hfz9_5,hfz9_6⟩ := zc7 BK696))
  go_loopg [3,16] k (fun kq v3 v16 w' => ∃ (x3_1 : ByteArray) (x16_1 : Int),v3 = .string x3_1 ∧ v16 = .int .i64 x16_1 ∧ Aside0 (impl_batchText.l0 kq x3_1 l0_6 (l0_6.length : Int) x16_1 false a0_1 a0_2 a0_3 a0_4 a0_5 l0_6 = some r) ∧ Aside0 (kq ≤ k) ∧ Aside0 (w'.heap[gb696]? = some (.cells #[.bool false,.int .i64 a0_1,.int .i64 a0_2,.int .i64 a0_3,.int .i64 a0_4,.string a0_5,(.slice A0_6 l0_6.length c0_6)] 41 (0,0))) ∧ Aside0 (Below w.heap.size w w'))
  case atStart => exact ⟨(t697),(0),(by first | rfl | (simp;done) | (simp [*];done)),(by first | rfl | (simp;done) | (simp [*];done)),H',⟨Nat.le_refl _⟩,⟨by (with_reducible repeat (first | apply k1_ | apply k2_ | apply k3_));exact BK696.out⟩,⟨zl_ HB⟩⟩
  case round =>
   clear H'
   try clear c2
   try clear p2
   try clear c4
   try clear c5
   try clear p6
   try clear hcz4_0
   try clear hcz4_1
   try clear hcz4_2
   try clear hcz4_3
   try clear hcz4_4
   try clear hcz4_5
   try clear hcz4_6
   try clear hcz7_0
   try clear hcz7_1
   try clear hcz7_2
   try clear hcz7_3
   try clear hcz7_4
   try clear hcz7_5
   try clear hcz7_6
   try clear hcz9_0
   try clear hcz9_1
   try clear hcz9_2
   try clear hcz9_3
   try clear hcz9_4
   try clear hcz9_5
   try clear hcz9_6
   try clear hfz4_0
   try clear hfz4_1
   try clear hfz4_2
   try clear hfz4_3
   try clear hfz4_4
   try clear hfz4_5
   try clear hfz4_6
   try clear hfz7_0
   try clear hfz7_1
   try clear hfz7_2
   try clear hfz7_3
   try clear hfz7_4
   try clear hfz7_5
   try clear hfz7_6
   try clear hfz9_0
   try clear hfz9_1
   try clear hfz9_2
   try clear hfz9_3
   try clear hfz9_4
   try clear hfz9_5
   try clear hfz9_6
   obtain ⟨x3_1,x16_1,rfl,rfl,HA,HK1,BK696,HB⟩ := hrel
   cases gk with
   | zero => exact absurd HA.out (by simp [impl_batchText.l0])
   | succ k1 =>
    have H := HA.out
    clear HA
    simp only [impl_batchText.l0] at H
    by_cases c10 : x16_1 < (l0_6.length : Int)
    ·rw [if_pos c10] at H
     have c10b0 : decide (x16_1 < (l0_6.length : Int)) = true := decide_eq_true c10
     clear c10
     by_cases c11 : 0 ≤ x16_1
     ·rw [if_pos c11] at H
      have c11b0 : decide (0 ≤ x16_1) = true := decide_eq_true c11
      clear c11
      by_cases c12 : x16_1 < (l0_6.length : Int)
      ·rw [if_pos c12] at H
       have c12b0 : decide (x16_1 < (l0_6.length : Int)) = true := decide_eq_true c12
       clear c12
       replace H := Option.bind_eq_some_iff.mp H
       obtain ⟨t700,A130,H⟩ := H
       try dsimp only at H
       have A13 := am_ A130
       clear A130
       replace H := Option.bind_eq_some_iff.mp H
       obtain ⟨t701,A140,H⟩ := H
       try dsimp only at H
       have A14 := am_ A140
       clear A140
       by_cases c15 : t700.size + t701.size ≤ 9223372036854775807
       ·rw [if_pos c15] at H
        have c15b0 := eq_true c15
        have c15b1 : decide (t700.size + t701.size ≤ 9223372036854775807) = true := decide_eq_true c15
        try have c15b2 : (9223372036854775807 < t700.size + t701.size) = False := eq_false (Nat.not_lt.2 c15)
        by_cases c16 : (t700 ++ t701).size + ((rd_T70 l0_6 x16_1).f2).size ≤ 9223372036854775807
        ·rw [if_pos c16] at H
         have c16b0 := eq_true c16
         have c16b1 : decide ((t700 ++ t701).size + ((rd_T70 l0_6 x16_1).f2).size ≤ 9223372036854775807) = true := decide_eq_true c16
         try have c16b2 : (9223372036854775807 < (t700 ++ t701).size + ((rd_T70 l0_6 x16_1).f2).size) = False := eq_false (Nat.not_lt.2 c16)
         (try have c16b3 := c16b2;simp only [ByteArray.size_append] at c16b3)
         by_cases c17 : x3_1.size + ((t700 ++ t701) ++ ((rd_T70 l0_6 x16_1).f2)).size ≤ 9223372036854775807
         ·rw [if_pos c17] at H
          have c17b0 := eq_true c17
          have c17b1 : decide (x3_1.size + ((t700 ++ t701) ++ ((rd_T70 l0_6 x16_1).f2)).size ≤ 9223372036854775807) = true := decide_eq_true c17
          try have c17b2 : (9223372036854775807 < x3_1.size + ((t700 ++ t701) ++ ((rd_T70 l0_6 x16_1).f2)).size) = False := eq_false (Nat.not_lt.2 c17)
          (try have c17b3 := c17b2;simp only [ByteArray.size_append] at c17b3)
          have H' := am_ H
          clear H
          have p698 : 0 ≤ (x16_1 : Int) := o1_ (by first | (with_reducible assumption) | assumption)
          have q698 : x16_1 < (l0_6.length : Int) := o1_ (by first | (with_reducible assumption) | assumption)
          obtain ⟨ad698,e698,hx698_0,hx698_1,hx698_2⟩ := at_T70 HR0_6.out x16_1 p698 q698
          cases e698
          replace hx698_0 := (HB.out.cell (World.block_lt_of_cell? w _ hx698_0)).trans hx698_0
          replace hx698_1 := (HB.out.cell (World.block_lt_of_cell? w _ hx698_1)).trans hx698_1
          replace hx698_2 := (HB.out.cell (World.block_lt_of_cell? w _ hx698_2)).trans hx698_2
          replace p698 := eq_true p698
          replace q698 := eq_true q698
          try go_wp2_with (first | ((with_reducible refine gate_dst (N := 5) rfl ?_);refine zbx (N := 5) (cs := #[.int .i64 0,.int .i64 0,.string ⟨#[]⟩]) (t := 70) ?_;intro gb699 hg w18 hbox hb;have BK699 := am_ (hbox);have GW699 := zw_ HB hg;have GE699 := zw_ HB hg;replace HB := zs_ HB hb;have NB696_699 := zl hg BK696;have NB699_696 := zg hg BK696;replace BK696 := zb BK696 hb;clear hb hbox hg;have hnb19 := NB699_696.out;have hnc19 := NB696_699.out;obtain ⟨hcz20_0,hcz20_1,hcz20_2,hfz20_0,hfz20_1,hfz20_2⟩ := zc3 BK699))
          have n0_ : Aside0 ((((w18.setCell ⟨gb699,0,none⟩ (.int .i64 ((rd_T70 l0_6 x16_1).f0))).setCell ⟨gb699,1,none⟩ (.int .i64 ((rd_T70 l0_6 x16_1).f1))).setCell ⟨gb699,2,none⟩ (.string ((rd_T70 l0_6 x16_1).f2))).heap[gb696]? = some (.cells #[.bool false,.int .i64 a0_1,.int .i64 a0_2,.int .i64 a0_3,.int .i64 a0_4,.string a0_5,.slice (some ad698) l0_6.length c0_6] 41 (0,0))) := ⟨zq BK696⟩
          have n1_ : Aside0 ((((w18.setCell ⟨gb699,0,none⟩ (.int .i64 ((rd_T70 l0_6 x16_1).f0))).setCell ⟨gb699,1,none⟩ (.int .i64 ((rd_T70 l0_6 x16_1).f1))).setCell ⟨gb699,2,none⟩ (.string ((rd_T70 l0_6 x16_1).f2))).heap[gb699]? = some (.cells #[.int .i64 ((rd_T70 l0_6 x16_1).f0),.int .i64 ((rd_T70 l0_6 x16_1).f1),.string ((rd_T70 l0_6 x16_1).f2)] 70 (0,0))) := ⟨zq BK699⟩
          have n2_ : Aside0 (Below w.heap.size w (((w18.setCell ⟨gb699,0,none⟩ (.int .i64 ((rd_T70 l0_6 x16_1).f0))).setCell ⟨gb699,1,none⟩ (.int .i64 ((rd_T70 l0_6 x16_1).f1))).setCell ⟨gb699,2,none⟩ (.string ((rd_T70 l0_6 x16_1).f2)))) := ⟨zl_ HB⟩
          (try clear BK696)
          (try clear BK699)
          (try clear HB)
          generalize (((w18.setCell ⟨gb699,0,none⟩ (.int .i64 ((rd_T70 l0_6 x16_1).f0))).setCell ⟨gb699,1,none⟩ (.int .i64 ((rd_T70 l0_6 x16_1).f1))).setCell ⟨gb699,2,none⟩ (.string ((rd_T70 l0_6 x16_1).f2))) = w21 at n0_ n1_ n2_ ⊢
          have BK696 := n0_
          have BK699 := n1_
          have HB := n2_
          clear n0_ n1_ n2_
          replace BK696 := am_ (blk_drew BK696.out)
          replace BK699 := am_ (blk_drew BK699.out)
          replace HB := am_ (below_drew1 HB.out)
          refine start_ (n := 13) (S := fun w' => w'.cell? ⟨gb699,0,none⟩ = some (.int .i64 ((rd_T70 l0_6 x16_1).f0)) ∧ w'.cell? ⟨gb699,1,none⟩ = some (.int .i64 ((rd_T70 l0_6 x16_1).f1)) ∧ w'.cell? ⟨gb699,2,none⟩ = some (.string ((rd_T70 l0_6 x16_1).f2))) (ds := []) #[false,false,false,false,false,false,false,false,false,false,false,false,false] (by kernel_rfl) rfl rfl ⟨(blk_cell BK699.out 0).trans rfl,(blk_cell BK699.out 1).trans rfl,(blk_cell BK699.out 2).trans rfl⟩ (fun hHeld => ?_);refine with_tabW impl_batchText.tab7 impl_batchText.bits7 (fun HT_ HW_ => ?_)
          generalize w21.drew = w22 at BK696 BK699 HB hHeld ⊢
          refine zpu 0 (N := some 20) #[true,false,false,false,false,false,false,false,false,false,false,false,false] HT_ ?_
          refine zpu 1 (N := some 21) #[true,true,false,false,false,false,false,false,false,false,false,false,false] HT_ ?_
          refine zpu 4 (N := some 24) #[true,true,false,false,true,false,false,false,false,false,false,false,false] HT_ ?_
          refine zpu 8 (N := some 28) #[true,true,false,false,true,false,false,false,true,false,false,false,false] HT_ ?_
          refine ztk 2 (N := some 22) #[true,true,true,false,true,false,false,false,true,false,false,false,false] HT_ HW_ hHeld ?_
          refine ztk 5 (N := some 25) #[true,true,true,false,true,true,false,false,true,false,false,false,false] HT_ HW_ hHeld ?_
          refine ztk 9 (N := some 29) #[true,true,true,false,true,true,false,false,true,true,false,false,false] HT_ HW_ hHeld ?_
          refine one_ (i := 3) (N := some 23) #[true,true,true,true,true,true,false,false,true,true,false,false,false] rfl rfl (one_of HT_.out (by kernel_rfl)) (by decide) (fun K hK => ?_)
          refine goes_ Try.func56 (by kernel_rfl) rfl #[.int .i64 ((rd_T70 l0_6 x16_1).f0),.int .i64 1] (by rfl) rfl rfl (by (try simp only [m1_,m2_,m3_]);first | done | rfl | (simp only [d1_,d2_];rfl)) ?_
          with_reducible refine (impl_number.calls k1 ((rd_T70 l0_6 x16_1).f0) 1 t700 _ A13.out).mono ?_
          rintro e w23 ⟨rfl,hb⟩
          refine ⟨_,rfl,?_⟩
          replace BK696 := zb BK696 hb
          replace BK699 := zb BK699 hb
          replace HB := zs_ HB hb
          (try clear hb)
          (try clear hb2)
          (try clear hk)
          (try clear hi)
          refine hK.out _ _ ⟨(blk_cell BK699.out 0).trans rfl,(blk_cell BK699.out 1).trans rfl,(blk_cell BK699.out 2).trans rfl⟩ (fun hHeld => ?_)
          clear hK K
          refine norm_ (a' := ?_) ?_ ?_
          rotate_left
          ·show Act.put _ (some 23) _ = _
           simp only [Act.put,p1_,p2_,p3_,i64_w,i32_w]
           rfl
          refine one_ (i := 6) (N := some 26) #[true,true,true,true,true,true,true,false,true,true,false,false,false] rfl rfl (one_of HT_.out (by kernel_rfl)) (by decide) (fun K hK => ?_)
          refine goes_ Try.func56 (by kernel_rfl) rfl #[.int .i64 ((rd_T70 l0_6 x16_1).f1),.int .i64 4] (by rfl) rfl rfl (by (try simp only [m1_,m2_,m3_]);first | done | rfl | (simp only [d1_,d2_];rfl)) ?_
          with_reducible refine (impl_number.calls k1 ((rd_T70 l0_6 x16_1).f1) 4 t701 _ A14.out).mono ?_
          rintro e w24 ⟨rfl,hb⟩
          refine ⟨_,rfl,?_⟩
          replace BK696 := zb BK696 hb
          replace BK699 := zb BK699 hb
          replace HB := zs_ HB hb
          (try clear hb)
          (try clear hb2)
          (try clear hk)
          (try clear hi)
          refine hK.out _ _ ⟨(blk_cell BK699.out 0).trans rfl,(blk_cell BK699.out 1).trans rfl,(blk_cell BK699.out 2).trans rfl⟩ (fun hHeld => ?_)
          clear hK K
          refine norm_ (a' := ?_) ?_ ?_
          rotate_left
          ·show Act.put _ (some 26) _ = _
           simp only [Act.put,p1_,p2_,p3_,i64_w,i32_w]
           rfl
          refine zpu 7 (N := some 27) #[true,true,true,true,true,true,true,true,true,true,false,false,false] HT_ ?_
          refine zpu 10 (N := some 30) #[true,true,true,true,true,true,true,true,true,true,true,false,false] HT_ ?_
          refine zpu 11 (N := some 31) #[true,true,true,true,true,true,true,true,true,true,true,true,false] HT_ ?_
          refine zpu 12 (N := some 3) #[true,true,true,true,true,true,true,true,true,true,true,true,true] HT_ ?_
          refine done_ (done_of HT_.out (by kernel_rfl)) ?_
          try go_wp2
          go_roundg k1
          case measure => have := HK1.out;omega
          case rel => exact ⟨(x3_1 ++ ((t700 ++ t701) ++ ((rd_T70 l0_6 x16_1).f2))),(wrap64 (x16_1 + 1)),(by first | rfl | (simp;done) | (simp [*];done)),(by first | rfl | (simp;done) | (simp [*];done)),H',⟨by have := HK1.out;omega⟩,⟨by (with_reducible repeat (first | apply k1_ | apply k2_ | apply k3_));exact BK696.out⟩,⟨zl_ HB⟩⟩
         ·rw [if_neg c17] at H
          exact absurd H (by simp)
        ·rw [if_neg c16] at H
         exact absurd H (by simp)
       ·rw [if_neg c15] at H
        exact absurd H (by simp)
      ·rw [if_neg c12] at H
       exact absurd H (by simp)
     ·rw [if_neg c11] at H
      exact absurd H (by simp)
    ·rw [if_neg c10] at H
     have c10b0 : decide (x16_1 < (l0_6.length : Int)) = false := decide_eq_false c10
     clear c10
     replace H := Option.bind_eq_some_iff.mp H
     obtain ⟨t702,A250,H⟩ := H
     try dsimp only at H
     have A25 := am_ A250
     clear A250
     by_cases c26 : x3_1.size + t702.size ≤ 9223372036854775807
     ·rw [if_pos c26] at H
      have c26b0 := eq_true c26
      have c26b1 : decide (x3_1.size + t702.size ≤ 9223372036854775807) = true := decide_eq_true c26
      try have c26b2 : (9223372036854775807 < x3_1.size + t702.size) = False := eq_false (Nat.not_lt.2 c26)
      obtain rfl := Option.some.inj H
      obtain ⟨hcz27_0,hcz27_1,hcz27_2,hcz27_3,hcz27_4,hcz27_5,hcz27_6,hfz27_0,hfz27_1,hfz27_2,hfz27_3,hfz27_4,hfz27_5,hfz27_6⟩ := zc7 BK696
      go_wp2_with (first | ((with_reducible refine gate_callee (f := 32) rfl ?_);refine zgl (some 36) Try.func32 #[.agg #[.int .i64 a0_1,.int .i64 a0_2,.int .i64 a0_3,.int .i64 a0_4,.string a0_5]] ?_;(with_reducible refine (impl_requestText.calls k1 a0_1 a0_2 a0_3 a0_4 a0_5 t702 _ A25.out).mono ?_);rintro e w28 ⟨rfl,hb⟩;refine ⟨_,rfl,?_⟩;replace HB := zs_ HB hb;(try clear hb);(try clear hb2);(try clear hk);(try clear hi)))
      go_ret
      exact ⟨zt_,zl_ HB⟩
     ·rw [if_neg c26] at H
      exact absurd H (by simp)
set_option maxHeartbeats 8000000 in
set_option maxRecDepth 100000 in
theorem impl_isLetter.calls (a0 : Int) (r : Bool) (w : World) (h : impl_isLetter.f a0 = some r) :
  Calls Try.prog 68 #[.int .u8 a0] w fun e w' => e = .returned (.bool r) ∧ Drawn0 w w' := by
 have H : (if a0 ≥ 97 then (if a0 ≤ 122 then (some true) else (if a0 ≥ 65 then (if a0 ≤ 90 then (some true) else (some (a0 == 95))) else (some (a0 == 95)))) else (if a0 ≥ 65 then (if a0 ≤ 90 then (some true) else (some (a0 == 95))) else (some (a0 == 95)))) = some r := h
 clear h
 by_cases c2 : a0 ≥ 97
 ·rw [if_pos c2] at H
  have c2b0 : decide (97 ≤ a0) = true := decide_eq_true c2
  clear c2
  by_cases c3 : a0 ≤ 122
  ·rw [if_pos c3] at H
   have c3b0 : decide (a0 ≤ 122) = true := decide_eq_true c3
   clear c3
   obtain rfl := Option.some.inj H
   go_enter Try.func68,Try.ntmps68
   go_wp2
   go_ret
   exact ⟨by first | rfl | (simp;done) | (simp [*];done),by repeat (first | exact Drawn0.refl _ | apply Drawn0.step)⟩
  ·rw [if_neg c3] at H
   have c3b0 : decide (a0 ≤ 122) = false := decide_eq_false c3
   clear c3
   by_cases c4 : a0 ≥ 65
   ·rw [if_pos c4] at H
    have c4b0 : decide (65 ≤ a0) = true := decide_eq_true c4
    clear c4
    by_cases c5 : a0 ≤ 90
    ·rw [if_pos c5] at H
     have c5b0 : decide (a0 ≤ 90) = true := decide_eq_true c5
     clear c5
     obtain rfl := Option.some.inj H
     go_enter Try.func68,Try.ntmps68
     go_wp2
     go_ret
     exact ⟨by first | rfl | (simp;done) | (simp [*];done),by repeat (first | exact Drawn0.refl _ | apply Drawn0.step)⟩
    ·rw [if_neg c5] at H
     have c5b0 : decide (a0 ≤ 90) = false := decide_eq_false c5
     clear c5
     obtain rfl := Option.some.inj H
     go_enter Try.func68,Try.ntmps68
     go_wp2
     go_ret
     exact ⟨by first | rfl | (simp;done) | (simp [*];done),by repeat (first | exact Drawn0.refl _ | apply Drawn0.step)⟩
   ·rw [if_neg c4] at H
    have c4b0 : decide (65 ≤ a0) = false := decide_eq_false c4
    clear c4
    obtain rfl := Option.some.inj H
    go_enter Try.func68,Try.ntmps68
    go_wp2
    go_ret
    exact ⟨by first | rfl | (simp;done) | (simp [*];done),by repeat (first | exact Drawn0.refl _ | apply Drawn0.step)⟩
 ·rw [if_neg c2] at H
  have c2b0 : decide (97 ≤ a0) = false := decide_eq_false c2
  clear c2
  by_cases c6 : a0 ≥ 65
  ·rw [if_pos c6] at H
   have c6b0 : decide (65 ≤ a0) = true := decide_eq_true c6
   clear c6
   by_cases c7 : a0 ≤ 90
   ·rw [if_pos c7] at H
    have c7b0 : decide (a0 ≤ 90) = true := decide_eq_true c7
    clear c7
    obtain rfl := Option.some.inj H
    go_enter Try.func68,Try.ntmps68
    go_wp2
    go_ret
    exact ⟨by first | rfl | (simp;done) | (simp [*];done),by repeat (first | exact Drawn0.refl _ | apply Drawn0.step)⟩
   ·rw [if_neg c7] at H
    have c7b0 : decide (a0 ≤ 90) = false := decide_eq_false c7
    clear c7
    obtain rfl := Option.some.inj H
    go_enter Try.func68,Try.ntmps68
    go_wp2
    go_ret
    exact ⟨by first | rfl | (simp;done) | (simp [*];done),by repeat (first | exact Drawn0.refl _ | apply Drawn0.step)⟩
  ·rw [if_neg c6] at H
   have c6b0 : decide (65 ≤ a0) = false := decide_eq_false c6
   clear c6
   obtain rfl := Option.some.inj H
   go_enter Try.func68,Try.ntmps68
   go_wp2
   go_ret
   exact ⟨by first | rfl | (simp;done) | (simp [*];done),by repeat (first | exact Drawn0.refl _ | apply Drawn0.step)⟩
set_option maxHeartbeats 8000000 in
set_option maxRecDepth 100000 in
theorem impl_NameOK.calls (k : Nat) (a0 : ByteArray) (r : Bool) (w : World) (h : impl_NameOK.f k a0 = some r) :
  Calls Try.prog 59 #[.string a0] w fun e w' => e = .returned (.bool r) ∧ Drawn0 w w' := by
 have H : (if (a0.size : Int) < 1 then (impl_NameOK.j0 k a0 true) else (if (a0.size : Int) > 40 then (impl_NameOK.j0 k a0 true) else (if 0 < (a0.size : Int) then ((impl_isLetter.f (bt a0 0)).bind fun t600 => (impl_NameOK.j0 k a0 (!t600))) else (none)))) = some r := h
 clear h
 have HC2 := am_ H
 clear H
 go_enter Try.func59,Try.ntmps59
 go_upto_region 1 with (fail)
 go_cut [17] (fun v17 wc => ∃ (kq : Nat) (x17_1 : Bool),v17 = .bool x17_1 ∧ Aside0 (impl_NameOK.j0 kq a0 x17_1 = some r) ∧ Aside0 (kq ≤ k) ∧ Drawn0 w wc)
 case first =>
  have H := HC2.out
  clear HC2
  by_cases c3 : (a0.size : Int) < 1
  ·rw [if_pos c3] at H
   have c3b0 : decide ((a0.size : Int) < 1) = true := decide_eq_true c3
   have c3b1 : decide (a0.size < 1) = true := decide_eq_true (by omega)
   clear c3
   (first | rw [c3b0] | (simp only [i64_w,i32_w];rw [c3b0]) | skip)
   have H' := am_ H
   clear H
   go_wp2
   go_meet
   case rel => exact ⟨_,(true),(by first | rfl | (simp;done) | (simp [*];done)),H',⟨by first | omega | exact Nat.le_refl _⟩,by repeat (first | exact Drawn0.refl _ | apply Drawn0.step)⟩
  ·rw [if_neg c3] at H
   have c3b0 : decide ((a0.size : Int) < 1) = false := decide_eq_false c3
   have c3b1 : decide (a0.size < 1) = false := decide_eq_false (by omega)
   clear c3
   (first | rw [c3b0] | (simp only [i64_w,i32_w];rw [c3b0]) | skip)
   by_cases c4 : (a0.size : Int) > 40
   ·rw [if_pos c4] at H
    have c4b0 : decide (40 < (a0.size : Int)) = true := decide_eq_true c4
    have c4b1 : decide (40 < a0.size) = true := decide_eq_true (by omega)
    clear c4
    have H' := am_ H
    clear H
    go_wp2
    go_meet
    case rel => exact ⟨_,(true),(by first | rfl | (simp;done) | (simp [*];done)),H',⟨by first | omega | exact Nat.le_refl _⟩,by repeat (first | exact Drawn0.refl _ | apply Drawn0.step)⟩
   ·rw [if_neg c4] at H
    have c4b0 : decide (40 < (a0.size : Int)) = false := decide_eq_false c4
    have c4b1 : decide (40 < a0.size) = false := decide_eq_false (by omega)
    clear c4
    by_cases c5 : 0 < (a0.size : Int)
    ·rw [if_pos c5] at H
     have c5b0 : decide (0 < (a0.size : Int)) = true := decide_eq_true c5
     have c5b1 : decide (0 < a0.size) = true := decide_eq_true (by omega)
     clear c5
     replace H := Option.bind_eq_some_iff.mp H
     obtain ⟨t600,A70,H⟩ := H
     try dsimp only at H
     have A7 := am_ A70
     clear A70
     have H' := am_ H
     clear H
     have p6 : 0 ≤ (0 : Int) := (by omega)
     have q6 : 0 < a0.size := (by have : (0 : Int) < (a0.size : Int) := o1_ (by first | (with_reducible assumption) | assumption);omega)
     have hx6 : ∀ h : 0 < a0.size,((a0[0]'h).toNat : Int) = bt a0 0 := bt_at a0 0
     clear p6
     have qi6 : (0 < (a0.size : Int)) = True := eq_true (o1_ (by first | (with_reducible assumption) | assumption))
     replace q6 := eq_true q6
     go_wp2_with (first | (go_at_call 68;(with_reducible refine (impl_isLetter.calls (bt a0 0) t600 _ A7.out).mono ?_);rintro e w' ⟨rfl,⟨nd,rfl⟩⟩))
     go_meet
     case rel => exact ⟨_,(!t600),(by first | rfl | (simp;done) | (simp [*];done)),H',⟨by first | omega | exact Nat.le_refl _⟩,by repeat (first | exact Drawn0.refl _ | apply Drawn0.step)⟩
    ·rw [if_neg c5] at H
     exact absurd H (by simp)
 case rest =>
  clear HC2
  try clear p2
  try clear c3
  try clear c3b0
  try clear c3b1
  try clear c4
  try clear c4b0
  try clear c4b1
  try clear c5
  try clear c5b0
  try clear c5b1
  try clear p6
  try clear q6
  try clear hx6
  try clear qi6
  try clear p6
  try clear q6
  obtain ⟨kq,x17_1,rfl,HA,HJ1,⟨mc1,rfl⟩⟩ := hcut
  cases kq with
  | zero => exact absurd HA.out (by simp [impl_NameOK.j0])
  | succ kj1 =>
   have H := HA.out
   clear HA
   simp only [impl_NameOK.j0] at H
   by_cases c8 : x17_1 = true
   ·subst c8
    have H1 : (some false) = some r := by rw [if_pos rfl] at H;exact H
    clear H
    have H := H1
    clear H1
    obtain rfl := Option.some.inj H
    go_wp2
    go_ret
    exact ⟨by first | rfl | (simp;done) | (simp [*];done),by repeat (first | exact Drawn0.refl _ | apply Drawn0.step)⟩
   ·replace c8 := Bool.eq_false_iff.mpr c8
    subst c8
    have H1 : (impl_NameOK.l0 kj1 a0 (a0.size : Int) 0) = some r := by rw [if_neg (show ¬ (false = true) by decide)] at H;exact H
    clear H
    have H := H1
    clear H1
    have H' := am_ H
    clear H
    go_wp2
    go_loopg [20] kj1 (fun kq v20 w' => ∃ (x20_2 : Int),v20 = .int .i64 x20_2 ∧ Aside0 (impl_NameOK.l0 kq a0 (a0.size : Int) x20_2 = some r) ∧ Aside0 (kq ≤ kj1) ∧ Drawn0 w w')
    case atStart => exact ⟨(0),(by first | rfl | (simp;done) | (simp [*];done)),H',⟨Nat.le_refl _⟩,by repeat (first | exact Drawn0.refl _ | apply Drawn0.step)⟩
    case round =>
     clear H'
     try clear c1
     try clear p2
     try clear c3
     try clear c3b0
     try clear c3b1
     try clear c4
     try clear c4b0
     try clear c4b1
     try clear c5
     try clear c5b0
     try clear c5b1
     try clear p6
     try clear q6
     try clear hx6
     try clear qi6
     try clear c8
     try clear p2
     try clear p6
     try clear q6
     obtain ⟨x20_2,rfl,HA,HK2,⟨m2,rfl⟩⟩ := hrel
     cases gk with
     | zero => exact absurd HA.out (by simp [impl_NameOK.l0])
     | succ k2 =>
      have H := HA.out
      clear HA
      simp only [impl_NameOK.l0] at H
      by_cases c9 : x20_2 < (a0.size : Int)
      ·rw [if_pos c9] at H
       have c9b0 : decide (x20_2 < (a0.size : Int)) = true := decide_eq_true c9
       clear c9
       by_cases c10 : 0 ≤ x20_2
       ·rw [if_pos c10] at H
        have c10b0 : decide (0 ≤ x20_2) = true := decide_eq_true c10
        clear c10
        by_cases c11 : x20_2 < (a0.size : Int)
        ·rw [if_pos c11] at H
         have c11b0 : decide (x20_2 < (a0.size : Int)) = true := decide_eq_true c11
         clear c11
         replace H := Option.bind_eq_some_iff.mp H
         obtain ⟨t601,A130,H⟩ := H
         try dsimp only at H
         have A13 := am_ A130
         clear A130
         by_cases c14 : t601 = true
         ·subst c14
          have H1 : (impl_NameOK.l0 k2 a0 (a0.size : Int) (wrap64 (x20_2 + 1))) = some r := by rw [if_pos rfl] at H;exact H
          clear H
          have H := H1
          clear H1
          have H' := am_ H
          clear H
          have p12 : 0 ≤ (x20_2 : Int) := o1_ (by first | (with_reducible assumption) | assumption)
          have q12 : x20_2 < (a0.size : Int) := o1_ (by first | (with_reducible assumption) | assumption)
          have hx12 := bt_at a0 x20_2
          replace p12 := eq_true p12
          replace q12 := eq_true q12
          go_wp2_with (first | ((with_reducible refine gate_callee (f := 68) rfl ?_);refine zgl (some 26) Try.func68 #[.int .u8 (bt a0 x20_2)] ?_;(with_reducible refine (impl_isLetter.calls (bt a0 x20_2) true _ A13.out).mono ?_);rintro e w' ⟨rfl,⟨nd,rfl⟩⟩;refine ⟨_,rfl,?_⟩))
          go_roundg k2
          case measure => have := HJ1.out;have := HK2.out;omega
          case rel => exact ⟨(wrap64 (x20_2 + 1)),(by first | rfl | (simp;done) | (simp [*];done)),H',⟨by have := HJ1.out;have := HK2.out;omega⟩,by repeat (first | exact Drawn0.refl _ | apply Drawn0.step)⟩
         ·replace c14 := Bool.eq_false_iff.mpr c14
          subst c14
          have H1 : (if (bt a0 x20_2) < 48 then (some false) else (if (bt a0 x20_2) > 57 then (some false) else (impl_NameOK.l0 k2 a0 (a0.size : Int) (wrap64 (x20_2 + 1))))) = some r := by rw [if_neg (show ¬ (false = true) by decide)] at H;exact H
          clear H
          have H := H1
          clear H1
          by_cases c16 : (bt a0 x20_2) < 48
          ·rw [if_pos c16] at H
           have c16b0 : decide ((bt a0 x20_2) < 48) = true := decide_eq_true c16
           clear c16
           obtain rfl := Option.some.inj H
           have p12 : 0 ≤ (x20_2 : Int) := o1_ (by first | (with_reducible assumption) | assumption)
           have q12 : x20_2 < (a0.size : Int) := o1_ (by first | (with_reducible assumption) | assumption)
           have hx12 := bt_at a0 x20_2
           replace p12 := eq_true p12
           replace q12 := eq_true q12
           go_wp2_with (first | ((with_reducible refine gate_callee (f := 68) rfl ?_);refine zgl (some 26) Try.func68 #[.int .u8 (bt a0 x20_2)] ?_;(with_reducible refine (impl_isLetter.calls (bt a0 x20_2) false _ A13.out).mono ?_);rintro e w' ⟨rfl,⟨nd,rfl⟩⟩;refine ⟨_,rfl,?_⟩;have p15 : 0 ≤ (x20_2 : Int) := o1_ (by first | (with_reducible assumption) | assumption);have q15 : x20_2 < (a0.size : Int) := o1_ (by first | (with_reducible assumption) | assumption);have hx15 := bt_at a0 x20_2;replace p15 := eq_true p15;replace q15 := eq_true q15))
           go_ret
           exact ⟨by first | rfl | (simp;done) | (simp [*];done),by repeat (first | exact Drawn0.refl _ | apply Drawn0.step)⟩
          ·rw [if_neg c16] at H
           have c16b0 : decide ((bt a0 x20_2) < 48) = false := decide_eq_false c16
           clear c16
           by_cases c18 : (bt a0 x20_2) > 57
           ·rw [if_pos c18] at H
            have c18b0 : decide (57 < (bt a0 x20_2)) = true := decide_eq_true c18
            clear c18
            obtain rfl := Option.some.inj H
            have p12 : 0 ≤ (x20_2 : Int) := o1_ (by first | (with_reducible assumption) | assumption)
            have q12 : x20_2 < (a0.size : Int) := o1_ (by first | (with_reducible assumption) | assumption)
            have hx12 := bt_at a0 x20_2
            replace p12 := eq_true p12
            replace q12 := eq_true q12
            go_wp2_with (first | ((with_reducible refine gate_callee (f := 68) rfl ?_);refine zgl (some 26) Try.func68 #[.int .u8 (bt a0 x20_2)] ?_;(with_reducible refine (impl_isLetter.calls (bt a0 x20_2) false _ A13.out).mono ?_);rintro e w' ⟨rfl,⟨nd,rfl⟩⟩;refine ⟨_,rfl,?_⟩;have p15 : 0 ≤ (x20_2 : Int) := o1_ (by first | (with_reducible assumption) | assumption);have q15 : x20_2 < (a0.size : Int) := o1_ (by first | (with_reducible assumption) | assumption);have hx15 := bt_at a0 x20_2;replace p15 := eq_true p15;replace q15 := eq_true q15;have p17 : 0 ≤ (x20_2 : Int) := o1_ (by first | (with_reducible assumption) | assumption);have q17 : x20_2 < (a0.size : Int) := o1_ (by first | (with_reducible assumption) | assumption);have hx17 := bt_at a0 x20_2;replace p17 := eq_true p17;replace q17 := eq_true q17))
            go_ret
            exact ⟨by first | rfl | (simp;done) | (simp [*];done),by repeat (first | exact Drawn0.refl _ | apply Drawn0.step)⟩
           ·rw [if_neg c18] at H
            have c18b0 : decide (57 < (bt a0 x20_2)) = false := decide_eq_false c18
            clear c18
            have H' := am_ H
            clear H
            have p12 : 0 ≤ (x20_2 : Int) := o1_ (by first | (with_reducible assumption) | assumption)
            have q12 : x20_2 < (a0.size : Int) := o1_ (by first | (with_reducible assumption) | assumption)
            have hx12 := bt_at a0 x20_2
            replace p12 := eq_true p12
            replace q12 := eq_true q12
            go_wp2_with (first | ((with_reducible refine gate_callee (f := 68) rfl ?_);refine zgl (some 26) Try.func68 #[.int .u8 (bt a0 x20_2)] ?_;(with_reducible refine (impl_isLetter.calls (bt a0 x20_2) false _ A13.out).mono ?_);rintro e w' ⟨rfl,⟨nd,rfl⟩⟩;refine ⟨_,rfl,?_⟩;have p15 : 0 ≤ (x20_2 : Int) := o1_ (by first | (with_reducible assumption) | assumption);have q15 : x20_2 < (a0.size : Int) := o1_ (by first | (with_reducible assumption) | assumption);have hx15 := bt_at a0 x20_2;replace p15 := eq_true p15;replace q15 := eq_true q15;have p17 : 0 ≤ (x20_2 : Int) := o1_ (by first | (with_reducible assumption) | assumption);have q17 : x20_2 < (a0.size : Int) := o1_ (by first | (with_reducible assumption) | assumption);have hx17 := bt_at a0 x20_2;replace p17 := eq_true p17;replace q17 := eq_true q17))
            go_roundg k2
            case measure => have := HJ1.out;have := HK2.out;omega
            case rel => exact ⟨(wrap64 (x20_2 + 1)),(by first | rfl | (simp;done) | (simp [*];done)),H',⟨by have := HJ1.out;have := HK2.out;omega⟩,by repeat (first | exact Drawn0.refl _ | apply Drawn0.step)⟩
        ·rw [if_neg c11] at H
         exact absurd H (by simp)
       ·rw [if_neg c10] at H
        exact absurd H (by simp)
      ·rw [if_neg c9] at H
       have c9b0 : decide (x20_2 < (a0.size : Int)) = false := decide_eq_false c9
       clear c9
       obtain rfl := Option.some.inj H
       go_wp2
       go_ret
       exact ⟨by first | rfl | (simp;done) | (simp [*];done),by repeat (first | exact Drawn0.refl _ | apply Drawn0.step)⟩
set_option maxHeartbeats 8000000 in
set_option maxRecDepth 100000 in
theorem impl_isOpName.calls (k : Nat) (a0 : ByteArray) (r : Bool) (w : World) (h : impl_isOpName.f k a0 = some r) :
  Calls Try.prog 37 #[.string a0] w fun e w' => e = .returned (.bool r) ∧ Drawn0 w w' := by
 have H : (if (a0.size : Int) ≤ 12 then ((impl_NameOK.f k a0).bind fun t602 => (some t602)) else (some false)) = some r := h
 clear h
 by_cases c2 : (a0.size : Int) ≤ 12
 ·rw [if_pos c2] at H
  have c2b0 : decide ((a0.size : Int) ≤ 12) = true := decide_eq_true c2
  have c2b1 : decide (a0.size ≤ 12) = true := decide_eq_true (by omega)
  clear c2
  replace H := Option.bind_eq_some_iff.mp H
  obtain ⟨t602,A30,H⟩ := H
  try dsimp only at H
  have A3 := am_ A30
  clear A30
  obtain rfl := Option.some.inj H
  go_enter Try.func37,Try.ntmps37
  go_wp2_with (first | (go_at_call 59;(with_reducible refine (impl_NameOK.calls k a0 t602 _ A3.out).mono ?_);rintro e w' ⟨rfl,⟨nd,rfl⟩⟩))
  go_ret
  exact ⟨by first | rfl | (simp;done) | (simp [*];done),by repeat (first | exact Drawn0.refl _ | apply Drawn0.step)⟩
 ·rw [if_neg c2] at H
  have c2b0 : decide ((a0.size : Int) ≤ 12) = false := decide_eq_false c2
  have c2b1 : decide (a0.size ≤ 12) = false := decide_eq_false (by omega)
  clear c2
  obtain rfl := Option.some.inj H
  go_enter Try.func37,Try.ntmps37
  go_wp2
  go_ret
  exact ⟨by first | rfl | (simp;done) | (simp [*];done),by repeat (first | exact Drawn0.refl _ | apply Drawn0.step)⟩
set_option maxHeartbeats 8000000 in
set_option maxRecDepth 100000 in
theorem impl_within.calls (a0 : Int) (a1 : Int) (a2 : Int) (r : Bool) (w : World) (h : impl_within.f a0 a1 a2 = some r) :
  Calls Try.prog 28 #[.int .i64 a0,.int .i64 a1,.int .i64 a2] w fun e w' => e = .returned (.bool r) ∧ Drawn0 w w' := by
 have H : (if a0 ≥ a1 then (some (decide (a0 ≤ a2))) else (some false)) = some r := h
 clear h
 by_cases c4 : a0 ≥ a1
 ·rw [if_pos c4] at H
  have c4b0 : decide (a1 ≤ a0) = true := decide_eq_true c4
  clear c4
  obtain rfl := Option.some.inj H
  go_enter Try.func28,Try.ntmps28
  go_wp2
  go_ret
  exact ⟨by first | rfl | (simp;done) | (simp [*];done),by repeat (first | exact Drawn0.refl _ | apply Drawn0.step)⟩
 ·rw [if_neg c4] at H
  have c4b0 : decide (a1 ≤ a0) = false := decide_eq_false c4
  clear c4
  obtain rfl := Option.some.inj H
  go_enter Try.func28,Try.ntmps28
  go_wp2
  go_ret
  exact ⟨by first | rfl | (simp;done) | (simp [*];done),by repeat (first | exact Drawn0.refl _ | apply Drawn0.step)⟩
set_option maxHeartbeats 8000000 in
set_option maxRecDepth 100000 in
theorem impl_RequestOK.calls (k : Nat) (a0_0 : Int) (a0_1 : Int) (a0_2 : Int) (a0_3 : Int) (a0_4 : ByteArray) (r : Bool) (w : World) (h : impl_RequestOK.f k a0_0 a0_1 a0_2 a0_3 a0_4 = some r) :
  Calls Try.prog 15 #[.agg #[.int .i64 a0_0,.int .i64 a0_1,.int .i64 a0_2,.int .i64 a0_3,.string a0_4]] w fun e w' => e = .returned (.bool r) ∧ Below w.heap.size w w' := by
 have hu33 := Try.underlying33
 have HB := am_ (Below.refl w.heap.size w)
 have H : (if a0_2 = 1 then (impl_RequestOK.j0 k 0 0 true a0_0 a0_1 a0_2 a0_3 a0_4) else (impl_RequestOK.j0 k 0 0 (a0_2 == 3) a0_0 a0_1 a0_2 a0_3 a0_4)) = some r := h
 clear h
 have HC2 := am_ H
 clear H
 go_enter Try.func15,Try.ntmps15
 go_upto_region 2 with (first | ((with_reducible refine gate_dst (N := 1) rfl ?_);refine zbx (N := 1) (cs := #[.int .i64 a0_0,.int .i64 a0_1,.int .i64 a0_2,.int .i64 a0_3,.string a0_4]) (t := 33) ?_;intro gb603 hg w3 hbox hb;have BK603 := am_ (hbox);have GW603 := zw_ HB hg;have GE603 := zw_ HB hg;replace HB := zs_ HB hb;clear hb hbox hg))
 (try simp only [Act.put,p1_,p2_,p3_])
 go_cut [12] (fun v12 wc => ∃ (kq : Nat) (x12_1 : Bool),v12 = .bool x12_1 ∧ Aside0 (impl_RequestOK.j0 kq 0 0 x12_1 a0_0 a0_1 a0_2 a0_3 a0_4 = some r) ∧ Aside0 (kq ≤ k) ∧ Aside0 (wc.heap[gb603]? = some (.cells #[.int .i64 a0_0,.int .i64 a0_1,.int .i64 a0_2,.int .i64 a0_3,.string a0_4] 33 (0,0))) ∧ Aside0 (Below w.heap.size w wc))
 case first =>
  have H := HC2.out
  clear HC2
  by_cases c4 : a0_2 = 1
  ·rw [if_pos c4] at H
   have c4b0 : (a0_2 == 1) = true := beq_iff_eq.mpr c4
   have c4b1 : (a0_2 != 1) = false := bne_eq_false_iff_eq.mpr c4
   clear c4
   (first | rw [c4b0] | (simp only [i64_w,i32_w];rw [c4b0]) | skip)
   have H' := am_ H
   clear H
   obtain ⟨hcz5_0,hcz5_1,hcz5_2,hcz5_3,hcz5_4,hfz5_0,hfz5_1,hfz5_2,hfz5_3,hfz5_4⟩ := zc5 BK603
   go_wp2
   go_meet
   case rel => exact ⟨_,(true),(by first | rfl | (simp;done) | (simp [*];done)),H',⟨by first | omega | exact Nat.le_refl _⟩,⟨by (with_reducible repeat (first | apply k1_ | apply k2_ | apply k3_));exact BK603.out⟩,⟨zl_ HB⟩⟩
  ·rw [if_neg c4] at H
   have c4b0 : (a0_2 == 1) = false := beq_eq_false_iff_ne.mpr c4
   have c4b1 : (a0_2 != 1) = true := bne_iff_ne.mpr c4
   (first | rw [c4b0] | (simp only [i64_w,i32_w];rw [c4b0]) | skip)
   have H' := am_ H
   clear H
   obtain ⟨hcz6_0,hcz6_1,hcz6_2,hcz6_3,hcz6_4,hfz6_0,hfz6_1,hfz6_2,hfz6_3,hfz6_4⟩ := zc5 BK603
   go_wp2
   go_meet
   case rel => exact ⟨_,((a0_2 == 3)),(by first | rfl | (simp;done) | (simp [*];done)),H',⟨by first | omega | exact Nat.le_refl _⟩,⟨by (with_reducible repeat (first | apply k1_ | apply k2_ | apply k3_));exact BK603.out⟩,⟨zl_ HB⟩⟩
 case rest =>
  clear HC2
  try clear c1
  try clear p2
  try clear c4
  try clear c4b0
  try clear c4b1
  try clear hcz5_0
  try clear hcz5_1
  try clear hcz5_2
  try clear hcz5_3
  try clear hcz5_4
  try clear hcz6_0
  try clear hcz6_1
  try clear hcz6_2
  try clear hcz6_3
  try clear hcz6_4
  try clear hfz5_0
  try clear hfz5_1
  try clear hfz5_2
  try clear hfz5_3
  try clear hfz5_4
  try clear hfz6_0
  try clear hfz6_1
  try clear hfz6_2
  try clear hfz6_3
  try clear hfz6_4
  obtain ⟨kq,x12_1,rfl,HA,HJ1,BK603,HB⟩ := hcut
  cases kq with
  | zero => exact absurd HA.out (by simp [impl_RequestOK.j0])
  | succ kj1 =>
   have H := HA.out
   clear HA
   simp only [impl_RequestOK.j0] at H
   have HC7 := am_ H
   clear H
   go_upto_if 12 with (fail)
   go_cut [3,4] (fun v3 v4 wc => ∃ (kq : Nat) (x3_6 : Int) (x4_6 : Int),v3 = .int .i64 x3_6 ∧ v4 = .int .i64 x4_6 ∧ Aside0 (impl_RequestOK.j1 kq x3_6 x4_6 a0_0 a0_1 a0_2 a0_3 a0_4 = some r) ∧ Aside0 (kq ≤ kj1) ∧ Aside0 (wc.heap[gb603]? = some (.cells #[.int .i64 a0_0,.int .i64 a0_1,.int .i64 a0_2,.int .i64 a0_3,.string a0_4] 33 (0,0))) ∧ Aside0 (Below w.heap.size w wc))
   case first =>
    have H := HC7.out
    clear HC7
    by_cases c8 : x12_1 = true
    ·subst c8
     have H1 : (impl_RequestOK.j1 kj1 1 1000 a0_0 a0_1 a0_2 a0_3 a0_4) = some r := by rw [if_pos rfl] at H;exact H
     clear H
     have H := H1
     clear H1
     have H' := am_ H
     clear H
     go_wp2
     go_meet
     case rel => exact ⟨_,(1),(1000),(by first | rfl | (simp;done) | (simp [*];done)),(by first | rfl | (simp;done) | (simp [*];done)),H',⟨by have := HJ1.out;first | omega | exact Nat.le_refl _⟩,⟨by (with_reducible repeat (first | apply k1_ | apply k2_ | apply k3_));exact BK603.out⟩,⟨zl_ HB⟩⟩
    ·replace c8 := Bool.eq_false_iff.mpr c8
     subst c8
     have H1 : (impl_RequestOK.j1 kj1 0 0 a0_0 a0_1 a0_2 a0_3 a0_4) = some r := by rw [if_neg (show ¬ (false = true) by decide)] at H;exact H
     clear H
     have H := H1
     clear H1
     have H' := am_ H
     clear H
     go_wp2
     go_meet
     case rel => exact ⟨_,(0),(0),(by first | rfl | (simp;done) | (simp [*];done)),(by first | rfl | (simp;done) | (simp [*];done)),H',⟨by have := HJ1.out;first | omega | exact Nat.le_refl _⟩,⟨by (with_reducible repeat (first | apply k1_ | apply k2_ | apply k3_));exact BK603.out⟩,⟨zl_ HB⟩⟩
   case rest =>
    clear HC7
    try clear c1
    try clear p2
    try clear c4
    try clear c4b0
    try clear c4b1
    try clear c8
    try clear hcz5_0
    try clear hcz5_1
    try clear hcz5_2
    try clear hcz5_3
    try clear hcz5_4
    try clear hcz6_0
    try clear hcz6_1
    try clear hcz6_2
    try clear hcz6_3
    try clear hcz6_4
    try clear hfz5_0
    try clear hfz5_1
    try clear hfz5_2
    try clear hfz5_3
    try clear hfz5_4
    try clear hfz6_0
    try clear hfz6_1
    try clear hfz6_2
    try clear hfz6_3
    try clear hfz6_4
    try clear p2
    obtain ⟨kq,x3_6,x4_6,rfl,rfl,HA,HJ6,BK603,HB⟩ := hcut
    cases kq with
    | zero => exact absurd HA.out (by simp [impl_RequestOK.j1])
    | succ kj6 =>
     have H := HA.out
     clear HA
     simp only [impl_RequestOK.j1] at H
     replace H := Option.bind_eq_some_iff.mp H
     obtain ⟨t604,A90,H⟩ := H
     try dsimp only at H
     have A9 := am_ A90
     clear A90
     by_cases c10 : t604 = true
     ·subst c10
      have H1 : ((impl_within.f a0_1 1 65535).bind fun t605 => (if t605 = true then ((impl_within.f a0_2 1 4).bind fun t606 => (if t606 = true then ((impl_within.f a0_3 x3_6 x4_6).bind fun t607 => (if t607 = true then ((impl_isOpName.f kj6 a0_4).bind fun t608 => (some t608)) else (some false))) else (some false))) else (some false))) = some r := by rw [if_pos rfl] at H;exact H
      clear H
      have H := H1
      clear H1
      replace H := Option.bind_eq_some_iff.mp H
      obtain ⟨t605,A110,H⟩ := H
      try dsimp only at H
      have A11 := am_ A110
      clear A110
      by_cases c12 : t605 = true
      ·subst c12
       have H1 : ((impl_within.f a0_2 1 4).bind fun t606 => (if t606 = true then ((impl_within.f a0_3 x3_6 x4_6).bind fun t607 => (if t607 = true then ((impl_isOpName.f kj6 a0_4).bind fun t608 => (some t608)) else (some false))) else (some false))) = some r := by rw [if_pos rfl] at H;exact H
       clear H
       have H := H1
       clear H1
       replace H := Option.bind_eq_some_iff.mp H
       obtain ⟨t606,A130,H⟩ := H
       try dsimp only at H
       have A13 := am_ A130
       clear A130
       by_cases c14 : t606 = true
       ·subst c14
        have H1 : ((impl_within.f a0_3 x3_6 x4_6).bind fun t607 => (if t607 = true then ((impl_isOpName.f kj6 a0_4).bind fun t608 => (some t608)) else (some false))) = some r := by rw [if_pos rfl] at H;exact H
        clear H
        have H := H1
        clear H1
        replace H := Option.bind_eq_some_iff.mp H
        obtain ⟨t607,A150,H⟩ := H
        try dsimp only at H
        have A15 := am_ A150
        clear A150
        by_cases c16 : t607 = true
        ·subst c16
         have H1 : ((impl_isOpName.f kj6 a0_4).bind fun t608 => (some t608)) = some r := by rw [if_pos rfl] at H;exact H
         clear H
         have H := H1
         clear H1
         replace H := Option.bind_eq_some_iff.mp H
         obtain ⟨t608,A170,H⟩ := H
         try dsimp only at H
         have A17 := am_ A170
         clear A170
         obtain rfl := Option.some.inj H
         obtain ⟨hcz18_0,hcz18_1,hcz18_2,hcz18_3,hcz18_4,hfz18_0,hfz18_1,hfz18_2,hfz18_3,hfz18_4⟩ := zc5 BK603
         go_wp2_with (first | ((with_reducible refine gate_callee (f := 28) rfl ?_);refine zgl (some 15) Try.func28 #[.int .i64 a0_0,.int .i64 0,.int .i64 255] ?_;(with_reducible refine (impl_within.calls a0_0 0 255 true _ A9.out).mono ?_);rintro e w' ⟨rfl,⟨nd,rfl⟩⟩;refine ⟨_,rfl,?_⟩) | (go_at_call 28;(with_reducible refine (impl_within.calls a0_1 1 65535 true _ A11.out).mono ?_);rintro e w' ⟨rfl,⟨nd,rfl⟩⟩) | (go_at_call 28;(with_reducible refine (impl_within.calls a0_2 1 4 true _ A13.out).mono ?_);rintro e w' ⟨rfl,⟨nd,rfl⟩⟩) | (go_at_call 28;(with_reducible refine (impl_within.calls a0_3 x3_6 x4_6 true _ A15.out).mono ?_);rintro e w' ⟨rfl,⟨nd,rfl⟩⟩) | (go_at_call 37;(with_reducible refine (impl_isOpName.calls kj6 a0_4 t608 _ A17.out).mono ?_);rintro e w' ⟨rfl,⟨nd,rfl⟩⟩))
         go_ret
         exact ⟨zt_,zl_ HB⟩
        ·replace c16 := Bool.eq_false_iff.mpr c16
         subst c16
         have H1 : (some false) = some r := by rw [if_neg (show ¬ (false = true) by decide)] at H;exact H
         clear H
         have H := H1
         clear H1
         obtain rfl := Option.some.inj H
         obtain ⟨hcz19_0,hcz19_1,hcz19_2,hcz19_3,hcz19_4,hfz19_0,hfz19_1,hfz19_2,hfz19_3,hfz19_4⟩ := zc5 BK603
         go_wp2_with (first | ((with_reducible refine gate_callee (f := 28) rfl ?_);refine zgl (some 15) Try.func28 #[.int .i64 a0_0,.int .i64 0,.int .i64 255] ?_;(with_reducible refine (impl_within.calls a0_0 0 255 true _ A9.out).mono ?_);rintro e w' ⟨rfl,⟨nd,rfl⟩⟩;refine ⟨_,rfl,?_⟩) | (go_at_call 28;(with_reducible refine (impl_within.calls a0_1 1 65535 true _ A11.out).mono ?_);rintro e w' ⟨rfl,⟨nd,rfl⟩⟩) | (go_at_call 28;(with_reducible refine (impl_within.calls a0_2 1 4 true _ A13.out).mono ?_);rintro e w' ⟨rfl,⟨nd,rfl⟩⟩) | (go_at_call 28;(with_reducible refine (impl_within.calls a0_3 x3_6 x4_6 false _ A15.out).mono ?_);rintro e w' ⟨rfl,⟨nd,rfl⟩⟩))
         go_ret
         exact ⟨zt_,zl_ HB⟩
       ·replace c14 := Bool.eq_false_iff.mpr c14
        subst c14
        have H1 : (some false) = some r := by rw [if_neg (show ¬ (false = true) by decide)] at H;exact H
        clear H
        have H := H1
        clear H1
        obtain rfl := Option.some.inj H
        obtain ⟨hcz20_0,hcz20_1,hcz20_2,hcz20_3,hcz20_4,hfz20_0,hfz20_1,hfz20_2,hfz20_3,hfz20_4⟩ := zc5 BK603
        go_wp2_with (first | ((with_reducible refine gate_callee (f := 28) rfl ?_);refine zgl (some 15) Try.func28 #[.int .i64 a0_0,.int .i64 0,.int .i64 255] ?_;(with_reducible refine (impl_within.calls a0_0 0 255 true _ A9.out).mono ?_);rintro e w' ⟨rfl,⟨nd,rfl⟩⟩;refine ⟨_,rfl,?_⟩) | (go_at_call 28;(with_reducible refine (impl_within.calls a0_1 1 65535 true _ A11.out).mono ?_);rintro e w' ⟨rfl,⟨nd,rfl⟩⟩) | (go_at_call 28;(with_reducible refine (impl_within.calls a0_2 1 4 false _ A13.out).mono ?_);rintro e w' ⟨rfl,⟨nd,rfl⟩⟩))
        go_ret
        exact ⟨zt_,zl_ HB⟩
      ·replace c12 := Bool.eq_false_iff.mpr c12
       subst c12
       have H1 : (some false) = some r := by rw [if_neg (show ¬ (false = true) by decide)] at H;exact H
       clear H
       have H := H1
       clear H1
       obtain rfl := Option.some.inj H
       obtain ⟨hcz21_0,hcz21_1,hcz21_2,hcz21_3,hcz21_4,hfz21_0,hfz21_1,hfz21_2,hfz21_3,hfz21_4⟩ := zc5 BK603
       go_wp2_with (first | ((with_reducible refine gate_callee (f := 28) rfl ?_);refine zgl (some 15) Try.func28 #[.int .i64 a0_0,.int .i64 0,.int .i64 255] ?_;(with_reducible refine (impl_within.calls a0_0 0 255 true _ A9.out).mono ?_);rintro e w' ⟨rfl,⟨nd,rfl⟩⟩;refine ⟨_,rfl,?_⟩) | (go_at_call 28;(with_reducible refine (impl_within.calls a0_1 1 65535 false _ A11.out).mono ?_);rintro e w' ⟨rfl,⟨nd,rfl⟩⟩))
       go_ret
       exact ⟨zt_,zl_ HB⟩
     ·replace c10 := Bool.eq_false_iff.mpr c10
      subst c10
      have H1 : (some false) = some r := by rw [if_neg (show ¬ (false = true) by decide)] at H;exact H
      clear H
      have H := H1
      clear H1
      obtain rfl := Option.some.inj H
      obtain ⟨hcz22_0,hcz22_1,hcz22_2,hcz22_3,hcz22_4,hfz22_0,hfz22_1,hfz22_2,hfz22_3,hfz22_4⟩ := zc5 BK603
      go_wp2_with (first | ((with_reducible refine gate_callee (f := 28) rfl ?_);refine zgl (some 15) Try.func28 #[.int .i64 a0_0,.int .i64 0,.int .i64 255] ?_;(with_reducible refine (impl_within.calls a0_0 0 255 false _ A9.out).mono ?_);rintro e w' ⟨rfl,⟨nd,rfl⟩⟩;refine ⟨_,rfl,?_⟩))
      go_ret
      exact ⟨zt_,zl_ HB⟩
set_option maxHeartbeats 8000000 in
set_option maxRecDepth 100000 in
theorem impl_isReading.calls (a0_0 : Int) (a0_1 : Int) (a0_2 : ByteArray) (r : Bool) (w : World) (h : impl_isReading.f a0_0 a0_1 a0_2 = some r) :
  Calls Try.prog 61 #[.agg #[.int .i64 a0_0,.int .i64 a0_1,.string a0_2]] w fun e w' => e = .returned (.bool r) ∧ Below w.heap.size w w' := by
 have hu70 := Try.underlying70
 have HB := am_ (Below.refl w.heap.size w)
 have H : ((impl_within.f a0_0 0 6).bind fun t688 => (if t688 = true then ((impl_within.f a0_1 0 1000000000).bind fun t689 => (if t689 = true then (some ((a0_2.size : Int) == 8)) else (some false))) else (some false))) = some r := h
 clear h
 replace H := Option.bind_eq_some_iff.mp H
 obtain ⟨t688,A20,H⟩ := H
 try dsimp only at H
 have A2 := am_ A20
 clear A20
 by_cases c3 : t688 = true
 ·subst c3
  have H1 : ((impl_within.f a0_1 0 1000000000).bind fun t689 => (if t689 = true then (some ((a0_2.size : Int) == 8)) else (some false))) = some r := by rw [if_pos rfl] at H;exact H
  clear H
  have H := H1
  clear H1
  replace H := Option.bind_eq_some_iff.mp H
  obtain ⟨t689,A40,H⟩ := H
  try dsimp only at H
  have A4 := am_ A40
  clear A40
  by_cases c5 : t689 = true
  ·subst c5
   have H1 : (some ((a0_2.size : Int) == 8)) = some r := by rw [if_pos rfl] at H;exact H
   clear H
   have H := H1
   clear H1
   obtain rfl := Option.some.inj H
   go_enter Try.func61,Try.ntmps61
   go_wp2_with (first | ((with_reducible refine gate_dst (N := 1) rfl ?_);(try (refine gate_guard (by rfl) ?_;dsimp only));refine zbx (N := 1) (cs := #[.int .i64 a0_0,.int .i64 a0_1,.string a0_2]) (t := 70) ?_;intro gb687 hg w6 hbox hb;have BK687 := am_ (hbox);have GW687 := zw_ HB hg;have GE687 := zw_ HB hg;replace HB := zs_ HB hb;clear hb hbox hg;obtain ⟨hcz7_0,hcz7_1,hcz7_2,hfz7_0,hfz7_1,hfz7_2⟩ := zc3 BK687) | ((with_reducible refine gate_callee (f := 28) rfl ?_);refine zgl (some 5) Try.func28 #[.int .i64 a0_0,.int .i64 0,.int .i64 6] ?_;(with_reducible refine (impl_within.calls a0_0 0 6 true _ A2.out).mono ?_);rintro e w' ⟨rfl,⟨nd,rfl⟩⟩;refine ⟨_,rfl,?_⟩) | (go_at_call 28;(with_reducible refine (impl_within.calls a0_1 0 1000000000 true _ A4.out).mono ?_);rintro e w' ⟨rfl,⟨nd,rfl⟩⟩))
   go_ret
   exact ⟨zt_,zl_ HB⟩
  ·replace c5 := Bool.eq_false_iff.mpr c5
   subst c5
   have H1 : (some false) = some r := by rw [if_neg (show ¬ (false = true) by decide)] at H;exact H
   clear H
   have H := H1
   clear H1
   obtain rfl := Option.some.inj H
   go_enter Try.func61,Try.ntmps61
   go_wp2_with (first | ((with_reducible refine gate_dst (N := 1) rfl ?_);(try (refine gate_guard (by rfl) ?_;dsimp only));refine zbx (N := 1) (cs := #[.int .i64 a0_0,.int .i64 a0_1,.string a0_2]) (t := 70) ?_;intro gb687 hg w8 hbox hb;have BK687 := am_ (hbox);have GW687 := zw_ HB hg;have GE687 := zw_ HB hg;replace HB := zs_ HB hb;clear hb hbox hg;obtain ⟨hcz9_0,hcz9_1,hcz9_2,hfz9_0,hfz9_1,hfz9_2⟩ := zc3 BK687) | ((with_reducible refine gate_callee (f := 28) rfl ?_);refine zgl (some 5) Try.func28 #[.int .i64 a0_0,.int .i64 0,.int .i64 6] ?_;(with_reducible refine (impl_within.calls a0_0 0 6 true _ A2.out).mono ?_);rintro e w' ⟨rfl,⟨nd,rfl⟩⟩;refine ⟨_,rfl,?_⟩) | (go_at_call 28;(with_reducible refine (impl_within.calls a0_1 0 1000000000 false _ A4.out).mono ?_);rintro e w' ⟨rfl,⟨nd,rfl⟩⟩))
   go_ret
   exact ⟨zt_,zl_ HB⟩
 ·replace c3 := Bool.eq_false_iff.mpr c3
  subst c3
  have H1 : (some false) = some r := by rw [if_neg (show ¬ (false = true) by decide)] at H;exact H
  clear H
  have H := H1
  clear H1
  obtain rfl := Option.some.inj H
  go_enter Try.func61,Try.ntmps61
  go_wp2_with (first | ((with_reducible refine gate_dst (N := 1) rfl ?_);(try (refine gate_guard (by rfl) ?_;dsimp only));refine zbx (N := 1) (cs := #[.int .i64 a0_0,.int .i64 a0_1,.string a0_2]) (t := 70) ?_;intro gb687 hg w10 hbox hb;have BK687 := am_ (hbox);have GW687 := zw_ HB hg;have GE687 := zw_ HB hg;replace HB := zs_ HB hb;clear hb hbox hg;obtain ⟨hcz11_0,hcz11_1,hcz11_2,hfz11_0,hfz11_1,hfz11_2⟩ := zc3 BK687) | ((with_reducible refine gate_callee (f := 28) rfl ?_);refine zgl (some 5) Try.func28 #[.int .i64 a0_0,.int .i64 0,.int .i64 6] ?_;(with_reducible refine (impl_within.calls a0_0 0 6 false _ A2.out).mono ?_);rintro e w' ⟨rfl,⟨nd,rfl⟩⟩;refine ⟨_,rfl,?_⟩))
  go_ret
  exact ⟨zt_,zl_ HB⟩
end Go.Proofs.Ytdpdbegglkdgnaa.A
end

section
namespace Go.Proofs.Ytdpdbegglkdgnaa.A
open Go.RowKit Go.Proofs.YtdpdbegglkdgnaaW.PrintWords Go.Proofs.YtdpdbegglkdgnaaW.PrintLast Go.Proofs.YtdpdbegglkdgnaaW.PrintMore
attribute [local go_sem] max2_int min2_int max_two min_two max_three min_three max_four min_four
attribute [local go_sem high] eqA33
def impl_isBatch.T8 : Bool × List (List Nat × List Nat) := (true,[([],[]),([0],[0]),([1],[1]),([2,1],[2]),([3],[3]),([4,3],[3,4]),([5,3,3],[3,5]),([6],[6]),([7,6],[6,7]),([6],[6]),([9,6],[6,9]),([8,10,6],[6,8,10]),([11,6],[6,11]),([12,6],[6,12]),([6],[6]),([14,6],[6,14]),([13,15,6],[6,13,15]),([6,16,3],[3,6,16]),([3,17],[3,17])])
def impl_isBatch.B8 : List Nat := [0,1,3,7,15,31,63,127,255,127,639,2047,4095,8191,127,16511,65535,131071,262143]
theorem impl_isBatch.tab8 : rtab .any (opsOf Try.f39 8) = impl_isBatch.T8 := by kernel_rfl
theorem impl_isBatch.bits8 : waitsOk impl_isBatch.T8.2 impl_isBatch.B8 = true := by kernel_rfl
set_option maxHeartbeats 8000000 in
set_option maxRecDepth 100000 in
theorem impl_isBatch.calls (k : Nat) (a0_0 : Bool) (a0_1 : Int) (a0_2 : Int) (a0_3 : Int) (a0_4 : Int) (a0_5 : ByteArray) (A0_6 : Option Addr) (c0_6 : Nat) (l0_6 : List (S70)) (r : Bool) (w : World) (hr0_6 : Kd.C k70 w A0_6 l0_6.length l0_6) (hc0_6 : l0_6.length ≤ c0_6) (h : impl_isBatch.f k a0_0 a0_1 a0_2 a0_3 a0_4 a0_5 l0_6 = some r) :
  Calls Try.prog 39 #[.agg #[.bool a0_0,.int .i64 a0_1,.int .i64 a0_2,.int .i64 a0_3,.int .i64 a0_4,.string a0_5,.slice A0_6 l0_6.length c0_6]] w fun e w' => e = .returned (.bool r) ∧ Below w.heap.size w w' := by
 have hu41 := Try.underlying41
 have hu33 := Try.underlying33
 have hu70 := Try.underlying70
 have HR0_6 := am_ hr0_6
 have HC0_6 := am_ hc0_6
 clear hr0_6 hc0_6
 have HB := am_ (Below.refl w.heap.size w)
 have H : (if a0_0 = true then (if (a0_1 == 0 && (a0_2 == 0 && (a0_3 == 0 && (a0_4 == 0 && (a0_5.toList == ([] : List UInt8)))))) = true then (some ((l0_6.length : Int) == 0)) else (some false)) else ((impl_RequestOK.f k a0_1 a0_2 a0_3 a0_4 a0_5).bind fun t691 => (if t691 = true then (impl_isBatch.j0 k (decide ((l0_6.length : Int) > 7)) a0_0 a0_1 a0_2 a0_3 a0_4 a0_5 l0_6) else (impl_isBatch.j0 k true a0_0 a0_1 a0_2 a0_3 a0_4 a0_5 l0_6)))) = some r := h
 clear h
 by_cases c2 : a0_0 = true
 ·subst c2
  have H1 : (if (a0_1 == 0 && (a0_2 == 0 && (a0_3 == 0 && (a0_4 == 0 && (a0_5.toList == ([] : List UInt8)))))) = true then (some ((l0_6.length : Int) == 0)) else (some false)) = some r := by rw [if_pos rfl] at H;exact H
  clear H
  have H := H1
  clear H1
  by_cases c3 : (a0_1 == 0 && (a0_2 == 0 && (a0_3 == 0 && (a0_4 == 0 && (a0_5.toList == ([] : List UInt8)))))) = true
  ·rw [if_pos c3] at H
   have c3k := am_ c3
   have c3b0 : (a0_1 == 0 && (a0_2 == 0 && (a0_3 == 0 && (a0_4 == 0 && (a0_5.toList == ([] : List UInt8)))))) = true := c3k.out
   (try (have c3b1 : decide (a0_1 = 0 && (a0_2 == 0 && (a0_3 == 0 && (a0_4 == 0 && (a0_5.toList == ([] : List UInt8)))))) = true := by simpa using c3k.out))
   (try (have c3b2 : (a0_1 == 0 && (a0_2 == 0 && (a0_3 == 0 && (a0_4 == 0 && (a0_5.toList == ([] : List UInt8)))))) = true := by simpa using c3k.out))
   (try have c3e0 := c3b0;simp only [e3_,e4_] at c3e0)
   (try have c3e1 := c3b1;simp only [e3_,e4_] at c3e1)
   (try have c3e2 := c3b2;simp only [e3_,e4_] at c3e2)
   (try simp only [*,Bool.not_true,Bool.not_false,Bool.false_or,Bool.true_or,Bool.or_false,Bool.or_true,Bool.true_and,Bool.and_true,Bool.false_and,Bool.and_false] at c3)
   have c3bs := c3
   clear c3k
   clear c3
   obtain rfl := Option.some.inj H
   go_enter Try.func39,Try.ntmps39
   go_wp2_with (first | ((with_reducible refine gate_dst (N := 1) rfl ?_);(try (refine gate_guard (by rfl) ?_;dsimp only));refine zbx (N := 1) (cs := #[.bool true,.int .i64 a0_1,.int .i64 a0_2,.int .i64 a0_3,.int .i64 a0_4,.string a0_5,.slice A0_6 l0_6.length c0_6]) (t := 41) ?_;intro gb690 hg w4 hbox hb;have BK690 := am_ (hbox);have GW690 := zw_ HB hg;have GE690 := zw_ HB hg;replace HB := zs_ HB hb;clear hb hbox hg;obtain ⟨hcz5_0,hcz5_1,hcz5_2,hcz5_3,hcz5_4,hcz5_5,hcz5_6,hfz5_0,hfz5_1,hfz5_2,hfz5_3,hfz5_4,hfz5_5,hfz5_6⟩ := zc7 BK690))
   go_ret
   exact ⟨zt_,zl_ HB⟩
  ·rw [if_neg c3] at H
   have c3k := am_ c3
   have c3b0 : (a0_1 == 0 && (a0_2 == 0 && (a0_3 == 0 && (a0_4 == 0 && (a0_5.toList == ([] : List UInt8)))))) = false := by simpa using c3k.out
   (try (have c3b1 : decide (a0_1 = 0 && (a0_2 == 0 && (a0_3 == 0 && (a0_4 == 0 && (a0_5.toList == ([] : List UInt8)))))) = false := by simpa using c3k.out))
   (try (have c3b2 : (a0_1 == 0 && (a0_2 == 0 && (a0_3 == 0 && (a0_4 == 0 && (a0_5.toList == ([] : List UInt8)))))) = false := by simpa using c3k.out))
   (try (have c3b3 : ¬ (a0_1 = 0 && (a0_2 == 0 && (a0_3 == 0 && (a0_4 == 0 && (a0_5.toList == ([] : List UInt8)))))) := by simpa using c3k.out))
   (try have c3e0 := c3b0;simp only [e3_,e4_] at c3e0)
   (try have c3e1 := c3b1;simp only [e3_,e4_] at c3e1)
   (try have c3e2 := c3b2;simp only [e3_,e4_] at c3e2)
   (try have c3e3 := c3b3;simp only [e3_,e4_] at c3e3)
   (try simp only [*,Bool.not_true,Bool.not_false,Bool.false_or,Bool.true_or,Bool.or_false,Bool.or_true,Bool.true_and,Bool.and_true,Bool.false_and,Bool.and_false] at c3)
   have c3bs := c3
   clear c3k
   clear c3
   obtain rfl := Option.some.inj H
   go_enter Try.func39,Try.ntmps39
   go_wp2_with (first | ((with_reducible refine gate_dst (N := 1) rfl ?_);(try (refine gate_guard (by rfl) ?_;dsimp only));refine zbx (N := 1) (cs := #[.bool true,.int .i64 a0_1,.int .i64 a0_2,.int .i64 a0_3,.int .i64 a0_4,.string a0_5,.slice A0_6 l0_6.length c0_6]) (t := 41) ?_;intro gb690 hg w6 hbox hb;have BK690 := am_ (hbox);have GW690 := zw_ HB hg;have GE690 := zw_ HB hg;replace HB := zs_ HB hb;clear hb hbox hg;obtain ⟨hcz7_0,hcz7_1,hcz7_2,hcz7_3,hcz7_4,hcz7_5,hcz7_6,hfz7_0,hfz7_1,hfz7_2,hfz7_3,hfz7_4,hfz7_5,hfz7_6⟩ := zc7 BK690))
   go_ret
   exact ⟨zt_,zl_ HB⟩
 ·replace c2 := Bool.eq_false_iff.mpr c2
  subst c2
  have H1 : ((impl_RequestOK.f k a0_1 a0_2 a0_3 a0_4 a0_5).bind fun t691 => (if t691 = true then (impl_isBatch.j0 k (decide ((l0_6.length : Int) > 7)) false a0_1 a0_2 a0_3 a0_4 a0_5 l0_6) else (impl_isBatch.j0 k true false a0_1 a0_2 a0_3 a0_4 a0_5 l0_6))) = some r := by rw [if_neg (show ¬ (false = true) by decide)] at H;exact H
  clear H
  have H := H1
  clear H1
  have HC8 := am_ H
  clear H
  go_enter Try.func39,Try.ntmps39
  go_upto_region 3 with (first | ((with_reducible refine gate_dst (N := 1) rfl ?_);(try (refine gate_guard (by rfl) ?_;dsimp only));refine zbx (N := 1) (cs := #[.bool false,.int .i64 a0_1,.int .i64 a0_2,.int .i64 a0_3,.int .i64 a0_4,.string a0_5,.slice A0_6 l0_6.length c0_6]) (t := 41) ?_;intro gb690 hg w9 hbox hb;have BK690 := am_ (hbox);have GW690 := zw_ HB hg;have GE690 := zw_ HB hg;replace HB := zs_ HB hb;clear hb hbox hg;obtain ⟨hcz10_0,hcz10_1,hcz10_2,hcz10_3,hcz10_4,hcz10_5,hcz10_6,hfz10_0,hfz10_1,hfz10_2,hfz10_3,hfz10_4,hfz10_5,hfz10_6⟩ := zc7 BK690))
  (try simp only [Act.put,p1_,p2_,p3_])
  go_cut [26] (fun v26 wc => ∃ (kq : Nat) (x26_7 : Bool),v26 = .bool x26_7 ∧ Aside0 (impl_isBatch.j0 kq x26_7 false a0_1 a0_2 a0_3 a0_4 a0_5 l0_6 = some r) ∧ Aside0 (kq ≤ k) ∧ Aside0 (wc.heap[gb690]? = some (.cells #[.bool false,.int .i64 a0_1,.int .i64 a0_2,.int .i64 a0_3,.int .i64 a0_4,.string a0_5,(.slice A0_6 l0_6.length c0_6)] 41 (0,0))) ∧ Aside0 (Below w.heap.size w wc))
  case first =>
   have H := HC8.out
   clear HC8
   replace H := Option.bind_eq_some_iff.mp H
   obtain ⟨t691,A110,H⟩ := H
   try dsimp only at H
   have A11 := am_ A110
   clear A110
   by_cases c12 : t691 = true
   ·subst c12
    have H1 : (impl_isBatch.j0 k (decide ((l0_6.length : Int) > 7)) false a0_1 a0_2 a0_3 a0_4 a0_5 l0_6) = some r := by rw [if_pos rfl] at H;exact H
    clear H
    have H := H1
    clear H1
    have H' := am_ H
    clear H
    obtain ⟨hcz13_0,hcz13_1,hcz13_2,hcz13_3,hcz13_4,hcz13_5,hcz13_6,hfz13_0,hfz13_1,hfz13_2,hfz13_3,hfz13_4,hfz13_5,hfz13_6⟩ := zc7 BK690
    go_wp2_with (first | ((with_reducible refine gate_callee (f := 15) rfl ?_);refine zgl (some 19) Try.func15 #[.agg #[.int .i64 a0_1,.int .i64 a0_2,.int .i64 a0_3,.int .i64 a0_4,.string a0_5]] ?_;(with_reducible refine (impl_RequestOK.calls k a0_1 a0_2 a0_3 a0_4 a0_5 true _ A11.out).mono ?_);rintro e w14 ⟨rfl,hb⟩;refine ⟨_,rfl,?_⟩;replace BK690 := zb BK690 hb;replace HB := zs_ HB hb;(try clear hb);(try clear hb2);(try clear hk);(try clear hi);obtain ⟨hcz15_0,hcz15_1,hcz15_2,hcz15_3,hcz15_4,hcz15_5,hcz15_6,hfz15_0,hfz15_1,hfz15_2,hfz15_3,hfz15_4,hfz15_5,hfz15_6⟩ := zc7 BK690))
    go_meet
    case rel => exact ⟨_,(decide ((l0_6.length : Int) > 7)),(by first | rfl | (simp;done) | (simp [*];done)),H',⟨by first | omega | exact Nat.le_refl _⟩,⟨by (with_reducible repeat (first | apply k1_ | apply k2_ | apply k3_));exact BK690.out⟩,⟨zl_ HB⟩⟩
   ·replace c12 := Bool.eq_false_iff.mpr c12
    subst c12
    have H1 : (impl_isBatch.j0 k true false a0_1 a0_2 a0_3 a0_4 a0_5 l0_6) = some r := by rw [if_neg (show ¬ (false = true) by decide)] at H;exact H
    clear H
    have H := H1
    clear H1
    have H' := am_ H
    clear H
    obtain ⟨hcz16_0,hcz16_1,hcz16_2,hcz16_3,hcz16_4,hcz16_5,hcz16_6,hfz16_0,hfz16_1,hfz16_2,hfz16_3,hfz16_4,hfz16_5,hfz16_6⟩ := zc7 BK690
    go_wp2_with (first | ((with_reducible refine gate_callee (f := 15) rfl ?_);refine zgl (some 19) Try.func15 #[.agg #[.int .i64 a0_1,.int .i64 a0_2,.int .i64 a0_3,.int .i64 a0_4,.string a0_5]] ?_;(with_reducible refine (impl_RequestOK.calls k a0_1 a0_2 a0_3 a0_4 a0_5 false _ A11.out).mono ?_);rintro e w17 ⟨rfl,hb⟩;refine ⟨_,rfl,?_⟩;replace BK690 := zb BK690 hb;replace HB := zs_ HB hb;(try clear hb);(try clear hb2);(try clear hk);(try clear hi)))
    go_meet
    case rel => exact ⟨_,(true),(by first | rfl | (simp;done) | (simp [*];done)),H',⟨by first | omega | exact Nat.le_refl _⟩,⟨by (with_reducible repeat (first | apply k1_ | apply k2_ | apply k3_));exact BK690.out⟩,⟨zl_ HB⟩⟩
  case rest =>
   clear HC8
   try clear c1
   try clear c2
   try clear p2
   try clear c3
   try clear c3b0
   try clear c3b1
   try clear c3b2
   try clear c12
   try clear c15
   try clear hcz10_0
   try clear hcz10_1
   try clear hcz10_2
   try clear hcz10_3
   try clear hcz10_4
   try clear hcz10_5
   try clear hcz10_6
   try clear hcz13_0
   try clear hcz13_1
   try clear hcz13_2
   try clear hcz13_3
   try clear hcz13_4
   try clear hcz13_5
   try clear hcz13_6
   try clear hcz15_0
   try clear hcz15_1
   try clear hcz15_2
   try clear hcz15_3
   try clear hcz15_4
   try clear hcz15_5
   try clear hcz15_6
   try clear hcz16_0
   try clear hcz16_1
   try clear hcz16_2
   try clear hcz16_3
   try clear hcz16_4
   try clear hcz16_5
   try clear hcz16_6
   try clear hcz5_0
   try clear hcz5_1
   try clear hcz5_2
   try clear hcz5_3
   try clear hcz5_4
   try clear hcz5_5
   try clear hcz5_6
   try clear hcz7_0
   try clear hcz7_1
   try clear hcz7_2
   try clear hcz7_3
   try clear hcz7_4
   try clear hcz7_5
   try clear hcz7_6
   try clear hfz10_0
   try clear hfz10_1
   try clear hfz10_2
   try clear hfz10_3
   try clear hfz10_4
   try clear hfz10_5
   try clear hfz10_6
   try clear hfz13_0
   try clear hfz13_1
   try clear hfz13_2
   try clear hfz13_3
   try clear hfz13_4
   try clear hfz13_5
   try clear hfz13_6
   try clear hfz15_0
   try clear hfz15_1
   try clear hfz15_2
   try clear hfz15_3
   try clear hfz15_4
   try clear hfz15_5
   try clear hfz15_6
   try clear hfz16_0
   try clear hfz16_1
   try clear hfz16_2
   try clear hfz16_3
   try clear hfz16_4
   try clear hfz16_5
   try clear hfz16_6
   try clear hfz5_0
   try clear hfz5_1
   try clear hfz5_2
   try clear hfz5_3
   try clear hfz5_4
   try clear hfz5_5
   try clear hfz5_6
   try clear hfz7_0
   try clear hfz7_1
   try clear hfz7_2
   try clear hfz7_3
   try clear hfz7_4
   try clear hfz7_5
   try clear hfz7_6
   obtain ⟨kq,x26_7,rfl,HA,HJ7,BK690,HB⟩ := hcut
   cases kq with
   | zero => exact absurd HA.out (by simp [impl_isBatch.j0])
   | succ kj7 =>
    have H := HA.out
    clear HA
    simp only [impl_isBatch.j0] at H
    by_cases c18 : x26_7 = true
    ·subst c18
     have H1 : (some false) = some r := by rw [if_pos rfl] at H;exact H
     clear H
     have H := H1
     clear H1
     obtain rfl := Option.some.inj H
     go_wp2
     go_ret
     exact ⟨zt_,zl_ HB⟩
    ·replace c18 := Bool.eq_false_iff.mpr c18
     subst c18
     have H1 : (impl_isBatch.l0 kj7 l0_6 (l0_6.length : Int) 0 false a0_1 a0_2 a0_3 a0_4 a0_5 l0_6) = some r := by rw [if_neg (show ¬ (false = true) by decide)] at H;exact H
     clear H
     have H := H1
     clear H1
     have H' := am_ H
     clear H
     obtain ⟨hcz19_0,hcz19_1,hcz19_2,hcz19_3,hcz19_4,hcz19_5,hcz19_6,hfz19_0,hfz19_1,hfz19_2,hfz19_3,hfz19_4,hfz19_5,hfz19_6⟩ := zc7 BK690
     go_wp2
     go_loopg [30] kj7 (fun kq v30 w' => ∃ (x30_2 : Int),v30 = .int .i64 x30_2 ∧ Aside0 (impl_isBatch.l0 kq l0_6 (l0_6.length : Int) x30_2 false a0_1 a0_2 a0_3 a0_4 a0_5 l0_6 = some r) ∧ Aside0 (kq ≤ kj7) ∧ Aside0 (w'.heap[gb690]? = some (.cells #[.bool false,.int .i64 a0_1,.int .i64 a0_2,.int .i64 a0_3,.int .i64 a0_4,.string a0_5,(.slice A0_6 l0_6.length c0_6)] 41 (0,0))) ∧ Aside0 (Below w.heap.size w w'))
     case atStart => exact ⟨(0),(by first | rfl | (simp;done) | (simp [*];done)),H',⟨Nat.le_refl _⟩,⟨by (with_reducible repeat (first | apply k1_ | apply k2_ | apply k3_));exact BK690.out⟩,⟨zl_ HB⟩⟩
     case round =>
      clear H'
      try clear c1
      try clear c2
      try clear p2
      try clear c3
      try clear c3b0
      try clear c3b1
      try clear c3b2
      try clear c12
      try clear c15
      try clear c18
      try clear hcz10_0
      try clear hcz10_1
      try clear hcz10_2
      try clear hcz10_3
      try clear hcz10_4
      try clear hcz10_5
      try clear hcz10_6
      try clear hcz13_0
      try clear hcz13_1
      try clear hcz13_2
      try clear hcz13_3
      try clear hcz13_4
      try clear hcz13_5
      try clear hcz13_6
      try clear hcz15_0
      try clear hcz15_1
      try clear hcz15_2
      try clear hcz15_3
      try clear hcz15_4
      try clear hcz15_5
      try clear hcz15_6
      try clear hcz16_0
      try clear hcz16_1
      try clear hcz16_2
      try clear hcz16_3
      try clear hcz16_4
      try clear hcz16_5
      try clear hcz16_6
      try clear hcz19_0
      try clear hcz19_1
      try clear hcz19_2
      try clear hcz19_3
      try clear hcz19_4
      try clear hcz19_5
      try clear hcz19_6
      try clear hcz5_0
      try clear hcz5_1
      try clear hcz5_2
      try clear hcz5_3
      try clear hcz5_4
      try clear hcz5_5
      try clear hcz5_6
      try clear hcz7_0
      try clear hcz7_1
      try clear hcz7_2
      try clear hcz7_3
      try clear hcz7_4
      try clear hcz7_5
      try clear hcz7_6
      try clear hfz10_0
      try clear hfz10_1
      try clear hfz10_2
      try clear hfz10_3
      try clear hfz10_4
      try clear hfz10_5
      try clear hfz10_6
      try clear hfz13_0
      try clear hfz13_1
      try clear hfz13_2
      try clear hfz13_3
      try clear hfz13_4
      try clear hfz13_5
      try clear hfz13_6
      try clear hfz15_0
      try clear hfz15_1
      try clear hfz15_2
      try clear hfz15_3
      try clear hfz15_4
      try clear hfz15_5
      try clear hfz15_6
      try clear hfz16_0
      try clear hfz16_1
      try clear hfz16_2
      try clear hfz16_3
      try clear hfz16_4
      try clear hfz16_5
      try clear hfz16_6
      try clear hfz19_0
      try clear hfz19_1
      try clear hfz19_2
      try clear hfz19_3
      try clear hfz19_4
      try clear hfz19_5
      try clear hfz19_6
      try clear hfz5_0
      try clear hfz5_1
      try clear hfz5_2
      try clear hfz5_3
      try clear hfz5_4
      try clear hfz5_5
      try clear hfz5_6
      try clear hfz7_0
      try clear hfz7_1
      try clear hfz7_2
      try clear hfz7_3
      try clear hfz7_4
      try clear hfz7_5
      try clear hfz7_6
      try clear p2
      obtain ⟨x30_2,rfl,HA,HK2,BK690,HB⟩ := hrel
      cases gk with
      | zero => exact absurd HA.out (by simp [impl_isBatch.l0])
      | succ k2 =>
       have H := HA.out
       clear HA
       simp only [impl_isBatch.l0] at H
       by_cases c20 : x30_2 < (l0_6.length : Int)
       ·rw [if_pos c20] at H
        have c20b0 : decide (x30_2 < (l0_6.length : Int)) = true := decide_eq_true c20
        clear c20
        by_cases c21 : 0 ≤ x30_2
        ·rw [if_pos c21] at H
         have c21b0 : decide (0 ≤ x30_2) = true := decide_eq_true c21
         clear c21
         by_cases c22 : x30_2 < (l0_6.length : Int)
         ·rw [if_pos c22] at H
          have c22b0 : decide (x30_2 < (l0_6.length : Int)) = true := decide_eq_true c22
          clear c22
          replace H := Option.bind_eq_some_iff.mp H
          obtain ⟨t694,A230,H⟩ := H
          try dsimp only at H
          have A23 := am_ A230
          clear A230
          by_cases c24 : t694 = true
          ·subst c24
           have H1 : (if x30_2 > 0 then (if 0 ≤ (wrap64 (x30_2 - 1)) then (if (wrap64 (x30_2 - 1)) < (l0_6.length : Int) then (if ((rd_T70 l0_6 (wrap64 (x30_2 - 1))).f0) ≥ ((rd_T70 l0_6 x30_2).f0) then (some false) else (impl_isBatch.l0 k2 l0_6 (l0_6.length : Int) (wrap64 (x30_2 + 1)) false a0_1 a0_2 a0_3 a0_4 a0_5 l0_6)) else (none)) else (none)) else (impl_isBatch.l0 k2 l0_6 (l0_6.length : Int) (wrap64 (x30_2 + 1)) false a0_1 a0_2 a0_3 a0_4 a0_5 l0_6)) = some r := by rw [if_pos rfl] at H;exact H
           clear H
           have H := H1
           clear H1
           by_cases c25 : x30_2 > 0
           ·rw [if_pos c25] at H
            have c25b0 : decide (0 < x30_2) = true := decide_eq_true c25
            clear c25
            obtain ⟨ji26,hji26⟩ : ∃ j_ : Int,(wrap64 (x30_2 - 1)) = j_ := ⟨_,rfl⟩
            replace H : (if 0 ≤ (ji26) then (if (ji26) < (l0_6.length : Int) then (if ((rd_T70 l0_6 (ji26)).f0) ≥ ((rd_T70 l0_6 x30_2).f0) then (some false) else (impl_isBatch.l0 k2 l0_6 (l0_6.length : Int) (wrap64 (x30_2 + 1)) false a0_1 a0_2 a0_3 a0_4 a0_5 l0_6)) else (none)) else (none)) = some r := by first | (rw [hji26] at H;exact H) | (simp only [hji26] at H ⊢;exact H)
            (try rw [hji26] at A23)
            have hji26w : (IntKind.i64.wrap (x30_2 - 1)) = ji26 := (i64_w _).trans hji26
            by_cases c27 : 0 ≤ (ji26)
            ·rw [if_pos c27] at H
             have c27b0 : decide (0 ≤ (ji26)) = true := decide_eq_true c27
             clear c27
             by_cases c28 : (ji26) < (l0_6.length : Int)
             ·rw [if_pos c28] at H
              have c28b0 : decide ((ji26) < (l0_6.length : Int)) = true := decide_eq_true c28
              clear c28
              by_cases c29 : ((rd_T70 l0_6 (ji26)).f0) ≥ ((rd_T70 l0_6 x30_2).f0)
              ·rw [if_pos c29] at H
               have c29b0 : decide (((rd_T70 l0_6 x30_2).f0) ≤ ((rd_T70 l0_6 (ji26)).f0)) = true := decide_eq_true c29
               clear c29
               obtain rfl := Option.some.inj H
               have p692 : 0 ≤ (x30_2 : Int) := o1_ (by first | (with_reducible assumption) | assumption)
               have q692 : x30_2 < (l0_6.length : Int) := o1_ (by first | (with_reducible assumption) | assumption)
               obtain ⟨ad692,e692,hx692_0,hx692_1,hx692_2⟩ := at_T70 HR0_6.out x30_2 p692 q692
               cases e692
               replace hx692_0 := (HB.out.cell (World.block_lt_of_cell? w _ hx692_0)).trans hx692_0
               replace hx692_1 := (HB.out.cell (World.block_lt_of_cell? w _ hx692_1)).trans hx692_1
               replace hx692_2 := (HB.out.cell (World.block_lt_of_cell? w _ hx692_2)).trans hx692_2
               replace p692 := eq_true p692
               replace q692 := eq_true q692
               try go_wp2_with (first | ((with_reducible refine gate_dst (N := 4) rfl ?_);(try (refine gate_guard (by rfl) ?_;dsimp only));refine zbx (N := 4) (cs := #[.int .i64 0,.int .i64 0,.string ⟨#[]⟩]) (t := 70) ?_;intro gb693 hg w30 hbox hb;have BK693 := am_ (hbox);have GW693 := zw_ HB hg;have GE693 := zw_ HB hg;replace HB := zs_ HB hb;have NB690_693 := zl hg BK690;have NB693_690 := zg hg BK690;replace BK690 := zb BK690 hb;clear hb hbox hg;have hnb31 := NB693_690.out;have hnc31 := NB690_693.out;obtain ⟨hcz32_0,hcz32_1,hcz32_2,hfz32_0,hfz32_1,hfz32_2⟩ := zc3 BK693))
               have n0_ : Aside0 ((((w30.setCell ⟨gb693,0,none⟩ (.int .i64 ((rd_T70 l0_6 x30_2).f0))).setCell ⟨gb693,1,none⟩ (.int .i64 ((rd_T70 l0_6 x30_2).f1))).setCell ⟨gb693,2,none⟩ (.string ((rd_T70 l0_6 x30_2).f2))).heap[gb690]? = some (.cells #[.bool false,.int .i64 a0_1,.int .i64 a0_2,.int .i64 a0_3,.int .i64 a0_4,.string a0_5,.slice (some ad692) l0_6.length c0_6] 41 (0,0))) := ⟨zq BK690⟩
               have n1_ : Aside0 ((((w30.setCell ⟨gb693,0,none⟩ (.int .i64 ((rd_T70 l0_6 x30_2).f0))).setCell ⟨gb693,1,none⟩ (.int .i64 ((rd_T70 l0_6 x30_2).f1))).setCell ⟨gb693,2,none⟩ (.string ((rd_T70 l0_6 x30_2).f2))).heap[gb693]? = some (.cells #[.int .i64 ((rd_T70 l0_6 x30_2).f0),.int .i64 ((rd_T70 l0_6 x30_2).f1),.string ((rd_T70 l0_6 x30_2).f2)] 70 (0,0))) := ⟨zq BK693⟩
               have n2_ : Aside0 (Below w.heap.size w (((w30.setCell ⟨gb693,0,none⟩ (.int .i64 ((rd_T70 l0_6 x30_2).f0))).setCell ⟨gb693,1,none⟩ (.int .i64 ((rd_T70 l0_6 x30_2).f1))).setCell ⟨gb693,2,none⟩ (.string ((rd_T70 l0_6 x30_2).f2)))) := ⟨zl_ HB⟩
               (try clear BK690)
               (try clear BK693)
               (try clear HB)
               generalize (((w30.setCell ⟨gb693,0,none⟩ (.int .i64 ((rd_T70 l0_6 x30_2).f0))).setCell ⟨gb693,1,none⟩ (.int .i64 ((rd_T70 l0_6 x30_2).f1))).setCell ⟨gb693,2,none⟩ (.string ((rd_T70 l0_6 x30_2).f2))) = w33 at n0_ n1_ n2_ ⊢
               have BK690 := n0_
               have BK693 := n1_
               have HB := n2_
               clear n0_ n1_ n2_
               replace BK690 := am_ (blk_drew BK690.out)
               replace BK693 := am_ (blk_drew BK693.out)
               replace HB := am_ (below_drew1 HB.out)
               have p695 : 0 ≤ ((ji26) : Int) := o1_ (by first | (with_reducible assumption) | assumption)
               have q695 : (ji26) < (l0_6.length : Int) := o1_ (by first | (with_reducible assumption) | assumption)
               obtain ⟨ad695,e695,hx695_0,hx695_1,hx695_2⟩ := at_T70 HR0_6.out (ji26) p695 q695
               have hw695_2 := hx695_2
               have hw695_1 := hx695_1
               have hw695_0 := hx695_0
               obtain rfl : ad692 = ad695 := (by injection e695)
               replace hx695_0 := (HB.out.cell (World.block_lt_of_cell? w _ hx695_0)).trans hx695_0
               replace hx695_1 := (HB.out.cell (World.block_lt_of_cell? w _ hx695_1)).trans hx695_1
               replace hx695_2 := (HB.out.cell (World.block_lt_of_cell? w _ hx695_2)).trans hx695_2
               replace p695 := eq_true p695
               replace q695 := eq_true q695
               refine start_ (n := 19) (S := fun w' => w'.cell? ⟨gb693,0,none⟩ = some (.int .i64 ((rd_T70 l0_6 x30_2).f0)) ∧ w'.cell? ⟨gb693,1,none⟩ = some (.int .i64 ((rd_T70 l0_6 x30_2).f1)) ∧ w'.cell? ⟨gb693,2,none⟩ = some (.string ((rd_T70 l0_6 x30_2).f2)) ∧ w'.cell? ⟨gb690,0,none⟩ = some (.bool false) ∧ w'.cell? ⟨gb690,1,none⟩ = some (.int .i64 a0_1) ∧ w'.cell? ⟨gb690,2,none⟩ = some (.int .i64 a0_2) ∧ w'.cell? ⟨gb690,3,none⟩ = some (.int .i64 a0_3) ∧ w'.cell? ⟨gb690,4,none⟩ = some (.int .i64 a0_4) ∧ w'.cell? ⟨gb690,5,none⟩ = some (.string a0_5) ∧ w'.cell? ⟨gb690,6,none⟩ = some (.slice (some ad692) l0_6.length c0_6) ∧ w'.cell? (ad692.add (((ji26)).toNat * 3)) = some (.int .i64 ((rd_T70 l0_6 (ji26)).f0)) ∧ w'.cell? ⟨(ad692.add (((ji26)).toNat * 3)).block,(ad692.add (((ji26)).toNat * 3)).off + 1,none⟩ = some (.int .i64 ((rd_T70 l0_6 (ji26)).f1)) ∧ w'.cell? ⟨(ad692.add (((ji26)).toNat * 3)).block,(ad692.add (((ji26)).toNat * 3)).off + 2,none⟩ = some (.string ((rd_T70 l0_6 (ji26)).f2))) (ds := []) #[false,false,false,false,false,false,false,false,false,false,false,false,false,false,false,false,false,false,false] (by kernel_rfl) rfl rfl ⟨(blk_cell BK693.out 0).trans rfl,(blk_cell BK693.out 1).trans rfl,(blk_cell BK693.out 2).trans rfl,(blk_cell BK690.out 0).trans rfl,(blk_cell BK690.out 1).trans rfl,(blk_cell BK690.out 2).trans rfl,(blk_cell BK690.out 3).trans rfl,(blk_cell BK690.out 4).trans rfl,(blk_cell BK690.out 5).trans rfl,(blk_cell BK690.out 6).trans rfl,((HB.out.cell (World.block_lt_of_cell? w _ hw695_0)).trans hw695_0),((HB.out.cell (World.block_lt_of_cell? w _ hw695_1)).trans hw695_1),((HB.out.cell (World.block_lt_of_cell? w _ hw695_2)).trans hw695_2)⟩ (fun hHeld => ?_);refine with_tabW impl_isBatch.tab8 impl_isBatch.bits8 (fun HT_ HW_ => ?_)
               generalize w33.drew = w34 at BK690 BK693 HB hx695_0 hx695_1 hx695_2 hHeld ⊢
               refine ztk 0 (N := some 35) #[true,false,false,false,false,false,false,false,false,false,false,false,false,false,false,false,false,false,false] HT_ HW_ hHeld ?_
               refine one_ (i := 1) (N := some 36) #[true,true,false,false,false,false,false,false,false,false,false,false,false,false,false,false,false,false,false] rfl rfl (one_of HT_.out (by kernel_rfl)) (by decide) (fun K hK => ?_)
               refine goes_ Try.func61 (by kernel_rfl) rfl #[.agg #[.int .i64 ((rd_T70 l0_6 x30_2).f0),.int .i64 ((rd_T70 l0_6 x30_2).f1),.string ((rd_T70 l0_6 x30_2).f2)]] (by rfl) rfl rfl (by (try simp only [m1_,m2_,m3_]);first | done | rfl | (simp only [d1_,d2_];rfl)) ?_
               with_reducible refine (impl_isReading.calls ((rd_T70 l0_6 x30_2).f0) ((rd_T70 l0_6 x30_2).f1) ((rd_T70 l0_6 x30_2).f2) true _ A23.out).mono ?_
               rintro e w35 ⟨rfl,hb⟩
               refine ⟨_,rfl,?_⟩
               replace BK690 := zb BK690 hb
               replace BK693 := zb BK693 hb
               replace HB := zs_ HB hb
               (try clear hb)
               (try clear hb2)
               (try clear hk)
               (try clear hi)
               refine hK.out _ _ ⟨(blk_cell BK693.out 0).trans rfl,(blk_cell BK693.out 1).trans rfl,(blk_cell BK693.out 2).trans rfl,(blk_cell BK690.out 0).trans rfl,(blk_cell BK690.out 1).trans rfl,(blk_cell BK690.out 2).trans rfl,(blk_cell BK690.out 3).trans rfl,(blk_cell BK690.out 4).trans rfl,(blk_cell BK690.out 5).trans rfl,(blk_cell BK690.out 6).trans rfl,((HB.out.cell (World.block_lt_of_cell? w _ hw695_0)).trans hw695_0),((HB.out.cell (World.block_lt_of_cell? w _ hw695_1)).trans hw695_1),((HB.out.cell (World.block_lt_of_cell? w _ hw695_2)).trans hw695_2)⟩ (fun hHeld => ?_)
               clear hK K
               refine norm_ (a' := ?_) ?_ ?_
               rotate_left
               ·show Act.put _ (some 36) _ = _
                simp only [Act.put,p1_,p2_,p3_,i64_w,i32_w]
                rfl
               refine zpu 2 (N := some 37) #[true,true,true,false,false,false,false,false,false,false,false,false,false,false,false,false,false,false,false] HT_ ?_
               refine zpu 3 (N := some 38) #[true,true,true,true,false,false,false,false,false,false,false,false,false,false,false,false,false,false,false] HT_ ?_
               refine zpu 4 (N := some 39) #[true,true,true,true,true,false,false,false,false,false,false,false,false,false,false,false,false,false,false] HT_ ?_
               refine zpu 5 (N := some 40) #[true,true,true,true,true,true,false,false,false,false,false,false,false,false,false,false,false,false,false] HT_ ?_
               refine zpu 6 (N := some 41) #[true,true,true,true,true,true,true,false,false,false,false,false,false,false,false,false,false,false,false] HT_ ?_
               refine zpu 7 (N := some 42) #[true,true,true,true,true,true,true,true,false,false,false,false,false,false,false,false,false,false,false] HT_ ?_
               refine zpu 9 (N := some 44) #[true,true,true,true,true,true,true,true,false,true,false,false,false,false,false,false,false,false,false] HT_ ?_
               refine zpu 10 (N := some 45) #[true,true,true,true,true,true,true,true,false,true,true,false,false,false,false,false,false,false,false] HT_ ?_
               refine zpu 14 (N := some 49) #[true,true,true,true,true,true,true,true,false,true,true,false,false,false,true,false,false,false,false] HT_ ?_
               refine ztk 8 (N := some 43) #[true,true,true,true,true,true,true,true,true,true,true,false,false,false,true,false,false,false,false] HT_ HW_ hHeld ?_
               refine zpu 11 (N := some 46) #[true,true,true,true,true,true,true,true,true,true,true,true,false,false,true,false,false,false,false] HT_ ?_
               refine zpu 12 (N := some 47) #[true,true,true,true,true,true,true,true,true,true,true,true,true,false,true,false,false,false,false] HT_ ?_
               refine ztk 13 (N := some 48) #[true,true,true,true,true,true,true,true,true,true,true,true,true,true,true,false,false,false,false] HT_ HW_ hHeld ?_
               refine ztk 15 (N := some 50) #[true,true,true,true,true,true,true,true,true,true,true,true,true,true,true,true,false,false,false] HT_ HW_ hHeld ?_
               refine zpu 16 (N := some 51) #[true,true,true,true,true,true,true,true,true,true,true,true,true,true,true,true,true,false,false] HT_ ?_
               refine zpu 17 (N := some 52) #[true,true,true,true,true,true,true,true,true,true,true,true,true,true,true,true,true,true,false] HT_ ?_
               refine zpu 18 (N := some 53) #[true,true,true,true,true,true,true,true,true,true,true,true,true,true,true,true,true,true,true] HT_ ?_
               refine done_ (done_of HT_.out (by kernel_rfl)) ?_
               try go_wp2
               go_ret
               exact ⟨by first | rfl | (simp [e1_,e2_] <;> rfl) | (simp only [← hji26];first | rfl | (simp [e1_,e2_] <;> rfl)) | (simp [*,e1_,e2_] <;> rfl) | (simp [e3_,e4_];done) | (simp [*,e3_,e4_];done),zl_ HB⟩
              ·rw [if_neg c29] at H
               have c29b0 : decide (((rd_T70 l0_6 x30_2).f0) ≤ ((rd_T70 l0_6 (ji26)).f0)) = false := decide_eq_false c29
               clear c29
               have H' := am_ H
               clear H
               have p692 : 0 ≤ (x30_2 : Int) := o1_ (by first | (with_reducible assumption) | assumption)
               have q692 : x30_2 < (l0_6.length : Int) := o1_ (by first | (with_reducible assumption) | assumption)
               obtain ⟨ad692,e692,hx692_0,hx692_1,hx692_2⟩ := at_T70 HR0_6.out x30_2 p692 q692
               cases e692
               replace hx692_0 := (HB.out.cell (World.block_lt_of_cell? w _ hx692_0)).trans hx692_0
               replace hx692_1 := (HB.out.cell (World.block_lt_of_cell? w _ hx692_1)).trans hx692_1
               replace hx692_2 := (HB.out.cell (World.block_lt_of_cell? w _ hx692_2)).trans hx692_2
               replace p692 := eq_true p692
               replace q692 := eq_true q692
               try go_wp2_with (first | ((with_reducible refine gate_dst (N := 4) rfl ?_);(try (refine gate_guard (by rfl) ?_;dsimp only));refine zbx (N := 4) (cs := #[.int .i64 0,.int .i64 0,.string ⟨#[]⟩]) (t := 70) ?_;intro gb693 hg w36 hbox hb;have BK693 := am_ (hbox);have GW693 := zw_ HB hg;have GE693 := zw_ HB hg;replace HB := zs_ HB hb;have NB690_693 := zl hg BK690;have NB693_690 := zg hg BK690;replace BK690 := zb BK690 hb;clear hb hbox hg;have hnb37 := NB693_690.out;have hnc37 := NB690_693.out;obtain ⟨hcz38_0,hcz38_1,hcz38_2,hfz38_0,hfz38_1,hfz38_2⟩ := zc3 BK693))
               have n0_ : Aside0 ((((w36.setCell ⟨gb693,0,none⟩ (.int .i64 ((rd_T70 l0_6 x30_2).f0))).setCell ⟨gb693,1,none⟩ (.int .i64 ((rd_T70 l0_6 x30_2).f1))).setCell ⟨gb693,2,none⟩ (.string ((rd_T70 l0_6 x30_2).f2))).heap[gb690]? = some (.cells #[.bool false,.int .i64 a0_1,.int .i64 a0_2,.int .i64 a0_3,.int .i64 a0_4,.string a0_5,.slice (some ad692) l0_6.length c0_6] 41 (0,0))) := ⟨zq BK690⟩
               have n1_ : Aside0 ((((w36.setCell ⟨gb693,0,none⟩ (.int .i64 ((rd_T70 l0_6 x30_2).f0))).setCell ⟨gb693,1,none⟩ (.int .i64 ((rd_T70 l0_6 x30_2).f1))).setCell ⟨gb693,2,none⟩ (.string ((rd_T70 l0_6 x30_2).f2))).heap[gb693]? = some (.cells #[.int .i64 ((rd_T70 l0_6 x30_2).f0),.int .i64 ((rd_T70 l0_6 x30_2).f1),.string ((rd_T70 l0_6 x30_2).f2)] 70 (0,0))) := ⟨zq BK693⟩
               have n2_ : Aside0 (Below w.heap.size w (((w36.setCell ⟨gb693,0,none⟩ (.int .i64 ((rd_T70 l0_6 x30_2).f0))).setCell ⟨gb693,1,none⟩ (.int .i64 ((rd_T70 l0_6 x30_2).f1))).setCell ⟨gb693,2,none⟩ (.string ((rd_T70 l0_6 x30_2).f2)))) := ⟨zl_ HB⟩
               (try clear BK690)
               (try clear BK693)
               (try clear HB)
               generalize (((w36.setCell ⟨gb693,0,none⟩ (.int .i64 ((rd_T70 l0_6 x30_2).f0))).setCell ⟨gb693,1,none⟩ (.int .i64 ((rd_T70 l0_6 x30_2).f1))).setCell ⟨gb693,2,none⟩ (.string ((rd_T70 l0_6 x30_2).f2))) = w39 at n0_ n1_ n2_ ⊢
               have BK690 := n0_
               have BK693 := n1_
               have HB := n2_
               clear n0_ n1_ n2_
               replace BK690 := am_ (blk_drew BK690.out)
               replace BK693 := am_ (blk_drew BK693.out)
               replace HB := am_ (below_drew1 HB.out)
               have p695 : 0 ≤ ((ji26) : Int) := o1_ (by first | (with_reducible assumption) | assumption)
               have q695 : (ji26) < (l0_6.length : Int) := o1_ (by first | (with_reducible assumption) | assumption)
               obtain ⟨ad695,e695,hx695_0,hx695_1,hx695_2⟩ := at_T70 HR0_6.out (ji26) p695 q695
               have hw695_2 := hx695_2
               have hw695_1 := hx695_1
               have hw695_0 := hx695_0
               obtain rfl : ad692 = ad695 := (by injection e695)
               replace hx695_0 := (HB.out.cell (World.block_lt_of_cell? w _ hx695_0)).trans hx695_0
               replace hx695_1 := (HB.out.cell (World.block_lt_of_cell? w _ hx695_1)).trans hx695_1
               replace hx695_2 := (HB.out.cell (World.block_lt_of_cell? w _ hx695_2)).trans hx695_2
               replace p695 := eq_true p695
               replace q695 := eq_true q695
               refine start_ (n := 19) (S := fun w' => w'.cell? ⟨gb693,0,none⟩ = some (.int .i64 ((rd_T70 l0_6 x30_2).f0)) ∧ w'.cell? ⟨gb693,1,none⟩ = some (.int .i64 ((rd_T70 l0_6 x30_2).f1)) ∧ w'.cell? ⟨gb693,2,none⟩ = some (.string ((rd_T70 l0_6 x30_2).f2)) ∧ w'.cell? ⟨gb690,0,none⟩ = some (.bool false) ∧ w'.cell? ⟨gb690,1,none⟩ = some (.int .i64 a0_1) ∧ w'.cell? ⟨gb690,2,none⟩ = some (.int .i64 a0_2) ∧ w'.cell? ⟨gb690,3,none⟩ = some (.int .i64 a0_3) ∧ w'.cell? ⟨gb690,4,none⟩ = some (.int .i64 a0_4) ∧ w'.cell? ⟨gb690,5,none⟩ = some (.string a0_5) ∧ w'.cell? ⟨gb690,6,none⟩ = some (.slice (some ad692) l0_6.length c0_6) ∧ w'.cell? (ad692.add (((ji26)).toNat * 3)) = some (.int .i64 ((rd_T70 l0_6 (ji26)).f0)) ∧ w'.cell? ⟨(ad692.add (((ji26)).toNat * 3)).block,(ad692.add (((ji26)).toNat * 3)).off + 1,none⟩ = some (.int .i64 ((rd_T70 l0_6 (ji26)).f1)) ∧ w'.cell? ⟨(ad692.add (((ji26)).toNat * 3)).block,(ad692.add (((ji26)).toNat * 3)).off + 2,none⟩ = some (.string ((rd_T70 l0_6 (ji26)).f2))) (ds := []) #[false,false,false,false,false,false,false,false,false,false,false,false,false,false,false,false,false,false,false] (by kernel_rfl) rfl rfl ⟨(blk_cell BK693.out 0).trans rfl,(blk_cell BK693.out 1).trans rfl,(blk_cell BK693.out 2).trans rfl,(blk_cell BK690.out 0).trans rfl,(blk_cell BK690.out 1).trans rfl,(blk_cell BK690.out 2).trans rfl,(blk_cell BK690.out 3).trans rfl,(blk_cell BK690.out 4).trans rfl,(blk_cell BK690.out 5).trans rfl,(blk_cell BK690.out 6).trans rfl,((HB.out.cell (World.block_lt_of_cell? w _ hw695_0)).trans hw695_0),((HB.out.cell (World.block_lt_of_cell? w _ hw695_1)).trans hw695_1),((HB.out.cell (World.block_lt_of_cell? w _ hw695_2)).trans hw695_2)⟩ (fun hHeld => ?_);refine with_tabW impl_isBatch.tab8 impl_isBatch.bits8 (fun HT_ HW_ => ?_)
               generalize w39.drew = w40 at BK690 BK693 HB hx695_0 hx695_1 hx695_2 hHeld ⊢
               refine ztk 0 (N := some 35) #[true,false,false,false,false,false,false,false,false,false,false,false,false,false,false,false,false,false,false] HT_ HW_ hHeld ?_
               refine one_ (i := 1) (N := some 36) #[true,true,false,false,false,false,false,false,false,false,false,false,false,false,false,false,false,false,false] rfl rfl (one_of HT_.out (by kernel_rfl)) (by decide) (fun K hK => ?_)
               refine goes_ Try.func61 (by kernel_rfl) rfl #[.agg #[.int .i64 ((rd_T70 l0_6 x30_2).f0),.int .i64 ((rd_T70 l0_6 x30_2).f1),.string ((rd_T70 l0_6 x30_2).f2)]] (by rfl) rfl rfl (by (try simp only [m1_,m2_,m3_]);first | done | rfl | (simp only [d1_,d2_];rfl)) ?_
               with_reducible refine (impl_isReading.calls ((rd_T70 l0_6 x30_2).f0) ((rd_T70 l0_6 x30_2).f1) ((rd_T70 l0_6 x30_2).f2) true _ A23.out).mono ?_
               rintro e w41 ⟨rfl,hb⟩
               refine ⟨_,rfl,?_⟩
               replace BK690 := zb BK690 hb
               replace BK693 := zb BK693 hb
               replace HB := zs_ HB hb
               (try clear hb)
               (try clear hb2)
               (try clear hk)
               (try clear hi)
               refine hK.out _ _ ⟨(blk_cell BK693.out 0).trans rfl,(blk_cell BK693.out 1).trans rfl,(blk_cell BK693.out 2).trans rfl,(blk_cell BK690.out 0).trans rfl,(blk_cell BK690.out 1).trans rfl,(blk_cell BK690.out 2).trans rfl,(blk_cell BK690.out 3).trans rfl,(blk_cell BK690.out 4).trans rfl,(blk_cell BK690.out 5).trans rfl,(blk_cell BK690.out 6).trans rfl,((HB.out.cell (World.block_lt_of_cell? w _ hw695_0)).trans hw695_0),((HB.out.cell (World.block_lt_of_cell? w _ hw695_1)).trans hw695_1),((HB.out.cell (World.block_lt_of_cell? w _ hw695_2)).trans hw695_2)⟩ (fun hHeld => ?_)
               clear hK K
               refine norm_ (a' := ?_) ?_ ?_
               rotate_left
               ·show Act.put _ (some 36) _ = _
                simp only [Act.put,p1_,p2_,p3_,i64_w,i32_w]
                rfl
               refine zpu 2 (N := some 37) #[true,true,true,false,false,false,false,false,false,false,false,false,false,false,false,false,false,false,false] HT_ ?_
               refine zpu 3 (N := some 38) #[true,true,true,true,false,false,false,false,false,false,false,false,false,false,false,false,false,false,false] HT_ ?_
               refine zpu 4 (N := some 39) #[true,true,true,true,true,false,false,false,false,false,false,false,false,false,false,false,false,false,false] HT_ ?_
               refine zpu 5 (N := some 40) #[true,true,true,true,true,true,false,false,false,false,false,false,false,false,false,false,false,false,false] HT_ ?_
               refine zpu 6 (N := some 41) #[true,true,true,true,true,true,true,false,false,false,false,false,false,false,false,false,false,false,false] HT_ ?_
               refine zpu 7 (N := some 42) #[true,true,true,true,true,true,true,true,false,false,false,false,false,false,false,false,false,false,false] HT_ ?_
               refine zpu 9 (N := some 44) #[true,true,true,true,true,true,true,true,false,true,false,false,false,false,false,false,false,false,false] HT_ ?_
               refine zpu 10 (N := some 45) #[true,true,true,true,true,true,true,true,false,true,true,false,false,false,false,false,false,false,false] HT_ ?_
               refine zpu 14 (N := some 49) #[true,true,true,true,true,true,true,true,false,true,true,false,false,false,true,false,false,false,false] HT_ ?_
               refine ztk 8 (N := some 43) #[true,true,true,true,true,true,true,true,true,true,true,false,false,false,true,false,false,false,false] HT_ HW_ hHeld ?_
               refine zpu 11 (N := some 46) #[true,true,true,true,true,true,true,true,true,true,true,true,false,false,true,false,false,false,false] HT_ ?_
               refine zpu 12 (N := some 47) #[true,true,true,true,true,true,true,true,true,true,true,true,true,false,true,false,false,false,false] HT_ ?_
               refine ztk 13 (N := some 48) #[true,true,true,true,true,true,true,true,true,true,true,true,true,true,true,false,false,false,false] HT_ HW_ hHeld ?_
               refine ztk 15 (N := some 50) #[true,true,true,true,true,true,true,true,true,true,true,true,true,true,true,true,false,false,false] HT_ HW_ hHeld ?_
               refine zpu 16 (N := some 51) #[true,true,true,true,true,true,true,true,true,true,true,true,true,true,true,true,true,false,false] HT_ ?_
               refine zpu 17 (N := some 52) #[true,true,true,true,true,true,true,true,true,true,true,true,true,true,true,true,true,true,false] HT_ ?_
               refine zpu 18 (N := some 53) #[true,true,true,true,true,true,true,true,true,true,true,true,true,true,true,true,true,true,true] HT_ ?_
               refine done_ (done_of HT_.out (by kernel_rfl)) ?_
               try go_wp2
               go_roundg k2
               case measure => have := HJ7.out;have := HK2.out;omega
               case rel => exact ⟨(wrap64 (x30_2 + 1)),(by first | rfl | (simp;done) | (simp [*];done)),H',⟨by have := HJ7.out;have := HK2.out;omega⟩,⟨by (with_reducible repeat (first | apply k1_ | apply k2_ | apply k3_));exact BK690.out⟩,⟨zl_ HB⟩⟩
             ·rw [if_neg c28] at H
              exact absurd H (by simp)
            ·rw [if_neg c27] at H
             exact absurd H (by simp)
           ·rw [if_neg c25] at H
            have c25b0 : decide (0 < x30_2) = false := decide_eq_false c25
            clear c25
            have H' := am_ H
            clear H
            have p692 : 0 ≤ (x30_2 : Int) := o1_ (by first | (with_reducible assumption) | assumption)
            have q692 : x30_2 < (l0_6.length : Int) := o1_ (by first | (with_reducible assumption) | assumption)
            obtain ⟨ad692,e692,hx692_0,hx692_1,hx692_2⟩ := at_T70 HR0_6.out x30_2 p692 q692
            cases e692
            replace hx692_0 := (HB.out.cell (World.block_lt_of_cell? w _ hx692_0)).trans hx692_0
            replace hx692_1 := (HB.out.cell (World.block_lt_of_cell? w _ hx692_1)).trans hx692_1
            replace hx692_2 := (HB.out.cell (World.block_lt_of_cell? w _ hx692_2)).trans hx692_2
            replace p692 := eq_true p692
            replace q692 := eq_true q692
            try go_wp2_with (first | ((with_reducible refine gate_dst (N := 4) rfl ?_);(try (refine gate_guard (by rfl) ?_;dsimp only));refine zbx (N := 4) (cs := #[.int .i64 0,.int .i64 0,.string ⟨#[]⟩]) (t := 70) ?_;intro gb693 hg w42 hbox hb;have BK693 := am_ (hbox);have GW693 := zw_ HB hg;have GE693 := zw_ HB hg;replace HB := zs_ HB hb;have NB690_693 := zl hg BK690;have NB693_690 := zg hg BK690;replace BK690 := zb BK690 hb;clear hb hbox hg;have hnb43 := NB693_690.out;have hnc43 := NB690_693.out;obtain ⟨hcz44_0,hcz44_1,hcz44_2,hfz44_0,hfz44_1,hfz44_2⟩ := zc3 BK693))
            have n0_ : Aside0 ((((w42.setCell ⟨gb693,0,none⟩ (.int .i64 ((rd_T70 l0_6 x30_2).f0))).setCell ⟨gb693,1,none⟩ (.int .i64 ((rd_T70 l0_6 x30_2).f1))).setCell ⟨gb693,2,none⟩ (.string ((rd_T70 l0_6 x30_2).f2))).heap[gb690]? = some (.cells #[.bool false,.int .i64 a0_1,.int .i64 a0_2,.int .i64 a0_3,.int .i64 a0_4,.string a0_5,.slice (some ad692) l0_6.length c0_6] 41 (0,0))) := ⟨zq BK690⟩
            have n1_ : Aside0 ((((w42.setCell ⟨gb693,0,none⟩ (.int .i64 ((rd_T70 l0_6 x30_2).f0))).setCell ⟨gb693,1,none⟩ (.int .i64 ((rd_T70 l0_6 x30_2).f1))).setCell ⟨gb693,2,none⟩ (.string ((rd_T70 l0_6 x30_2).f2))).heap[gb693]? = some (.cells #[.int .i64 ((rd_T70 l0_6 x30_2).f0),.int .i64 ((rd_T70 l0_6 x30_2).f1),.string ((rd_T70 l0_6 x30_2).f2)] 70 (0,0))) := ⟨zq BK693⟩
            have n2_ : Aside0 (Below w.heap.size w (((w42.setCell ⟨gb693,0,none⟩ (.int .i64 ((rd_T70 l0_6 x30_2).f0))).setCell ⟨gb693,1,none⟩ (.int .i64 ((rd_T70 l0_6 x30_2).f1))).setCell ⟨gb693,2,none⟩ (.string ((rd_T70 l0_6 x30_2).f2)))) := ⟨zl_ HB⟩
            (try clear BK690)
            (try clear BK693)
            (try clear HB)
            generalize (((w42.setCell ⟨gb693,0,none⟩ (.int .i64 ((rd_T70 l0_6 x30_2).f0))).setCell ⟨gb693,1,none⟩ (.int .i64 ((rd_T70 l0_6 x30_2).f1))).setCell ⟨gb693,2,none⟩ (.string ((rd_T70 l0_6 x30_2).f2))) = w45 at n0_ n1_ n2_ ⊢
            have BK690 := n0_
            have BK693 := n1_
            have HB := n2_
            clear n0_ n1_ n2_
            replace BK690 := am_ (blk_drew BK690.out)
            replace BK693 := am_ (blk_drew BK693.out)
            replace HB := am_ (below_drew1 HB.out)
            refine start_ (n := 19) (S := fun w' => w'.cell? ⟨gb693,0,none⟩ = some (.int .i64 ((rd_T70 l0_6 x30_2).f0)) ∧ w'.cell? ⟨gb693,1,none⟩ = some (.int .i64 ((rd_T70 l0_6 x30_2).f1)) ∧ w'.cell? ⟨gb693,2,none⟩ = some (.string ((rd_T70 l0_6 x30_2).f2))) (ds := []) #[false,false,false,false,false,false,false,false,false,false,false,false,false,false,false,false,false,false,false] (by kernel_rfl) rfl rfl ⟨(blk_cell BK693.out 0).trans rfl,(blk_cell BK693.out 1).trans rfl,(blk_cell BK693.out 2).trans rfl⟩ (fun hHeld => ?_);refine with_tabW impl_isBatch.tab8 impl_isBatch.bits8 (fun HT_ HW_ => ?_)
            generalize w45.drew = w46 at BK690 BK693 HB hHeld ⊢
            refine ztk 0 (N := some 35) #[true,false,false,false,false,false,false,false,false,false,false,false,false,false,false,false,false,false,false] HT_ HW_ hHeld ?_
            refine one_ (i := 1) (N := some 36) #[true,true,false,false,false,false,false,false,false,false,false,false,false,false,false,false,false,false,false] rfl rfl (one_of HT_.out (by kernel_rfl)) (by decide) (fun K hK => ?_)
            refine goes_ Try.func61 (by kernel_rfl) rfl #[.agg #[.int .i64 ((rd_T70 l0_6 x30_2).f0),.int .i64 ((rd_T70 l0_6 x30_2).f1),.string ((rd_T70 l0_6 x30_2).f2)]] (by rfl) rfl rfl (by (try simp only [m1_,m2_,m3_]);first | done | rfl | (simp only [d1_,d2_];rfl)) ?_
            with_reducible refine (impl_isReading.calls ((rd_T70 l0_6 x30_2).f0) ((rd_T70 l0_6 x30_2).f1) ((rd_T70 l0_6 x30_2).f2) true _ A23.out).mono ?_
            rintro e w47 ⟨rfl,hb⟩
            refine ⟨_,rfl,?_⟩
            replace BK690 := zb BK690 hb
            replace BK693 := zb BK693 hb
            replace HB := zs_ HB hb
            (try clear hb)
            (try clear hb2)
            (try clear hk)
            (try clear hi)
            refine hK.out _ _ ⟨(blk_cell BK693.out 0).trans rfl,(blk_cell BK693.out 1).trans rfl,(blk_cell BK693.out 2).trans rfl⟩ (fun hHeld => ?_)
            clear hK K
            refine norm_ (a' := ?_) ?_ ?_
            rotate_left
            ·show Act.put _ (some 36) _ = _
             simp only [Act.put,p1_,p2_,p3_,i64_w,i32_w]
             rfl
            refine zpu 2 (N := some 37) #[true,true,true,false,false,false,false,false,false,false,false,false,false,false,false,false,false,false,false] HT_ ?_
            refine zpu 3 (N := some 38) #[true,true,true,true,false,false,false,false,false,false,false,false,false,false,false,false,false,false,false] HT_ ?_
            refine zpu 4 (N := some 39) #[true,true,true,true,true,false,false,false,false,false,false,false,false,false,false,false,false,false,false] HT_ ?_
            refine zpu 5 (N := some 40) #[true,true,true,true,true,true,false,false,false,false,false,false,false,false,false,false,false,false,false] HT_ ?_
            refine zpu 6 (N := some 41) #[true,true,true,true,true,true,true,false,false,false,false,false,false,false,false,false,false,false,false] HT_ ?_
            refine zpx 7 (N := some 42) #[true,true,true,true,true,true,true,true,false,false,false,false,false,false,false,false,false,false,false] HT_ ?_
            refine zpx 8 (N := some 43) #[true,true,true,true,true,true,true,true,true,false,false,false,false,false,false,false,false,false,false] HT_ ?_
            refine zpx 9 (N := some 44) #[true,true,true,true,true,true,true,true,true,true,false,false,false,false,false,false,false,false,false] HT_ ?_
            refine zpx 10 (N := some 45) #[true,true,true,true,true,true,true,true,true,true,true,false,false,false,false,false,false,false,false] HT_ ?_
            refine zpx 11 (N := some 46) #[true,true,true,true,true,true,true,true,true,true,true,true,false,false,false,false,false,false,false] HT_ ?_
            refine zpx 12 (N := some 47) #[true,true,true,true,true,true,true,true,true,true,true,true,true,false,false,false,false,false,false] HT_ ?_
            refine zpx 13 (N := some 48) #[true,true,true,true,true,true,true,true,true,true,true,true,true,true,false,false,false,false,false] HT_ ?_
            refine zpx 14 (N := some 49) #[true,true,true,true,true,true,true,true,true,true,true,true,true,true,true,false,false,false,false] HT_ ?_
            refine zpx 15 (N := some 50) #[true,true,true,true,true,true,true,true,true,true,true,true,true,true,true,true,false,false,false] HT_ ?_
            refine zpx 16 (N := some 51) #[true,true,true,true,true,true,true,true,true,true,true,true,true,true,true,true,true,false,false] HT_ ?_
            refine zpu 17 (N := some 52) #[true,true,true,true,true,true,true,true,true,true,true,true,true,true,true,true,true,true,false] HT_ ?_
            refine zpu 18 (N := some 53) #[true,true,true,true,true,true,true,true,true,true,true,true,true,true,true,true,true,true,true] HT_ ?_
            refine done_ (done_of HT_.out (by kernel_rfl)) ?_
            try go_wp2
            go_roundg k2
            case measure => have := HJ7.out;have := HK2.out;omega
            case rel => exact ⟨(wrap64 (x30_2 + 1)),(by first | rfl | (simp;done) | (simp [*];done)),H',⟨by have := HJ7.out;have := HK2.out;omega⟩,⟨by (with_reducible repeat (first | apply k1_ | apply k2_ | apply k3_));exact BK690.out⟩,⟨zl_ HB⟩⟩
          ·replace c24 := Bool.eq_false_iff.mpr c24
           subst c24
           have H1 : (some false) = some r := by rw [if_neg (show ¬ (false = true) by decide)] at H;exact H
           clear H
           have H := H1
           clear H1
           obtain rfl := Option.some.inj H
           have p692 : 0 ≤ (x30_2 : Int) := o1_ (by first | (with_reducible assumption) | assumption)
           have q692 : x30_2 < (l0_6.length : Int) := o1_ (by first | (with_reducible assumption) | assumption)
           obtain ⟨ad692,e692,hx692_0,hx692_1,hx692_2⟩ := at_T70 HR0_6.out x30_2 p692 q692
           cases e692
           replace hx692_0 := (HB.out.cell (World.block_lt_of_cell? w _ hx692_0)).trans hx692_0
           replace hx692_1 := (HB.out.cell (World.block_lt_of_cell? w _ hx692_1)).trans hx692_1
           replace hx692_2 := (HB.out.cell (World.block_lt_of_cell? w _ hx692_2)).trans hx692_2
           replace p692 := eq_true p692
           replace q692 := eq_true q692
           try go_wp2_with (first | ((with_reducible refine gate_dst (N := 4) rfl ?_);(try (refine gate_guard (by rfl) ?_;dsimp only));refine zbx (N := 4) (cs := #[.int .i64 0,.int .i64 0,.string ⟨#[]⟩]) (t := 70) ?_;intro gb693 hg w48 hbox hb;have BK693 := am_ (hbox);have GW693 := zw_ HB hg;have GE693 := zw_ HB hg;replace HB := zs_ HB hb;have NB690_693 := zl hg BK690;have NB693_690 := zg hg BK690;replace BK690 := zb BK690 hb;clear hb hbox hg;have hnb49 := NB693_690.out;have hnc49 := NB690_693.out;obtain ⟨hcz50_0,hcz50_1,hcz50_2,hfz50_0,hfz50_1,hfz50_2⟩ := zc3 BK693))
           have n0_ : Aside0 ((((w48.setCell ⟨gb693,0,none⟩ (.int .i64 ((rd_T70 l0_6 x30_2).f0))).setCell ⟨gb693,1,none⟩ (.int .i64 ((rd_T70 l0_6 x30_2).f1))).setCell ⟨gb693,2,none⟩ (.string ((rd_T70 l0_6 x30_2).f2))).heap[gb690]? = some (.cells #[.bool false,.int .i64 a0_1,.int .i64 a0_2,.int .i64 a0_3,.int .i64 a0_4,.string a0_5,.slice (some ad692) l0_6.length c0_6] 41 (0,0))) := ⟨zq BK690⟩
           have n1_ : Aside0 ((((w48.setCell ⟨gb693,0,none⟩ (.int .i64 ((rd_T70 l0_6 x30_2).f0))).setCell ⟨gb693,1,none⟩ (.int .i64 ((rd_T70 l0_6 x30_2).f1))).setCell ⟨gb693,2,none⟩ (.string ((rd_T70 l0_6 x30_2).f2))).heap[gb693]? = some (.cells #[.int .i64 ((rd_T70 l0_6 x30_2).f0),.int .i64 ((rd_T70 l0_6 x30_2).f1),.string ((rd_T70 l0_6 x30_2).f2)] 70 (0,0))) := ⟨zq BK693⟩
           have n2_ : Aside0 (Below w.heap.size w (((w48.setCell ⟨gb693,0,none⟩ (.int .i64 ((rd_T70 l0_6 x30_2).f0))).setCell ⟨gb693,1,none⟩ (.int .i64 ((rd_T70 l0_6 x30_2).f1))).setCell ⟨gb693,2,none⟩ (.string ((rd_T70 l0_6 x30_2).f2)))) := ⟨zl_ HB⟩
           (try clear BK690)
           (try clear BK693)
           (try clear HB)
           generalize (((w48.setCell ⟨gb693,0,none⟩ (.int .i64 ((rd_T70 l0_6 x30_2).f0))).setCell ⟨gb693,1,none⟩ (.int .i64 ((rd_T70 l0_6 x30_2).f1))).setCell ⟨gb693,2,none⟩ (.string ((rd_T70 l0_6 x30_2).f2))) = w51 at n0_ n1_ n2_ ⊢
           have BK690 := n0_
           have BK693 := n1_
           have HB := n2_
           clear n0_ n1_ n2_
           replace BK690 := am_ (blk_drew BK690.out)
           replace BK693 := am_ (blk_drew BK693.out)
           replace HB := am_ (below_drew1 HB.out)
           refine start_ (n := 19) (S := fun w' => w'.cell? ⟨gb693,0,none⟩ = some (.int .i64 ((rd_T70 l0_6 x30_2).f0)) ∧ w'.cell? ⟨gb693,1,none⟩ = some (.int .i64 ((rd_T70 l0_6 x30_2).f1)) ∧ w'.cell? ⟨gb693,2,none⟩ = some (.string ((rd_T70 l0_6 x30_2).f2))) (ds := []) #[false,false,false,false,false,false,false,false,false,false,false,false,false,false,false,false,false,false,false] (by kernel_rfl) rfl rfl ⟨(blk_cell BK693.out 0).trans rfl,(blk_cell BK693.out 1).trans rfl,(blk_cell BK693.out 2).trans rfl⟩ (fun hHeld => ?_);refine with_tabW impl_isBatch.tab8 impl_isBatch.bits8 (fun HT_ HW_ => ?_)
           generalize w51.drew = w52 at BK690 BK693 HB hHeld ⊢
           refine ztk 0 (N := some 35) #[true,false,false,false,false,false,false,false,false,false,false,false,false,false,false,false,false,false,false] HT_ HW_ hHeld ?_
           refine one_ (i := 1) (N := some 36) #[true,true,false,false,false,false,false,false,false,false,false,false,false,false,false,false,false,false,false] rfl rfl (one_of HT_.out (by kernel_rfl)) (by decide) (fun K hK => ?_)
           refine goes_ Try.func61 (by kernel_rfl) rfl #[.agg #[.int .i64 ((rd_T70 l0_6 x30_2).f0),.int .i64 ((rd_T70 l0_6 x30_2).f1),.string ((rd_T70 l0_6 x30_2).f2)]] (by rfl) rfl rfl (by (try simp only [m1_,m2_,m3_]);first | done | rfl | (simp only [d1_,d2_];rfl)) ?_
           with_reducible refine (impl_isReading.calls ((rd_T70 l0_6 x30_2).f0) ((rd_T70 l0_6 x30_2).f1) ((rd_T70 l0_6 x30_2).f2) false _ A23.out).mono ?_
           rintro e w53 ⟨rfl,hb⟩
           refine ⟨_,rfl,?_⟩
           replace BK693 := zb BK693 hb
           replace HB := zs_ HB hb
           (try clear hb)
           (try clear hb2)
           (try clear hk)
           (try clear hi)
           refine hK.out _ _ ⟨(blk_cell BK693.out 0).trans rfl,(blk_cell BK693.out 1).trans rfl,(blk_cell BK693.out 2).trans rfl⟩ (fun hHeld => ?_)
           clear hK K
           refine norm_ (a' := ?_) ?_ ?_
           rotate_left
           ·show Act.put _ (some 36) _ = _
            simp only [Act.put,p1_,p2_,p3_,i64_w,i32_w]
            rfl
           refine zpu 2 (N := some 37) #[true,true,true,false,false,false,false,false,false,false,false,false,false,false,false,false,false,false,false] HT_ ?_
           refine zpu 3 (N := some 38) #[true,true,true,true,false,false,false,false,false,false,false,false,false,false,false,false,false,false,false] HT_ ?_
           refine zpx 4 (N := some 39) #[true,true,true,true,true,false,false,false,false,false,false,false,false,false,false,false,false,false,false] HT_ ?_
           refine zpx 5 (N := some 40) #[true,true,true,true,true,true,false,false,false,false,false,false,false,false,false,false,false,false,false] HT_ ?_
           refine zpx 6 (N := some 41) #[true,true,true,true,true,true,true,false,false,false,false,false,false,false,false,false,false,false,false] HT_ ?_
           refine zpx 7 (N := some 42) #[true,true,true,true,true,true,true,true,false,false,false,false,false,false,false,false,false,false,false] HT_ ?_
           refine zpx 8 (N := some 43) #[true,true,true,true,true,true,true,true,true,false,false,false,false,false,false,false,false,false,false] HT_ ?_
           refine zpx 9 (N := some 44) #[true,true,true,true,true,true,true,true,true,true,false,false,false,false,false,false,false,false,false] HT_ ?_
           refine zpx 10 (N := some 45) #[true,true,true,true,true,true,true,true,true,true,true,false,false,false,false,false,false,false,false] HT_ ?_
           refine zpx 11 (N := some 46) #[true,true,true,true,true,true,true,true,true,true,true,true,false,false,false,false,false,false,false] HT_ ?_
           refine zpx 12 (N := some 47) #[true,true,true,true,true,true,true,true,true,true,true,true,true,false,false,false,false,false,false] HT_ ?_
           refine zpx 13 (N := some 48) #[true,true,true,true,true,true,true,true,true,true,true,true,true,true,false,false,false,false,false] HT_ ?_
           refine zpx 14 (N := some 49) #[true,true,true,true,true,true,true,true,true,true,true,true,true,true,true,false,false,false,false] HT_ ?_
           refine zpx 15 (N := some 50) #[true,true,true,true,true,true,true,true,true,true,true,true,true,true,true,true,false,false,false] HT_ ?_
           refine zpx 16 (N := some 51) #[true,true,true,true,true,true,true,true,true,true,true,true,true,true,true,true,true,false,false] HT_ ?_
           refine zpx 17 (N := some 52) #[true,true,true,true,true,true,true,true,true,true,true,true,true,true,true,true,true,true,false] HT_ ?_
           refine zpu 18 (N := some 53) #[true,true,true,true,true,true,true,true,true,true,true,true,true,true,true,true,true,true,true] HT_ ?_
           refine done_ (done_of HT_.out (by kernel_rfl)) ?_
           try go_wp2
           go_ret
           exact ⟨zt_,zl_ HB⟩
         ·rw [if_neg c22] at H
          exact absurd H (by simp)
        ·rw [if_neg c21] at H
         exact absurd H (by simp)
       ·rw [if_neg c20] at H
        have c20b0 : decide (x30_2 < (l0_6.length : Int)) = false := decide_eq_false c20
        clear c20
        obtain rfl := Option.some.inj H
        go_wp2
        go_ret
        exact ⟨zt_,zl_ HB⟩
end Go.Proofs.Ytdpdbegglkdgnaa.A
end

section
namespace Go.Proofs.Ytdpdbegglkdgnaa.A
open Go.RowKit Go.Proofs.YtdpdbegglkdgnaaW.PrintWords Go.Proofs.YtdpdbegglkdgnaaW.PrintLast Go.Proofs.YtdpdbegglkdgnaaW.PrintMore
attribute [local go_sem] max2_int min2_int max_two min_two max_three min_three max_four min_four
set_option maxHeartbeats 8000000 in
set_option maxRecDepth 100000 in
theorem impl_BatchBytes.calls (k : Nat) (a0_0 : Bool) (a0_1 : Int) (a0_2 : Int) (a0_3 : Int) (a0_4 : Int) (a0_5 : ByteArray) (A0_6 : Option Addr) (c0_6 : Nat) (l0_6 : List (S70)) (r1 : List Int) (r2 : Int) (w : World) (hr0_6 : Kd.C k70 w A0_6 l0_6.length l0_6) (hc0_6 : l0_6.length ≤ c0_6) (h : impl_BatchBytes.f k a0_0 a0_1 a0_2 a0_3 a0_4 a0_5 l0_6 = some (r1,r2)) :
  Calls Try.prog 17 #[.agg #[.bool a0_0,.int .i64 a0_1,.int .i64 a0_2,.int .i64 a0_3,.int .i64 a0_4,.string a0_5,.slice A0_6 l0_6.length c0_6]] w fun e w' => ∃ v0_ : Value,e = .returned (.tuple #[v0_,.int .i64 r2]) ∧ Kd.V (Kd.int .u8) 5 w' w.heap.size (fun k_ => (w.heap.size ≤ k_)) v0_ r1 ∧ Below w.heap.size w w' := by
 have hu41 := Try.underlying41
 have HR0_6 := am_ hr0_6
 have HC0_6 := am_ hc0_6
 clear hr0_6 hc0_6
 have HB := am_ (Below.refl w.heap.size w)
 have H : ((impl_isBatch.f k a0_0 a0_1 a0_2 a0_3 a0_4 a0_5 l0_6).bind fun t704 => (if t704 = true then ((impl_batchText.f k a0_0 a0_1 a0_2 a0_3 a0_4 a0_5 l0_6).bind fun t705 => (if t705.size ≤ 140737488355328 then (some ((bytesOf t705),0)) else (none))) else (some (([] : List Int),1)))) = some (r1,r2) := h
 clear h
 replace H := Option.bind_eq_some_iff.mp H
 obtain ⟨t704,A20,H⟩ := H
 try dsimp only at H
 have A2 := am_ A20
 clear A20
 by_cases c3 : t704 = true
 ·subst c3
  have H1 : ((impl_batchText.f k a0_0 a0_1 a0_2 a0_3 a0_4 a0_5 l0_6).bind fun t705 => (if t705.size ≤ 140737488355328 then (some ((bytesOf t705),0)) else (none))) = some (r1,r2) := by rw [if_pos rfl] at H;exact H
  clear H
  have H := H1
  clear H1
  replace H := Option.bind_eq_some_iff.mp H
  obtain ⟨t705,A40,H⟩ := H
  try dsimp only at H
  have A4 := am_ A40
  clear A40
  by_cases c5 : t705.size ≤ 140737488355328
  ·rw [if_pos c5] at H
   have c5b0 := eq_true c5
   have c5b1 : decide (t705.size ≤ 140737488355328) = true := decide_eq_true c5
   clear c5
   obtain ⟨y706,hy706⟩ : ∃ y_ : List Int,y_ = (bytesOf t705) := ⟨_,rfl⟩
   replace H : (some (y706,0)) = some (r1,r2) := by first | (rw [hy706];with_reducible exact H) | (have H2_ := (Option.bind_some _ _).symm.trans H;rw [hy706];with_reducible exact H2_) | (have H2_ := (Option.bind_some _ _).symm.trans H;with_reducible exact H2_) | with_reducible exact H | (rw [hy706];exact H) | exact H
   have Ny706 := am_ hy706
   clear hy706
   simp only [Option.some.injEq,Prod.mk.injEq] at H
   obtain ⟨rfl,rfl⟩ := H
   go_enter Try.func17,Try.ntmps17
   go_wp2_with (first | ((with_reducible refine gate_dst (N := 1) rfl ?_);refine zbx (N := 1) (cs := #[.bool a0_0,.int .i64 a0_1,.int .i64 a0_2,.int .i64 a0_3,.int .i64 a0_4,.string a0_5,.slice A0_6 l0_6.length c0_6]) (t := 41) ?_;intro gb703 hg w6 hbox hb;have BK703 := am_ (hbox);have GW703 := zw_ HB hg;have GE703 := zw_ HB hg;replace HB := zs_ HB hb;clear hb hbox hg;obtain ⟨hcz7_0,hcz7_1,hcz7_2,hcz7_3,hcz7_4,hcz7_5,hcz7_6,hfz7_0,hfz7_1,hfz7_2,hfz7_3,hfz7_4,hfz7_5,hfz7_6⟩ := zc7 BK703) | ((with_reducible refine gate_callee (f := 39) rfl ?_);refine zgl (some 5) Try.func39 #[.agg #[.bool a0_0,.int .i64 a0_1,.int .i64 a0_2,.int .i64 a0_3,.int .i64 a0_4,.string a0_5,.slice A0_6 l0_6.length c0_6]] ?_;(with_reducible refine (impl_isBatch.calls k a0_0 a0_1 a0_2 a0_3 a0_4 a0_5 _ _ l0_6 true _ ?side1 ?side2 A2.out).mono ?_);(case side1 => repeat (first | exact (Kd.C_below HR0_6.out HB.out) | (with_reducible refine Kd.C_alloc ?_ _) | (with_reducible refine Kd.C_drewN ?_ _) | (with_reducible refine Kd.C_drew ?_)));(case side2 => exact HC0_6.out);rintro e w8 ⟨rfl,hb⟩;refine ⟨_,rfl,?_⟩;replace BK703 := zb BK703 hb;replace HB := zs_ HB hb;(try clear hb);(try clear hb2);(try clear hk);(try clear hi);obtain ⟨hcz9_0,hcz9_1,hcz9_2,hcz9_3,hcz9_4,hcz9_5,hcz9_6,hfz9_0,hfz9_1,hfz9_2,hfz9_3,hfz9_4,hfz9_5,hfz9_6⟩ := zc7 BK703) | ((with_reducible refine gate_callee (f := 40) rfl ?_);refine zgl (some 8) Try.func40 #[.agg #[.bool a0_0,.int .i64 a0_1,.int .i64 a0_2,.int .i64 a0_3,.int .i64 a0_4,.string a0_5,.slice A0_6 l0_6.length c0_6]] ?_;(with_reducible refine (impl_batchText.calls k a0_0 a0_1 a0_2 a0_3 a0_4 a0_5 _ _ l0_6 t705 _ ?side1 ?side2 A4.out).mono ?_);(case side1 => repeat (first | exact (Kd.C_below HR0_6.out HB.out) | (with_reducible refine Kd.C_alloc ?_ _) | (with_reducible refine Kd.C_drewN ?_ _) | (with_reducible refine Kd.C_drew ?_)));(case side2 => exact HC0_6.out);rintro e w10 ⟨rfl,hb⟩;refine ⟨_,rfl,?_⟩;replace BK703 := zb BK703 hb;replace HB := zs_ HB hb;(try clear hb);(try clear hb2);(try clear hk);(try clear hi)) | ((with_reducible refine gate_dst (N := 9) rfl ?_);refine Kd.V_conv (Kd.int .u8) rfl _ 5 rfl (N := 9) rfl 9 22 _ rfl t705 rfl Try.underlying9 Try.underlying22 Try.underlying5 (ok := fun k_ => w10.heap.size ≤ k_) (okp := fun _ => False) (fun _ hk => hk.elim) (Nat.le_refl _) (by have := o1_ (by first | (with_reducible assumption) | assumption : decide (t705.size ≤ 140737488355328) = true);omega) (Below.refl _ _) (Nat.le_refl _) ?_;intro v707 w11 ho12 hb hg_ hnew_;clear hg_ hnew_;(first | rw [← Ny706.out] at ho12 | (simp only [Int.reduceToNat] at ho12;rw [← Ny706.out] at ho12));have HO708 := am_ (Kd.V_lower (Kd.V_mono (ok' := fun k_ => (w.heap.size ≤ k_) ∧ k_ ≠ gb703) ho12 (fun k_ hk_ => ⟨(Nat.le_trans (below_size (zl_ HB)) hk_),(Kd.freshB (g := gb703) (o := .cells #[.bool a0_0,.int .i64 a0_1,.int .i64 a0_2,.int .i64 a0_3,.int .i64 a0_4,.string a0_5,.slice A0_6 l0_6.length c0_6] 41 (0,0)) (zk BK703) k_ hk_)⟩)) (below_size (zl_ HB)));replace HB := zs_ HB hb;clear hb ho12))
   go_ret2
   exact ⟨_,zt_,by (with_reducible repeat (first | apply Kd.V_alloc | apply Kd.V_drewN | apply Kd.V_drew));exact Kd.V_mono HO708.out (fun _ hk => hk.1),zl_ HB⟩
  ·rw [if_neg c5] at H
   exact absurd H (by simp)
 ·replace c3 := Bool.eq_false_iff.mpr c3
  subst c3
  have H1 : (some (([] : List Int),1)) = some (r1,r2) := by rw [if_neg (show ¬ (false = true) by decide)] at H;exact H
  clear H
  have H := H1
  clear H1
  simp only [Option.some.injEq,Prod.mk.injEq] at H
  obtain ⟨rfl,rfl⟩ := H
  go_enter Try.func17,Try.ntmps17
  go_wp2_with (first | ((with_reducible refine gate_dst (N := 1) rfl ?_);refine zbx (N := 1) (cs := #[.bool a0_0,.int .i64 a0_1,.int .i64 a0_2,.int .i64 a0_3,.int .i64 a0_4,.string a0_5,.slice A0_6 l0_6.length c0_6]) (t := 41) ?_;intro gb703 hg w13 hbox hb;have BK703 := am_ (hbox);have GW703 := zw_ HB hg;have GE703 := zw_ HB hg;replace HB := zs_ HB hb;clear hb hbox hg;obtain ⟨hcz14_0,hcz14_1,hcz14_2,hcz14_3,hcz14_4,hcz14_5,hcz14_6,hfz14_0,hfz14_1,hfz14_2,hfz14_3,hfz14_4,hfz14_5,hfz14_6⟩ := zc7 BK703) | ((with_reducible refine gate_callee (f := 39) rfl ?_);refine zgl (some 5) Try.func39 #[.agg #[.bool a0_0,.int .i64 a0_1,.int .i64 a0_2,.int .i64 a0_3,.int .i64 a0_4,.string a0_5,.slice A0_6 l0_6.length c0_6]] ?_;(with_reducible refine (impl_isBatch.calls k a0_0 a0_1 a0_2 a0_3 a0_4 a0_5 _ _ l0_6 false _ ?side1 ?side2 A2.out).mono ?_);(case side1 => repeat (first | exact (Kd.C_below HR0_6.out HB.out) | (with_reducible refine Kd.C_alloc ?_ _) | (with_reducible refine Kd.C_drewN ?_ _) | (with_reducible refine Kd.C_drew ?_)));(case side2 => exact HC0_6.out);rintro e w15 ⟨rfl,hb⟩;refine ⟨_,rfl,?_⟩;replace HB := zs_ HB hb;(try clear hb);(try clear hb2);(try clear hk);(try clear hi)))
  go_ret2
  exact ⟨_,zt_,(by first | exact Kd.V_nil _ _ _ _ _ | exact Kd.R_V (base := w.heap.size) (Kd.R_nil _ _ _ _ _)),zl_ HB⟩
set_option maxHeartbeats 8000000 in
set_option maxRecDepth 100000 in
theorem impl_reader_done.calls (g : Nat) (s0_0 : ByteArray) (s0_1 : Bool) (r1 : Bool) (r2 : ByteArray) (r3 : Bool) (w0 w : World) (hI : IsS61 w0 w g s0_0 s0_1) (hB : Below w0.heap.size w0 w) (h : impl_reader_done.f s0_0 s0_1 = some (r1,r2,r3)) :
  Calls Try.prog 36 #[.pointer (some ⟨g,0,none⟩)] w fun e w' => e = .returned (.bool r1) ∧ IsS61 w0 w' g r2 r3 ∧ Below w0.heap.size w0 w' ∧ KeepBut w w' g none := by
 have HI0 := am_ hI
 have HK := am_ (KeepBut.refl w g none)
 have HL := am_ hB.size
 clear hI
 have HW0 := am_ hB.size
 have HB := am_ hB
 clear hB
 have H : (if s0_1 = true then (some (false,s0_0,s0_1)) else (some ((s0_0.toList == ([] : List UInt8)),s0_0,s0_1))) = some (r1,r2,r3) := h
 clear h
 by_cases c2 : s0_1 = true
 ·subst c2
  have H1 : (some (false,s0_0,true)) = some (r1,r2,r3) := by rw [if_pos rfl] at H;exact H
  clear H
  have H := H1
  clear H1
  simp only [Option.some.injEq,Prod.mk.injEq] at H
  obtain ⟨rfl,rfl,rfl⟩ := H
  obtain ⟨HGz3,hgz3⟩ := HI0.out
  have hcz3_0 := cellS61_0 HGz3
  have hcz3_1 := cellS61_1 HGz3
  have hfz3_0 := blk_frozen HGz3 0
  have hfz3_1 := blk_frozen HGz3 1
  clear HGz3 hgz3
  go_enter Try.func36,Try.ntmps36
  go_wp2
  go_ret
  exact ⟨zt_,(zi61 HI0),zl_ HB,zh_ HK⟩
 ·replace c2 := Bool.eq_false_iff.mpr c2
  subst c2
  have H1 : (some ((s0_0.toList == ([] : List UInt8)),s0_0,false)) = some (r1,r2,r3) := by rw [if_neg (show ¬ (false = true) by decide)] at H;exact H
  clear H
  have H := H1
  clear H1
  simp only [Option.some.injEq,Prod.mk.injEq] at H
  obtain ⟨rfl,rfl,rfl⟩ := H
  obtain ⟨HGz4,hgz4⟩ := HI0.out
  have hcz4_0 := cellS61_0 HGz4
  have hcz4_1 := cellS61_1 HGz4
  have hfz4_0 := blk_frozen HGz4 0
  have hfz4_1 := blk_frozen HGz4 1
  clear HGz4 hgz4
  go_enter Try.func36,Try.ntmps36
  go_wp2
  go_ret
  exact ⟨zt_,(zi61 HI0),zl_ HB,zh_ HK⟩
set_option maxHeartbeats 8000000 in
set_option maxRecDepth 100000 in
theorem impl_reader_take.calls (g : Nat) (s0_0 : ByteArray) (s0_1 : Bool) (a1 : Int) (r1 : ByteArray) (r2 : ByteArray) (r3 : Bool) (w0 w : World) (hI : IsS61 w0 w g s0_0 s0_1) (hB : Below w0.heap.size w0 w) (h : impl_reader_take.f s0_0 s0_1 a1 = some (r1,r2,r3)) :
  Calls Try.prog 53 #[.pointer (some ⟨g,0,none⟩),.int .i64 a1] w fun e w' => e = .returned (.string r1) ∧ IsS61 w0 w' g r2 r3 ∧ Below w0.heap.size w0 w' ∧ KeepBut w w' g none := by
 have HI0 := am_ hI
 have HK := am_ (KeepBut.refl w g none)
 have HL := am_ hB.size
 clear hI
 have HW0 := am_ hB.size
 have HB := am_ hB
 clear hB
 have H : (if s0_1 = true then (some ((⟨#[]⟩ : ByteArray),s0_0,true)) else (if a1 > (s0_0.size : Int) then (some ((⟨#[]⟩ : ByteArray),s0_0,true)) else (if 0 ≤ a1 then (if a1 ≤ (s0_0.size : Int) then (some (s0_0.extract 0 (a1 : Int).toNat,s0_0.extract (a1 : Int).toNat s0_0.size,s0_1)) else (none)) else (none)))) = some (r1,r2,r3) := h
 clear h
 by_cases c3 : s0_1 = true
 ·subst c3
  have H1 : (some ((⟨#[]⟩ : ByteArray),s0_0,true)) = some (r1,r2,r3) := by rw [if_pos rfl] at H;exact H
  clear H
  have H := H1
  clear H1
  simp only [Option.some.injEq,Prod.mk.injEq] at H
  obtain ⟨rfl,rfl,rfl⟩ := H
  obtain ⟨HGz4,hgz4⟩ := HI0.out
  have hcz4_0 := cellS61_0 HGz4
  have hcz4_1 := cellS61_1 HGz4
  have hfz4_0 := blk_frozen HGz4 0
  have hfz4_1 := blk_frozen HGz4 1
  clear HGz4 hgz4
  go_enter Try.func53,Try.ntmps53
  go_wp2
  go_ret
  exact ⟨zt_,(zi61 HI0),zl_ HB,zh_ HK⟩
 ·replace c3 := Bool.eq_false_iff.mpr c3
  subst c3
  have H1 : (if a1 > (s0_0.size : Int) then (some ((⟨#[]⟩ : ByteArray),s0_0,true)) else (if 0 ≤ a1 then (if a1 ≤ (s0_0.size : Int) then (some (s0_0.extract 0 (a1 : Int).toNat,s0_0.extract (a1 : Int).toNat s0_0.size,false)) else (none)) else (none))) = some (r1,r2,r3) := by rw [if_neg (show ¬ (false = true) by decide)] at H;exact H
  clear H
  have H := H1
  clear H1
  by_cases c5 : a1 > (s0_0.size : Int)
  ·rw [if_pos c5] at H
   have c5b0 : decide ((s0_0.size : Int) < a1) = true := decide_eq_true c5
   clear c5
   simp only [Option.some.injEq,Prod.mk.injEq] at H
   obtain ⟨rfl,rfl,rfl⟩ := H
   obtain ⟨HGz6,hgz6⟩ := HI0.out
   have hcz6_0 := cellS61_0 HGz6
   have hcz6_1 := cellS61_1 HGz6
   have hfz6_0 := blk_frozen HGz6 0
   have hfz6_1 := blk_frozen HGz6 1
   clear HGz6 hgz6
   go_enter Try.func53,Try.ntmps53
   go_wp2
   go_ret
   exact ⟨zt_,(zi61 HI0),zl_ HB,zh_ HK⟩
  ·rw [if_neg c5] at H
   have c5b0 : decide ((s0_0.size : Int) < a1) = false := decide_eq_false c5
   clear c5
   by_cases c7 : 0 ≤ a1
   ·rw [if_pos c7] at H
    have c7b0 := eq_true c7
    have c7b1 : decide (0 ≤ a1) = true := decide_eq_true c7
    clear c7
    by_cases c8 : a1 ≤ (s0_0.size : Int)
    ·rw [if_pos c8] at H
     have c8b0 := eq_true c8
     have c8b1 : decide (a1 ≤ (s0_0.size : Int)) = true := decide_eq_true c8
     clear c8
     have c9b0 := eq_true (o1_ (by first | (with_reducible assumption) | assumption) : 0 ≤ a1)
     have c10b0 := eq_true (o1_ (by first | (with_reducible assumption) | assumption) : a1 ≤ (s0_0.size : Int))
     simp only [Option.some.injEq,Prod.mk.injEq] at H
     obtain ⟨rfl,rfl,rfl⟩ := H
     obtain ⟨HGz11,hgz11⟩ := HI0.out
     have hcz11_0 := cellS61_0 HGz11
     have hcz11_1 := cellS61_1 HGz11
     have hfz11_0 := blk_frozen HGz11 0
     have hfz11_1 := blk_frozen HGz11 1
     clear HGz11 hgz11
     go_enter Try.func53,Try.ntmps53
     go_wp2
     go_ret
     exact ⟨zt_,(zi61 HI0),zl_ HB,zh_ HK⟩
    ·rw [if_neg c8] at H
     exact absurd H (by simp)
   ·rw [if_neg c7] at H
    exact absurd H (by simp)
set_option maxHeartbeats 8000000 in
set_option maxRecDepth 100000 in
theorem impl_reader_number.calls (k : Nat) (g : Nat) (s0_0 : ByteArray) (s0_1 : Bool) (a1 : Int) (r1 : Int) (r2 : ByteArray) (r3 : Bool) (w0 w : World) (hI : IsS61 w0 w g s0_0 s0_1) (hB : Below w0.heap.size w0 w) (h : impl_reader_number.f k s0_0 s0_1 a1 = some (r1,r2,r3)) :
  Calls Try.prog 51 #[.pointer (some ⟨g,0,none⟩),.int .i64 a1] w fun e w' => e = .returned (.int .i64 r1) ∧ IsS61 w0 w' g r2 r3 ∧ Below w0.heap.size w0 w' ∧ KeepBut w w' g none := by
 have HI0 := am_ hI
 have HK := am_ (KeepBut.refl w g none)
 have HL := am_ hB.size
 clear hI
 have HW0 := am_ hB.size
 have HB := am_ hB
 clear hB
 have H : ((impl_reader_take.f s0_0 s0_1 a1).bind fun bt475 => (if bt475.1.size ≤ 140737488355328 then ((some (bytesOf bt475.1 : List Int)).bind fun y478 => (impl_reader_number.l0 k 0 y478 (y478.length : Int) 0 bt475.2.1 bt475.2.2)) else (none))) = some (r1,r2,r3) := h
 clear h
 replace H := Option.bind_eq_some_iff.mp H
 obtain ⟨⟨t475,t476,t477⟩,A30,H⟩ := H
 try dsimp only at H
 have A3 := am_ A30
 clear A30
 by_cases c4 : t475.size ≤ 140737488355328
 ·rw [if_pos c4] at H
  have c4b0 := eq_true c4
  have c4b1 : decide (t475.size ≤ 140737488355328) = true := decide_eq_true c4
  clear c4
  obtain ⟨y478,hy478⟩ : ∃ y_ : List Int,y_ = (bytesOf t475) := ⟨_,rfl⟩
  replace H : (impl_reader_number.l0 k 0 y478 (y478.length : Int) 0 t476 t477) = some (r1,r2,r3) := by first | (rw [hy478];with_reducible exact H) | (have H2_ := (Option.bind_some _ _).symm.trans H;rw [hy478];with_reducible exact H2_) | (have H2_ := (Option.bind_some _ _).symm.trans H;with_reducible exact H2_) | with_reducible exact H | (rw [hy478];exact H) | exact H
  have Ny478 := am_ hy478
  clear hy478
  have H' := am_ H
  clear H
  go_enter Try.func51,Try.ntmps51
  go_wp2_with (first | ((with_reducible refine gate_callee (f := 53) rfl ?_);refine zgl (some 10) Try.func53 #[.pointer (some ⟨g,0,none⟩),.int .i64 a1] ?_;(with_reducible refine (impl_reader_take.calls g s0_0 s0_1 a1 t475 t476 t477 w0 _ ?side1 ?side2 A3.out).mono ?_);(case side1 => exact zi61 HI0);(case side2 => exact zl_ HB);rintro e w5 ⟨rfl,hi,hb,hk⟩;refine ⟨_,rfl,?_⟩;replace HK := am_ (KeepBut.trans (zh_ HK) hk (.inl rfl));replace HB := am_ (hb);replace HI0 := am_ (hi);(try clear hb);(try clear hb2);(try clear hk);(try clear hi)) | ((with_reducible refine gate_dst (N := 11) rfl ?_);refine Kd.V_conv (Kd.int .u8) rfl _ 5 rfl (N := 11) rfl 9 22 _ rfl t475 rfl Try.underlying9 Try.underlying22 Try.underlying5 (ok := fun k_ => w5.heap.size ≤ k_) (okp := fun _ => False) (fun _ hk => hk.elim) (Nat.le_refl _) (by have := o1_ (by first | (with_reducible assumption) | assumption : decide (t475.size ≤ 140737488355328) = true);omega) (Below.refl _ _) (Nat.le_refl _) ?_;intro v479 w6 ho7 hb hg_ hnew_;clear hg_ hnew_;(first | rw [← Ny478.out] at ho7 | (simp only [Int.reduceToNat] at ho7;rw [← Ny478.out] at ho7));have HO480 := am_ (Kd.V_lower (Kd.V_mono (ok' := fun k_ => k_ ≠ g) ho7 (fun k_ hk_ => (IsS61.fresh (zi61 HI0) k_ hk_))) (keep_size (w := w) (g := g) (row := none) (zh_ HK)));replace HI0 := am_ (IsS61.below (zi61 HI0) hb);replace HK := am_ (KeepBut.trans (zh_ HK) (KeepBut.of_below hb g none) (.inl rfl));replace HB := zs_ HB hb;clear hb ho7;obtain ⟨Ao8,co8,eo8⟩ := Kd.V_slice HO480.out;subst eo8))
  go_loopg [5,13] k (fun kq v5 v13 w' => ∃ (x5_1 : Int) (x13_1 : Int),v5 = .int .i64 x5_1 ∧ v13 = .int .i64 x13_1 ∧ Aside0 (impl_reader_number.l0 kq x5_1 y478 (y478.length : Int) x13_1 t476 t477 = some (r1,r2,r3)) ∧ Aside0 (kq ≤ k) ∧ Aside0 (Kd.V (Kd.int .u8) 5 w' w.heap.size (fun k_ => k_ ≠ g) (.slice Ao8 y478.length co8) y478) ∧ Aside0 (IsS61 w0 w' g t476 t477) ∧ Aside0 (KeepBut w w' g none) ∧ Aside0 (Below w0.heap.size w0 w'))
  case atStart => exact ⟨(0),(0),(by first | rfl | (simp;done) | (simp [*];done)),(by first | rfl | (simp;done) | (simp [*];done)),H',⟨Nat.le_refl _⟩,⟨by (with_reducible repeat (first | apply Kd.V_alloc | apply Kd.V_drewN | apply Kd.V_drew));exact HO480.out⟩,⟨(zi61 HI0)⟩,⟨zh_ HK⟩,⟨zl_ HB⟩⟩
  case round =>
   clear H'
   try clear p2
   try clear c4
   try clear c4b0
   try clear c4b1
   try clear c5
   obtain ⟨x5_1,x13_1,rfl,rfl,HA,HK1,HO_11,HI0,HK,HB⟩ := hrel
   cases gk with
   | zero => exact absurd HA.out (by simp [impl_reader_number.l0])
   | succ k1 =>
    have H := HA.out
    clear HA
    simp only [impl_reader_number.l0] at H
    by_cases c9 : x13_1 < (y478.length : Int)
    ·rw [if_pos c9] at H
     have c9b0 : decide (x13_1 < (y478.length : Int)) = true := decide_eq_true c9
     clear c9
     by_cases c10 : 0 ≤ x13_1
     ·rw [if_pos c10] at H
      have c10b0 : decide (0 ≤ x13_1) = true := decide_eq_true c10
      clear c10
      by_cases c11 : x13_1 < (y478.length : Int)
      ·rw [if_pos c11] at H
       have c11b0 : decide (x13_1 < (y478.length : Int)) = true := decide_eq_true c11
       clear c11
       have H' := am_ H
       clear H
       have p481 : 0 ≤ (x13_1 : Int) := o1_ (by first | (with_reducible assumption) | assumption)
       have q481 : x13_1 < (y478.length : Int) := o1_ (by first | (with_reducible assumption) | assumption)
       obtain ⟨ad481,e481,hx481_0⟩ := Kd.at_int (Kd.V_reads' HO_11.out).2.2 x13_1 p481 q481
       cases e481
       replace p481 := eq_true p481
       replace q481 := eq_true q481
       go_wp2
       go_roundg k1
       case measure => have := HK1.out;omega
       case rel => exact ⟨(Go.bits .or .i64 (wrap64 (x5_1 * 256)) (wrap64 (rd y478 x13_1))),(wrap64 (x13_1 + 1)),(by first | rfl | (simp;done) | (simp [*];done)),(by first | rfl | (simp;done) | (simp [*];done)),H',⟨by have := HK1.out;omega⟩,⟨by (with_reducible repeat (first | apply Kd.V_alloc | apply Kd.V_drewN | apply Kd.V_drew));exact HO_11.out⟩,⟨(zi61 HI0)⟩,⟨zh_ HK⟩,⟨zl_ HB⟩⟩
      ·rw [if_neg c11] at H
       exact absurd H (by simp)
     ·rw [if_neg c10] at H
      exact absurd H (by simp)
    ·rw [if_neg c9] at H
     have c9b0 : decide (x13_1 < (y478.length : Int)) = false := decide_eq_false c9
     clear c9
     simp only [Option.some.injEq,Prod.mk.injEq] at H
     obtain ⟨rfl,rfl,rfl⟩ := H
     go_wp2
     go_ret
     exact ⟨zt_,(zi61 HI0),zl_ HB,zh_ HK⟩
 ·rw [if_neg c4] at H
  exact absurd H (by simp)
set_option maxHeartbeats 8000000 in
set_option maxRecDepth 100000 in
theorem impl_reader_sized.calls (k : Nat) (g : Nat) (s0_0 : ByteArray) (s0_1 : Bool) (a1 : Int) (r1 : ByteArray) (r2 : ByteArray) (r3 : Bool) (w0 w : World) (hI : IsS61 w0 w g s0_0 s0_1) (hB : Below w0.heap.size w0 w) (h : impl_reader_sized.f k s0_0 s0_1 a1 = some (r1,r2,r3)) :
  Calls Try.prog 52 #[.pointer (some ⟨g,0,none⟩),.int .i64 a1] w fun e w' => e = .returned (.string r1) ∧ IsS61 w0 w' g r2 r3 ∧ Below w0.heap.size w0 w' ∧ KeepBut w w' g none := by
 have HI0 := am_ hI
 have HK := am_ (KeepBut.refl w g none)
 have HL := am_ hB.size
 clear hI
 have HW0 := am_ hB.size
 have HB := am_ hB
 clear hB
 have H : ((impl_reader_number.f k s0_0 s0_1 a1).bind fun bt482 => ((impl_reader_take.f bt482.2.1 bt482.2.2 bt482.1).bind fun bt485 => (some (bt485.1,bt485.2.1,bt485.2.2)))) = some (r1,r2,r3) := h
 clear h
 replace H := Option.bind_eq_some_iff.mp H
 obtain ⟨⟨t482,t483,t484⟩,A30,H⟩ := H
 try dsimp only at H
 have A3 := am_ A30
 clear A30
 replace H := Option.bind_eq_some_iff.mp H
 obtain ⟨⟨t485,t486,t487⟩,A40,H⟩ := H
 try dsimp only at H
 have A4 := am_ A40
 clear A40
 simp only [Option.some.injEq,Prod.mk.injEq] at H
 obtain ⟨rfl,rfl,rfl⟩ := H
 go_enter Try.func52,Try.ntmps52
 go_wp2_with (first | ((with_reducible refine gate_callee (f := 51) rfl ?_);refine zgl (some 8) Try.func51 #[.pointer (some ⟨g,0,none⟩),.int .i64 a1] ?_;(with_reducible refine (impl_reader_number.calls k g s0_0 s0_1 a1 t482 t483 t484 w0 _ ?side1 ?side2 A3.out).mono ?_);(case side1 => exact zi61 HI0);(case side2 => exact zl_ HB);rintro e w5 ⟨rfl,hi,hb,hk⟩;refine ⟨_,rfl,?_⟩;replace HK := am_ (KeepBut.trans (zh_ HK) hk (.inl rfl));replace HB := am_ (hb);replace HI0 := am_ (hi);(try clear hb);(try clear hb2);(try clear hk);(try clear hi)) | ((with_reducible refine gate_callee (f := 53) rfl ?_);refine zgl (some 9) Try.func53 #[.pointer (some ⟨g,0,none⟩),.int .i64 t482] ?_;(with_reducible refine (impl_reader_take.calls g t483 t484 t482 t485 t486 t487 w0 _ ?side1 ?side2 A4.out).mono ?_);(case side1 => exact zi61 HI0);(case side2 => exact zl_ HB);rintro e w6 ⟨rfl,hi,hb,hk⟩;refine ⟨_,rfl,?_⟩;replace HK := am_ (KeepBut.trans (zh_ HK) hk (.inl rfl));replace HB := am_ (hb);replace HI0 := am_ (hi);(try clear hb);(try clear hb2);(try clear hk);(try clear hi)))
 go_ret
 exact ⟨zt_,(zi61 HI0),zl_ HB,zh_ HK⟩
set_option maxHeartbeats 8000000 in
set_option maxRecDepth 100000 in
theorem impl_reader_request.calls (k : Nat) (g : Nat) (s0_0 : ByteArray) (s0_1 : Bool) (r1 : Int) (r2 : Int) (r3 : Int) (r4 : Int) (r5 : ByteArray) (r6 : ByteArray) (r7 : Bool) (w0 w : World) (hI : IsS61 w0 w g s0_0 s0_1) (hB : Below w0.heap.size w0 w) (h : impl_reader_request.f k s0_0 s0_1 = some (r1,r2,r3,r4,r5,r6,r7)) :
  Calls Try.prog 35 #[.pointer (some ⟨g,0,none⟩)] w fun e w' => e = .returned (.agg #[.int .i64 r1,.int .i64 r2,.int .i64 r3,.int .i64 r4,.string r5]) ∧ IsS61 w0 w' g r6 r7 ∧ Below w0.heap.size w0 w' ∧ KeepBut w w' g none := by
 have hu33 := Try.underlying33
 have HI0 := am_ hI
 have HK := am_ (KeepBut.refl w g none)
 have HL := am_ hB.size
 clear hI
 have HW0 := am_ hB.size
 have HB := am_ hB
 clear hB
 have H : ((impl_reader_number.f k s0_0 s0_1 1).bind fun bt642 => ((impl_reader_number.f k bt642.2.1 bt642.2.2 2).bind fun bt645 => ((impl_reader_number.f k bt645.2.1 bt645.2.2 1).bind fun bt648 => ((impl_reader_number.f k bt648.2.1 bt648.2.2 2).bind fun bt651 => ((impl_reader_sized.f k bt651.2.1 bt651.2.2 1).bind fun bt654 => (some (bt642.1,bt645.1,bt648.1,bt651.1,bt654.1,bt654.2.1,bt654.2.2))))))) = some (r1,r2,r3,r4,r5,r6,r7) := h
 clear h
 replace H := Option.bind_eq_some_iff.mp H
 obtain ⟨⟨t642,t643,t644⟩,A20,H⟩ := H
 try dsimp only at H
 have A2 := am_ A20
 clear A20
 replace H := Option.bind_eq_some_iff.mp H
 obtain ⟨⟨t645,t646,t647⟩,A30,H⟩ := H
 try dsimp only at H
 have A3 := am_ A30
 clear A30
 replace H := Option.bind_eq_some_iff.mp H
 obtain ⟨⟨t648,t649,t650⟩,A40,H⟩ := H
 try dsimp only at H
 have A4 := am_ A40
 clear A40
 replace H := Option.bind_eq_some_iff.mp H
 obtain ⟨⟨t651,t652,t653⟩,A50,H⟩ := H
 try dsimp only at H
 have A5 := am_ A50
 clear A50
 replace H := Option.bind_eq_some_iff.mp H
 obtain ⟨⟨t654,t655,t656⟩,A60,H⟩ := H
 try dsimp only at H
 have A6 := am_ A60
 clear A60
 simp only [Option.some.injEq,Prod.mk.injEq] at H
 obtain ⟨rfl,rfl,rfl,rfl,rfl,rfl,rfl⟩ := H
 go_enter Try.func35,Try.ntmps35
 go_wp2_with (first | ((with_reducible refine gate_dst (N := 2) rfl ?_);refine zbx (N := 2) (cs := #[.int .i64 0,.int .i64 0,.int .i64 0,.int .i64 0,.string ⟨#[]⟩]) (t := 33) ?_;intro gb641 hg w7 hbox hb;replace HB := zs_ HB hb;have BK641 := am_ (hbox);have GW641 := am_ ((by rw [hg];exact (keep_size (w := w) (g := g) (row := none) (zh_ HK)) : w.heap.size ≤ gb641));have GE641 := am_ ((Nat.le_trans HW0.out (by rw [hg];exact (keep_size (w := w) (g := g) (row := none) (zh_ HK)) : w.heap.size ≤ gb641) : w0.heap.size ≤ gb641));replace HK := am_ (KeepBut.trans (zh_ HK) (KeepBut.of_below hb g none) (.inl rfl));have NB0_641 := am_ ((by rw [hg];exact Nat.ne_of_lt (IsS61.lt (show IsS61 w0 _ g s0_0 s0_1 from (zi61 HI0))) : g ≠ gb641));have NB641_0 := am_ ((by rw [hg];exact Nat.ne_of_gt (IsS61.lt (show IsS61 w0 _ g s0_0 s0_1 from (zi61 HI0))) : gb641 ≠ g));replace HI0 := am_ (IsS61.below (zi61 HI0) hb);clear hb hbox hg) | ((with_reducible refine gate_callee (f := 51) rfl ?_);refine zgl (some 4) Try.func51 #[.pointer (some ⟨g,0,none⟩),.int .i64 1] ?_;(with_reducible refine (impl_reader_number.calls k g s0_0 s0_1 1 t642 t643 t644 w0 _ ?side1 ?side2 A2.out).mono ?_);(case side1 => exact zi61 HI0);(case side2 => exact zl_ HB);rintro e w8 ⟨rfl,hi,hb,hk⟩;refine ⟨_,rfl,?_⟩;replace BK641 := zkb hk BK641 NB641_0;replace HK := am_ (KeepBut.trans (zh_ HK) hk (.inl rfl));replace HB := am_ (hb);replace HI0 := am_ (hi);(try clear hb);(try clear hb2);(try clear hk);(try clear hi)) | ((with_reducible refine gate_callee (f := 51) rfl ?_);refine zgl (some 6) Try.func51 #[.pointer (some ⟨g,0,none⟩),.int .i64 2] ?_;(with_reducible refine (impl_reader_number.calls k g t643 t644 2 t645 t646 t647 w0 _ ?side1 ?side2 A3.out).mono ?_);(case side1 => exact zi61 HI0);(case side2 => exact zl_ HB);rintro e w9 ⟨rfl,hi,hb,hk⟩;refine ⟨_,rfl,?_⟩;replace BK641 := zkb hk BK641 NB641_0;replace HK := am_ (KeepBut.trans (zh_ HK) hk (.inl rfl));replace HB := am_ (hb);replace HI0 := am_ (hi);(try clear hb);(try clear hb2);(try clear hk);(try clear hi)) | ((with_reducible refine gate_callee (f := 51) rfl ?_);refine zgl (some 8) Try.func51 #[.pointer (some ⟨g,0,none⟩),.int .i64 1] ?_;(with_reducible refine (impl_reader_number.calls k g t646 t647 1 t648 t649 t650 w0 _ ?side1 ?side2 A4.out).mono ?_);(case side1 => exact zi61 HI0);(case side2 => exact zl_ HB);rintro e w10 ⟨rfl,hi,hb,hk⟩;refine ⟨_,rfl,?_⟩;replace BK641 := zkb hk BK641 NB641_0;replace HK := am_ (KeepBut.trans (zh_ HK) hk (.inl rfl));replace HB := am_ (hb);replace HI0 := am_ (hi);(try clear hb);(try clear hb2);(try clear hk);(try clear hi)) | ((with_reducible refine gate_callee (f := 51) rfl ?_);refine zgl (some 10) Try.func51 #[.pointer (some ⟨g,0,none⟩),.int .i64 2] ?_;(with_reducible refine (impl_reader_number.calls k g t649 t650 2 t651 t652 t653 w0 _ ?side1 ?side2 A5.out).mono ?_);(case side1 => exact zi61 HI0);(case side2 => exact zl_ HB);rintro e w11 ⟨rfl,hi,hb,hk⟩;refine ⟨_,rfl,?_⟩;replace BK641 := zkb hk BK641 NB641_0;replace HK := am_ (KeepBut.trans (zh_ HK) hk (.inl rfl));replace HB := am_ (hb);replace HI0 := am_ (hi);(try clear hb);(try clear hb2);(try clear hk);(try clear hi)) | ((with_reducible refine gate_callee (f := 52) rfl ?_);refine zgl (some 12) Try.func52 #[.pointer (some ⟨g,0,none⟩),.int .i64 1] ?_;(with_reducible refine (impl_reader_sized.calls k g t652 t653 1 t654 t655 t656 w0 _ ?side1 ?side2 A6.out).mono ?_);(case side1 => exact zi61 HI0);(case side2 => exact zl_ HB);rintro e w12 ⟨rfl,hi,hb,hk⟩;refine ⟨_,rfl,?_⟩;replace BK641 := zkb hk BK641 NB641_0;replace HK := am_ (KeepBut.trans (zh_ HK) hk (.inl rfl));replace HB := am_ (hb);replace HI0 := am_ (hi);(try clear hb);(try clear hb2);(try clear hk);(try clear hi);have hnb13 := NB641_0.out;have hnc13 := NB0_641.out;obtain ⟨hcz14_0,hcz14_1,hcz14_2,hcz14_3,hcz14_4,hfz14_0,hfz14_1,hfz14_2,hfz14_3,hfz14_4⟩ := zc5 BK641))
 refine bodyPost_ret (results_cell_row rfl _ _ gb641 33 #[.int .i64 t642,.int .i64 t645,.int .i64 t648,.int .i64 t651,.string t654] (0,0) _ rfl (zq BK641) Try.underlying33 rfl (by kernel_rfl)) rfl ?_
 exact ⟨zt_,(zi61 HI0),zl_ HB,zh_ HK⟩
def impl_readBatch.T10 : Bool × List (List Nat × List Nat) := (true,[([],[]),([0],[0]),([],[]),([2],[2]),([],[]),([4,3],[4]),([],[]),([6,5],[6]),([3,5,7],[3,5,7]),([8],[8]),([1,9,7],[1,9]),([0,1,2,3,4,5,6,7,8,9,10],[]),([11,10,10,0,1,2,3,4,5,6,7,8,9,10],[10,11])])
def impl_readBatch.B10 : List Nat := [0,1,0,4,0,28,0,124,252,508,1023,2047,4095]
theorem impl_readBatch.tab10 : rtab .any (opsOf Try.f43 10) = impl_readBatch.T10 := by kernel_rfl
theorem impl_readBatch.bits10 : waitsOk impl_readBatch.T10.2 impl_readBatch.B10 = true := by kernel_rfl
set_option maxHeartbeats 8000000 in
set_option maxRecDepth 100000 in
theorem impl_readBatch.calls (k : Nat) (a0 : ByteArray) (r1 : Bool) (r2 : Int) (r3 : Int) (r4 : Int) (r5 : Int) (r6 : ByteArray) (r7 : List (S70)) (r8 : Bool) (w : World) (h : impl_readBatch.f k a0 = some (r1,r2,r3,r4,r5,r6,r7,r8)) :
  Calls Try.prog 43 #[.string a0] w fun e w' => ∃ v6_ : Value,e = .returned (.tuple #[.agg #[.bool r1,.int .i64 r2,.int .i64 r3,.int .i64 r4,.int .i64 r5,.string r6,v6_],.bool r8]) ∧ Kd.R k70 70 w' w.heap.size (fun _ => True) v6_ r7 ∧ Below w.heap.size w w' := by
 have hu41 := Try.underlying41
 have hu61 := Try.underlying61
 have hu70 := Try.underlying70
 have hu33 := Try.underlying33
 have HB := am_ (Below.refl w.heap.size w)
 have H : (if a0.toList = ([0] : List UInt8) then (some (true,0,0,0,0,(⟨#[]⟩ : ByteArray),([] : List (S70)),true)) else ((impl_reader_number.f k a0 false 1).bind fun bt728 => (if (wrap64 (bt728.1 - 1)) > 7 then (some (false,0,0,0,0,(⟨#[]⟩ : ByteArray),([] : List (S70)),false)) else (impl_readBatch.l0 k (wrap64 (bt728.1 - 1)) (mx (wrap64 (bt728.1 - 1)) 0) 0 bt728.2.1 bt728.2.2 false 0 0 0 0 (⟨#[]⟩ : ByteArray) ([] : List (S70)))))) = some (r1,r2,r3,r4,r5,r6,r7,r8) := h
 clear h
 by_cases c2 : a0.toList = ([0] : List UInt8)
 ·rw [if_pos c2] at H
  have c2b0 : (a0.toList == ([0] : List UInt8)) = true := beq_iff_eq.mpr c2
  have c2b1 : (a0.toList != ([0] : List UInt8)) = false := bne_eq_false_iff_eq.mpr c2
  clear c2
  simp only [Option.some.injEq,Prod.mk.injEq] at H
  obtain ⟨rfl,rfl,rfl,rfl,rfl,rfl,rfl,rfl⟩ := H
  go_enter Try.func43,Try.ntmps43
  go_wp2_with (first | ((with_reducible refine gate_dst (N := 2) rfl ?_);refine zbx (N := 2) (cs := #[.bool false,.int .i64 0,.int .i64 0,.int .i64 0,.int .i64 0,.string ⟨#[]⟩,.slice none 0 0]) (t := 41) ?_;intro gb726 hg w3 hbox hb;have BK726 := am_ (hbox);have GW726 := zw_ HB hg;have GE726 := zw_ HB hg;replace HB := zs_ HB hb;clear hb hbox hg;obtain ⟨hcz4_0,hcz4_1,hcz4_2,hcz4_3,hcz4_4,hcz4_5,hcz4_6,hfz4_0,hfz4_1,hfz4_2,hfz4_3,hfz4_4,hfz4_5,hfz4_6⟩ := zc7 BK726))
  refine bodyPost_ret (results_ct rfl _ _ gb726 41 #[.bool true,.int .i64 0,.int .i64 0,.int .i64 0,.int .i64 0,.string ⟨#[]⟩,.slice none 0 0] (0,0) _ rfl (zq BK726) Try.underlying41 rfl (by kernel_rfl)) rfl ?_
  exact ⟨_,zt_,by first | exact Kd.R_nil _ _ _ _ _ | exact Kd.N_nil _ _ _ _ _ | exact Kd.V_nil _ _ _ _ _ | exact Kd.Q_nil _ _ _ _ _ | exact Kd.S_nil _ _ _ _ _,zl_ HB⟩
 ·rw [if_neg c2] at H
  have c2b0 : (a0.toList == ([0] : List UInt8)) = false := beq_eq_false_iff_ne.mpr c2
  have c2b1 : (a0.toList != ([0] : List UInt8)) = true := bne_iff_ne.mpr c2
  replace H := Option.bind_eq_some_iff.mp H
  obtain ⟨⟨t728,t729,t730⟩,A50,H⟩ := H
  try dsimp only at H
  have A5 := am_ A50
  clear A50
  by_cases c6 : (wrap64 (t728 - 1)) > 7
  ·rw [if_pos c6] at H
   have c6b0 : decide (7 < (wrap64 (t728 - 1))) = true := decide_eq_true c6
   clear c6
   simp only [Option.some.injEq,Prod.mk.injEq] at H
   obtain ⟨rfl,rfl,rfl,rfl,rfl,rfl,rfl,rfl⟩ := H
   go_enter Try.func43,Try.ntmps43
   go_wp2_with (first | ((with_reducible refine gate_dst (N := 2) rfl ?_);refine zbx (N := 2) (cs := #[.bool false,.int .i64 0,.int .i64 0,.int .i64 0,.int .i64 0,.string ⟨#[]⟩,.slice none 0 0]) (t := 41) ?_;intro gb726 hg w7 hbox hb;have BK726 := am_ (hbox);have GW726 := zw_ HB hg;have GE726 := zw_ HB hg;replace HB := zs_ HB hb;clear hb hbox hg) | ((with_reducible refine gate_dst (N := 12) rfl ?_);refine zbx (N := 12) (cs := #[.string a0,.bool false]) (t := 61) ?_;intro g727 hg w8 hbox hb;have HI727 := am_ ((show IsS61 w _ g727 a0 false from ⟨hbox,(by rw [hg];exact (below_size (zl_ HB)) : w.heap.size ≤ g727)⟩));replace HB := zs_ HB hb;have NB727_726 := zg hg BK726;have NB726_727 := zl hg BK726;replace BK726 := zb BK726 hb;clear hb hbox hg) | ((with_reducible refine gate_callee (f := 51) rfl ?_);refine zgl (some 14) Try.func51 #[.pointer (some ⟨g727,0,none⟩),.int .i64 1] ?_;(with_reducible refine (impl_reader_number.calls k g727 a0 false 1 t728 t729 t730 w _ ?side1 ?side2 A5.out).mono ?_);(case side1 => exact zi61 HI727);(case side2 => exact zl_ HB);rintro e w9 ⟨rfl,hi,hb,hk⟩;refine ⟨_,rfl,?_⟩;replace BK726 := zkb hk BK726 NB726_727;replace HB := am_ (hb);replace HI727 := am_ (hi);(try clear hb);(try clear hb2);(try clear hk);(try clear hi);have hnb10 := NB726_727.out;have hnc10 := NB727_726.out;obtain ⟨hcz11_0,hcz11_1,hcz11_2,hcz11_3,hcz11_4,hcz11_5,hcz11_6,hfz11_0,hfz11_1,hfz11_2,hfz11_3,hfz11_4,hfz11_5,hfz11_6⟩ := zc7 BK726))
   refine bodyPost_ret (results_ct rfl _ _ gb726 41 #[.bool false,.int .i64 0,.int .i64 0,.int .i64 0,.int .i64 0,.string ⟨#[]⟩,.slice none 0 0] (0,0) _ rfl (zq BK726) Try.underlying41 rfl (by kernel_rfl)) rfl ?_
   exact ⟨_,zt_,by first | exact Kd.R_nil _ _ _ _ _ | exact Kd.N_nil _ _ _ _ _ | exact Kd.V_nil _ _ _ _ _ | exact Kd.Q_nil _ _ _ _ _ | exact Kd.S_nil _ _ _ _ _,zl_ HB⟩
  ·rw [if_neg c6] at H
   have c6b0 : decide (7 < (wrap64 (t728 - 1))) = false := decide_eq_false c6
   clear c6
   obtain ⟨ji12,hji12⟩ : ∃ j_ : Int,(mx (wrap64 (t728 - 1)) 0) = j_ := ⟨_,rfl⟩
   replace H : (impl_readBatch.l0 k (wrap64 (t728 - 1)) ji12 0 t729 t730 false 0 0 0 0 (⟨#[]⟩ : ByteArray) ([] : List (S70))) = some (r1,r2,r3,r4,r5,r6,r7,r8) := by first | (rw [hji12] at H;exact H) | (simp only [hji12] at H ⊢;exact H)
   (try rw [hji12] at A5)
   (try (have hji12l : 0 ≤ ji12 := by (rw [← hji12];unfold mx;(repeat' split) <;> omega)))
   (try (have hji12m : 0 ≤ ji12 := by omega))
   have hji12_ : (if (wrap64 (t728 - 1)) < 0 then 0 else (wrap64 (t728 - 1))) = ji12 := hji12
   have H' := am_ H
   clear H
   go_enter Try.func43,Try.ntmps43
   go_wp2_with (first | ((with_reducible refine gate_dst (N := 2) rfl ?_);refine zbx (N := 2) (cs := #[.bool false,.int .i64 0,.int .i64 0,.int .i64 0,.int .i64 0,.string ⟨#[]⟩,.slice none 0 0]) (t := 41) ?_;intro gb726 hg w13 hbox hb;have BK726 := am_ (hbox);have GW726 := zw_ HB hg;have GE726 := zw_ HB hg;replace HB := zs_ HB hb;clear hb hbox hg) | ((with_reducible refine gate_dst (N := 12) rfl ?_);refine zbx (N := 12) (cs := #[.string a0,.bool false]) (t := 61) ?_;intro g727 hg w14 hbox hb;have HI727 := am_ ((show IsS61 w _ g727 a0 false from ⟨hbox,(by rw [hg];exact (below_size (zl_ HB)) : w.heap.size ≤ g727)⟩));replace HB := zs_ HB hb;have NB727_726 := zg hg BK726;have NB726_727 := zl hg BK726;replace BK726 := zb BK726 hb;clear hb hbox hg) | ((with_reducible refine gate_callee (f := 51) rfl ?_);refine zgl (some 14) Try.func51 #[.pointer (some ⟨g727,0,none⟩),.int .i64 1] ?_;(with_reducible refine (impl_reader_number.calls k g727 a0 false 1 t728 t729 t730 w _ ?side1 ?side2 A5.out).mono ?_);(case side1 => exact zi61 HI727);(case side2 => exact zl_ HB);rintro e w15 ⟨rfl,hi,hb,hk⟩;refine ⟨_,rfl,?_⟩;replace BK726 := zkb hk BK726 NB726_727;replace HB := am_ (hb);replace HI727 := am_ (hi);(try clear hb);(try clear hb2);(try clear hk);(try clear hi)) | ((with_reducible refine gate_dst (N := 6) rfl ?_);refine zbx (N := 6) (cs := #[.bool false,.int .i64 0,.int .i64 0,.int .i64 0,.int .i64 0,.string ⟨#[]⟩,.slice none 0 0]) (t := 41) ?_;intro gb731 hg w16 hbox hb;have BK731 := am_ (hbox);have GW731 := zw_ HB hg;have GE731 := zw_ HB hg;replace HB := zs_ HB hb;have NB726_731 := zl hg BK726;have NB731_726 := zg hg BK726;replace BK726 := zb BK726 hb;have NB727_731 := am_ ((by rw [hg];exact Nat.ne_of_lt (IsS61.lt (show IsS61 w _ g727 t729 t730 from (zi61 HI727))) : g727 ≠ gb731));have NB731_727 := am_ ((by rw [hg];exact Nat.ne_of_gt (IsS61.lt (show IsS61 w _ g727 t729 t730 from (zi61 HI727))) : gb731 ≠ g727));replace HI727 := am_ (IsS61.below (zi61 HI727) hb);clear hb hbox hg))
   go_loopg [21] k (fun kq v21 w' => ∃ (x21_1 : Int) (x728000_1 : ByteArray) (x728001_1 : Bool) (x732006_1 : List (S70)) (u732006 : Value),v21 = .int .i64 x21_1 ∧ Aside0 (impl_readBatch.l0 kq (wrap64 (t728 - 1)) ji12 x21_1 x728000_1 x728001_1 false 0 0 0 0 (⟨#[]⟩ : ByteArray) x732006_1 = some (r1,r2,r3,r4,r5,r6,r7,r8)) ∧ Aside0 (kq ≤ k) ∧ Aside0 (Kd.R k70 70 w' w.heap.size (fun _ => True) u732006 x732006_1) ∧ Aside0 (w'.heap[gb726]? = some (.cells #[.bool false,.int .i64 0,.int .i64 0,.int .i64 0,.int .i64 0,.string ⟨#[]⟩,(.slice none 0 0)] 41 (0,0))) ∧ Aside0 (w'.heap[gb731]? = some (.cells #[.bool false,.int .i64 0,.int .i64 0,.int .i64 0,.int .i64 0,.string ⟨#[]⟩,u732006] 41 (0,0))) ∧ Aside0 (IsS61 w w' g727 x728000_1 x728001_1) ∧ Aside0 (Below w.heap.size w w'))
   case atStart => exact ⟨(0),(t729),(t730),(([] : List (S70))),(.slice none 0 0),(by first | rfl | (simp;done) | (simp [*];done)),H',⟨Nat.le_refl _⟩,⟨by first | exact Kd.R_nil _ _ _ _ _ | exact Kd.N_nil _ _ _ _ _ | exact Kd.V_nil _ _ _ _ _ | exact Kd.Q_nil _ _ _ _ _ | exact Kd.S_nil _ _ _ _ _⟩,⟨by (with_reducible repeat (first | apply k1_ | apply k2_ | apply k3_));exact BK726.out⟩,⟨by (with_reducible repeat (first | apply k1_ | apply k2_ | apply k3_));exact BK731.out⟩,⟨(zi61 HI727)⟩,⟨zl_ HB⟩⟩
   case round =>
    clear H'
    try clear c1
    try clear c2
    try clear c2b0
    try clear c2b1
    try clear p2
    try clear c4
    try clear c5
    try clear c6
    try clear c6b0
    try clear p6
    try clear c10
    try clear hcz11_0
    try clear hcz11_1
    try clear hcz11_2
    try clear hcz11_3
    try clear hcz11_4
    try clear hcz11_5
    try clear hcz11_6
    try clear hcz4_0
    try clear hcz4_1
    try clear hcz4_2
    try clear hcz4_3
    try clear hcz4_4
    try clear hcz4_5
    try clear hcz4_6
    try clear hfz11_0
    try clear hfz11_1
    try clear hfz11_2
    try clear hfz11_3
    try clear hfz11_4
    try clear hfz11_5
    try clear hfz11_6
    try clear hfz4_0
    try clear hfz4_1
    try clear hfz4_2
    try clear hfz4_3
    try clear hfz4_4
    try clear hfz4_5
    try clear hfz4_6
    obtain ⟨x21_1,x728000_1,x728001_1,x732006_1,u732006,rfl,HA,HK1,HO_732006,BK726,BK731,HI727,HB⟩ := hrel
    cases gk with
    | zero => exact absurd HA.out (by simp [impl_readBatch.l0])
    | succ k1 =>
     have H := HA.out
     clear HA
     simp only [impl_readBatch.l0] at H
     by_cases c17 : x21_1 < ji12
     ·rw [if_pos c17] at H
      have c17b0 : decide (x21_1 < ji12) = true := decide_eq_true c17
      clear c17
      replace H := Option.bind_eq_some_iff.mp H
      obtain ⟨⟨t732,t733,t734⟩,A180,H⟩ := H
      try dsimp only at H
      have A18 := am_ A180
      clear A180
      replace H := Option.bind_eq_some_iff.mp H
      obtain ⟨⟨t735,t736,t737⟩,A190,H⟩ := H
      try dsimp only at H
      have A19 := am_ A190
      clear A190
      replace H := Option.bind_eq_some_iff.mp H
      obtain ⟨⟨t738,t739,t740⟩,A200,H⟩ := H
      try dsimp only at H
      have A20 := am_ A200
      clear A200
      by_cases c21 : x732006_1.length < 4398046511104
      ·rw [if_pos c21] at H
       have LMc21 := am_ c21
       clear c21
       obtain ⟨y741,hy741⟩ : ∃ y_ : List (S70),y_ = (x732006_1 ++ [(⟨t732,t735,t738⟩ : S70)]) := ⟨_,rfl⟩
       replace H : (impl_readBatch.l0 k1 (wrap64 (t728 - 1)) ji12 (wrap64 (x21_1 + 1)) t739 t740 false 0 0 0 0 (⟨#[]⟩ : ByteArray) y741) = some (r1,r2,r3,r4,r5,r6,r7,r8) := by first | (rw [hy741];with_reducible exact H) | (have H2_ := (Option.bind_some _ _).symm.trans H;rw [hy741];with_reducible exact H2_) | (have H2_ := (Option.bind_some _ _).symm.trans H;with_reducible exact H2_) | with_reducible exact H | (rw [hy741];exact H) | exact H
       have Ny741 := am_ hy741
       clear hy741
       have H' := am_ H
       clear H
       try go_wp2
       replace HO_732006 := am_ (Kd.R_drew HO_732006.out)
       replace BK726 := am_ (blk_drew BK726.out)
       replace BK731 := am_ (blk_drew BK731.out)
       replace HI727 := am_ (IsS61.drew HI727.out)
       replace HB := am_ (below_drew1 HB.out)
       refine start_ (n := 13) (S := fun w' => w'.cell? ⟨gb731,0,none⟩ = some (.bool false) ∧ w'.cell? ⟨gb731,1,none⟩ = some (.int .i64 0) ∧ w'.cell? ⟨gb731,2,none⟩ = some (.int .i64 0) ∧ w'.cell? ⟨gb731,3,none⟩ = some (.int .i64 0) ∧ w'.cell? ⟨gb731,4,none⟩ = some (.int .i64 0) ∧ w'.cell? ⟨gb731,5,none⟩ = some (.string ⟨#[]⟩) ∧ w'.cell? ⟨gb731,6,none⟩ = some (u732006)) (ds := [12]) #[false,false,false,false,false,false,false,false,false,false,false,false,false] (by kernel_rfl) rfl rfl ⟨(blk_cell BK731.out 0).trans rfl,(blk_cell BK731.out 1).trans rfl,(blk_cell BK731.out 2).trans rfl,(blk_cell BK731.out 3).trans rfl,(blk_cell BK731.out 4).trans rfl,(blk_cell BK731.out 5).trans rfl,(blk_cell BK731.out 6).trans rfl⟩ (fun hHeld => ?_);refine with_tabW impl_readBatch.tab10 impl_readBatch.bits10 (fun HT_ HW_ => ?_)
       generalize wr.drew = w22 at HO_732006 BK726 BK731 HI727 HB hHeld ⊢
       refine zpu 0 (N := some 23) #[true,false,false,false,false,false,false,false,false,false,false,false,false] HT_ ?_
       refine zpu 2 (N := some 25) #[true,false,true,false,false,false,false,false,false,false,false,false,false] HT_ ?_
       refine zpu 4 (N := some 27) #[true,false,true,false,true,false,false,false,false,false,false,false,false] HT_ ?_
       refine zpu 6 (N := some 29) #[true,false,true,false,true,false,true,false,false,false,false,false,false] HT_ ?_
       refine ztk 1 (N := some 24) #[true,true,true,false,true,false,true,false,false,false,false,false,false] HT_ HW_ hHeld ?_
       refine one_ (i := 3) (N := some 26) #[true,true,true,true,true,false,true,false,false,false,false,false,false] rfl rfl (one_of HT_.out (by kernel_rfl)) (by decide) (fun K hK => ?_)
       refine goes_ Try.func51 (by kernel_rfl) rfl #[.pointer (some ⟨g727,0,none⟩),.int .i64 1] (by rfl) rfl rfl (by (try simp only [m1_,m2_,m3_]);first | done | rfl | (simp only [d1_,d2_];rfl)) ?_
       with_reducible refine (impl_reader_number.calls k1 g727 x728000_1 x728001_1 1 t732 t733 t734 w _ ?side1 ?side2 A18.out).mono ?_
       (case side1 => exact zi61 HI727)
       (case side2 => exact zl_ HB)
       rintro e w23 ⟨rfl,hi,hb,hk⟩
       refine ⟨_,rfl,?_⟩
       replace HO_732006 := am_ (Kd.R_mono (Kd.R_keep (IsS61.apart (show IsS61 w _ g727 x728000_1 x728001_1 from (zi61 HI727)) (zr HO_732006) (by decide)) hk (fun _ h => h.2)) (fun _ h => h.1))
       replace BK726 := zkb hk BK726 NB726_727
       replace BK731 := zkb hk BK731 NB731_727
       replace HB := am_ (hb)
       replace HI727 := am_ (hi)
       (try clear hb)
       (try clear hb2)
       (try clear hk)
       (try clear hi)
       refine hK.out _ _ ⟨(blk_cell BK731.out 0).trans rfl,(blk_cell BK731.out 1).trans rfl,(blk_cell BK731.out 2).trans rfl,(blk_cell BK731.out 3).trans rfl,(blk_cell BK731.out 4).trans rfl,(blk_cell BK731.out 5).trans rfl,(blk_cell BK731.out 6).trans rfl⟩ (fun hHeld => ?_)
       clear hK K
       refine norm_ (a' := ?_) ?_ ?_
       rotate_left
       ·show Act.put _ (some 26) _ = _
        simp only [Act.put,p1_,p2_,p3_,i64_w,i32_w]
        rfl
       refine one_ (i := 5) (N := some 28) #[true,true,true,true,true,true,true,false,false,false,false,false,false] rfl rfl (one_of HT_.out (by kernel_rfl)) (by decide) (fun K hK => ?_)
       refine goes_ Try.func51 (by kernel_rfl) rfl #[.pointer (some ⟨g727,0,none⟩),.int .i64 4] (by rfl) rfl rfl (by (try simp only [m1_,m2_,m3_]);first | done | rfl | (simp only [d1_,d2_];rfl)) ?_
       with_reducible refine (impl_reader_number.calls k1 g727 t733 t734 4 t735 t736 t737 w _ ?side1 ?side2 A19.out).mono ?_
       (case side1 => exact zi61 HI727)
       (case side2 => exact zl_ HB)
       rintro e w24 ⟨rfl,hi,hb,hk⟩
       refine ⟨_,rfl,?_⟩
       replace HO_732006 := am_ (Kd.R_mono (Kd.R_keep (IsS61.apart (show IsS61 w _ g727 t733 t734 from (zi61 HI727)) (zr HO_732006) (by decide)) hk (fun _ h => h.2)) (fun _ h => h.1))
       replace BK726 := zkb hk BK726 NB726_727
       replace BK731 := zkb hk BK731 NB731_727
       replace HB := am_ (hb)
       replace HI727 := am_ (hi)
       (try clear hb)
       (try clear hb2)
       (try clear hk)
       (try clear hi)
       refine hK.out _ _ ⟨(blk_cell BK731.out 0).trans rfl,(blk_cell BK731.out 1).trans rfl,(blk_cell BK731.out 2).trans rfl,(blk_cell BK731.out 3).trans rfl,(blk_cell BK731.out 4).trans rfl,(blk_cell BK731.out 5).trans rfl,(blk_cell BK731.out 6).trans rfl⟩ (fun hHeld => ?_)
       clear hK K
       refine norm_ (a' := ?_) ?_ ?_
       rotate_left
       ·show Act.put _ (some 28) _ = _
        simp only [Act.put,p1_,p2_,p3_,i64_w,i32_w]
        rfl
       refine one_ (i := 7) (N := some 30) #[true,true,true,true,true,true,true,true,false,false,false,false,false] rfl rfl (one_of HT_.out (by kernel_rfl)) (by decide) (fun K hK => ?_)
       refine goes_ Try.func53 (by kernel_rfl) rfl #[.pointer (some ⟨g727,0,none⟩),.int .i64 8] (by rfl) rfl rfl (by (try simp only [m1_,m2_,m3_]);first | done | rfl | (simp only [d1_,d2_];rfl)) ?_
       with_reducible refine (impl_reader_take.calls g727 t736 t737 8 t738 t739 t740 w _ ?side1 ?side2 A20.out).mono ?_
       (case side1 => exact zi61 HI727)
       (case side2 => exact zl_ HB)
       rintro e w25 ⟨rfl,hi,hb,hk⟩
       refine ⟨_,rfl,?_⟩
       replace HO_732006 := am_ (Kd.R_mono (Kd.R_keep (IsS61.apart (show IsS61 w _ g727 t736 t737 from (zi61 HI727)) (zr HO_732006) (by decide)) hk (fun _ h => h.2)) (fun _ h => h.1))
       replace BK726 := zkb hk BK726 NB726_727
       replace BK731 := zkb hk BK731 NB731_727
       replace HB := am_ (hb)
       replace HI727 := am_ (hi)
       (try clear hb)
       (try clear hb2)
       (try clear hk)
       (try clear hi)
       refine hK.out _ _ ⟨(blk_cell BK731.out 0).trans rfl,(blk_cell BK731.out 1).trans rfl,(blk_cell BK731.out 2).trans rfl,(blk_cell BK731.out 3).trans rfl,(blk_cell BK731.out 4).trans rfl,(blk_cell BK731.out 5).trans rfl,(blk_cell BK731.out 6).trans rfl⟩ (fun hHeld => ?_)
       clear hK K
       refine norm_ (a' := ?_) ?_ ?_
       rotate_left
       ·show Act.put _ (some 30) _ = _
        simp only [Act.put,p1_,p2_,p3_,i64_w,i32_w]
        rfl
       refine zpu 8 (N := some 31) #[true,true,true,true,true,true,true,true,true,false,false,false,false] HT_ ?_
       refine one_ (i := 9) (N := some 32) #[true,true,true,true,true,true,true,true,true,true,false,false,false] rfl rfl (one_of HT_.out (by kernel_rfl)) (by decide) (fun K hK => ?_)
       refine value_ (w1 := ?_) (v := ?_) (by rfl) rfl ?_ ?_
       rotate_left 2
       ·go_simp
        constructor
        ·rfl
        ·rfl
       refine hK.out _ _ ⟨(blk_cell (blk_alloc BK731.out _) 0).trans rfl,(blk_cell (blk_alloc BK731.out _) 1).trans rfl,(blk_cell (blk_alloc BK731.out _) 2).trans rfl,(blk_cell (blk_alloc BK731.out _) 3).trans rfl,(blk_cell (blk_alloc BK731.out _) 4).trans rfl,(blk_cell (blk_alloc BK731.out _) 5).trans rfl,(blk_cell (blk_alloc BK731.out _) 6).trans rfl⟩ (fun hHeld => ?_)
       clear hK K
       refine norm_ (a' := ?_) ?_ ?_
       rotate_left
       ·show Act.put _ (some 32) _ = _
        simp only [Act.put,p1_,p2_,p3_,i64_w,i32_w]
        rfl
       refine one_ (i := 10) (N := some 33) #[true,true,true,true,true,true,true,true,true,true,true,false,false] rfl rfl (one_of HT_.out (by kernel_rfl)) (by decide) (fun K hK => ?_)
       refine Kd.R_append_step k70 (w0 := w) w.heap.size (by rfl) (.tmp 24) (.tmp 32) 39 70 (.agg #[(.int .i64 0),(.int .i64 0),(.string ⟨#[]⟩)]) 32 rfl Try.underlying39 info70 rfl (by decide) (by omega) u732006 x732006_1 (⟨t732,t735,t738⟩ : S70) [.int .i64 t732,.int .i64 t735,.string t738] (fun _ => True) (fun _ => False) rfl rfl ?aP (fun _ hk => hk.elim) ?aF ?aO ?aB ?aS ?aL ?_
       (case aP => exact k70_mkM _ _ _ (⟨t732,t735,t738⟩ : S70))
       (case aB => exact (zl_ HB))
       (case aF => exact (fun _ _ => trivial))
       (case aO => exact (zr HO_732006))
       (case aS => exact (below_size (zl_ HB)))
       (case aL => have := LMc21.out;omega)
       intro v742 w26 ho hb hg hat
       rw [← Ny741.out] at ho
       replace BK726 := am_ (blk_grown (g := gb726) (o := .cells #[.bool false,.int .i64 0,.int .i64 0,.int .i64 0,.int .i64 0,.string ⟨#[]⟩,.slice none 0 0] 41 (0,0)) (zk BK726) hg (Kd.R_ne HO_732006.out BK726.out (by decide)))
       replace BK731 := am_ (blk_grown (g := gb731) (o := .cells #[.bool false,.int .i64 0,.int .i64 0,.int .i64 0,.int .i64 0,.string ⟨#[]⟩,u732006] 41 (0,0)) (zk BK731) hg (Kd.R_ne HO_732006.out BK731.out (by decide)))
       replace HI727 := am_ (IsS61.grown (zi61 HI727) hg (IsS61.own_ne HI727.out HO_732006.out (by decide)))
       replace HB := am_ (hb)
       have HO743 := am_ (ho)
       clear HO_732006
       clear ho hb hg hat
       obtain ⟨Ao27,co27,eo27⟩ := Kd.R_slice HO743.out
       (first | subst eo27 | (injection eo27 with f1_ f2_ f3_;have f4_ := f1_.symm;have f5_ := f3_.symm;clear f1_ f2_ f3_;subst f4_;subst f5_))
       refine hK.out _ _ ⟨(blk_cell BK731.out 0).trans rfl,(blk_cell BK731.out 1).trans rfl,(blk_cell BK731.out 2).trans rfl,(blk_cell BK731.out 3).trans rfl,(blk_cell BK731.out 4).trans rfl,(blk_cell BK731.out 5).trans rfl,(blk_cell BK731.out 6).trans rfl⟩ (fun hHeld => ?_)
       clear hK K
       refine norm_ (a' := ?_) ?_ ?_
       rotate_left
       ·show Act.put _ (some 33) _ = _
        simp only [Act.put,p1_,p2_,p3_,i64_w,i32_w]
        rfl
       refine zpu 11 (N := some 34) #[true,true,true,true,true,true,true,true,true,true,true,true,false] HT_ ?_
       refine last_ (i := 12) (N := none) #[true,true,true,true,true,true,true,true,true,true,true,true,true] rfl rfl (one_of HT_.out (by kernel_rfl)) (by decide) (fun K hK => ?_)
       have hs28 : w26.cell? ⟨gb731,6,none⟩ = some (u732006) := (blk_cell BK731.out 6).trans rfl
       have hfs28 := blk_frozen BK731.out 6
       have hns28_0 := NB726_731.out
       have hms28_0 := NB731_726.out
       refine skip_ (w1 := ?_) (by rfl) rfl ?_ ?_
       rotate_left
       ·go_simp
        rfl
       refine hK.out _ _ ?_
       clear hK K
       refine done_ (done_of HT_.out (by kernel_rfl)) ?_
       try go_wp2
       go_roundg k1
       case measure => have := HK1.out;omega
       case rel => exact ⟨(wrap64 (x21_1 + 1)),(t739),(t740),(y741),(.slice Ao27 y741.length co27),(by first | rfl | (simp;done) | (simp [*];done)),H',⟨by have := HK1.out;omega⟩,⟨by (with_reducible repeat (first | apply r1_ | apply r2_ | apply r3_));exact Kd.R_mono (zrf (Kd.R_types HO743.out BK731.out (by decide))) (fun _ hk => trivial)⟩,⟨zq BK726⟩,⟨zq BK731⟩,⟨(zi61 HI727)⟩,⟨zl_ HB⟩⟩
      ·rw [if_neg c21] at H
       exact absurd H (by simp)
     ·rw [if_neg c17] at H
      have c17b0 : decide (x21_1 < ji12) = false := decide_eq_false c17
      clear c17
      replace H := Option.bind_eq_some_iff.mp H
      obtain ⟨⟨t744,t745,t746,t747,t748,t749,t750⟩,A290,H⟩ := H
      try dsimp only at H
      have A29 := am_ A290
      clear A290
      by_cases c30 : (wrap64 (t728 - 1)) < 0
      ·rw [if_pos c30] at H
       have c30b0 : decide ((wrap64 (t728 - 1)) < 0) = true := decide_eq_true c30
       clear c30
       simp only [Option.some.injEq,Prod.mk.injEq] at H
       obtain ⟨rfl,rfl,rfl,rfl,rfl,rfl,rfl,rfl⟩ := H
       go_wp2_with (first | ((with_reducible refine gate_callee (f := 35) rfl ?_);refine zgl (some 37) Try.func35 #[.pointer (some ⟨g727,0,none⟩)] ?_;(with_reducible refine (impl_reader_request.calls k1 g727 x728000_1 x728001_1 t744 t745 t746 t747 t748 t749 t750 w _ ?side1 ?side2 A29.out).mono ?_);(case side1 => exact zi61 HI727);(case side2 => exact zl_ HB);rintro e w31 ⟨rfl,hi,hb,hk⟩;refine ⟨_,rfl,?_⟩;replace HO_732006 := am_ (Kd.R_mono (Kd.R_keep (IsS61.apart (show IsS61 w _ g727 x728000_1 x728001_1 from (zi61 HI727)) (zr HO_732006) (by decide)) hk (fun _ h => h.2)) (fun _ h => h.1));replace BK726 := zkb hk BK726 NB726_727;replace BK731 := zkb hk BK731 NB731_727;replace HB := am_ (hb);replace HI727 := am_ (hi);(try clear hb);(try clear hb2);(try clear hk);(try clear hi);have hnb32 := NB731_726.out;have hnc32 := NB726_731.out;have hnb33 := NB731_727.out;have hnc33 := NB727_731.out;obtain ⟨hcz34_0,hcz34_1,hcz34_2,hcz34_3,hcz34_4,hcz34_5,hcz34_6,hfz34_0,hfz34_1,hfz34_2,hfz34_3,hfz34_4,hfz34_5,hfz34_6⟩ := zc7 BK731;have hnb35 := NB726_727.out;have hnc35 := NB727_726.out;obtain ⟨hcz36_0,hcz36_1,hcz36_2,hcz36_3,hcz36_4,hcz36_5,hcz36_6,hfz36_0,hfz36_1,hfz36_2,hfz36_3,hfz36_4,hfz36_5,hfz36_6⟩ := zc7 BK726))
       refine bodyPost_ret (results_ct rfl _ _ gb726 41 #[.bool false,.int .i64 0,.int .i64 0,.int .i64 0,.int .i64 0,.string ⟨#[]⟩,.slice none 0 0] (0,0) _ rfl (zq BK726) Try.underlying41 rfl (by kernel_rfl)) rfl ?_
       exact ⟨_,by first | rfl | (simp [e1_,e2_] <;> rfl) | (simp only [← hji12];first | rfl | (simp [e1_,e2_] <;> rfl)) | (simp [*,e1_,e2_] <;> rfl) | (simp [e3_,e4_];done) | (simp [*,e3_,e4_];done),by first | exact Kd.R_nil _ _ _ _ _ | exact Kd.N_nil _ _ _ _ _ | exact Kd.V_nil _ _ _ _ _ | exact Kd.Q_nil _ _ _ _ _ | exact Kd.S_nil _ _ _ _ _,zl_ HB⟩
      ·rw [if_neg c30] at H
       have c30b0 : decide ((wrap64 (t728 - 1)) < 0) = false := decide_eq_false c30
       clear c30
       replace H := Option.bind_eq_some_iff.mp H
       obtain ⟨⟨t751,t752,t753⟩,A370,H⟩ := H
       try dsimp only at H
       have A37 := am_ A370
       clear A370
       by_cases c38 : t751 = true
       ·subst c38
        have H1 : ((impl_isBatch.f k1 false t744 t745 t746 t747 t748 x732006_1).bind fun t754 => (if t754 = true then (some (false,t744,t745,t746,t747,t748,x732006_1,true)) else (some (false,0,0,0,0,(⟨#[]⟩ : ByteArray),([] : List (S70)),false)))) = some (r1,r2,r3,r4,r5,r6,r7,r8) := by rw [if_pos rfl] at H;exact H
        clear H
        have H := H1
        clear H1
        replace H := Option.bind_eq_some_iff.mp H
        obtain ⟨t754,A390,H⟩ := H
        try dsimp only at H
        have A39 := am_ A390
        clear A390
        by_cases c40 : t754 = true
        ·subst c40
         have H1 : (some (false,t744,t745,t746,t747,t748,x732006_1,true)) = some (r1,r2,r3,r4,r5,r6,r7,r8) := by rw [if_pos rfl] at H;exact H
         clear H
         have H := H1
         clear H1
         simp only [Option.some.injEq,Prod.mk.injEq] at H
         obtain ⟨rfl,rfl,rfl,rfl,rfl,rfl,rfl,rfl⟩ := H
         go_wp2_with (first | ((with_reducible refine gate_callee (f := 35) rfl ?_);refine zgl (some 37) Try.func35 #[.pointer (some ⟨g727,0,none⟩)] ?_;(with_reducible refine (impl_reader_request.calls k1 g727 x728000_1 x728001_1 t744 t745 t746 t747 t748 t749 t750 w _ ?side1 ?side2 A29.out).mono ?_);(case side1 => exact zi61 HI727);(case side2 => exact zl_ HB);rintro e w41 ⟨rfl,hi,hb,hk⟩;refine ⟨_,rfl,?_⟩;replace HO_732006 := am_ (Kd.R_mono (Kd.R_keep (IsS61.apart (show IsS61 w _ g727 x728000_1 x728001_1 from (zi61 HI727)) (zr HO_732006) (by decide)) hk (fun _ h => h.2)) (fun _ h => h.1));replace BK726 := zkb hk BK726 NB726_727;replace BK731 := zkb hk BK731 NB731_727;replace HB := am_ (hb);replace HI727 := am_ (hi);(try clear hb);(try clear hb2);(try clear hk);(try clear hi);have hnb42 := NB731_726.out;have hnc42 := NB726_731.out;have hnb43 := NB731_727.out;have hnc43 := NB727_731.out;obtain ⟨hcz44_0,hcz44_1,hcz44_2,hcz44_3,hcz44_4,hcz44_5,hcz44_6,hfz44_0,hfz44_1,hfz44_2,hfz44_3,hfz44_4,hfz44_5,hfz44_6⟩ := zc7 BK731) | (go_at_call 36;(with_reducible refine (impl_reader_done.calls g727 t749 t750 true t752 t753 w _ ?side1 ?side2 A37.out).mono ?_);(case side1 => exact zi61 HI727);(case side2 => exact zl_ HB);rintro e w45 ⟨rfl,hi,hb,hk⟩;replace HO_732006 := am_ (Kd.R_mono (Kd.R_keep (IsS61.apart (show IsS61 w _ g727 t749 t750 from (zi61 HI727)) (by (with_reducible repeat (first | apply r1_ | apply r2_ | apply r3_));exact (Kd.R_mono (zrf (Kd.R_types HO_732006.out BK731.out (by decide))) (fun _ h_ => h_.1))) (by decide)) hk (fun _ h => h.2)) (fun _ h => h.1));replace BK726 := am_ (KeepBut.blk hk (g' := gb726) (o := .cells #[.bool false,.int .i64 0,.int .i64 0,.int .i64 0,.int .i64 0,.string ⟨#[]⟩,.slice none 0 0] 41 (0,0)) (zq BK726) NB726_727.out (by simp));replace BK731 := am_ (KeepBut.blk hk (g' := gb731) (o := .cells #[.bool false,.int .i64 t744,.int .i64 t745,.int .i64 t746,.int .i64 t747,.string t748,u732006] 41 (0,0)) (zq BK731) NB731_727.out (by simp));replace HB := am_ (hb);replace HI727 := am_ (hi);(try clear hb);(try clear hb2);(try clear hk);(try clear hi);obtain ⟨hcz46_0,hcz46_1,hcz46_2,hcz46_3,hcz46_4,hcz46_5,hcz46_6,hfz46_0,hfz46_1,hfz46_2,hfz46_3,hfz46_4,hfz46_5,hfz46_6⟩ := zc7 BK731;obtain ⟨Ao47,co47,eo47⟩ := Kd.R_slice HO_732006.out;subst eo47) | (go_at_call 39;(with_reducible refine (impl_isBatch.calls k1 false t744 t745 t746 t747 t748 _ _ x732006_1 true _ ?side1 ?side2 A39.out).mono ?_);(case side1 => repeat (first | exact (Kd.R_reads' HO_732006.out).2.2 | (with_reducible refine Kd.C_alloc ?_ _) | (with_reducible refine Kd.C_drewN ?_ _) | (with_reducible refine Kd.C_drew ?_)));(case side2 => exact (Kd.R_reads' HO_732006.out).2.1);rintro e w48 ⟨rfl,hb⟩;replace HO_732006 := zrb HO_732006 hb;replace BK726 := zb BK726 hb;replace BK731 := zb BK731 hb;replace HI727 := am_ (IsS61.below (zi61 HI727) hb);replace HB := zs_ HB hb;(try clear hb);(try clear hb2);(try clear hk);(try clear hi);obtain ⟨hcz49_0,hcz49_1,hcz49_2,hcz49_3,hcz49_4,hcz49_5,hcz49_6,hfz49_0,hfz49_1,hfz49_2,hfz49_3,hfz49_4,hfz49_5,hfz49_6⟩ := zc7 BK731;have hnb50 := NB726_727.out;have hnc50 := NB727_726.out;obtain ⟨hcz51_0,hcz51_1,hcz51_2,hcz51_3,hcz51_4,hcz51_5,hcz51_6,hfz51_0,hfz51_1,hfz51_2,hfz51_3,hfz51_4,hfz51_5,hfz51_6⟩ := zc7 BK726))
         refine bodyPost_ret (results_ct rfl _ _ gb726 41 #[.bool false,.int .i64 t744,.int .i64 t745,.int .i64 t746,.int .i64 t747,.string t748,.slice Ao47 x732006_1.length co47] (0,0) _ rfl (zq BK726) Try.underlying41 rfl (by kernel_rfl)) rfl ?_
         exact ⟨_,by first | rfl | (simp [e1_,e2_] <;> rfl) | (simp only [← hji12];first | rfl | (simp [e1_,e2_] <;> rfl)) | (simp [*,e1_,e2_] <;> rfl) | (simp [e3_,e4_];done) | (simp [*,e3_,e4_];done),by (with_reducible repeat (first | apply r1_ | apply r2_ | apply r3_));exact Kd.R_mono (zrf (Kd.R_types HO_732006.out BK726.out (by decide))) (fun _ hk => trivial),zl_ HB⟩
        ·replace c40 := Bool.eq_false_iff.mpr c40
         subst c40
         have H1 : (some (false,0,0,0,0,(⟨#[]⟩ : ByteArray),([] : List (S70)),false)) = some (r1,r2,r3,r4,r5,r6,r7,r8) := by rw [if_neg (show ¬ (false = true) by decide)] at H;exact H
         clear H
         have H := H1
         clear H1
         simp only [Option.some.injEq,Prod.mk.injEq] at H
         obtain ⟨rfl,rfl,rfl,rfl,rfl,rfl,rfl,rfl⟩ := H
         go_wp2_with (first | ((with_reducible refine gate_callee (f := 35) rfl ?_);refine zgl (some 37) Try.func35 #[.pointer (some ⟨g727,0,none⟩)] ?_;(with_reducible refine (impl_reader_request.calls k1 g727 x728000_1 x728001_1 t744 t745 t746 t747 t748 t749 t750 w _ ?side1 ?side2 A29.out).mono ?_);(case side1 => exact zi61 HI727);(case side2 => exact zl_ HB);rintro e w52 ⟨rfl,hi,hb,hk⟩;refine ⟨_,rfl,?_⟩;replace HO_732006 := am_ (Kd.R_mono (Kd.R_keep (IsS61.apart (show IsS61 w _ g727 x728000_1 x728001_1 from (zi61 HI727)) (zr HO_732006) (by decide)) hk (fun _ h => h.2)) (fun _ h => h.1));replace BK726 := zkb hk BK726 NB726_727;replace BK731 := zkb hk BK731 NB731_727;replace HB := am_ (hb);replace HI727 := am_ (hi);(try clear hb);(try clear hb2);(try clear hk);(try clear hi);have hnb53 := NB731_726.out;have hnc53 := NB726_731.out;have hnb54 := NB731_727.out;have hnc54 := NB727_731.out;obtain ⟨hcz55_0,hcz55_1,hcz55_2,hcz55_3,hcz55_4,hcz55_5,hcz55_6,hfz55_0,hfz55_1,hfz55_2,hfz55_3,hfz55_4,hfz55_5,hfz55_6⟩ := zc7 BK731) | (go_at_call 36;(with_reducible refine (impl_reader_done.calls g727 t749 t750 true t752 t753 w _ ?side1 ?side2 A37.out).mono ?_);(case side1 => exact zi61 HI727);(case side2 => exact zl_ HB);rintro e w56 ⟨rfl,hi,hb,hk⟩;replace HO_732006 := am_ (Kd.R_mono (Kd.R_keep (IsS61.apart (show IsS61 w _ g727 t749 t750 from (zi61 HI727)) (by (with_reducible repeat (first | apply r1_ | apply r2_ | apply r3_));exact (Kd.R_mono (zrf (Kd.R_types HO_732006.out BK731.out (by decide))) (fun _ h_ => h_.1))) (by decide)) hk (fun _ h => h.2)) (fun _ h => h.1));replace BK726 := am_ (KeepBut.blk hk (g' := gb726) (o := .cells #[.bool false,.int .i64 0,.int .i64 0,.int .i64 0,.int .i64 0,.string ⟨#[]⟩,.slice none 0 0] 41 (0,0)) (zq BK726) NB726_727.out (by simp));replace BK731 := am_ (KeepBut.blk hk (g' := gb731) (o := .cells #[.bool false,.int .i64 t744,.int .i64 t745,.int .i64 t746,.int .i64 t747,.string t748,u732006] 41 (0,0)) (zq BK731) NB731_727.out (by simp));replace HB := am_ (hb);replace HI727 := am_ (hi);(try clear hb);(try clear hb2);(try clear hk);(try clear hi);obtain ⟨hcz57_0,hcz57_1,hcz57_2,hcz57_3,hcz57_4,hcz57_5,hcz57_6,hfz57_0,hfz57_1,hfz57_2,hfz57_3,hfz57_4,hfz57_5,hfz57_6⟩ := zc7 BK731;obtain ⟨Ao58,co58,eo58⟩ := Kd.R_slice HO_732006.out;subst eo58) | (go_at_call 39;(with_reducible refine (impl_isBatch.calls k1 false t744 t745 t746 t747 t748 _ _ x732006_1 false _ ?side1 ?side2 A39.out).mono ?_);(case side1 => repeat (first | exact (Kd.R_reads' HO_732006.out).2.2 | (with_reducible refine Kd.C_alloc ?_ _) | (with_reducible refine Kd.C_drewN ?_ _) | (with_reducible refine Kd.C_drew ?_)));(case side2 => exact (Kd.R_reads' HO_732006.out).2.1);rintro e w59 ⟨rfl,hb⟩;replace BK726 := zb BK726 hb;replace HI727 := am_ (IsS61.below (zi61 HI727) hb);replace HB := zs_ HB hb;(try clear hb);(try clear hb2);(try clear hk);(try clear hi);have hnb60 := NB726_727.out;have hnc60 := NB727_726.out;obtain ⟨hcz61_0,hcz61_1,hcz61_2,hcz61_3,hcz61_4,hcz61_5,hcz61_6,hfz61_0,hfz61_1,hfz61_2,hfz61_3,hfz61_4,hfz61_5,hfz61_6⟩ := zc7 BK726))
         refine bodyPost_ret (results_ct rfl _ _ gb726 41 #[.bool false,.int .i64 0,.int .i64 0,.int .i64 0,.int .i64 0,.string ⟨#[]⟩,.slice none 0 0] (0,0) _ rfl (zq BK726) Try.underlying41 rfl (by kernel_rfl)) rfl ?_
         exact ⟨_,by first | rfl | (simp [e1_,e2_] <;> rfl) | (simp only [← hji12];first | rfl | (simp [e1_,e2_] <;> rfl)) | (simp [*,e1_,e2_] <;> rfl) | (simp [e3_,e4_];done) | (simp [*,e3_,e4_];done),by first | exact Kd.R_nil _ _ _ _ _ | exact Kd.N_nil _ _ _ _ _ | exact Kd.V_nil _ _ _ _ _ | exact Kd.Q_nil _ _ _ _ _ | exact Kd.S_nil _ _ _ _ _,zl_ HB⟩
       ·replace c38 := Bool.eq_false_iff.mpr c38
        subst c38
        have H1 : (some (false,0,0,0,0,(⟨#[]⟩ : ByteArray),([] : List (S70)),false)) = some (r1,r2,r3,r4,r5,r6,r7,r8) := by rw [if_neg (show ¬ (false = true) by decide)] at H;exact H
        clear H
        have H := H1
        clear H1
        simp only [Option.some.injEq,Prod.mk.injEq] at H
        obtain ⟨rfl,rfl,rfl,rfl,rfl,rfl,rfl,rfl⟩ := H
        go_wp2_with (first | ((with_reducible refine gate_callee (f := 35) rfl ?_);refine zgl (some 37) Try.func35 #[.pointer (some ⟨g727,0,none⟩)] ?_;(with_reducible refine (impl_reader_request.calls k1 g727 x728000_1 x728001_1 t744 t745 t746 t747 t748 t749 t750 w _ ?side1 ?side2 A29.out).mono ?_);(case side1 => exact zi61 HI727);(case side2 => exact zl_ HB);rintro e w62 ⟨rfl,hi,hb,hk⟩;refine ⟨_,rfl,?_⟩;replace BK726 := zkb hk BK726 NB726_727;replace BK731 := zkb hk BK731 NB731_727;replace HB := am_ (hb);replace HI727 := am_ (hi);(try clear hb);(try clear hb2);(try clear hk);(try clear hi);have hnb63 := NB731_726.out;have hnc63 := NB726_731.out;have hnb64 := NB731_727.out;have hnc64 := NB727_731.out;obtain ⟨hcz65_0,hcz65_1,hcz65_2,hcz65_3,hcz65_4,hcz65_5,hcz65_6,hfz65_0,hfz65_1,hfz65_2,hfz65_3,hfz65_4,hfz65_5,hfz65_6⟩ := zc7 BK731) | (go_at_call 36;(with_reducible refine (impl_reader_done.calls g727 t749 t750 false t752 t753 w _ ?side1 ?side2 A37.out).mono ?_);(case side1 => exact zi61 HI727);(case side2 => exact zl_ HB);rintro e w66 ⟨rfl,hi,hb,hk⟩;replace BK726 := am_ (KeepBut.blk hk (g' := gb726) (o := .cells #[.bool false,.int .i64 0,.int .i64 0,.int .i64 0,.int .i64 0,.string ⟨#[]⟩,.slice none 0 0] 41 (0,0)) (zq BK726) NB726_727.out (by simp));replace HB := am_ (hb);replace HI727 := am_ (hi);(try clear hb);(try clear hb2);(try clear hk);(try clear hi);have hnb67 := NB726_727.out;have hnc67 := NB727_726.out;obtain ⟨hcz68_0,hcz68_1,hcz68_2,hcz68_3,hcz68_4,hcz68_5,hcz68_6,hfz68_0,hfz68_1,hfz68_2,hfz68_3,hfz68_4,hfz68_5,hfz68_6⟩ := zc7 BK726))
        refine bodyPost_ret (results_ct rfl _ _ gb726 41 #[.bool false,.int .i64 0,.int .i64 0,.int .i64 0,.int .i64 0,.string ⟨#[]⟩,.slice none 0 0] (0,0) _ rfl (zq BK726) Try.underlying41 rfl (by kernel_rfl)) rfl ?_
        exact ⟨_,by first | rfl | (simp [e1_,e2_] <;> rfl) | (simp only [← hji12];first | rfl | (simp [e1_,e2_] <;> rfl)) | (simp [*,e1_,e2_] <;> rfl) | (simp [e3_,e4_];done) | (simp [*,e3_,e4_];done),by first | exact Kd.R_nil _ _ _ _ _ | exact Kd.N_nil _ _ _ _ _ | exact Kd.V_nil _ _ _ _ _ | exact Kd.Q_nil _ _ _ _ _ | exact Kd.S_nil _ _ _ _ _,zl_ HB⟩
set_option maxHeartbeats 8000000 in
set_option maxRecDepth 100000 in
theorem impl_ReadBatch.calls (k : Nat) (A0 : Option Addr) (c0 : Nat) (l0 : List Int) (r1 : Bool) (r2 : Int) (r3 : Int) (r4 : Int) (r5 : Int) (r6 : ByteArray) (r7 : List (S70)) (r8 : Int) (w : World) (hr0 : Kd.C (Kd.int .u8) w A0 l0.length l0) (hc0 : l0.length ≤ c0) (h : impl_ReadBatch.f k l0 = some (r1,r2,r3,r4,r5,r6,r7,r8)) :
  Calls Try.prog 19 #[.slice A0 l0.length c0] w fun e w' => ∃ v6_ : Value,e = .returned (.tuple #[.agg #[.bool r1,.int .i64 r2,.int .i64 r3,.int .i64 r4,.int .i64 r5,.string r6,v6_],.int .i64 r8]) ∧ Kd.R k70 70 w' w.heap.size (fun _ => True) v6_ r7 ∧ Below w.heap.size w w' := by
 have hu41 := Try.underlying41
 have HR0 := am_ hr0
 have HC0 := am_ hc0
 clear hr0 hc0
 have HB := am_ (Below.refl w.heap.size w)
 have H : (if (l0.length : Int) > 65536 then (some (false,0,0,0,0,(⟨#[]⟩ : ByteArray),([] : List (S70)),2)) else ((impl_readBatch.f k (strOfNums l0)).bind fun bt756 => (if bt756.2.2.2.2.2.2.2 = true then (some (bt756.1,bt756.2.1,bt756.2.2.1,bt756.2.2.2.1,bt756.2.2.2.2.1,bt756.2.2.2.2.2.1,bt756.2.2.2.2.2.2.1,0)) else (some (false,0,0,0,0,(⟨#[]⟩ : ByteArray),([] : List (S70)),3))))) = some (r1,r2,r3,r4,r5,r6,r7,r8) := h
 clear h
 by_cases c2 : (l0.length : Int) > 65536
 ·rw [if_pos c2] at H
  have c2b0 : decide (65536 < (l0.length : Int)) = true := decide_eq_true c2
  have c2b1 : decide (65536 < l0.length) = true := decide_eq_true (by omega)
  clear c2
  simp only [Option.some.injEq,Prod.mk.injEq] at H
  obtain ⟨rfl,rfl,rfl,rfl,rfl,rfl,rfl,rfl⟩ := H
  go_enter Try.func19,Try.ntmps19
  go_wp2_with (first | ((with_reducible refine gate_dst (N := 2) rfl ?_);refine zbx (N := 2) (cs := #[.bool false,.int .i64 0,.int .i64 0,.int .i64 0,.int .i64 0,.string ⟨#[]⟩,.slice none 0 0]) (t := 41) ?_;intro gb755 hg w3 hbox hb;have BK755 := am_ (hbox);have GW755 := zw_ HB hg;have GE755 := zw_ HB hg;replace HB := zs_ HB hb;clear hb hbox hg;obtain ⟨hcz4_0,hcz4_1,hcz4_2,hcz4_3,hcz4_4,hcz4_5,hcz4_6,hfz4_0,hfz4_1,hfz4_2,hfz4_3,hfz4_4,hfz4_5,hfz4_6⟩ := zc7 BK755))
  refine bodyPost_ret (results_ct rfl _ _ gb755 41 #[.bool false,.int .i64 0,.int .i64 0,.int .i64 0,.int .i64 0,.string ⟨#[]⟩,.slice none 0 0] (0,0) _ rfl (zq BK755) Try.underlying41 rfl (by kernel_rfl)) rfl ?_
  exact ⟨_,zt_,by first | exact Kd.R_nil _ _ _ _ _ | exact Kd.N_nil _ _ _ _ _ | exact Kd.V_nil _ _ _ _ _ | exact Kd.Q_nil _ _ _ _ _ | exact Kd.S_nil _ _ _ _ _,zl_ HB⟩
 ·rw [if_neg c2] at H
  have c2b0 : decide (65536 < (l0.length : Int)) = false := decide_eq_false c2
  have c2b1 : decide (65536 < l0.length) = false := decide_eq_false (by omega)
  clear c2
  replace H := Option.bind_eq_some_iff.mp H
  obtain ⟨⟨t756,t757,t758,t759,t760,t761,t762,t765⟩,A50,H⟩ := H
  try dsimp only at H
  have A5 := am_ A50
  clear A50
  by_cases c6 : t765 = true
  ·subst c6
   have H1 : (some (t756,t757,t758,t759,t760,t761,t762,0)) = some (r1,r2,r3,r4,r5,r6,r7,r8) := by rw [if_pos rfl] at H;exact H
   clear H
   have H := H1
   clear H1
   simp only [Option.some.injEq,Prod.mk.injEq] at H
   obtain ⟨rfl,rfl,rfl,rfl,rfl,rfl,rfl,rfl⟩ := H
   go_enter Try.func19,Try.ntmps19
   go_wp2_with (first | ((with_reducible refine gate_dst (N := 2) rfl ?_);refine zbx (N := 2) (cs := #[.bool false,.int .i64 0,.int .i64 0,.int .i64 0,.int .i64 0,.string ⟨#[]⟩,.slice none 0 0]) (t := 41) ?_;intro gb755 hg w7 hbox hb;have BK755 := am_ (hbox);have GW755 := zw_ HB hg;have GE755 := zw_ HB hg;replace HB := zs_ HB hb;clear hb hbox hg;have hcv8 := Kd.C_string (P := Try.prog) (A := A0) (c := c0) Try.underlying22 Try.underlying5 Try.underlying9 (Kd.C_below HR0.out HB.out)) | ((with_reducible refine gate_callee (f := 43) rfl ?_);refine zgl (some 13) Try.func43 #[.string (strOfNums l0)] ?_;(with_reducible refine (impl_readBatch.calls k (strOfNums l0) t756 t757 t758 t759 t760 t761 t762 true _ A5.out).mono ?_);rintro e w9 ⟨v763,rfl,ho0,hb⟩;refine ⟨_,rfl,?_⟩;have HO764 := am_ (Kd.R_lower ho0 (below_size (zl_ HB)));replace BK755 := zb BK755 hb;replace HB := zs_ HB hb;(try clear hb);(try clear hb2);(try clear hk);(try clear hi);(try clear ho0)) | ((with_reducible refine gate_dst (N := 4) rfl ?_);refine zbx (N := 4) (cs := #[.bool false,.int .i64 0,.int .i64 0,.int .i64 0,.int .i64 0,.string ⟨#[]⟩,.slice none 0 0]) (t := 41) ?_;intro gb766 hg w10 hbox hb;replace HO764 := zrb HO764 hb;have BK766 := am_ (hbox);have GW766 := zw_ HB hg;have GE766 := zw_ HB hg;replace HB := zs_ HB hb;have NB755_766 := zl hg BK755;have NB766_755 := zg hg BK755;replace BK755 := zb BK755 hb;clear hb hbox hg;have hnb11 := NB766_755.out;have hnc11 := NB755_766.out;obtain ⟨hcz12_0,hcz12_1,hcz12_2,hcz12_3,hcz12_4,hcz12_5,hcz12_6,hfz12_0,hfz12_1,hfz12_2,hfz12_3,hfz12_4,hfz12_5,hfz12_6⟩ := zc7 BK766;obtain ⟨Ao13,co13,eo13⟩ := Kd.R_slice HO764.out;subst eo13;obtain ⟨hcz14_0,hcz14_1,hcz14_2,hcz14_3,hcz14_4,hcz14_5,hcz14_6,hfz14_0,hfz14_1,hfz14_2,hfz14_3,hfz14_4,hfz14_5,hfz14_6⟩ := zc7 BK755))
   refine bodyPost_ret (results_ct rfl _ _ gb755 41 #[.bool t756,.int .i64 t757,.int .i64 t758,.int .i64 t759,.int .i64 t760,.string t761,.slice Ao13 t762.length co13] (0,0) _ rfl (zq BK755) Try.underlying41 rfl (by kernel_rfl)) rfl ?_
   exact ⟨_,zt_,by (with_reducible repeat (first | apply r1_ | apply r2_ | apply r3_));exact Kd.R_mono (Kd.Rf (Kd.Rf (Kd.Rf (Kd.Rf (Kd.Rf (Kd.Rf (Kd.Rf (Kd.R_far (p := ⟨gb766,6,none⟩) (Kd.R_far (p := ⟨gb766,5,none⟩) (Kd.R_far (p := ⟨gb766,4,none⟩) (Kd.R_far (p := ⟨gb766,3,none⟩) (Kd.R_far (p := ⟨gb766,2,none⟩) (Kd.R_far (p := ⟨gb766,1,none⟩) (Kd.R_far (p := ⟨gb766,0,none⟩) (Kd.R_types (Kd.R_types HO764.out BK766.out (by decide)) BK755.out (by decide)) (fun _ hk => hk.1.2) (.bool t756)) (fun _ hk => hk.1.2) (.int .i64 t757)) (fun _ hk => hk.1.2) (.int .i64 t758)) (fun _ hk => hk.1.2) (.int .i64 t759)) (fun _ hk => hk.1.2) (.int .i64 t760)) (fun _ hk => hk.1.2) (.string t761)) (fun _ hk => hk.1.2) (.slice Ao13 t762.length co13))))))))) (fun _ hk => trivial),zl_ HB⟩
  ·replace c6 := Bool.eq_false_iff.mpr c6
   subst c6
   have H1 : (some (false,0,0,0,0,(⟨#[]⟩ : ByteArray),([] : List (S70)),3)) = some (r1,r2,r3,r4,r5,r6,r7,r8) := by rw [if_neg (show ¬ (false = true) by decide)] at H;exact H
   clear H
   have H := H1
   clear H1
   simp only [Option.some.injEq,Prod.mk.injEq] at H
   obtain ⟨rfl,rfl,rfl,rfl,rfl,rfl,rfl,rfl⟩ := H
   go_enter Try.func19,Try.ntmps19
   go_wp2_with (first | ((with_reducible refine gate_dst (N := 2) rfl ?_);refine zbx (N := 2) (cs := #[.bool false,.int .i64 0,.int .i64 0,.int .i64 0,.int .i64 0,.string ⟨#[]⟩,.slice none 0 0]) (t := 41) ?_;intro gb755 hg w15 hbox hb;have BK755 := am_ (hbox);have GW755 := zw_ HB hg;have GE755 := zw_ HB hg;replace HB := zs_ HB hb;clear hb hbox hg;have hcv16 := Kd.C_string (P := Try.prog) (A := A0) (c := c0) Try.underlying22 Try.underlying5 Try.underlying9 (Kd.C_below HR0.out HB.out)) | ((with_reducible refine gate_callee (f := 43) rfl ?_);refine zgl (some 13) Try.func43 #[.string (strOfNums l0)] ?_;(with_reducible refine (impl_readBatch.calls k (strOfNums l0) t756 t757 t758 t759 t760 t761 t762 false _ A5.out).mono ?_);rintro e w17 ⟨v763,rfl,ho0,hb⟩;refine ⟨_,rfl,?_⟩;have HO764 := am_ (Kd.R_lower ho0 (below_size (zl_ HB)));replace BK755 := zb BK755 hb;replace HB := zs_ HB hb;(try clear hb);(try clear hb2);(try clear hk);(try clear hi);(try clear ho0)) | ((with_reducible refine gate_dst (N := 4) rfl ?_);refine zbx (N := 4) (cs := #[.bool false,.int .i64 0,.int .i64 0,.int .i64 0,.int .i64 0,.string ⟨#[]⟩,.slice none 0 0]) (t := 41) ?_;intro gb766 hg w18 hbox hb;replace HO764 := zrb HO764 hb;have BK766 := am_ (hbox);have GW766 := zw_ HB hg;have GE766 := zw_ HB hg;replace HB := zs_ HB hb;have NB755_766 := zl hg BK755;have NB766_755 := zg hg BK755;replace BK755 := zb BK755 hb;clear hb hbox hg;have hnb19 := NB766_755.out;have hnc19 := NB755_766.out;obtain ⟨hcz20_0,hcz20_1,hcz20_2,hcz20_3,hcz20_4,hcz20_5,hcz20_6,hfz20_0,hfz20_1,hfz20_2,hfz20_3,hfz20_4,hfz20_5,hfz20_6⟩ := zc7 BK766;obtain ⟨Ao21,co21,eo21⟩ := Kd.R_slice HO764.out;subst eo21;obtain ⟨hcz22_0,hcz22_1,hcz22_2,hcz22_3,hcz22_4,hcz22_5,hcz22_6,hfz22_0,hfz22_1,hfz22_2,hfz22_3,hfz22_4,hfz22_5,hfz22_6⟩ := zc7 BK755))
   refine bodyPost_ret (results_ct rfl _ _ gb755 41 #[.bool false,.int .i64 0,.int .i64 0,.int .i64 0,.int .i64 0,.string ⟨#[]⟩,.slice none 0 0] (0,0) _ rfl (zq BK755) Try.underlying41 rfl (by kernel_rfl)) rfl ?_
   exact ⟨_,zt_,by first | exact Kd.R_nil _ _ _ _ _ | exact Kd.N_nil _ _ _ _ _ | exact Kd.V_nil _ _ _ _ _ | exact Kd.Q_nil _ _ _ _ _ | exact Kd.S_nil _ _ _ _ _,zl_ HB⟩
set_option maxHeartbeats 8000000 in
set_option maxRecDepth 100000 in
theorem impl_ReadRequest.calls (k : Nat) (A0 : Option Addr) (c0 : Nat) (l0 : List Int) (r1 : Int) (r2 : Int) (r3 : Int) (r4 : Int) (r5 : ByteArray) (r6 : Int) (w : World) (hr0 : Kd.C (Kd.int .u8) w A0 l0.length l0) (hc0 : l0.length ≤ c0) (h : impl_ReadRequest.f k l0 = some (r1,r2,r3,r4,r5,r6)) :
  Calls Try.prog 14 #[.slice A0 l0.length c0] w fun e w' => e = .returned (.tuple #[.agg #[.int .i64 r1,.int .i64 r2,.int .i64 r3,.int .i64 r4,.string r5],.int .i64 r6]) ∧ Below w.heap.size w w' := by
 have hu33 := Try.underlying33
 have hu61 := Try.underlying61
 have HR0 := am_ hr0
 have HC0 := am_ hc0
 clear hr0 hc0
 have HB := am_ (Below.refl w.heap.size w)
 have H : (if (l0.length : Int) > 65536 then (some (0,0,0,0,(⟨#[]⟩ : ByteArray),2)) else ((impl_reader_request.f k (strOfNums l0) false).bind fun bt659 => ((impl_reader_done.f bt659.2.2.2.2.2.1 bt659.2.2.2.2.2.2).bind fun bt667 => (if bt667.1 = true then ((impl_RequestOK.f k bt659.1 bt659.2.1 bt659.2.2.1 bt659.2.2.2.1 bt659.2.2.2.2.1).bind fun t670 => (if t670 = true then (some (bt659.1,bt659.2.1,bt659.2.2.1,bt659.2.2.2.1,bt659.2.2.2.2.1,0)) else (some (0,0,0,0,(⟨#[]⟩ : ByteArray),3)))) else (some (0,0,0,0,(⟨#[]⟩ : ByteArray),3)))))) = some (r1,r2,r3,r4,r5,r6) := h
 clear h
 by_cases c2 : (l0.length : Int) > 65536
 ·rw [if_pos c2] at H
  have c2b0 : decide (65536 < (l0.length : Int)) = true := decide_eq_true c2
  have c2b1 : decide (65536 < l0.length) = true := decide_eq_true (by omega)
  clear c2
  simp only [Option.some.injEq,Prod.mk.injEq] at H
  obtain ⟨rfl,rfl,rfl,rfl,rfl,rfl⟩ := H
  go_enter Try.func14,Try.ntmps14
  go_wp2_with (first | ((with_reducible refine gate_dst (N := 2) rfl ?_);refine zbx (N := 2) (cs := #[.int .i64 0,.int .i64 0,.int .i64 0,.int .i64 0,.string ⟨#[]⟩]) (t := 33) ?_;intro gb657 hg w3 hbox hb;have BK657 := am_ (hbox);have GW657 := zw_ HB hg;have GE657 := zw_ HB hg;replace HB := zs_ HB hb;clear hb hbox hg;obtain ⟨hcz4_0,hcz4_1,hcz4_2,hcz4_3,hcz4_4,hfz4_0,hfz4_1,hfz4_2,hfz4_3,hfz4_4⟩ := zc5 BK657))
  refine bodyPost_ret (results_ct rfl _ _ gb657 33 #[.int .i64 0,.int .i64 0,.int .i64 0,.int .i64 0,.string ⟨#[]⟩] (0,0) _ rfl (zq BK657) Try.underlying33 rfl (by kernel_rfl)) rfl ?_
  exact ⟨zt_,zl_ HB⟩
 ·rw [if_neg c2] at H
  have c2b0 : decide (65536 < (l0.length : Int)) = false := decide_eq_false c2
  have c2b1 : decide (65536 < l0.length) = false := decide_eq_false (by omega)
  clear c2
  replace H := Option.bind_eq_some_iff.mp H
  obtain ⟨⟨t659,t660,t661,t662,t663,t664,t665⟩,A50,H⟩ := H
  try dsimp only at H
  have A5 := am_ A50
  clear A50
  replace H := Option.bind_eq_some_iff.mp H
  obtain ⟨⟨t667,t668,t669⟩,A60,H⟩ := H
  try dsimp only at H
  have A6 := am_ A60
  clear A60
  by_cases c7 : t667 = true
  ·subst c7
   have H1 : ((impl_RequestOK.f k t659 t660 t661 t662 t663).bind fun t670 => (if t670 = true then (some (t659,t660,t661,t662,t663,0)) else (some (0,0,0,0,(⟨#[]⟩ : ByteArray),3)))) = some (r1,r2,r3,r4,r5,r6) := by rw [if_pos rfl] at H;exact H
   clear H
   have H := H1
   clear H1
   replace H := Option.bind_eq_some_iff.mp H
   obtain ⟨t670,A80,H⟩ := H
   try dsimp only at H
   have A8 := am_ A80
   clear A80
   by_cases c9 : t670 = true
   ·subst c9
    have H1 : (some (t659,t660,t661,t662,t663,0)) = some (r1,r2,r3,r4,r5,r6) := by rw [if_pos rfl] at H;exact H
    clear H
    have H := H1
    clear H1
    simp only [Option.some.injEq,Prod.mk.injEq] at H
    obtain ⟨rfl,rfl,rfl,rfl,rfl,rfl⟩ := H
    go_enter Try.func14,Try.ntmps14
    go_wp2_with (first | ((with_reducible refine gate_dst (N := 2) rfl ?_);refine zbx (N := 2) (cs := #[.int .i64 0,.int .i64 0,.int .i64 0,.int .i64 0,.string ⟨#[]⟩]) (t := 33) ?_;intro gb657 hg w10 hbox hb;have BK657 := am_ (hbox);have GW657 := zw_ HB hg;have GE657 := zw_ HB hg;replace HB := zs_ HB hb;clear hb hbox hg;have hcv11 := Kd.C_string (P := Try.prog) (A := A0) (c := c0) Try.underlying22 Try.underlying5 Try.underlying9 (Kd.C_below HR0.out HB.out)) | ((with_reducible refine gate_dst (N := 13) rfl ?_);refine zbx (N := 13) (cs := #[.string (strOfNums l0),.bool false]) (t := 61) ?_;intro g658 hg w12 hbox hb;have HI658 := am_ ((show IsS61 w _ g658 (strOfNums l0) false from ⟨hbox,(by rw [hg];exact (below_size (zl_ HB)) : w.heap.size ≤ g658)⟩));replace HB := zs_ HB hb;have NB658_657 := zg hg BK657;have NB657_658 := zl hg BK657;replace BK657 := zb BK657 hb;clear hb hbox hg) | ((with_reducible refine gate_callee (f := 35) rfl ?_);refine zgl (some 15) Try.func35 #[.pointer (some ⟨g658,0,none⟩)] ?_;(with_reducible refine (impl_reader_request.calls k g658 (strOfNums l0) false t659 t660 t661 t662 t663 t664 t665 w _ ?side1 ?side2 A5.out).mono ?_);(case side1 => exact zi61 HI658);(case side2 => exact zl_ HB);rintro e w13 ⟨rfl,hi,hb,hk⟩;refine ⟨_,rfl,?_⟩;replace BK657 := zkb hk BK657 NB657_658;replace HB := am_ (hb);replace HI658 := am_ (hi);(try clear hb);(try clear hb2);(try clear hk);(try clear hi)) | ((with_reducible refine gate_dst (N := 5) rfl ?_);refine zbx (N := 5) (cs := #[.int .i64 0,.int .i64 0,.int .i64 0,.int .i64 0,.string ⟨#[]⟩]) (t := 33) ?_;intro gb666 hg w14 hbox hb;have BK666 := am_ (hbox);have GW666 := zw_ HB hg;have GE666 := zw_ HB hg;replace HB := zs_ HB hb;have NB657_666 := zl hg BK657;have NB666_657 := zg hg BK657;replace BK657 := zb BK657 hb;have NB658_666 := am_ ((by rw [hg];exact Nat.ne_of_lt (IsS61.lt (show IsS61 w _ g658 t664 t665 from (zi61 HI658))) : g658 ≠ gb666));have NB666_658 := am_ ((by rw [hg];exact Nat.ne_of_gt (IsS61.lt (show IsS61 w _ g658 t664 t665 from (zi61 HI658))) : gb666 ≠ g658));replace HI658 := am_ (IsS61.below (zi61 HI658) hb);clear hb hbox hg;have hnb15 := NB666_657.out;have hnc15 := NB657_666.out;have hnb16 := NB666_658.out;have hnc16 := NB658_666.out;obtain ⟨hcz17_0,hcz17_1,hcz17_2,hcz17_3,hcz17_4,hfz17_0,hfz17_1,hfz17_2,hfz17_3,hfz17_4⟩ := zc5 BK666) | ((with_reducible refine gate_callee (f := 36) rfl ?_);refine zgl (some 17) Try.func36 #[.pointer (some ⟨g658,0,none⟩)] ?_;(with_reducible refine (impl_reader_done.calls g658 t664 t665 true t668 t669 w _ ?side1 ?side2 A6.out).mono ?_);(case side1 => exact zi61 HI658);(case side2 => exact zl_ HB);rintro e w18 ⟨rfl,hi,hb,hk⟩;refine ⟨_,rfl,?_⟩;replace BK657 := am_ (KeepBut.blk hk (g' := gb657) (o := .cells #[.int .i64 0,.int .i64 0,.int .i64 0,.int .i64 0,.string ⟨#[]⟩] 33 (0,0)) (zq BK657) NB657_658.out (by simp));replace BK666 := am_ (KeepBut.blk hk (g' := gb666) (o := .cells #[.int .i64 t659,.int .i64 t660,.int .i64 t661,.int .i64 t662,.string t663] 33 (0,0)) (zq BK666) NB666_658.out (by simp));replace HB := am_ (hb);replace HI658 := am_ (hi);(try clear hb);(try clear hb2);(try clear hk);(try clear hi);obtain ⟨hcz19_0,hcz19_1,hcz19_2,hcz19_3,hcz19_4,hfz19_0,hfz19_1,hfz19_2,hfz19_3,hfz19_4⟩ := zc5 BK666) | (go_at_call 15;(with_reducible refine (impl_RequestOK.calls k t659 t660 t661 t662 t663 true _ A8.out).mono ?_);rintro e w20 ⟨rfl,hb⟩;replace BK657 := zb BK657 hb;replace HI658 := am_ (IsS61.below (zi61 HI658) hb);replace BK666 := zb BK666 hb;replace HB := zs_ HB hb;(try clear hb);(try clear hb2);(try clear hk);(try clear hi);obtain ⟨hcz21_0,hcz21_1,hcz21_2,hcz21_3,hcz21_4,hfz21_0,hfz21_1,hfz21_2,hfz21_3,hfz21_4⟩ := zc5 BK666;have hnb22 := NB657_658.out;have hnc22 := NB658_657.out;obtain ⟨hcz23_0,hcz23_1,hcz23_2,hcz23_3,hcz23_4,hfz23_0,hfz23_1,hfz23_2,hfz23_3,hfz23_4⟩ := zc5 BK657))
    refine bodyPost_ret (results_ct rfl _ _ gb657 33 #[.int .i64 t659,.int .i64 t660,.int .i64 t661,.int .i64 t662,.string t663] (0,0) _ rfl (zq BK657) Try.underlying33 rfl (by kernel_rfl)) rfl ?_
    exact ⟨zt_,zl_ HB⟩
   ·replace c9 := Bool.eq_false_iff.mpr c9
    subst c9
    have H1 : (some (0,0,0,0,(⟨#[]⟩ : ByteArray),3)) = some (r1,r2,r3,r4,r5,r6) := by rw [if_neg (show ¬ (false = true) by decide)] at H;exact H
    clear H
    have H := H1
    clear H1
    simp only [Option.some.injEq,Prod.mk.injEq] at H
    obtain ⟨rfl,rfl,rfl,rfl,rfl,rfl⟩ := H
    go_enter Try.func14,Try.ntmps14
    go_wp2_with (first | ((with_reducible refine gate_dst (N := 2) rfl ?_);refine zbx (N := 2) (cs := #[.int .i64 0,.int .i64 0,.int .i64 0,.int .i64 0,.string ⟨#[]⟩]) (t := 33) ?_;intro gb657 hg w24 hbox hb;have BK657 := am_ (hbox);have GW657 := zw_ HB hg;have GE657 := zw_ HB hg;replace HB := zs_ HB hb;clear hb hbox hg;have hcv25 := Kd.C_string (P := Try.prog) (A := A0) (c := c0) Try.underlying22 Try.underlying5 Try.underlying9 (Kd.C_below HR0.out HB.out)) | ((with_reducible refine gate_dst (N := 13) rfl ?_);refine zbx (N := 13) (cs := #[.string (strOfNums l0),.bool false]) (t := 61) ?_;intro g658 hg w26 hbox hb;have HI658 := am_ ((show IsS61 w _ g658 (strOfNums l0) false from ⟨hbox,(by rw [hg];exact (below_size (zl_ HB)) : w.heap.size ≤ g658)⟩));replace HB := zs_ HB hb;have NB658_657 := zg hg BK657;have NB657_658 := zl hg BK657;replace BK657 := zb BK657 hb;clear hb hbox hg) | ((with_reducible refine gate_callee (f := 35) rfl ?_);refine zgl (some 15) Try.func35 #[.pointer (some ⟨g658,0,none⟩)] ?_;(with_reducible refine (impl_reader_request.calls k g658 (strOfNums l0) false t659 t660 t661 t662 t663 t664 t665 w _ ?side1 ?side2 A5.out).mono ?_);(case side1 => exact zi61 HI658);(case side2 => exact zl_ HB);rintro e w27 ⟨rfl,hi,hb,hk⟩;refine ⟨_,rfl,?_⟩;replace BK657 := zkb hk BK657 NB657_658;replace HB := am_ (hb);replace HI658 := am_ (hi);(try clear hb);(try clear hb2);(try clear hk);(try clear hi)) | ((with_reducible refine gate_dst (N := 5) rfl ?_);refine zbx (N := 5) (cs := #[.int .i64 0,.int .i64 0,.int .i64 0,.int .i64 0,.string ⟨#[]⟩]) (t := 33) ?_;intro gb666 hg w28 hbox hb;have BK666 := am_ (hbox);have GW666 := zw_ HB hg;have GE666 := zw_ HB hg;replace HB := zs_ HB hb;have NB657_666 := zl hg BK657;have NB666_657 := zg hg BK657;replace BK657 := zb BK657 hb;have NB658_666 := am_ ((by rw [hg];exact Nat.ne_of_lt (IsS61.lt (show IsS61 w _ g658 t664 t665 from (zi61 HI658))) : g658 ≠ gb666));have NB666_658 := am_ ((by rw [hg];exact Nat.ne_of_gt (IsS61.lt (show IsS61 w _ g658 t664 t665 from (zi61 HI658))) : gb666 ≠ g658));replace HI658 := am_ (IsS61.below (zi61 HI658) hb);clear hb hbox hg;have hnb29 := NB666_657.out;have hnc29 := NB657_666.out;have hnb30 := NB666_658.out;have hnc30 := NB658_666.out;obtain ⟨hcz31_0,hcz31_1,hcz31_2,hcz31_3,hcz31_4,hfz31_0,hfz31_1,hfz31_2,hfz31_3,hfz31_4⟩ := zc5 BK666) | ((with_reducible refine gate_callee (f := 36) rfl ?_);refine zgl (some 17) Try.func36 #[.pointer (some ⟨g658,0,none⟩)] ?_;(with_reducible refine (impl_reader_done.calls g658 t664 t665 true t668 t669 w _ ?side1 ?side2 A6.out).mono ?_);(case side1 => exact zi61 HI658);(case side2 => exact zl_ HB);rintro e w32 ⟨rfl,hi,hb,hk⟩;refine ⟨_,rfl,?_⟩;replace BK657 := am_ (KeepBut.blk hk (g' := gb657) (o := .cells #[.int .i64 0,.int .i64 0,.int .i64 0,.int .i64 0,.string ⟨#[]⟩] 33 (0,0)) (zq BK657) NB657_658.out (by simp));replace BK666 := am_ (KeepBut.blk hk (g' := gb666) (o := .cells #[.int .i64 t659,.int .i64 t660,.int .i64 t661,.int .i64 t662,.string t663] 33 (0,0)) (zq BK666) NB666_658.out (by simp));replace HB := am_ (hb);replace HI658 := am_ (hi);(try clear hb);(try clear hb2);(try clear hk);(try clear hi);obtain ⟨hcz33_0,hcz33_1,hcz33_2,hcz33_3,hcz33_4,hfz33_0,hfz33_1,hfz33_2,hfz33_3,hfz33_4⟩ := zc5 BK666) | (go_at_call 15;(with_reducible refine (impl_RequestOK.calls k t659 t660 t661 t662 t663 false _ A8.out).mono ?_);rintro e w34 ⟨rfl,hb⟩;replace BK657 := zb BK657 hb;replace HI658 := am_ (IsS61.below (zi61 HI658) hb);replace HB := zs_ HB hb;(try clear hb);(try clear hb2);(try clear hk);(try clear hi);have hnb35 := NB657_658.out;have hnc35 := NB658_657.out;obtain ⟨hcz36_0,hcz36_1,hcz36_2,hcz36_3,hcz36_4,hfz36_0,hfz36_1,hfz36_2,hfz36_3,hfz36_4⟩ := zc5 BK657))
    refine bodyPost_ret (results_ct rfl _ _ gb657 33 #[.int .i64 0,.int .i64 0,.int .i64 0,.int .i64 0,.string ⟨#[]⟩] (0,0) _ rfl (zq BK657) Try.underlying33 rfl (by kernel_rfl)) rfl ?_
    exact ⟨zt_,zl_ HB⟩
  ·replace c7 := Bool.eq_false_iff.mpr c7
   subst c7
   have H1 : (some (0,0,0,0,(⟨#[]⟩ : ByteArray),3)) = some (r1,r2,r3,r4,r5,r6) := by rw [if_neg (show ¬ (false = true) by decide)] at H;exact H
   clear H
   have H := H1
   clear H1
   simp only [Option.some.injEq,Prod.mk.injEq] at H
   obtain ⟨rfl,rfl,rfl,rfl,rfl,rfl⟩ := H
   go_enter Try.func14,Try.ntmps14
   go_wp2_with (first | ((with_reducible refine gate_dst (N := 2) rfl ?_);refine zbx (N := 2) (cs := #[.int .i64 0,.int .i64 0,.int .i64 0,.int .i64 0,.string ⟨#[]⟩]) (t := 33) ?_;intro gb657 hg w37 hbox hb;have BK657 := am_ (hbox);have GW657 := zw_ HB hg;have GE657 := zw_ HB hg;replace HB := zs_ HB hb;clear hb hbox hg;have hcv38 := Kd.C_string (P := Try.prog) (A := A0) (c := c0) Try.underlying22 Try.underlying5 Try.underlying9 (Kd.C_below HR0.out HB.out)) | ((with_reducible refine gate_dst (N := 13) rfl ?_);refine zbx (N := 13) (cs := #[.string (strOfNums l0),.bool false]) (t := 61) ?_;intro g658 hg w39 hbox hb;have HI658 := am_ ((show IsS61 w _ g658 (strOfNums l0) false from ⟨hbox,(by rw [hg];exact (below_size (zl_ HB)) : w.heap.size ≤ g658)⟩));replace HB := zs_ HB hb;have NB658_657 := zg hg BK657;have NB657_658 := zl hg BK657;replace BK657 := zb BK657 hb;clear hb hbox hg) | ((with_reducible refine gate_callee (f := 35) rfl ?_);refine zgl (some 15) Try.func35 #[.pointer (some ⟨g658,0,none⟩)] ?_;(with_reducible refine (impl_reader_request.calls k g658 (strOfNums l0) false t659 t660 t661 t662 t663 t664 t665 w _ ?side1 ?side2 A5.out).mono ?_);(case side1 => exact zi61 HI658);(case side2 => exact zl_ HB);rintro e w40 ⟨rfl,hi,hb,hk⟩;refine ⟨_,rfl,?_⟩;replace BK657 := zkb hk BK657 NB657_658;replace HB := am_ (hb);replace HI658 := am_ (hi);(try clear hb);(try clear hb2);(try clear hk);(try clear hi)) | ((with_reducible refine gate_dst (N := 5) rfl ?_);refine zbx (N := 5) (cs := #[.int .i64 0,.int .i64 0,.int .i64 0,.int .i64 0,.string ⟨#[]⟩]) (t := 33) ?_;intro gb666 hg w41 hbox hb;have BK666 := am_ (hbox);have GW666 := zw_ HB hg;have GE666 := zw_ HB hg;replace HB := zs_ HB hb;have NB657_666 := zl hg BK657;have NB666_657 := zg hg BK657;replace BK657 := zb BK657 hb;have NB658_666 := am_ ((by rw [hg];exact Nat.ne_of_lt (IsS61.lt (show IsS61 w _ g658 t664 t665 from (zi61 HI658))) : g658 ≠ gb666));have NB666_658 := am_ ((by rw [hg];exact Nat.ne_of_gt (IsS61.lt (show IsS61 w _ g658 t664 t665 from (zi61 HI658))) : gb666 ≠ g658));replace HI658 := am_ (IsS61.below (zi61 HI658) hb);clear hb hbox hg;have hnb42 := NB666_657.out;have hnc42 := NB657_666.out;have hnb43 := NB666_658.out;have hnc43 := NB658_666.out;obtain ⟨hcz44_0,hcz44_1,hcz44_2,hcz44_3,hcz44_4,hfz44_0,hfz44_1,hfz44_2,hfz44_3,hfz44_4⟩ := zc5 BK666) | ((with_reducible refine gate_callee (f := 36) rfl ?_);refine zgl (some 17) Try.func36 #[.pointer (some ⟨g658,0,none⟩)] ?_;(with_reducible refine (impl_reader_done.calls g658 t664 t665 false t668 t669 w _ ?side1 ?side2 A6.out).mono ?_);(case side1 => exact zi61 HI658);(case side2 => exact zl_ HB);rintro e w45 ⟨rfl,hi,hb,hk⟩;refine ⟨_,rfl,?_⟩;replace BK657 := am_ (KeepBut.blk hk (g' := gb657) (o := .cells #[.int .i64 0,.int .i64 0,.int .i64 0,.int .i64 0,.string ⟨#[]⟩] 33 (0,0)) (zq BK657) NB657_658.out (by simp));replace HB := am_ (hb);replace HI658 := am_ (hi);(try clear hb);(try clear hb2);(try clear hk);(try clear hi);have hnb46 := NB657_658.out;have hnc46 := NB658_657.out;obtain ⟨hcz47_0,hcz47_1,hcz47_2,hcz47_3,hcz47_4,hfz47_0,hfz47_1,hfz47_2,hfz47_3,hfz47_4⟩ := zc5 BK657))
   refine bodyPost_ret (results_ct rfl _ _ gb657 33 #[.int .i64 0,.int .i64 0,.int .i64 0,.int .i64 0,.string ⟨#[]⟩] (0,0) _ rfl (zq BK657) Try.underlying33 rfl (by kernel_rfl)) rfl ?_
   exact ⟨zt_,zl_ HB⟩
set_option maxHeartbeats 8000000 in
set_option maxRecDepth 100000 in
theorem impl_RequestBytes.calls (k : Nat) (a0_0 : Int) (a0_1 : Int) (a0_2 : Int) (a0_3 : Int) (a0_4 : ByteArray) (r1 : List Int) (r2 : Int) (w : World) (h : impl_RequestBytes.f k a0_0 a0_1 a0_2 a0_3 a0_4 = some (r1,r2)) :
  Calls Try.prog 12 #[.agg #[.int .i64 a0_0,.int .i64 a0_1,.int .i64 a0_2,.int .i64 a0_3,.string a0_4]] w fun e w' => ∃ v0_ : Value,e = .returned (.tuple #[v0_,.int .i64 r2]) ∧ Kd.V (Kd.int .u8) 5 w' w.heap.size (fun k_ => (w.heap.size ≤ k_)) v0_ r1 ∧ Below w.heap.size w w' := by
 have hu33 := Try.underlying33
 have HB := am_ (Below.refl w.heap.size w)
 have H : ((impl_RequestOK.f k a0_0 a0_1 a0_2 a0_3 a0_4).bind fun t616 => (if t616 = true then ((impl_requestText.f k a0_0 a0_1 a0_2 a0_3 a0_4).bind fun t617 => (if t617.size ≤ 140737488355328 then (some ((bytesOf t617),0)) else (none))) else (some (([] : List Int),1)))) = some (r1,r2) := h
 clear h
 replace H := Option.bind_eq_some_iff.mp H
 obtain ⟨t616,A20,H⟩ := H
 try dsimp only at H
 have A2 := am_ A20
 clear A20
 by_cases c3 : t616 = true
 ·subst c3
  have H1 : ((impl_requestText.f k a0_0 a0_1 a0_2 a0_3 a0_4).bind fun t617 => (if t617.size ≤ 140737488355328 then (some ((bytesOf t617),0)) else (none))) = some (r1,r2) := by rw [if_pos rfl] at H;exact H
  clear H
  have H := H1
  clear H1
  replace H := Option.bind_eq_some_iff.mp H
  obtain ⟨t617,A40,H⟩ := H
  try dsimp only at H
  have A4 := am_ A40
  clear A40
  by_cases c5 : t617.size ≤ 140737488355328
  ·rw [if_pos c5] at H
   have c5b0 := eq_true c5
   have c5b1 : decide (t617.size ≤ 140737488355328) = true := decide_eq_true c5
   clear c5
   obtain ⟨y618,hy618⟩ : ∃ y_ : List Int,y_ = (bytesOf t617) := ⟨_,rfl⟩
   replace H : (some (y618,0)) = some (r1,r2) := by first | (rw [hy618];with_reducible exact H) | (have H2_ := (Option.bind_some _ _).symm.trans H;rw [hy618];with_reducible exact H2_) | (have H2_ := (Option.bind_some _ _).symm.trans H;with_reducible exact H2_) | with_reducible exact H | (rw [hy618];exact H) | exact H
   have Ny618 := am_ hy618
   clear hy618
   simp only [Option.some.injEq,Prod.mk.injEq] at H
   obtain ⟨rfl,rfl⟩ := H
   go_enter Try.func12,Try.ntmps12
   go_wp2_with (first | ((with_reducible refine gate_dst (N := 1) rfl ?_);refine zbx (N := 1) (cs := #[.int .i64 a0_0,.int .i64 a0_1,.int .i64 a0_2,.int .i64 a0_3,.string a0_4]) (t := 33) ?_;intro gb615 hg w6 hbox hb;have BK615 := am_ (hbox);have GW615 := zw_ HB hg;have GE615 := zw_ HB hg;replace HB := zs_ HB hb;clear hb hbox hg;obtain ⟨hcz7_0,hcz7_1,hcz7_2,hcz7_3,hcz7_4,hfz7_0,hfz7_1,hfz7_2,hfz7_3,hfz7_4⟩ := zc5 BK615) | ((with_reducible refine gate_callee (f := 15) rfl ?_);refine zgl (some 5) Try.func15 #[.agg #[.int .i64 a0_0,.int .i64 a0_1,.int .i64 a0_2,.int .i64 a0_3,.string a0_4]] ?_;(with_reducible refine (impl_RequestOK.calls k a0_0 a0_1 a0_2 a0_3 a0_4 true _ A2.out).mono ?_);rintro e w8 ⟨rfl,hb⟩;refine ⟨_,rfl,?_⟩;replace BK615 := zb BK615 hb;replace HB := zs_ HB hb;(try clear hb);(try clear hb2);(try clear hk);(try clear hi);obtain ⟨hcz9_0,hcz9_1,hcz9_2,hcz9_3,hcz9_4,hfz9_0,hfz9_1,hfz9_2,hfz9_3,hfz9_4⟩ := zc5 BK615) | ((with_reducible refine gate_callee (f := 32) rfl ?_);refine zgl (some 8) Try.func32 #[.agg #[.int .i64 a0_0,.int .i64 a0_1,.int .i64 a0_2,.int .i64 a0_3,.string a0_4]] ?_;(with_reducible refine (impl_requestText.calls k a0_0 a0_1 a0_2 a0_3 a0_4 t617 _ A4.out).mono ?_);rintro e w10 ⟨rfl,hb⟩;refine ⟨_,rfl,?_⟩;replace BK615 := zb BK615 hb;replace HB := zs_ HB hb;(try clear hb);(try clear hb2);(try clear hk);(try clear hi)) | ((with_reducible refine gate_dst (N := 9) rfl ?_);refine Kd.V_conv (Kd.int .u8) rfl _ 5 rfl (N := 9) rfl 9 22 _ rfl t617 rfl Try.underlying9 Try.underlying22 Try.underlying5 (ok := fun k_ => w10.heap.size ≤ k_) (okp := fun _ => False) (fun _ hk => hk.elim) (Nat.le_refl _) (by have := o1_ (by first | (with_reducible assumption) | assumption : decide (t617.size ≤ 140737488355328) = true);omega) (Below.refl _ _) (Nat.le_refl _) ?_;intro v619 w11 ho12 hb hg_ hnew_;clear hg_ hnew_;(first | rw [← Ny618.out] at ho12 | (simp only [Int.reduceToNat] at ho12;rw [← Ny618.out] at ho12));have HO620 := am_ (Kd.V_lower (Kd.V_mono (ok' := fun k_ => (w.heap.size ≤ k_) ∧ k_ ≠ gb615) ho12 (fun k_ hk_ => ⟨(Nat.le_trans (below_size (zl_ HB)) hk_),(Kd.freshB (g := gb615) (o := .cells #[.int .i64 a0_0,.int .i64 a0_1,.int .i64 a0_2,.int .i64 a0_3,.string a0_4] 33 (0,0)) (zk BK615) k_ hk_)⟩)) (below_size (zl_ HB)));replace HB := zs_ HB hb;clear hb ho12))
   go_ret2
   exact ⟨_,zt_,by (with_reducible repeat (first | apply Kd.V_alloc | apply Kd.V_drewN | apply Kd.V_drew));exact Kd.V_mono HO620.out (fun _ hk => hk.1),zl_ HB⟩
  ·rw [if_neg c5] at H
   exact absurd H (by simp)
 ·replace c3 := Bool.eq_false_iff.mpr c3
  subst c3
  have H1 : (some (([] : List Int),1)) = some (r1,r2) := by rw [if_neg (show ¬ (false = true) by decide)] at H;exact H
  clear H
  have H := H1
  clear H1
  simp only [Option.some.injEq,Prod.mk.injEq] at H
  obtain ⟨rfl,rfl⟩ := H
  go_enter Try.func12,Try.ntmps12
  go_wp2_with (first | ((with_reducible refine gate_dst (N := 1) rfl ?_);refine zbx (N := 1) (cs := #[.int .i64 a0_0,.int .i64 a0_1,.int .i64 a0_2,.int .i64 a0_3,.string a0_4]) (t := 33) ?_;intro gb615 hg w13 hbox hb;have BK615 := am_ (hbox);have GW615 := zw_ HB hg;have GE615 := zw_ HB hg;replace HB := zs_ HB hb;clear hb hbox hg;obtain ⟨hcz14_0,hcz14_1,hcz14_2,hcz14_3,hcz14_4,hfz14_0,hfz14_1,hfz14_2,hfz14_3,hfz14_4⟩ := zc5 BK615) | ((with_reducible refine gate_callee (f := 15) rfl ?_);refine zgl (some 5) Try.func15 #[.agg #[.int .i64 a0_0,.int .i64 a0_1,.int .i64 a0_2,.int .i64 a0_3,.string a0_4]] ?_;(with_reducible refine (impl_RequestOK.calls k a0_0 a0_1 a0_2 a0_3 a0_4 false _ A2.out).mono ?_);rintro e w15 ⟨rfl,hb⟩;refine ⟨_,rfl,?_⟩;replace HB := zs_ HB hb;(try clear hb);(try clear hb2);(try clear hk);(try clear hi)))
  go_ret2
  exact ⟨_,zt_,(by first | exact Kd.V_nil _ _ _ _ _ | exact Kd.R_V (base := w.heap.size) (Kd.R_nil _ _ _ _ _)),zl_ HB⟩
theorem eqA70 (d : Nat) (w : World) (x0 y0 : Int) (x1 y1 : Int) (x2 y2 : ByteArray) :
    (Op.equalIn (d + 2) 70 (.agg #[.int .i64 x0, .int .i64 x1, .string x2]) (.agg #[.int .i64 y0, .int .i64 y1, .string y2])).run Try.prog w = .ok (x0 == y0 && (x1 == y1 && (x2.toList == y2.toList))) w := by
  refine eqA_of Try.underlying70 (by kernel_rfl) ?_
  refine eqf_cons (by rfl) (by go_simp; rfl) (by go_simp; rfl) (by go_simp) ?_
  refine eqf_cons (by rfl) (by go_simp; rfl) (by go_simp; rfl) (by go_simp) ?_
  exact eqf_last (by rfl) (by go_simp; rfl) (by go_simp; rfl) (by go_simp)
end Go.Proofs.Ytdpdbegglkdgnaa.A
end
