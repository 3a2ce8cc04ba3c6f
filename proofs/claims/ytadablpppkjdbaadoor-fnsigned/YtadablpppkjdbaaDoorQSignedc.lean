/- A part of the proof that FnSigned returns true at every input: plain functions, contracts and lemmas. No conditions. -/
import Derived.Test.YtadablpppkjdbaaDoorQSignedb
import Derived.Lib.SlBy
import Derived.Lib.Walk
import Derived.StillTailTactics
set_option linter.unusedVariables false
set_option linter.unusedSimpArgs false
set_option linter.unusedSectionVars false
section
namespace Go.Proofs.YtadablpppkjdbaaDoor.A
open Go.RowKit Go.Proofs.YtadablpppkjdbaaDoorW.PrintWords Go.Proofs.YtadablpppkjdbaaDoorW.PrintLast Go.Proofs.YtadablpppkjdbaaDoorW.PrintMore
abbrev k1_ := @blk_drewN
abbrev k2_ := @blk_drew
abbrev k3_ := @blk_alloc
abbrev b1_ := @below_alloc
abbrev b2_ := @pw_below_drewN
abbrev b3_ := @below_drew1
abbrev r1_ := @Kd.R_alloc
abbrev r2_ := @Kd.R_drewN
abbrev r3_ := @Kd.R_drew
theorem d1_ {α : Type _} (l : List α) (i : Nat) : (l.drop i).length = l.length - i := List.length_drop
theorem d2_ {α : Type _} (l : List α) (i : Nat) : (l.take i).length = min i l.length := List.length_take
theorem o1_ {p : Prop} [Decidable p] (h : decide p = true) : p := of_decide_eq_true h
theorem e3_ (l : List UInt8) : (l == []) = l.isEmpty := mp_beq_nil l
theorem e4_ (l : List UInt8) : (l != []) = !l.isEmpty := mp_bne_nil l
theorem am_ {p : Prop} (h : p) : Aside0 p := ⟨h⟩
theorem p1_ {α : Type _} (l : List α) (i : Nat) (a : α) : l.toArray.setIfInBounds i a = (l.set i a).toArray := List.setIfInBounds_toArray ..
theorem p2_ {α : Type _} (x : α) (xs : List α) (a : α) : (x :: xs).set 0 a = a :: xs := List.set_cons_zero
theorem p3_ {α : Type _} (x : α) (xs : List α) (i : Nat) (a : α) : (x :: xs).set (i + 1) a = x :: xs.set i a := List.set_cons_succ
theorem m1_ {α β : Type _} (f : α → β) (l : List α) : l.toArray.map f = (l.map f).toArray := List.map_toArray
theorem m2_ {α β : Type _} (f : α → β) (a : α) (l : List α) : (a :: l).map f = f a :: l.map f := List.map_cons
theorem m3_ {α β : Type _} (f : α → β) : ([] : List α).map f = [] := List.map_nil
attribute [local go_sem] max2_int min2_int max_two min_two max_three min_three max_four min_four
def errW : Option Int → Value
  | none => .nilIface
  | some c => .iface 0 (.int .i64 c)
theorem errW_none : errW none = .nilIface := rfl
theorem errW_some (c : Int) : errW (some c) = .iface 0 (.int .i64 c) := rfl
theorem e1_ : errW none = .nilIface := rfl
theorem e2_ (c : Int) : errW (some c) = .iface 0 (.int .i64 c) := rfl
theorem info5 : (Tryd.prog.info? 5).map (fun i => (i.zero, i.size, i.bytes)) = some (some (.int .u8 0), 1, 1) := by kernel_rfl
theorem info153 : (Tryd.prog.info? 153).map (fun i => (i.zero, i.size, i.bytes)) = some (some (.int .u32 0), 1, 4) := by kernel_rfl
theorem info182 : (Tryd.prog.info? 182).map (fun i => (i.zero, i.size, i.bytes)) = some (some (.agg #[(.int .i64 0), (.int .i64 0), (.string ⟨#[]⟩)]), 3, 32) := by kernel_rfl
def k182 : Kd S182 := Kd.iso (Kd.pair (Kd.int .i64) (Kd.pair (Kd.int .i64) Kd.string)) (fun x : S182 => (x.f0, x.f1, x.f2))
theorem k182_open {w : World} {x : S182} {cs : List Value} (h : k182.K w x cs) : cs = [.int .i64 x.f0, .int .i64 x.f1, .string x.f2] := by
  obtain ⟨_, _, rfl, rfl, ⟨_, _, rfl, rfl, rfl⟩⟩ := h
  exact rfl
theorem k182_mkM (w : World) (base : Nat) (ok : Nat → Prop) (x : S182)  : k182.M w base ok x [.int .i64 x.f0, .int .i64 x.f1, .string x.f2] := ⟨[.int .i64 x.f0], [.int .i64 x.f1, .string x.f2], rfl, rfl, ⟨[.int .i64 x.f1], [.string x.f2], rfl, rfl, rfl⟩⟩
theorem at_T182 {w : World} {A : Option Addr} {n : Nat} {xs : List S182} (h : Kd.C k182 w A n xs) (i : Int) (h0 : 0 ≤ i) (h1 : i < n) : ∃ ad , A = some ad ∧ w.cell? (ad.add (i.toNat * 3)) = some (.int .i64 (rd_T182 xs i).f0) ∧ w.cell? ⟨(ad.add (i.toNat * 3)).block, (ad.add (i.toNat * 3)).off + 1, none⟩ = some (.int .i64 (rd_T182 xs i).f1) ∧ w.cell? ⟨(ad.add (i.toNat * 3)).block, (ad.add (i.toNat * 3)).off + 2, none⟩ = some (.string (rd_T182 xs i).f2) := by
  obtain ⟨ad, c, e, _, hK, hc0⟩ := Kd.C_get h z182 i h0 h1
  have hc : ∀ j u, c[j]? = some u → w.cell? (ad.add (i.toNat * 3 + j)) = some u := hc0
  obtain rfl := k182_open hK
  exact ⟨ad, e, hc 0 _ rfl, by rw [← add_field _ _ 1 (by omega)]; exact hc 1 _ rfl, by rw [← add_field _ _ 2 (by omega)]; exact hc 2 _ rfl⟩
/-- A state of type 138 at block g of W; what its slices lead to came in by w0. -/
def IsS138 (w0 W : World) (g : Nat) (f0 : List Int) (f1 : Int) (f2 : Int) : Prop := ∃ A0 c0, W.heap[g]? = some (.cells #[.slice A0 f0.length c0, .int .i64 f1, .int .i64 f2] 138 (0, 0)) ∧ w0.heap.size ≤ g ∧ Kd.C (Kd.int .u8) w0 A0 f0.length f0
theorem IsS138.grown {w0 W : World} {g : Nat} {f0 : List Int} {f1 : Int} {f2 : Int} {W1 : World} {row : Option Nat} (h : IsS138 w0 W g f0 f1 f2) (hw : W.grownBy W1 row) (hne : some g ≠ row) : IsS138 w0 W1 g f0 f1 f2 := by
  obtain ⟨A0, c0, hb, hg, hr0⟩ := h
  exact ⟨A0, c0, blk_grown hb hw hne, hg, hr0⟩
theorem IsS138.kept {w0 W : World} {g : Nat} {f0 : List Int} {f1 : Int} {f2 : Int} {W1 : World} {S : Nat → Prop} (h : IsS138 w0 W g f0 f1 f2) (hk : Kept W W1 S) (hne : ¬ S g) : IsS138 w0 W1 g f0 f1 f2 := by
  obtain ⟨A0, c0, hb, hg, hr0⟩ := h
  exact ⟨A0, c0, blk_kept hb hk hne, hg, hr0⟩
theorem IsS138.below {w0 W : World} {g : Nat} {f0 : List Int} {f1 : Int} {f2 : Int} {W1 : World} (h : IsS138 w0 W g f0 f1 f2) (hw : Below W.heap.size W W1) : IsS138 w0 W1 g f0 f1 f2 := h.grown (grown_of_below hw none) (by simp)
theorem IsS138.alloc {w0 W : World} {g : Nat} {f0 : List Int} {f1 : Int} {f2 : Int} (h : IsS138 w0 W g f0 f1 f2) (o : Obj) : IsS138 w0 (W.alloc o) g f0 f1 f2 := h.below (below_alloc (Below.refl _ _) o)
theorem IsS138.drewN {w0 W : World} {g : Nat} {f0 : List Int} {f1 : Int} {f2 : Int} (h : IsS138 w0 W g f0 f1 f2) (m : Nat) : IsS138 w0 (W.drewN m) g f0 f1 f2 := h
theorem IsS138.drew {w0 W : World} {g : Nat} {f0 : List Int} {f1 : Int} {f2 : Int} (h : IsS138 w0 W g f0 f1 f2) : IsS138 w0 W.drew g f0 f1 f2 := h
theorem IsS138.at_ {w0 W : World} {g : Nat} {f0 : List Int} {f1 : Int} {f2 : Int} {w' : World} {m : Nat} (hq : W.drewN m = w') (h : IsS138 w0 W g f0 f1 f2) : IsS138 w0 w' g f0 f1 f2 := by subst hq; exact IsS138.drewN h m
theorem IsS138.apart {w0 W : World} {g : Nat} {f0 : List Int} {f1 : Int} {f2 : Int} {α : Type} {d : Kd α} {e : Nat} {base : Nat} {ok : Nat → Prop} {v : Value} {xs : List α} (h : IsS138 w0 W g f0 f1 f2) (ho : d.R e W base ok v xs) (ht : ∀ q, q ∈ e :: d.E → q ≠ 138) : d.R e W base (fun k => ok k ∧ k ≠ g) v xs := by
  obtain ⟨A0, c0, hb, hg, hr0⟩ := h
  exact Kd.R_types ho hb ht
theorem IsS138.own_ne {w0 W : World} {g : Nat} {f0 : List Int} {f1 : Int} {f2 : Int} {α : Type} {d : Kd α} {e : Nat} {base : Nat} {ok : Nat → Prop} {v : Value} {xs : List α} (h : IsS138 w0 W g f0 f1 f2) (ho : d.R e W base ok v xs) (ht : e ≠ 138) : some g ≠ v.ownBlock := by
  obtain ⟨A0, c0, hb, hg, hr0⟩ := h
  exact Kd.R_ne ho hb ht
theorem IsS138.lt {w0 W : World} {g : Nat} {f0 : List Int} {f1 : Int} {f2 : Int} (h : IsS138 w0 W g f0 f1 f2) : g < W.heap.size := by
  obtain ⟨A0, c0, hb, hg, hr0⟩ := h
  exact blk_lt hb
theorem IsS138.ge {w0 W : World} {g : Nat} {f0 : List Int} {f1 : Int} {f2 : Int} (h : IsS138 w0 W g f0 f1 f2) : w0.heap.size ≤ g := by
  obtain ⟨A0, c0, hb, hg, hr0⟩ := h
  exact hg
theorem IsS138.ne_blk {w0 W : World} {g : Nat} {f0 : List Int} {f1 : Int} {f2 : Int} {a : Nat} {cs : Array Value} {t : TypeId} {fr : Nat × Nat} (h : IsS138 w0 W g f0 f1 f2) (hb2 : W.heap[a]? = some (.cells cs t fr)) (ht : t ≠ 138) : g ≠ a := by
  obtain ⟨A0, c0, hb, hg, hr0⟩ := h
  rintro rfl
  rw [hb] at hb2
  injection hb2 with hb2
  injection hb2 with _ ht2
  exact ht ht2.symm
theorem IsS138.far {w0 W : World} {g : Nat} {f0 : List Int} {f1 : Int} {f2 : Int} {p : Addr} (h : IsS138 w0 W g f0 f1 f2) (hne : g ≠ p.block) (u : Value) : IsS138 w0 (W.setCell p u) g f0 f1 f2 := by
  obtain ⟨A0, c0, hb, hg, hr0⟩ := h
  exact ⟨A0, c0, blk_far hb hne u, hg, hr0⟩
theorem cellS138_0 {W : World} {g : Nat} {A0 : Option Addr} {c0 : Nat} {f0 : List Int} {f1 : Int} {f2 : Int} (h : W.heap[g]? = some (.cells #[.slice A0 f0.length c0, .int .i64 f1, .int .i64 f2] 138 (0, 0))) : W.cell? ⟨g, 0, none⟩ = some (.slice A0 f0.length c0) := (blk_cell h 0).trans rfl
theorem cellS138_1 {W : World} {g : Nat} {A0 : Option Addr} {c0 : Nat} {f0 : List Int} {f1 : Int} {f2 : Int} (h : W.heap[g]? = some (.cells #[.slice A0 f0.length c0, .int .i64 f1, .int .i64 f2] 138 (0, 0))) : W.cell? ⟨g, 1, none⟩ = some (.int .i64 f1) := (blk_cell h 1).trans rfl
theorem IsS138.set_1 {w0 W : World} {g : Nat} {f0 : List Int} {f1 : Int} {f2 : Int} (h : IsS138 w0 W g f0 f1 f2) (x : Int) : IsS138 w0 (W.setCell ⟨g, 1, none⟩ (.int .i64 x)) g f0 x f2 := by
  obtain ⟨A0, c0, hb, hg, hr0⟩ := h
  exact ⟨A0, c0, by simpa using blk_set hb 1 (.int .i64 x), hg, hr0⟩
theorem cellS138_2 {W : World} {g : Nat} {A0 : Option Addr} {c0 : Nat} {f0 : List Int} {f1 : Int} {f2 : Int} (h : W.heap[g]? = some (.cells #[.slice A0 f0.length c0, .int .i64 f1, .int .i64 f2] 138 (0, 0))) : W.cell? ⟨g, 2, none⟩ = some (.int .i64 f2) := (blk_cell h 2).trans rfl
theorem IsS138.set_2 {w0 W : World} {g : Nat} {f0 : List Int} {f1 : Int} {f2 : Int} (h : IsS138 w0 W g f0 f1 f2) (x : Int) : IsS138 w0 (W.setCell ⟨g, 2, none⟩ (.int .i64 x)) g f0 f1 x := by
  obtain ⟨A0, c0, hb, hg, hr0⟩ := h
  exact ⟨A0, c0, by simpa using blk_set hb 2 (.int .i64 x), hg, hr0⟩
/-- A state of type 204 at block g of W; what its slices lead to came in by w0. -/
def IsS204 (w0 W : World) (g : Nat) (f0 : ByteArray) (f1 : Bool) : Prop := W.heap[g]? = some (.cells #[.string f0, .bool f1] 204 (0, 0)) ∧ w0.heap.size ≤ g
theorem IsS204.grown {w0 W : World} {g : Nat} {f0 : ByteArray} {f1 : Bool} {W1 : World} {row : Option Nat} (h : IsS204 w0 W g f0 f1) (hw : W.grownBy W1 row) (hne : some g ≠ row) : IsS204 w0 W1 g f0 f1 := by
  obtain ⟨hb, hg⟩ := h
  exact ⟨blk_grown hb hw hne, hg⟩
theorem IsS204.kept {w0 W : World} {g : Nat} {f0 : ByteArray} {f1 : Bool} {W1 : World} {S : Nat → Prop} (h : IsS204 w0 W g f0 f1) (hk : Kept W W1 S) (hne : ¬ S g) : IsS204 w0 W1 g f0 f1 := by
  obtain ⟨hb, hg⟩ := h
  exact ⟨blk_kept hb hk hne, hg⟩
theorem IsS204.below {w0 W : World} {g : Nat} {f0 : ByteArray} {f1 : Bool} {W1 : World} (h : IsS204 w0 W g f0 f1) (hw : Below W.heap.size W W1) : IsS204 w0 W1 g f0 f1 := h.grown (grown_of_below hw none) (by simp)
theorem IsS204.alloc {w0 W : World} {g : Nat} {f0 : ByteArray} {f1 : Bool} (h : IsS204 w0 W g f0 f1) (o : Obj) : IsS204 w0 (W.alloc o) g f0 f1 := h.below (below_alloc (Below.refl _ _) o)
theorem IsS204.drewN {w0 W : World} {g : Nat} {f0 : ByteArray} {f1 : Bool} (h : IsS204 w0 W g f0 f1) (m : Nat) : IsS204 w0 (W.drewN m) g f0 f1 := h
theorem IsS204.drew {w0 W : World} {g : Nat} {f0 : ByteArray} {f1 : Bool} (h : IsS204 w0 W g f0 f1) : IsS204 w0 W.drew g f0 f1 := h
theorem IsS204.at_ {w0 W : World} {g : Nat} {f0 : ByteArray} {f1 : Bool} {w' : World} {m : Nat} (hq : W.drewN m = w') (h : IsS204 w0 W g f0 f1) : IsS204 w0 w' g f0 f1 := by subst hq; exact IsS204.drewN h m
theorem IsS204.apart {w0 W : World} {g : Nat} {f0 : ByteArray} {f1 : Bool} {α : Type} {d : Kd α} {e : Nat} {base : Nat} {ok : Nat → Prop} {v : Value} {xs : List α} (h : IsS204 w0 W g f0 f1) (ho : d.R e W base ok v xs) (ht : ∀ q, q ∈ e :: d.E → q ≠ 204) : d.R e W base (fun k => ok k ∧ k ≠ g) v xs := by
  obtain ⟨hb, hg⟩ := h
  exact Kd.R_types ho hb ht
theorem IsS204.own_ne {w0 W : World} {g : Nat} {f0 : ByteArray} {f1 : Bool} {α : Type} {d : Kd α} {e : Nat} {base : Nat} {ok : Nat → Prop} {v : Value} {xs : List α} (h : IsS204 w0 W g f0 f1) (ho : d.R e W base ok v xs) (ht : e ≠ 204) : some g ≠ v.ownBlock := by
  obtain ⟨hb, hg⟩ := h
  exact Kd.R_ne ho hb ht
theorem IsS204.lt {w0 W : World} {g : Nat} {f0 : ByteArray} {f1 : Bool} (h : IsS204 w0 W g f0 f1) : g < W.heap.size := by
  obtain ⟨hb, hg⟩ := h
  exact blk_lt hb
theorem IsS204.ge {w0 W : World} {g : Nat} {f0 : ByteArray} {f1 : Bool} (h : IsS204 w0 W g f0 f1) : w0.heap.size ≤ g := by
  obtain ⟨hb, hg⟩ := h
  exact hg
theorem IsS204.ne_blk {w0 W : World} {g : Nat} {f0 : ByteArray} {f1 : Bool} {a : Nat} {cs : Array Value} {t : TypeId} {fr : Nat × Nat} (h : IsS204 w0 W g f0 f1) (hb2 : W.heap[a]? = some (.cells cs t fr)) (ht : t ≠ 204) : g ≠ a := by
  obtain ⟨hb, hg⟩ := h
  rintro rfl
  rw [hb] at hb2
  injection hb2 with hb2
  injection hb2 with _ ht2
  exact ht ht2.symm
theorem IsS204.far {w0 W : World} {g : Nat} {f0 : ByteArray} {f1 : Bool} {p : Addr} (h : IsS204 w0 W g f0 f1) (hne : g ≠ p.block) (u : Value) : IsS204 w0 (W.setCell p u) g f0 f1 := by
  obtain ⟨hb, hg⟩ := h
  exact ⟨blk_far hb hne u, hg⟩
theorem IsS204.set_1 {w0 W : World} {g : Nat} {f0 : ByteArray} {f1 : Bool} (h : IsS204 w0 W g f0 f1) (x : Bool) : IsS204 w0 (W.setCell ⟨g, 1, none⟩ (.bool x)) g f0 x := by
  obtain ⟨hb, hg⟩ := h
  exact ⟨by simpa using blk_set hb 1 (.bool x), hg⟩
theorem zl_ {w W0 W : World} (b : Aside0 (Below w.heap.size w W0)) (h : Below w.heap.size w W := by repeat (first | (with_reducible first | exact HB.out | apply below_alloc | apply pw_below_drewN | apply below_drew1 | refine below_set ?_ (Aside0.out (by with_reducible assumption)) | refine below_set ?_ (IsS138.ge (Aside0.out (by with_reducible assumption))) | refine below_set ?_ (IsS204.ge (Aside0.out (by with_reducible assumption)))) | exact HB.out)) : Below w.heap.size w W := h
theorem zs_ {w W0 W W1 : World} (b : Aside0 (Below w.heap.size w W0)) (hb : Below W.heap.size W W1) (h : Below w.heap.size w W := by repeat (first | (with_reducible first | exact HB.out | apply below_alloc | apply pw_below_drewN | apply below_drew1 | refine below_set ?_ (Aside0.out (by with_reducible assumption)) | refine below_set ?_ (IsS138.ge (Aside0.out (by with_reducible assumption))) | refine below_set ?_ (IsS204.ge (Aside0.out (by with_reducible assumption)))) | exact HB.out)) : Aside0 (Below w.heap.size w W1) := ⟨below_step h hb⟩
theorem zw_ {w W0 W : World} {g : Nat} (b : Aside0 (Below w.heap.size w W0)) (hg : g = W.heap.size) (h : Below w.heap.size w W := by repeat (first | (with_reducible first | exact HB.out | apply below_alloc | apply pw_below_drewN | apply below_drew1 | refine below_set ?_ (Aside0.out (by with_reducible assumption)) | refine below_set ?_ (IsS138.ge (Aside0.out (by with_reducible assumption))) | refine below_set ?_ (IsS204.ge (Aside0.out (by with_reducible assumption)))) | exact HB.out)) : Aside0 (w.heap.size ≤ g) := ⟨by rw [hg]; exact below_size h⟩
theorem zt_ {p : Prop} (h : p := by first | rfl | (simp [errW_none, errW_some] <;> rfl) | (simp [*, errW_none, errW_some] <;> rfl) | (simp [mp_beq_nil, mp_bne_nil]; done) | (simp [*, mp_beq_nil, mp_bne_nil]; done)) : p := h
theorem zc5 {w : World} {g : Nat} {t : TypeId} {a0 a1 a2 a3 a4 : Value} (h : Aside0 (w.heap[g]? = some (.cells #[a0, a1, a2, a3, a4] t (0, 0)))) : w.cell? ⟨g, 0, none⟩ = some a0 ∧ w.cell? ⟨g, 1, none⟩ = some a1 ∧ w.cell? ⟨g, 2, none⟩ = some a2 ∧ w.cell? ⟨g, 3, none⟩ = some a3 ∧ w.cell? ⟨g, 4, none⟩ = some a4 ∧ w.frozen? ⟨g, 0, none⟩ = false ∧ w.frozen? ⟨g, 1, none⟩ = false ∧ w.frozen? ⟨g, 2, none⟩ = false ∧ w.frozen? ⟨g, 3, none⟩ = false ∧ w.frozen? ⟨g, 4, none⟩ = false := ⟨(blk_cell h.out 0).trans rfl, (blk_cell h.out 1).trans rfl, (blk_cell h.out 2).trans rfl, (blk_cell h.out 3).trans rfl, (blk_cell h.out 4).trans rfl, blk_frozen h.out 0, blk_frozen h.out 1, blk_frozen h.out 2, blk_frozen h.out 3, blk_frozen h.out 4⟩
theorem zc7 {w : World} {g : Nat} {t : TypeId} {a0 a1 a2 a3 a4 a5 a6 : Value} (h : Aside0 (w.heap[g]? = some (.cells #[a0, a1, a2, a3, a4, a5, a6] t (0, 0)))) : w.cell? ⟨g, 0, none⟩ = some a0 ∧ w.cell? ⟨g, 1, none⟩ = some a1 ∧ w.cell? ⟨g, 2, none⟩ = some a2 ∧ w.cell? ⟨g, 3, none⟩ = some a3 ∧ w.cell? ⟨g, 4, none⟩ = some a4 ∧ w.cell? ⟨g, 5, none⟩ = some a5 ∧ w.cell? ⟨g, 6, none⟩ = some a6 ∧ w.frozen? ⟨g, 0, none⟩ = false ∧ w.frozen? ⟨g, 1, none⟩ = false ∧ w.frozen? ⟨g, 2, none⟩ = false ∧ w.frozen? ⟨g, 3, none⟩ = false ∧ w.frozen? ⟨g, 4, none⟩ = false ∧ w.frozen? ⟨g, 5, none⟩ = false ∧ w.frozen? ⟨g, 6, none⟩ = false := ⟨(blk_cell h.out 0).trans rfl, (blk_cell h.out 1).trans rfl, (blk_cell h.out 2).trans rfl, (blk_cell h.out 3).trans rfl, (blk_cell h.out 4).trans rfl, (blk_cell h.out 5).trans rfl, (blk_cell h.out 6).trans rfl, blk_frozen h.out 0, blk_frozen h.out 1, blk_frozen h.out 2, blk_frozen h.out 3, blk_frozen h.out 4, blk_frozen h.out 5, blk_frozen h.out 6⟩
theorem zi138 {w0 W : World} {g : Nat} {f0 : List Int} {f1 : Int} {f2 : Int} {W' : World} {f0' : List Int} {f1' : Int} {f2' : Int} (b : Aside0 (IsS138 w0 W g f0 f1 f2)) (m : IsS138 w0 W g f0 f1 f2 → IsS138 w0 W' g f0' f1' f2' := by intro h_; repeat (first | (with_reducible first | exact h_ | apply IsS138.alloc | apply IsS138.drewN | apply IsS138.drew | apply IsS138.set_1 | apply IsS138.set_2 | refine IsS138.far ?_ (Aside0.out (by with_reducible assumption)) _) | exact h_)) : IsS138 w0 W' g f0' f1' f2' := m b.out
theorem zh_ {w W0 W : World} {g : Nat} {row : Option Nat} (k : Aside0 (KeepBut w W0 g row)) (h : KeepBut w W g row := by repeat (first | (with_reducible first | exact HK.out | apply KeepBut.set_ | apply keep_drewN | apply keep_drew | apply keep_alloc | refine keep_far ?_ (Aside0.out (by with_reducible assumption)) _) | exact HK.out)) : KeepBut w W g row := h
end Go.Proofs.YtadablpppkjdbaaDoor.A
end

section
namespace Go.Proofs.YtadablpppkjdbaaDoor.A
open Go.RowKit Go.Proofs.YtadablpppkjdbaaDoorW.PrintWords Go.Proofs.YtadablpppkjdbaaDoorW.PrintLast Go.Proofs.YtadablpppkjdbaaDoorW.PrintMore
attribute [local go_sem] max2_int min2_int max_two min_two max_three min_three max_four min_four
theorem eqA33 (d : Nat) (w : World) (x0 y0 : Int) (x1 y1 : Int) (x2 y2 : Int) (x3 y3 : Int) (x4 y4 : ByteArray) (x5 y5 : ByteArray) (x6 y6 : ByteArray) :
    (Op.equalIn (d + 2) 33 (.agg #[.int .i64 x0, .int .i64 x1, .int .i64 x2, .int .i64 x3, .string x4, .string x5, .string x6]) (.agg #[.int .i64 y0, .int .i64 y1, .int .i64 y2, .int .i64 y3, .string y4, .string y5, .string y6])).run Tryd.prog w = .ok (x0 == y0 && (x1 == y1 && (x2 == y2 && (x3 == y3 && (x4.toList == y4.toList && (x5.toList == y5.toList && (x6.toList == y6.toList))))))) w := by
  refine eqA_of Tryd.underlying33 (by kernel_rfl) ?_
  refine eqf_cons (by rfl) (by go_simp; rfl) (by go_simp; rfl) (by go_simp) ?_
  refine eqf_cons (by rfl) (by go_simp; rfl) (by go_simp; rfl) (by go_simp) ?_
  refine eqf_cons (by rfl) (by go_simp; rfl) (by go_simp; rfl) (by go_simp) ?_
  refine eqf_cons (by rfl) (by go_simp; rfl) (by go_simp; rfl) (by go_simp) ?_
  refine eqf_cons (by rfl) (by go_simp; rfl) (by go_simp; rfl) (by go_simp) ?_
  refine eqf_cons (by rfl) (by go_simp; rfl) (by go_simp; rfl) (by go_simp) ?_
  exact eqf_last (by rfl) (by go_simp; rfl) (by go_simp; rfl) (by go_simp)
end Go.Proofs.YtadablpppkjdbaaDoor.A
end

section
namespace Go.Proofs.YtadablpppkjdbaaDoor.A
open Go.RowKit Go.Proofs.YtadablpppkjdbaaDoorW.PrintWords Go.Proofs.YtadablpppkjdbaaDoorW.PrintLast Go.Proofs.YtadablpppkjdbaaDoorW.PrintMore
/-- Block g holds the words l; they may be written. -/
structure Au (W : World) (g : Nat) (l : List Int) : Prop where
  cell : ∀ j, j < l.length → W.cell? ⟨g, j, none⟩ = some (.int .u32 (l.getD j 0))
  free : ∀ j, j < l.length → W.frozen? ⟨g, j, none⟩ = false
theorem Au.at {W W' : World} {g : Nat} {l : List Int} (h : Au W g l) (e : W'.heap[g]? = W.heap[g]?) : Au W' g l :=
  ⟨fun j hj => (World.cell?_of_block (a := ⟨g, j, none⟩) e).trans (h.cell j hj), fun j hj => (World.frozen?_of_block (a := ⟨g, j, none⟩) e).trans (h.free j hj)⟩
theorem Au.of_row {W : World} {g : Nat} (l : List Int) {e : Nat} (h : W.heap[g]? = some (.cells (l.map (Value.int .u32)).toArray e (0, 0))) : Au W g l := by
  refine ⟨fun j hj => ?_, fun j hj => ?_⟩
  · unfold World.cell?
    rw [h]
    simp [List.getD, List.getElem?_eq_getElem hj]
  · unfold World.frozen?
    rw [h]
    simp
theorem Au.set {W : World} {g : Nat} {l : List Int} (h : Au W g l) (j : Nat) (hj : j < l.length) (x : Int) : Au (W.setCell ⟨g, j, none⟩ (.int .u32 x)) g (l.set j x) := by
  refine ⟨fun i hi => ?_, fun i hi => ?_⟩
  · rw [List.length_set] at hi
    by_cases c : i = j
    · subst c
      rw [World.cell?_setCell_same _ _ _ (h.cell i hi)]
      simp [List.getD, hi]
    · rw [World.cell?_setCell_other _ _ _ _ (by simp <;> omega), h.cell i hi]
      simp [List.getD, List.getElem?_set, Ne.symm c]
  · rw [List.length_set] at hi
    rw [World.frozen?_setCell]
    exact h.free i hi
theorem setCell_old (W : World) (a : Addr) (v : Value) (k : Nat) (hk : k ≠ a.block) : (W.setCell a v).heap[k]? = W.heap[k]? := by
  simp [World.setCell, Array.getElem?_modify, Ne.symm hk]
theorem Au.far {W : World} {g g' : Nat} {l : List Int} (h : Au W g l) (hg : g ≠ g') (j : Nat) (v : Value) : Au (W.setCell ⟨g', j, none⟩ v) g l :=
  h.at (setCell_old W _ v g hg)
theorem Au.drew {W : World} {g : Nat} {l : List Int} (h : Au W g l) : Au W.drew g l := h.at rfl
theorem Au.drewN {W : World} {g : Nat} {l : List Int} (h : Au W g l) (n : Nat) : Au (W.drewN n) g l := h.at rfl
theorem Au.setCells {W : World} {g : Nat} {l : List Int} (h : Au W g l) (l' : List Int) (hl : l'.length = l.length) : Au (W.setCells g 0 (l'.map (Value.int .u32))) g l' := by
  refine ⟨fun j hj => ?_, fun j hj => ?_⟩
  · have := World.cell?_setCells_in g (l'.map (Value.int .u32)) 0 W (fun i hi => by rw [Nat.zero_add, h.cell i (by simpa [hl] using hi)]; rfl) j (by simpa using hj)
    rw [Nat.zero_add] at this
    rw [this]
    simp [List.getD, hj]
  · rw [World.frozen?_setCells]
    exact h.free j (by omega)
/-- What the block's walk keeps: its three arrays behind block n, and what was there. -/
structure Bk (w W : World) (n : Nat) (lh lr lw : List Int) : Prop where
  hh : Au W n lh
  hr : Au W (n + 1) lr
  hw : Au W (n + 2) lw
  below : Below n w W
  size : W.heap.size = n + 3
theorem w64id (x : Int) (h1 : -9223372036854775808 ≤ x) (h2 : x ≤ 9223372036854775807) : IntKind.i64.wrap x = x := by rw [IntKind.wrap_i64]; omega
theorem alloc_at (W : World) (o : Obj) (k : Nat) : (W.alloc o).heap[k]? = if k = W.heap.size then some o else W.heap[k]? := by
  simp [World.alloc, -World.alloc_eq, Array.getElem?_push]
theorem alloc_sz (W : World) (o : Obj) : (W.alloc o).heap.size = W.heap.size + 1 := by simp [World.alloc, -World.alloc_eq]
theorem Bk.start (w : World) (h a b : List Int) (t1 t2 t3 : Nat) :
    Bk w (((w.alloc (.cells (h.map (Value.int .u32)).toArray t1)).alloc (.cells (a.map (Value.int .u32)).toArray t2)).alloc (.cells (b.map (Value.int .u32)).toArray t3)) w.heap.size h a b := by
  refine ⟨Au.of_row (e := t1) _ ?_, Au.of_row (e := t2) _ ?_, Au.of_row (e := t3) _ ?_, ⟨rfl, rfl, rfl, ?_, fun k hk => ?_⟩, ?_⟩
  · rw [alloc_at, alloc_at, alloc_at, alloc_sz, alloc_sz, if_neg (by omega), if_neg (by omega), if_pos rfl]
  · rw [alloc_at, alloc_at, alloc_sz, alloc_sz, if_neg (by omega), if_pos rfl]
  · rw [alloc_at, alloc_sz, alloc_sz, if_pos rfl]
  · rw [alloc_sz, alloc_sz, alloc_sz]; omega
  · rw [alloc_at, alloc_at, alloc_at, alloc_sz, alloc_sz, if_neg (by omega), if_neg (by omega), if_neg (by omega)]
  · rw [alloc_sz, alloc_sz, alloc_sz]
theorem below_drew_h {w W : World} {n : Nat} (h : Below n w W) : Below n w W.drew := ⟨h.os, h.tape, h.output, h.size, h.block⟩
theorem below_set_h {w W : World} {n g j : Nat} {v : Value} (h : Below n w W) (hg : n ≤ g) : Below n w (W.setCell ⟨g, j, none⟩ v) :=
  ⟨h.os, h.tape, h.output, by simpa [World.setCell] using h.size, fun k hk => (setCell_old W _ v k (by dsimp only; omega)).trans (h.block k hk)⟩
/-- A store into the words. -/
theorem Bk.word {w W : World} {n : Nat} {lh lr lw : List Int} (h : Bk w W n lh lr lw) (j : Nat) (hj : j < lw.length) (x : Int) : Bk w (W.setCell ⟨n + 2, j, none⟩ (.int .u32 x)) n lh lr (lw.set j x) :=
  ⟨h.hh.far (by omega) j _, h.hr.far (by omega) j _, h.hw.set j hj x, below_set_h h.below (by omega), by simpa [World.setCell] using h.size⟩
theorem Bk.drew {w W : World} {n : Nat} {lh lr lw : List Int} (h : Bk w W n lh lr lw) : Bk w W.drew n lh lr lw :=
  ⟨h.hh.drew, h.hr.drew, h.hw.drew, below_drew_h h.below, h.size⟩
theorem Bk.old {w W : World} {n : Nat} {lh lr lw : List Int} (h : Bk w W n lh lr lw) {g j : Nat} {v : Value} (hg : g < n) (hc : w.cell? ⟨g, j, none⟩ = some v) : W.cell? ⟨g, j, none⟩ = some v :=
  (World.cell?_of_block (a := ⟨g, j, none⟩) (h.below.block g hg)).trans hc
theorem Bk.drewN {w W : World} {n : Nat} {lh lr lw : List Int} (h : Bk w W n lh lr lw) (m : Nat) : Bk w (W.drewN m) n lh lr lw :=
  ⟨h.hh.drewN m, h.hr.drewN m, h.hw.drewN m, ⟨h.below.os, h.below.tape, h.below.output, h.below.size, h.below.block⟩, h.size⟩
/-- .. with the eight letters behind them. -/
structure Bk2 (w W : World) (n : Nat) (lh lr lw la : List Int) : Prop where
  hh : Au W n lh
  hr : Au W (n + 1) lr
  hw : Au W (n + 2) lw
  ha : Au W (n + 3) la
  below : Below n w W
theorem Bk2.start {w W : World} {n : Nat} {lh lr lw : List Int} (h : Bk w W n lh lr lw) (la : List Int) (t : Nat) : Bk2 w (W.alloc (.cells (la.map (Value.int .u32)).toArray t)) n lh lr lw la := by
  have hs := h.size
  have e : ∀ k, k < n + 3 → (W.alloc (.cells (la.map (Value.int .u32)).toArray t)).heap[k]? = W.heap[k]? := fun k hk => by rw [alloc_at, if_neg (by omega)]
  refine ⟨h.hh.at (e _ (by omega)), h.hr.at (e _ (by omega)), h.hw.at (e _ (by omega)), Au.of_row (e := t) _ ?_, ⟨h.below.os, h.below.tape, h.below.output, ?_, fun k hk => (e k (by omega)).trans (h.below.block k hk)⟩⟩
  · rw [alloc_at, if_pos (by omega)]
  · rw [alloc_sz]; have := h.below.size; omega
theorem Bk2.drewN {w W : World} {n : Nat} {lh lr lw la : List Int} (h : Bk2 w W n lh lr lw la) (m : Nat) : Bk2 w (W.drewN m) n lh lr lw la :=
  ⟨h.hh.drewN m, h.hr.drewN m, h.hw.drewN m, h.ha.drewN m, ⟨h.below.os, h.below.tape, h.below.output, h.below.size, h.below.block⟩⟩
theorem Bk2.drew {w W : World} {n : Nat} {lh lr lw la : List Int} (h : Bk2 w W n lh lr lw la) : Bk2 w W.drew n lh lr lw la :=
  ⟨h.hh.drew, h.hr.drew, h.hw.drew, h.ha.drew, below_drew_h h.below⟩
theorem Bk2.set {w W : World} {n : Nat} {lh lr lw la : List Int} (h : Bk2 w W n lh lr lw la) (j : Nat) (hj : j < la.length) (x : Int) : Bk2 w (W.setCell ⟨n + 3, j, none⟩ (.int .u32 x)) n lh lr lw (la.set j x) :=
  ⟨h.hh.far (by omega) j _, h.hr.far (by omega) j _, h.hw.far (by omega) j _, h.ha.set j hj x, below_set_h h.below (by omega)⟩
theorem Bk2.head {w W : World} {n : Nat} {lh lr lw la : List Int} (h : Bk2 w W n lh lr lw la) (j : Nat) (hj : j < lh.length) (x : Int) : Bk2 w (W.setCell ⟨n, j, none⟩ (.int .u32 x)) n (lh.set j x) lr lw la :=
  ⟨h.hh.set j hj x, h.hr.far (by omega) j _, h.hw.far (by omega) j _, h.ha.far (by omega) j _, below_set_h h.below (by omega)⟩
theorem Bk2.out {w W : World} {n : Nat} {lh lr lw la : List Int} (h : Bk2 w W n lh lr lw la) (j : Nat) (hj : j < lr.length) (x : Int) : Bk2 w (W.setCell ⟨n + 1, j, none⟩ (.int .u32 x)) n lh (lr.set j x) lw la :=
  ⟨h.hh.far (by omega) j _, h.hr.set j hj x, h.hw.far (by omega) j _, h.ha.far (by omega) j _, below_set_h h.below (by omega)⟩
theorem Bk2.old {w W : World} {n : Nat} {lh lr lw la : List Int} (h : Bk2 w W n lh lr lw la) {g j : Nat} {v : Value} (hg : g < n) (hc : w.cell? ⟨g, j, none⟩ = some v) : W.cell? ⟨g, j, none⟩ = some v :=
  (World.cell?_of_block (a := ⟨g, j, none⟩) (h.below.block g hg)).trans hc
/-- Eight words, cell for cell. -/
theorem Au.eight {W : World} {g : Nat} {a0 a1 a2 a3 a4 a5 a6 a7 : Int} (h : Au W g [a0, a1, a2, a3, a4, a5, a6, a7]) :
    (W.cell? ⟨g, 0, none⟩ = some (.int .u32 a0) ∧ W.cell? ⟨g, 1, none⟩ = some (.int .u32 a1) ∧ W.cell? ⟨g, 2, none⟩ = some (.int .u32 a2) ∧ W.cell? ⟨g, 3, none⟩ = some (.int .u32 a3) ∧ W.cell? ⟨g, 4, none⟩ = some (.int .u32 a4) ∧ W.cell? ⟨g, 5, none⟩ = some (.int .u32 a5) ∧ W.cell? ⟨g, 6, none⟩ = some (.int .u32 a6) ∧ W.cell? ⟨g, 7, none⟩ = some (.int .u32 a7)) ∧
    (W.frozen? ⟨g, 0, none⟩ = false ∧ W.frozen? ⟨g, 1, none⟩ = false ∧ W.frozen? ⟨g, 2, none⟩ = false ∧ W.frozen? ⟨g, 3, none⟩ = false ∧ W.frozen? ⟨g, 4, none⟩ = false ∧ W.frozen? ⟨g, 5, none⟩ = false ∧ W.frozen? ⟨g, 6, none⟩ = false ∧ W.frozen? ⟨g, 7, none⟩ = false) :=
  ⟨⟨h.cell 0 (by simp), h.cell 1 (by simp), h.cell 2 (by simp), h.cell 3 (by simp), h.cell 4 (by simp), h.cell 5 (by simp), h.cell 6 (by simp), h.cell 7 (by simp)⟩,
   ⟨h.free 0 (by simp), h.free 1 (by simp), h.free 2 (by simp), h.free 3 (by simp), h.free 4 (by simp), h.free 5 (by simp), h.free 6 (by simp), h.free 7 (by simp)⟩⟩
theorem eight {l : List Int} (h : l.length = 8) : ∃ a0 a1 a2 a3 a4 a5 a6 a7, l = [a0, a1, a2, a3, a4, a5, a6, a7] := by
  match l, h with
  | [a0, a1, a2, a3, a4, a5, a6, a7], _ => exact ⟨a0, a1, a2, a3, a4, a5, a6, a7, rfl⟩
theorem u32w_h (x : Int) : IntKind.u32.wrap x = x % 4294967296 := by unfold IntKind.wrap; simp [IntKind.bits, IntKind.signed]
theorem or_comm_h (k : IntKind) (x y : Int) : Go.bits .or k x y = Go.bits .or k y x := by
  unfold Go.bits
  simp only [BitVec.or_comm]
/-- What a turn answers. -/
def turnH (x n : Int) : Int := Go.bits .or .u32 (shr .u32 x n) (shl .u32 x (32 - n))
theorem sturn2 (x : Int) : spec_l01Turn.f x 2 = some (turnH x 2) := by
  unfold spec_l01Turn.f
  rw [if_pos (by decide), show IntKind.u64.wrap (32 - 2) = 30 from by kernel_rfl, if_pos (by decide)]
  rfl
theorem sturn6 (x : Int) : spec_l01Turn.f x 6 = some (turnH x 6) := by
  unfold spec_l01Turn.f
  rw [if_pos (by decide), show IntKind.u64.wrap (32 - 6) = 26 from by kernel_rfl, if_pos (by decide)]
  rfl
theorem sturn7 (x : Int) : spec_l01Turn.f x 7 = some (turnH x 7) := by
  unfold spec_l01Turn.f
  rw [if_pos (by decide), show IntKind.u64.wrap (32 - 7) = 25 from by kernel_rfl, if_pos (by decide)]
  rfl
theorem sturn11 (x : Int) : spec_l01Turn.f x 11 = some (turnH x 11) := by
  unfold spec_l01Turn.f
  rw [if_pos (by decide), show IntKind.u64.wrap (32 - 11) = 21 from by kernel_rfl, if_pos (by decide)]
  rfl
theorem sturn13 (x : Int) : spec_l01Turn.f x 13 = some (turnH x 13) := by
  unfold spec_l01Turn.f
  rw [if_pos (by decide), show IntKind.u64.wrap (32 - 13) = 19 from by kernel_rfl, if_pos (by decide)]
  rfl
theorem sturn17 (x : Int) : spec_l01Turn.f x 17 = some (turnH x 17) := by
  unfold spec_l01Turn.f
  rw [if_pos (by decide), show IntKind.u64.wrap (32 - 17) = 15 from by kernel_rfl, if_pos (by decide)]
  rfl
theorem sturn18 (x : Int) : spec_l01Turn.f x 18 = some (turnH x 18) := by
  unfold spec_l01Turn.f
  rw [if_pos (by decide), show IntKind.u64.wrap (32 - 18) = 14 from by kernel_rfl, if_pos (by decide)]
  rfl
theorem sturn19 (x : Int) : spec_l01Turn.f x 19 = some (turnH x 19) := by
  unfold spec_l01Turn.f
  rw [if_pos (by decide), show IntKind.u64.wrap (32 - 19) = 13 from by kernel_rfl, if_pos (by decide)]
  rfl
theorem sturn22 (x : Int) : spec_l01Turn.f x 22 = some (turnH x 22) := by
  unfold spec_l01Turn.f
  rw [if_pos (by decide), show IntKind.u64.wrap (32 - 22) = 10 from by kernel_rfl, if_pos (by decide)]
  rfl
theorem sturn25 (x : Int) : spec_l01Turn.f x 25 = some (turnH x 25) := by
  unfold spec_l01Turn.f
  rw [if_pos (by decide), show IntKind.u64.wrap (32 - 25) = 7 from by kernel_rfl, if_pos (by decide)]
  rfl
set_option maxHeartbeats 8000000 in
set_option maxRecDepth 100000 in
theorem sturn_same (a0 : Int) (a1 : Int) (r : Int) (w : World) (h : spec_l01Turn.f a0 a1 = some r) :
    Calls Tryd.prog 197 #[.int .u32 a0, .int .u64 a1] w fun e w' => e = .returned (.int .u32 r) ∧ w' = w := by
  have H : (if 0 ≤ a1 then (if 0 ≤ (IntKind.u64.wrap (32 - a1)) then (some (Go.bits .or .u32 (shr .u32 a0 a1) (shl .u32 a0 (IntKind.u64.wrap (32 - a1))))) else (none)) else (none)) = some r := h
  clear h
  by_cases c3 : 0 ≤ a1
  · rw [if_pos c3] at H
    have c3b0 := eq_true c3
    have c3b1 : decide (0 ≤ a1) = true := decide_eq_true c3
    clear c3
    obtain ⟨ji4, hji4⟩ : ∃ j_ : Int, (shr .u32 a0 a1) = j_ := ⟨_, rfl⟩
    replace H : (if 0 ≤ (IntKind.u64.wrap (32 - a1)) then (some (Go.bits .or .u32 (ji4) (shl .u32 a0 (IntKind.u64.wrap (32 - a1))))) else (none)) = some r := by first | (rw [hji4] at H; exact H) | (simp only [hji4] at H ⊢; exact H)
    have hji4_ : (a0 / 2 ^ min a1.toNat 32) = ji4 := hji4
    have hji4z : a1 ≤ 32 → (a0 / 2 ^ a1.toNat) = ji4 := shr_small hji4
    obtain ⟨ji5, hji5⟩ : ∃ j_ : Int, (IntKind.u64.wrap (32 - a1)) = j_ := ⟨_, rfl⟩
    replace H : (if 0 ≤ (ji5) then (some (Go.bits .or .u32 (ji4) (shl .u32 a0 (ji5)))) else (none)) = some r := by first | (rw [hji5] at H; exact H) | (simp only [hji5] at H ⊢; exact H)
    by_cases c6 : 0 ≤ (ji5)
    · rw [if_pos c6] at H
      have c6b0 := eq_true c6
      have c6b1 : decide (0 ≤ (ji5)) = true := decide_eq_true c6
      clear c6
      obtain ⟨ji7, hji7⟩ : ∃ j_ : Int, (shl .u32 a0 (ji5)) = j_ := ⟨_, rfl⟩
      replace H : (some (Go.bits .or .u32 (ji4) (ji7))) = some r := by first | (rw [hji7] at H; exact H) | (simp only [hji7] at H ⊢; exact H)
      have hji7_ : (IntKind.u32.wrap (a0 * 2 ^ min (ji5).toNat 32)) = ji7 := hji7
      have hji7z : (ji5) ≤ 32 → (IntKind.u32.wrap (a0 * 2 ^ (ji5).toNat)) = ji7 := shl_small hji7
      obtain rfl := Option.some.inj H
      go_enter Tryd.func197, Tryd.ntmps197
      go_wp2
      go_ret
      exact ⟨by first | rfl | (simp; done) | (simp only [← hji4, ← hji5, ← hji7] <;> (first | rfl | simp)) | (simp [*]; done), rfl⟩
    · rw [if_neg c6] at H
      exact absurd H (by simp)
  · rw [if_neg c3] at H
    exact absurd H (by simp)
theorem stn2 (x : Int) (w : World) : Calls Tryd.prog 197 #[.int .u32 x, .int .u64 2] w fun e w' => e = .returned (.int .u32 (turnH x 2)) ∧ w' = w := sturn_same x 2 _ w (sturn2 x)
theorem stn6 (x : Int) (w : World) : Calls Tryd.prog 197 #[.int .u32 x, .int .u64 6] w fun e w' => e = .returned (.int .u32 (turnH x 6)) ∧ w' = w := sturn_same x 6 _ w (sturn6 x)
theorem stn7 (x : Int) (w : World) : Calls Tryd.prog 197 #[.int .u32 x, .int .u64 7] w fun e w' => e = .returned (.int .u32 (turnH x 7)) ∧ w' = w := sturn_same x 7 _ w (sturn7 x)
theorem stn11 (x : Int) (w : World) : Calls Tryd.prog 197 #[.int .u32 x, .int .u64 11] w fun e w' => e = .returned (.int .u32 (turnH x 11)) ∧ w' = w := sturn_same x 11 _ w (sturn11 x)
theorem stn13 (x : Int) (w : World) : Calls Tryd.prog 197 #[.int .u32 x, .int .u64 13] w fun e w' => e = .returned (.int .u32 (turnH x 13)) ∧ w' = w := sturn_same x 13 _ w (sturn13 x)
theorem stn17 (x : Int) (w : World) : Calls Tryd.prog 197 #[.int .u32 x, .int .u64 17] w fun e w' => e = .returned (.int .u32 (turnH x 17)) ∧ w' = w := sturn_same x 17 _ w (sturn17 x)
theorem stn18 (x : Int) (w : World) : Calls Tryd.prog 197 #[.int .u32 x, .int .u64 18] w fun e w' => e = .returned (.int .u32 (turnH x 18)) ∧ w' = w := sturn_same x 18 _ w (sturn18 x)
theorem stn19 (x : Int) (w : World) : Calls Tryd.prog 197 #[.int .u32 x, .int .u64 19] w fun e w' => e = .returned (.int .u32 (turnH x 19)) ∧ w' = w := sturn_same x 19 _ w (sturn19 x)
theorem stn22 (x : Int) (w : World) : Calls Tryd.prog 197 #[.int .u32 x, .int .u64 22] w fun e w' => e = .returned (.int .u32 (turnH x 22)) ∧ w' = w := sturn_same x 22 _ w (sturn22 x)
theorem stn25 (x : Int) (w : World) : Calls Tryd.prog 197 #[.int .u32 x, .int .u64 25] w fun e w' => e = .returned (.int .u32 (turnH x 25)) ∧ w' = w := sturn_same x 25 _ w (sturn25 x)
theorem w64n (x : Int) (h1 : -9223372036854775808 ≤ x) (h2 : x ≤ 9223372036854775807) : wrap64 x = x := (i64_w x).symm.trans (w64id x h1 h2)
def word4 (x0 x1 x2 x3 : Int) : Int := Go.bits .or .u32 (Go.bits .or .u32 (Go.bits .or .u32 (IntKind.u32.wrap (IntKind.u32.wrap x0 * 16777216)) (IntKind.u32.wrap (IntKind.u32.wrap x1 * 65536))) (IntKind.u32.wrap (IntKind.u32.wrap x2 * 256))) (IntKind.u32.wrap x3)
theorem step0 (h bs ks ws : List Int) (i : Nat) (r : List Int) (hb : bs.length = 64) (hw : ws.length = 64) (hi : i < 16) (H : spec_l01Block.lv0 h bs ks ws i = some r) :
    spec_l01Block.lv0 h bs ks (ws.set i (word4 (bs.getD (4 * i) 0) (bs.getD (4 * i + 1) 0) (bs.getD (4 * i + 2) 0) (bs.getD (4 * i + 3) 0))) ((i + 1 : Nat) : Int) = some r := by
  have c1 : (i : Int) < 16 := by omega
  have c2 : (0 : Int) ≤ 4 * (i : Int) := by omega
  have c3 : 4 * (i : Int) < (bs.length : Int) := by omega
  have c4 : (0 : Int) ≤ 4 * (i : Int) + 1 := by omega
  have c5 : 4 * (i : Int) + 1 < (bs.length : Int) := by omega
  have c6 : (0 : Int) ≤ 4 * (i : Int) + 2 := by omega
  have c7 : 4 * (i : Int) + 2 < (bs.length : Int) := by omega
  have c8 : (0 : Int) ≤ 4 * (i : Int) + 3 := by omega
  have c9 : 4 * (i : Int) + 3 < (bs.length : Int) := by omega
  have d1 : (0 : Int) ≤ (i : Int) := by omega
  have d2 : (i : Int) < (ws.length : Int) := by omega
  have e0 : (4 * (i : Int)).toNat = 4 * i := by omega
  have e1 : (4 * (i : Int) + 1).toNat = 4 * i + 1 := by omega
  have e2 : (4 * (i : Int) + 2).toNat = 4 * i + 2 := by omega
  have e3 : (4 * (i : Int) + 3).toNat = 4 * i + 3 := by omega
  have w : wrap64 ((i : Int) + 1) = ((i + 1 : Nat) : Int) := by rw [w64n _ (by omega) (by omega)]; omega
  have w0 : wrap64 (4 * (i : Int)) = 4 * (i : Int) := w64n _ (by omega) (by omega)
  have w1 : wrap64 (4 * (i : Int) + 1) = 4 * (i : Int) + 1 := w64n _ (by omega) (by omega)
  have w2 : wrap64 (4 * (i : Int) + 2) = 4 * (i : Int) + 2 := w64n _ (by omega) (by omega)
  have w3 : wrap64 (4 * (i : Int) + 3) = 4 * (i : Int) + 3 := w64n _ (by omega) (by omega)
  rw [spec_l01Block.lv0_eq] at H
  simp only [w, w0, w1, w2, w3, if_pos c1, if_pos c2, if_pos c3, if_pos c4, if_pos c5, if_pos c6, if_pos c7, if_pos c8, if_pos c9, if_pos d1, if_pos d2, rd, e0, e1, e2, e3, Int.toNat_natCast] at H
  simpa only [word4, u32w_h] using H
theorem exit0 (h bs ks ws : List Int) (r : List Int) (i : Int) (hi : ¬ i < 16) (H : spec_l01Block.lv0 h bs ks ws i = some r) : spec_l01Block.lv1 h ks ws ((16 : Nat) : Int) = some r := by
  rw [spec_l01Block.lv0_eq, if_neg hi] at H
  rw [show ((16 : Nat) : Int) = 16 from rfl]
  exact H
def wordX (a b c d : Int) : Int := (a + b + c + d) % 4294967296
def sig (x p q s : Int) : Int := Go.bits .xor .u32 (Go.bits .xor .u32 (turnH x p) (turnH x q)) s
theorem sub_nat (i k : Nat) (h : k ≤ i) : ((i : Int) - (k : Int)).toNat = i - k := by omega
theorem wsub (i k : Nat) (hk : k ≤ i) (hi : i ≤ 64) : wrap64 ((i : Int) - (k : Int)) = (i : Int) - (k : Int) := w64n _ (by omega) (by omega)
theorem wadd (i : Nat) (hi : i ≤ 64) : wrap64 ((i : Int) + 1) = ((i + 1 : Nat) : Int) := by rw [w64n _ (by omega) (by omega)]; omega
theorem step1 (h ks ws : List Int) (i : Nat) (r : List Int) (hw : ws.length = 64) (h16 : 16 ≤ i) (hi : i < 64) (H : spec_l01Block.lv1 h ks ws i = some r) :
    spec_l01Block.lv1 h ks (ws.set i (wordX (ws.getD (i - 16) 0) (sig (ws.getD (i - 15) 0) 7 18 (ws.getD (i - 15) 0 / 8)) (ws.getD (i - 7) 0) (sig (ws.getD (i - 2) 0) 17 19 (ws.getD (i - 2) 0 / 1024)))) ((i + 1 : Nat) : Int) = some r := by
  have g1 : 15 ≤ i := by omega
  have g2 : 2 ≤ i := by omega
  have g3 : 7 ≤ i := by omega
  have g4 : i ≤ 64 := by omega
  have c1 : (i : Int) < 64 := by omega
  have c2 : (0 : Int) ≤ (i : Int) - 15 := by omega
  have c3 : (i : Int) - 15 < (ws.length : Int) := by omega
  have c4 : (0 : Int) ≤ (i : Int) - 2 := by omega
  have c5 : (i : Int) - 2 < (ws.length : Int) := by omega
  have c6 : (0 : Int) ≤ (i : Int) - 16 := by omega
  have c7 : (i : Int) - 16 < (ws.length : Int) := by omega
  have c8 : (0 : Int) ≤ (i : Int) - 7 := by omega
  have c9 : (i : Int) - 7 < (ws.length : Int) := by omega
  have d1 : (0 : Int) ≤ (i : Int) := by omega
  have d2 : (i : Int) < (ws.length : Int) := by omega
  have e0 : ((i : Int) - 15).toNat = i - 15 := sub_nat i 15 g1
  have e1 : ((i : Int) - 2).toNat = i - 2 := sub_nat i 2 g2
  have e2 : ((i : Int) - 16).toNat = i - 16 := sub_nat i 16 h16
  have e3 : ((i : Int) - 7).toNat = i - 7 := sub_nat i 7 g3
  have w : wrap64 ((i : Int) + 1) = ((i + 1 : Nat) : Int) := wadd i g4
  have w1 : wrap64 ((i : Int) - 15) = (i : Int) - 15 := wsub i 15 g1 g4
  have w2 : wrap64 ((i : Int) - 2) = (i : Int) - 2 := wsub i 2 g2 g4
  have w3 : wrap64 ((i : Int) - 16) = (i : Int) - 16 := wsub i 16 h16 g4
  have w4 : wrap64 ((i : Int) - 7) = (i : Int) - 7 := wsub i 7 g3 g4
  rw [spec_l01Block.lv1_eq] at H
  simp only [w, w1, w2, w3, w4, if_pos c1, if_pos c2, if_pos c3, if_pos c4, if_pos c5, if_pos c6, if_pos c7, if_pos c8, if_pos c9, if_pos d1, if_pos d2, spec_l01Turn.v, sturn7, sturn18, sturn17, sturn19, Option.bind_some, rd, e0, e1, e2, e3, Int.toNat_natCast] at H
  simpa only [wordX, sig, u32w_h, Int.emod_add_emod] using H
theorem exit1 (h ks ws : List Int) (r : List Int) (hh : h.length = 8) (i : Int) (hi : ¬ i < 64) (H : spec_l01Block.lv1 h ks ws i = some r) : spec_l01Block.lv2 h ks ws h ((0 : Nat) : Int) = some r := by
  rw [spec_l01Block.lv1_eq, if_neg hi, Option.bind_some, if_pos (by simp; omega), List.nil_append] at H
  rw [show ((0 : Nat) : Int) = 0 from rfl]
  exact H
theorem ch_bv (n : Nat) (o e f g : BitVec n) (ho : o = BitVec.allOnes n) : (e &&& f) ^^^ ((o ^^^ e) &&& g) = (e &&& f) ||| ((o ^^^ e) &&& g) := by
  subst ho
  apply BitVec.eq_of_getLsbD_eq
  intro j hj
  simp only [BitVec.getLsbD_xor, BitVec.getLsbD_and, BitVec.getLsbD_or, BitVec.getLsbD_allOnes, hj, decide_true]
  cases e.getLsbD j <;> cases f.getLsbD j <;> cases g.getLsbD j <;> rfl
theorem bits_of (b : BitVec IntKind.u32.bits) : BitVec.ofInt IntKind.u32.bits (IntKind.u32.wrap (b.toNat : Int)) = b := by
  have := b.isLt
  rw [show (2 ^ IntKind.u32.bits : Nat) = 4294967296 from rfl] at this
  rw [u32w_h, Int.emod_eq_of_lt (by omega) (by omega)]
  simp
theorem and_back (x y : Int) : BitVec.ofInt IntKind.u32.bits (Go.bits .and .u32 x y) = BitVec.ofInt IntKind.u32.bits x &&& BitVec.ofInt IntKind.u32.bits y := bits_of _
theorem xor_back (x y : Int) : BitVec.ofInt IntKind.u32.bits (Go.bits .xor .u32 x y) = BitVec.ofInt IntKind.u32.bits x ^^^ BitVec.ofInt IntKind.u32.bits y := bits_of _
theorem ch_eq (e f g : Int) : Go.bits .xor .u32 (Go.bits .and .u32 e f) (Go.bits .and .u32 (Go.bits .xor .u32 4294967295 e) g) = Go.bits .or .u32 (Go.bits .and .u32 e f) (Go.bits .and .u32 (Go.bits .xor .u32 4294967295 e) g) := by
  have h : ∀ x y : Int, BitVec.ofInt IntKind.u32.bits x ^^^ BitVec.ofInt IntKind.u32.bits y = BitVec.ofInt IntKind.u32.bits x ||| BitVec.ofInt IntKind.u32.bits y → Go.bits .xor .u32 x y = Go.bits .or .u32 x y := by
    intro x y h
    show IntKind.u32.wrap ((BitVec.ofInt IntKind.u32.bits x ^^^ BitVec.ofInt IntKind.u32.bits y).toNat : Int) = IntKind.u32.wrap ((BitVec.ofInt IntKind.u32.bits x ||| BitVec.ofInt IntKind.u32.bits y).toNat : Int)
    rw [h]
  apply h
  rw [and_back, and_back, xor_back]
  exact ch_bv _ _ _ _ _ (by decide)
def pF (a7 e f g k x : Int) : Int := (a7 + sig e 6 11 (turnH e 25) + Go.bits .or .u32 (Go.bits .and .u32 e f) (Go.bits .and .u32 (Go.bits .xor .u32 4294967295 e) g) + k + x)
def qF (a b c : Int) : Int := (sig a 2 13 (turnH a 22) + Go.bits .xor .u32 (Go.bits .xor .u32 (Go.bits .and .u32 a b) (Go.bits .and .u32 a c)) (Go.bits .and .u32 b c))
theorem step2 (h ks ws : List Int) (a0 a1 a2 a3 a4 a5 a6 a7 : Int) (i : Nat) (r : List Int) (hw : ws.length = 64) (hk : ks.length = 64) (hi : i < 64) (H : spec_l01Block.lv2 h ks ws [a0, a1, a2, a3, a4, a5, a6, a7] i = some r) :
    spec_l01Block.lv2 h ks ws [(pF a7 a4 a5 a6 (ks.getD i 0) (ws.getD i 0) + qF a0 a1 a2) % 4294967296, a0, a1, a2, (a3 + pF a7 a4 a5 a6 (ks.getD i 0) (ws.getD i 0)) % 4294967296, a4, a5, a6] ((i + 1 : Nat) : Int) = some r := by
  have c1 : (i : Int) < 64 := by omega
  have c7 : (0 : Int) ≤ (i : Int) := by omega
  have c8 : (i : Int) < (ks.length : Int) := by omega
  have c9 : (i : Int) < (ws.length : Int) := by omega
  have w : wrap64 ((i : Int) + 1) = ((i + 1 : Nat) : Int) := wadd i (by omega)
  have l : ([a0, a1, a2, a3, a4, a5, a6, a7] : List Int).length = 8 := rfl
  rw [spec_l01Block.lv2_eq] at H
  have k0 : (4 : Int) < ((8 : Nat) : Int) := by decide
  have k1 : (0 : Int) < ((8 : Nat) : Int) := by decide
  have k2 : (7 : Int) < ((8 : Nat) : Int) := by decide
  have k3 : (5 : Int) < ((8 : Nat) : Int) := by decide
  have k4 : (6 : Int) < ((8 : Nat) : Int) := by decide
  have k5 : (1 : Int) < ((8 : Nat) : Int) := by decide
  have k6 : (2 : Int) < ((8 : Nat) : Int) := by decide
  have k7 : (3 : Int) < ((8 : Nat) : Int) := by decide
  have r0 : rd [a0, a1, a2, a3, a4, a5, a6, a7] 0 = a0 := rfl
  have r1 : rd [a0, a1, a2, a3, a4, a5, a6, a7] 1 = a1 := rfl
  have r2 : rd [a0, a1, a2, a3, a4, a5, a6, a7] 2 = a2 := rfl
  have r3 : rd [a0, a1, a2, a3, a4, a5, a6, a7] 3 = a3 := rfl
  have r4 : rd [a0, a1, a2, a3, a4, a5, a6, a7] 4 = a4 := rfl
  have r5 : rd [a0, a1, a2, a3, a4, a5, a6, a7] 5 = a5 := rfl
  have r6 : rd [a0, a1, a2, a3, a4, a5, a6, a7] 6 = a6 := rfl
  have r7 : rd [a0, a1, a2, a3, a4, a5, a6, a7] 7 = a7 := rfl
  have rk : rd ks (i : Int) = ks.getD i 0 := by simp [rd]
  have rw_ : rd ws (i : Int) = ws.getD i 0 := by simp [rd]
  simp only [l, w, r0, r1, r2, r3, r4, r5, r6, r7, rk, rw_, if_pos c1, if_pos c7, if_pos c8, if_pos c9, if_pos k0, if_pos k1, if_pos k2, if_pos k3, if_pos k4, if_pos k5, if_pos k6, if_pos k7, spec_l01Turn.v, sturn6, sturn11, sturn25, sturn2, sturn13, sturn22, Option.bind_some, ch_eq] at H
  simpa only [pF, qF, sig, u32w_h, Int.emod_add_emod, Int.add_emod_emod] using H
theorem u32max_h : IntKind.u32.max = 4294967295 := by decide
def pW (a7 e f g k x : Int) : Int := IntKind.u32.wrap (IntKind.u32.wrap (IntKind.u32.wrap (IntKind.u32.wrap (a7 + sig e 6 11 (turnH e 25)) + Go.bits .or .u32 (Go.bits .and .u32 e f) (Go.bits .and .u32 (Go.bits .xor .u32 IntKind.u32.max e) g)) + k) + x)
def qW (a b c : Int) : Int := IntKind.u32.wrap (sig a 2 13 (turnH a 22) + Go.bits .xor .u32 (Go.bits .xor .u32 (Go.bits .and .u32 a b) (Go.bits .and .u32 a c)) (Go.bits .and .u32 b c))
theorem step2w (h ks ws : List Int) (a0 a1 a2 a3 a4 a5 a6 a7 : Int) (i : Nat) (r : List Int) (hw : ws.length = 64) (hk : ks.length = 64) (hi : i < 64) (xk xw xp xq : Int) (hxk : ks.getD i 0 = xk) (hxw : ws.getD i 0 = xw) (hp : pW a7 a4 a5 a6 xk xw = xp) (hq : qW a0 a1 a2 = xq) (H : spec_l01Block.lv2 h ks ws [a0, a1, a2, a3, a4, a5, a6, a7] i = some r) :
    spec_l01Block.lv2 h ks ws [(xp + xq) % 4294967296, a0, a1, a2, (a3 + xp) % 4294967296, a4, a5, a6] ((i + 1 : Nat) : Int) = some r := by
  have := step2 h ks ws a0 a1 a2 a3 a4 a5 a6 a7 i r hw hk hi H
  rw [hxk, hxw] at this
  rw [← this, ← hp, ← hq]
  simp only [pW, qW, pF, qF, u32w_h, u32max_h, Int.emod_add_emod, Int.add_emod_emod]
def pX (a7 e f g k x : Int) : Int := IntKind.u32.wrap (IntKind.u32.wrap (IntKind.u32.wrap (IntKind.u32.wrap (a7 + sig e 6 11 (turnH e 25)) + Go.bits .xor .u32 (Go.bits .and .u32 e f) (Go.bits .and .u32 (Go.bits .xor .u32 IntKind.u32.max e) g)) + k) + x)
theorem pX_eq (a7 e f g k x : Int) : pX a7 e f g k x = pW a7 e f g k x := by
  unfold pX pW
  rw [u32max_h, ch_eq]
theorem exit2 (h ks ws v : List Int) (r : List Int) (i : Int) (hi : ¬ i < 64) (H : spec_l01Block.lv2 h ks ws v i = some r) : spec_l01Block.lv3 h v ((0 : Nat) : Int) = some r := by
  rw [spec_l01Block.lv2_eq, if_neg hi] at H
  rw [show ((0 : Nat) : Int) = 0 from rfl]
  exact H
theorem step3 (h v : List Int) (i : Nat) (r : List Int) (hh : h.length = 8) (hv : v.length = 8) (hi : i < 8) (H : spec_l01Block.lv3 h v i = some r) :
    spec_l01Block.lv3 (h.set i (IntKind.u32.wrap (h.getD i 0 + v.getD i 0))) v ((i + 1 : Nat) : Int) = some r := by
  have g0 : (i : Int) < 8 := by omega
  have g1 : (0 : Int) ≤ i := by omega
  have g2 : (i : Int) < (h.length : Int) := by omega
  have g3 : (i : Int) < (v.length : Int) := by omega
  have w : wrap64 ((i : Int) + 1) = ((i + 1 : Nat) : Int) := wadd i (by omega)
  have r0 : rd h (i : Int) = h.getD i 0 := by simp [rd]
  have r1 : rd v (i : Int) = v.getD i 0 := by simp [rd]
  rw [spec_l01Block.lv3_eq, w, if_pos g0, if_pos g1, if_pos g2, if_pos g3, r0, r1] at H
  simpa only [u32w_h, Int.toNat_natCast] using H
theorem exit3 (h v : List Int) (r : List Int) (i : Int) (hi : ¬ i < 8) (H : spec_l01Block.lv3 h v i = some r) : h = r := by
  rw [spec_l01Block.lv3_eq, if_neg hi] at H
  exact Option.some.inj H
theorem start0 (h bs ks : List Int) (r : List Int) (H : spec_l01Block.v h bs ks = some r) : spec_l01Block.lv0 h bs ks (List.replicate 64 0) ((0 : Nat) : Int) = some r := by
  rw [spec_l01Block.v_eq] at H
  split at H
  · rw [if_pos (by omega)] at H
    rw [show ((0 : Nat) : Int) = 0 from rfl]
    exact H
  · cases H
set_option maxHeartbeats 8000000 in
set_option maxRecDepth 100000 in
theorem rot_same (a0 : Int) (a1 : Int) (r : Int) (w : World) (h : bits_RotateLeft32.f a0 a1 = some r) :
    Calls Tryd.prog 199 #[.int .u32 a0, .int .i64 a1] w fun e w' => e = .returned (.int .u32 r) ∧ w' = w := by
  have H : (if 0 ≤ (Go.bits .and .u64 (IntKind.u64.wrap (a1)) 31) then (if 0 ≤ (IntKind.u64.wrap (32 - (Go.bits .and .u64 (IntKind.u64.wrap (a1)) 31))) then (some (Go.bits .or .u32 (shl .u32 a0 (Go.bits .and .u64 (IntKind.u64.wrap (a1)) 31)) (shr .u32 a0 (IntKind.u64.wrap (32 - (Go.bits .and .u64 (IntKind.u64.wrap (a1)) 31)))))) else (none)) else (none)) = some r := h
  clear h
  obtain ⟨ji3, hji3⟩ : ∃ j_ : Int, (Go.bits .and .u64 (IntKind.u64.wrap (a1)) 31) = j_ := ⟨_, rfl⟩
  replace H : (if 0 ≤ (ji3) then (if 0 ≤ (IntKind.u64.wrap (32 - (ji3))) then (some (Go.bits .or .u32 (shl .u32 a0 (ji3)) (shr .u32 a0 (IntKind.u64.wrap (32 - (ji3)))))) else (none)) else (none)) = some r := by first | (rw [hji3] at H; exact H) | (simp only [hji3] at H ⊢; exact H)
  by_cases c4 : 0 ≤ (ji3)
  · rw [if_pos c4] at H
    have c4b0 := eq_true c4
    have c4b1 : decide (0 ≤ (ji3)) = true := decide_eq_true c4
    clear c4
    obtain ⟨ji5, hji5⟩ : ∃ j_ : Int, (shl .u32 a0 (ji3)) = j_ := ⟨_, rfl⟩
    replace H : (if 0 ≤ (IntKind.u64.wrap (32 - (ji3))) then (some (Go.bits .or .u32 (ji5) (shr .u32 a0 (IntKind.u64.wrap (32 - (ji3)))))) else (none)) = some r := by first | (rw [hji5] at H; exact H) | (simp only [hji5] at H ⊢; exact H)
    have hji5_ : (IntKind.u32.wrap (a0 * 2 ^ min (ji3).toNat 32)) = ji5 := hji5
    have hji5z : (ji3) ≤ 32 → (IntKind.u32.wrap (a0 * 2 ^ (ji3).toNat)) = ji5 := shl_small hji5
    obtain ⟨ji6, hji6⟩ : ∃ j_ : Int, (IntKind.u64.wrap (32 - (ji3))) = j_ := ⟨_, rfl⟩
    replace H : (if 0 ≤ (ji6) then (some (Go.bits .or .u32 (ji5) (shr .u32 a0 (ji6)))) else (none)) = some r := by first | (rw [hji6] at H; exact H) | (simp only [hji6] at H ⊢; exact H)
    by_cases c7 : 0 ≤ (ji6)
    · rw [if_pos c7] at H
      have c7b0 := eq_true c7
      have c7b1 : decide (0 ≤ (ji6)) = true := decide_eq_true c7
      clear c7
      obtain ⟨ji8, hji8⟩ : ∃ j_ : Int, (shr .u32 a0 (ji6)) = j_ := ⟨_, rfl⟩
      replace H : (some (Go.bits .or .u32 (ji5) (ji8))) = some r := by first | (rw [hji8] at H; exact H) | (simp only [hji8] at H ⊢; exact H)
      have hji8_ : (a0 / 2 ^ min (ji6).toNat 32) = ji8 := hji8
      have hji8z : (ji6) ≤ 32 → (a0 / 2 ^ (ji6).toNat) = ji8 := shr_small hji8
      obtain rfl := Option.some.inj H
      go_enter Tryd.func199, Tryd.ntmps199
      go_wp2
      go_ret
      exact ⟨by first | rfl | (simp; done) | (simp only [← hji3, ← hji5, ← hji6, ← hji8] <;> (first | rfl | simp)) | (simp [*]; done), rfl⟩
    · rw [if_neg c7] at H
      exact absurd H (by simp)
  · rw [if_neg c4] at H
    exact absurd H (by simp)
set_option maxHeartbeats 8000000 in
set_option maxRecDepth 100000 in
theorem turned_same (a0 : Int) (a1 : Int) (r : Int) (w : World) (h : impl_turned.f a0 a1 = some r) :
    Calls Tryd.prog 177 #[.int .u32 a0, .int .i64 a1] w fun e w' => e = .returned (.int .u32 r) ∧ w' = w := by
  have H : ((bits_RotateLeft32.f a0 (wrap64 (-a1))).bind fun t209 => (some t209)) = some r := h
  clear h
  replace H := Option.bind_eq_some_iff.mp H
  obtain ⟨t209, A30, H⟩ := H
  replace H : (some t209) = some r := H
  have A3 := Aside0.mk A30
  clear A30
  obtain rfl := Option.some.inj H
  go_enter Tryd.func177, Tryd.ntmps177
  go_wp2_with (first | ((with_reducible refine gate_callee (f := 199) rfl ?_); refine goesL_ (some 8) rfl rfl Tryd.func199 (by kernel_rfl) rfl #[.int .u32 a0, .int .i64 (wrap64 (-a1))] rfl (by (try simp only [List.map_toArray, List.map_cons, List.map_nil]); first | done | rfl | (simp only [List.length_drop, List.length_take]; rfl)) ?_; (with_reducible refine (rot_same a0 (wrap64 (-a1)) t209 _ A3.out).mono ?_); rintro e w' ⟨rfl, rfl⟩; refine ⟨_, rfl, ?_⟩))
  go_ret
  exact ⟨by first | rfl | (simp; done) | (simp [*]; done), rfl⟩
theorem turned_f (x n s : Int) (h1 : Go.bits .and .u64 (IntKind.u64.wrap (wrap64 (-n))) 31 = s) (h2 : IntKind.u64.wrap (32 - s) = n) (h3 : 32 - n = s) (h4 : 0 ≤ s) (h5 : 0 ≤ n) : impl_turned.f x n = some (turnH x n) := by
  unfold impl_turned.f bits_RotateLeft32.f
  rw [h1, h2, if_pos h4, if_pos h5, Option.bind_some, turnH, or_comm_h, h3]
theorem turned_at (x n s : Int) (w : World) (h1 : Go.bits .and .u64 (IntKind.u64.wrap (wrap64 (-n))) 31 = s) (h2 : IntKind.u64.wrap (32 - s) = n) (h3 : 32 - n = s) (h4 : 0 ≤ s) (h5 : 0 ≤ n) :
    Calls Tryd.prog 177 #[.int .u32 x, .int .i64 n] w fun e w' => e = .returned (.int .u32 (turnH x n)) ∧ w' = w :=
  turned_same x n _ w (turned_f x n s h1 h2 h3 h4 h5)
theorem turn2 (x : Int) (w : World) : Calls Tryd.prog 177 #[.int .u32 x, .int .i64 2] w fun e w' => e = .returned (.int .u32 (turnH x 2)) ∧ w' = w := turned_at x 2 30 w (by kernel_rfl) (by kernel_rfl) (by decide) (by decide) (by decide)
theorem turn6 (x : Int) (w : World) : Calls Tryd.prog 177 #[.int .u32 x, .int .i64 6] w fun e w' => e = .returned (.int .u32 (turnH x 6)) ∧ w' = w := turned_at x 6 26 w (by kernel_rfl) (by kernel_rfl) (by decide) (by decide) (by decide)
theorem turn7 (x : Int) (w : World) : Calls Tryd.prog 177 #[.int .u32 x, .int .i64 7] w fun e w' => e = .returned (.int .u32 (turnH x 7)) ∧ w' = w := turned_at x 7 25 w (by kernel_rfl) (by kernel_rfl) (by decide) (by decide) (by decide)
theorem turn11 (x : Int) (w : World) : Calls Tryd.prog 177 #[.int .u32 x, .int .i64 11] w fun e w' => e = .returned (.int .u32 (turnH x 11)) ∧ w' = w := turned_at x 11 21 w (by kernel_rfl) (by kernel_rfl) (by decide) (by decide) (by decide)
theorem turn13 (x : Int) (w : World) : Calls Tryd.prog 177 #[.int .u32 x, .int .i64 13] w fun e w' => e = .returned (.int .u32 (turnH x 13)) ∧ w' = w := turned_at x 13 19 w (by kernel_rfl) (by kernel_rfl) (by decide) (by decide) (by decide)
theorem turn17 (x : Int) (w : World) : Calls Tryd.prog 177 #[.int .u32 x, .int .i64 17] w fun e w' => e = .returned (.int .u32 (turnH x 17)) ∧ w' = w := turned_at x 17 15 w (by kernel_rfl) (by kernel_rfl) (by decide) (by decide) (by decide)
theorem turn18 (x : Int) (w : World) : Calls Tryd.prog 177 #[.int .u32 x, .int .i64 18] w fun e w' => e = .returned (.int .u32 (turnH x 18)) ∧ w' = w := turned_at x 18 14 w (by kernel_rfl) (by kernel_rfl) (by decide) (by decide) (by decide)
theorem turn19 (x : Int) (w : World) : Calls Tryd.prog 177 #[.int .u32 x, .int .i64 19] w fun e w' => e = .returned (.int .u32 (turnH x 19)) ∧ w' = w := turned_at x 19 13 w (by kernel_rfl) (by kernel_rfl) (by decide) (by decide) (by decide)
theorem turn22 (x : Int) (w : World) : Calls Tryd.prog 177 #[.int .u32 x, .int .i64 22] w fun e w' => e = .returned (.int .u32 (turnH x 22)) ∧ w' = w := turned_at x 22 10 w (by kernel_rfl) (by kernel_rfl) (by decide) (by decide) (by decide)
theorem turn25 (x : Int) (w : World) : Calls Tryd.prog 177 #[.int .u32 x, .int .i64 25] w fun e w' => e = .returned (.int .u32 (turnH x 25)) ∧ w' = w := turned_at x 25 7 w (by kernel_rfl) (by kernel_rfl) (by decide) (by decide) (by decide)
theorem res121 (tmps : Array Value) (W : World) (g : Nat) (h4 : tmps.getD 4 undef = .pointer (some ⟨g, 0, none⟩)) (b0 b1 b2 b3 b4 b5 b6 b7 : Int)
    (r0 : W.cell? ⟨g, 0, none⟩ = some (.int .u32 b0)) (r1 : W.cell? ⟨g, 1, none⟩ = some (.int .u32 b1)) (r2 : W.cell? ⟨g, 2, none⟩ = some (.int .u32 b2)) (r3 : W.cell? ⟨g, 3, none⟩ = some (.int .u32 b3))
    (r4 : W.cell? ⟨g, 4, none⟩ = some (.int .u32 b4)) (r5 : W.cell? ⟨g, 5, none⟩ = some (.int .u32 b5)) (r6 : W.cell? ⟨g, 6, none⟩ = some (.int .u32 b6)) (r7 : W.cell? ⟨g, 7, none⟩ = some (.int .u32 b7)) :
    (results Tryd.f131 tmps).run Tryd.prog W = .ok (.agg #[.int .u32 b0, .int .u32 b1, .int .u32 b2, .int .u32 b3, .int .u32 b4, .int .u32 b5, .int .u32 b6, .int .u32 b7]) W := by
  have h4' : tmps[4]?.getD undef = .pointer (some ⟨g, 0, none⟩) := by simpa using h4
  have hres : Tryd.f131.results = #[.cell 4 154] := rfl
  simp only [results, hres, List.mapM_toArray, List.mapM_cons, List.mapM_nil, h4, asAddr]
  go_simp
set_option maxHeartbeats 4000000 in
set_option maxRecDepth 100000 in
theorem block_walk (h0 h1 h2 h3 h4 h5 h6 h7 : Int) (gb ob cb : Nat) (bs ks r : List Int) (w : World) (hgb : gb < w.heap.size) (hbl : bs.length = 64) (hob : ob < 1000000000000)
    (hb : ∀ j, j < 64 → w.cell? ⟨gb, ob + j, none⟩ = some (.int .u8 (bs.getD j 0))) (hL : ∀ j, j < 64 → w.cell? ⟨0, j, none⟩ = some (.int .u32 (ks.getD j 0))) (hkl : ks.length = 64) (H : spec_l01Block.v [h0, h1, h2, h3, h4, h5, h6, h7] bs ks = some r) :
    Calls Tryd.prog 131 #[.agg #[.int .u32 h0, .int .u32 h1, .int .u32 h2, .int .u32 h3, .int .u32 h4, .int .u32 h5, .int .u32 h6, .int .u32 h7], .slice (some ⟨gb, ob, none⟩) 64 cb] w fun e w' => e = .returned (.agg (r.map (Value.int .u32)).toArray) ∧ Below w.heap.size w w' ∧ r.length = 8 := by
  have HB := Aside0.mk hb
  have HL := Aside0.mk hL
  clear hb hL
  have H0 := Aside0.mk (start0 _ _ _ _ H)
  clear H
  go_enter Tryd.func131, Tryd.ntmps131
  go_wp2
  generalize hn : w.heap.size = n at *
  generalize hW : World.alloc _ _ = W3
  have F := Aside0.mk (show Bk w W3 n [h0, h1, h2, h3, h4, h5, h6, h7] (List.replicate 8 0) (List.replicate 64 0) from by subst hn; subst hW; exact Bk.start w [h0, h1, h2, h3, h4, h5, h6, h7] (List.replicate 8 0) (List.replicate 64 0) 154 154 186)
  clear hW
  simp only [Nat.add_assoc, Nat.reduceAdd]
  go_loopg [16] 16 (fun gg v16 wr => ∃ (i : Nat) (ws : List Int), i ≤ 16 ∧ gg + i = 16 ∧ v16 = .int .i64 (i : Int) ∧ ws.length = 64 ∧ Aside0 (spec_l01Block.lv0 [h0, h1, h2, h3, h4, h5, h6, h7] bs ks ws (i : Int) = some r) ∧ Aside0 (Bk w wr n [h0, h1, h2, h3, h4, h5, h6, h7] (List.replicate 8 0) ws))
  case atStart => exact ⟨0, _, by omega, rfl, rfl, List.length_replicate, H0, F⟩
  case round =>
    clear F H0
    obtain ⟨i, ws, hi, hg, rfl, hws, H0, F⟩ := hrel
    by_cases hlt : i < 16
    · have c1 : ((i : Int) < 16) := by omega
      obtain ⟨q0, hq0⟩ : ∃ q, q = 4 * i := ⟨_, rfl⟩
      obtain ⟨q1, hq1⟩ : ∃ q, q = 4 * i + 1 := ⟨_, rfl⟩
      obtain ⟨q2, hq2⟩ : ∃ q, q = 4 * i + 2 := ⟨_, rfl⟩
      obtain ⟨q3, hq3⟩ : ∃ q, q = 4 * i + 3 := ⟨_, rfl⟩
      have w0 : IntKind.i64.wrap (4 * (i : Int)) = (q0 : Int) := (w64id _ (by omega) (by omega)).trans (by omega)
      have w1 : IntKind.i64.wrap ((q0 : Int) + 1) = (q1 : Int) := (w64id _ (by omega) (by omega)).trans (by omega)
      have w2 : IntKind.i64.wrap ((q0 : Int) + 2) = (q2 : Int) := (w64id _ (by omega) (by omega)).trans (by omega)
      have w3 : IntKind.i64.wrap ((q0 : Int) + 3) = (q3 : Int) := (w64id _ (by omega) (by omega)).trans (by omega)
      have b0 := F.out.old hgb (HB.out q0 (by omega))
      have b1 := F.out.old hgb (HB.out q1 (by omega))
      have b2 := F.out.old hgb (HB.out q2 (by omega))
      have b3 := F.out.old hgb (HB.out q3 (by omega))
      have e0 : (q0 : Int) < 64 := by omega
      have e1 : (q1 : Int) < 64 := by omega
      have e2 : (q2 : Int) < 64 := by omega
      have e3 : (q3 : Int) < 64 := by omega
      have ei : (i : Int) < 64 := by omega
      have z0 := F.out.hw.cell i (by omega)
      have z1 := F.out.hw.free i (by omega)
      have H1 := Aside0.mk (step0 _ _ _ _ _ _ hbl hws hlt H0.out)
      rw [← hq1, ← hq2, ← hq3, ← hq0] at H1
      generalize hx0 : bs.getD q0 0 = x0 at b0 H1
      generalize hx1 : bs.getD q1 0 = x1 at b1 H1
      generalize hx2 : bs.getD q2 0 = x2 at b2 H1
      generalize hx3 : bs.getD q3 0 = x3 at b3 H1
      generalize ws.getD i 0 = xi at z0
      clear hq0 hq1 hq2 hq3 hx0 hx1 hx2 hx3
      go_wp2
      go_still_tail 35, (by kernel_rfl)
      change wpList _ _ _ _ _ wr.drew
      have z2 : wr.drew.cell? ⟨n + 2, i, none⟩ = some (.int .u32 xi) := z0
      have z3 : wr.drew.frozen? ⟨n + 2, i, none⟩ = false := z1
      have F2 := Aside0.mk (F.out.drew.word i (by omega) (word4 x0 x1 x2 x3))
      generalize wr.drew = w4 at z2 z3 F2 ⊢
      clear z0 z1 b0 b1 b2 b3 F
      go_wp2
      go_roundg (16 - (i + 1))
      case measure => omega
      case rel => exact ⟨i + 1, _, by omega, by omega, by go_num, by rw [List.length_set]; exact hws, H1, F2⟩
    · have hlt2 : ¬ ((i : Int) < 16) := by omega
      have H1 := Aside0.mk (exit0 _ _ _ _ _ _ hlt2 H0.out)
      clear H0
      go_wp2
      go_loopg [7] 48 (fun gg v7 wr => ∃ (i : Nat) (ws : List Int), i ≤ 64 ∧ 16 ≤ i ∧ gg + i = 64 ∧ v7 = .int .i64 (i : Int) ∧ ws.length = 64 ∧ Aside0 (spec_l01Block.lv1 [h0, h1, h2, h3, h4, h5, h6, h7] ks ws (i : Int) = some r) ∧ Aside0 (Bk w wr n [h0, h1, h2, h3, h4, h5, h6, h7] (List.replicate 8 0) ws))
      case atStart => exact ⟨16, ws, by omega, by omega, rfl, rfl, hws, H1, F⟩
      case round =>
        clear F H1 hlt2 hlt hi hws
        obtain ⟨i, ws, hi, h16, hg, rfl, hws, H0, F⟩ := hrel
        by_cases hlt : i < 64
        · have c1 : ((i : Int) < 64) := by omega
          obtain ⟨q0, hq0⟩ : ∃ q, q = i - 16 := ⟨_, rfl⟩
          obtain ⟨q1, hq1⟩ : ∃ q, q = i - 15 := ⟨_, rfl⟩
          obtain ⟨q2, hq2⟩ : ∃ q, q = i - 7 := ⟨_, rfl⟩
          obtain ⟨q3, hq3⟩ : ∃ q, q = i - 2 := ⟨_, rfl⟩
          have w0 : IntKind.i64.wrap ((i : Int) - 16) = (q0 : Int) := (w64id _ (by omega) (by omega)).trans (by omega)
          have w1 : IntKind.i64.wrap ((i : Int) - 15) = (q1 : Int) := by clear w0; exact (w64id _ (by omega) (by omega)).trans (by omega)
          have w2 : IntKind.i64.wrap ((i : Int) - 7) = (q2 : Int) := by clear w0 w1; exact (w64id _ (by omega) (by omega)).trans (by omega)
          have w3 : IntKind.i64.wrap ((i : Int) - 2) = (q3 : Int) := by clear w0 w1 w2; exact (w64id _ (by omega) (by omega)).trans (by omega)
          have g0 : q0 < ws.length := by clear w0 w1 w2 w3; omega
          have g1 : q1 < ws.length := by clear w0 w1 w2 w3; omega
          have g2 : q2 < ws.length := by clear w0 w1 w2 w3; omega
          have g3 : q3 < ws.length := by clear w0 w1 w2 w3; omega
          have g4 : i < ws.length := by clear w0 w1 w2 w3; omega
          have b0 := F.out.hw.cell q0 g0
          have b1 := F.out.hw.cell q1 g1
          have b2 := F.out.hw.cell q2 g2
          have b3 := F.out.hw.cell q3 g3
          have e0 : (q0 : Int) < 64 := by clear w0 w1 w2 w3; omega
          have e1 : (q1 : Int) < 64 := by clear w0 w1 w2 w3; omega
          have e2 : (q2 : Int) < 64 := by clear w0 w1 w2 w3; omega
          have e3 : (q3 : Int) < 64 := by clear w0 w1 w2 w3; omega
          have z0 := F.out.hw.cell i g4
          have z1 := F.out.hw.free i g4
          have H1 := Aside0.mk (step1 _ _ _ _ _ hws h16 hlt H0.out)
          rw [← hq0, ← hq1, ← hq2, ← hq3] at H1
          generalize hx0 : ws.getD q0 0 = x0 at b0 H1
          generalize hx1 : ws.getD q1 0 = x1 at b1 H1
          generalize hx2 : ws.getD q2 0 = x2 at b2 H1
          generalize hx3 : ws.getD q3 0 = x3 at b3 H1
          generalize ws.getD i 0 = xi at z0
          clear hq0 hq1 hq2 hq3 hx0 hx1 hx2 hx3 g0 g1 g2 g3 H0
          go_wp2
          go_quiet (fail)
          have F3 := Aside0.mk (F.out.drewN nq)
          have b0_ : (wr.drewN nq).cell? _ = _ := b0
          have b1_ : (wr.drewN nq).cell? _ = _ := b1
          have b2_ : (wr.drewN nq).cell? _ = _ := b2
          have b3_ : (wr.drewN nq).cell? _ = _ := b3
          have z0_ : (wr.drewN nq).cell? _ = _ := z0
          have z1_ : (wr.drewN nq).frozen? _ = _ := z1
          clear b0 b1 b2 b3 z0 z1 F
          generalize wr.drewN nq = w5 at b0_ b1_ b2_ b3_ z0_ z1_ F3 ⊢
          go_wp2
          refine wp_region_still_tail 29 (by kernel_rfl) (by kernel_rfl) ?_
          simp only [List.take_succ_cons, List.take_zero, List.drop_succ_cons, List.drop_zero]
          repeat still_step
          still_call (turn7 _ _)
          repeat still_step
          still_call (turn18 _ _)
          repeat still_step
          still_call (turn17 _ _)
          repeat still_step
          still_call (turn19 _ _)
          repeat still_step
          refine wpStill_nil ?_
          change wpList _ _ _ _ _ w5.drew
          have z2 : w5.drew.cell? ⟨n + 2, i, none⟩ = some (.int .u32 xi) := z0_
          have z3 : w5.drew.frozen? ⟨n + 2, i, none⟩ = false := z1_
          have F2 := Aside0.mk (F3.out.drew.word i g4 (wordX x0 (sig x1 7 18 (x1 / 8)) x2 (sig x3 17 19 (x3 / 1024))))
          generalize w5.drew = w4 at z2 z3 F2 ⊢
          clear z0_ z1_ b0_ b1_ b2_ b3_ F3 w0 w1 w2 w3
          go_wp2
          go_roundg (64 - (i + 1))
          case measure => omega
          case rel => exact ⟨i + 1, _, by omega, by omega, by omega, by go_num, by rw [List.length_set]; exact hws, H1, F2⟩
        · have hlt2 : ¬ ((i : Int) < 64) := by omega
          have H1 := Aside0.mk (exit1 _ _ _ _ rfl _ hlt2 H0.out)
          clear H0
          obtain ⟨⟨a0, a1, a2, a3, a4, a5, a6, a7⟩, -⟩ := F.out.hh.eight
          have hsz := F.out.size
          go_wp2
          have F2 : Aside0 (Bk2 w (wr.alloc (.cells #[.int .u32 h0, .int .u32 h1, .int .u32 h2, .int .u32 h3, .int .u32 h4, .int .u32 h5, .int .u32 h6, .int .u32 h7] 154)) n [h0, h1, h2, h3, h4, h5, h6, h7] (List.replicate 8 0) ws [h0, h1, h2, h3, h4, h5, h6, h7]) := Aside0.mk (Bk2.start F.out [h0, h1, h2, h3, h4, h5, h6, h7] 154)
          generalize World.alloc _ _ = w5 at F2 ⊢
          clear a0 a1 a2 a3 a4 a5 a6 a7 hsz F
          go_loopg [97] 64 (fun gg v97 wr => ∃ (i : Nat) (a0 a1 a2 a3 a4 a5 a6 a7 : Int), i ≤ 64 ∧ gg + i = 64 ∧ v97 = .int .i64 (i : Int) ∧ Aside0 (spec_l01Block.lv2 [h0, h1, h2, h3, h4, h5, h6, h7] ks ws [a0, a1, a2, a3, a4, a5, a6, a7] (i : Int) = some r) ∧ Aside0 (Bk2 w wr n [h0, h1, h2, h3, h4, h5, h6, h7] (List.replicate 8 0) ws [a0, a1, a2, a3, a4, a5, a6, a7]))
          case atStart => exact ⟨0, h0, h1, h2, h3, h4, h5, h6, h7, by omega, rfl, rfl, H1, F2⟩
          case round =>
            clear F2 H1 hlt2 hlt hi h16
            obtain ⟨i, a0, a1, a2, a3, a4, a5, a6, a7, hi, hg, rfl, H0, F⟩ := hrel
            by_cases hlt : i < 64
            · have c1 : ((i : Int) < 64) := by omega
              obtain ⟨⟨c0, d1, d2, d3, d4, d5, d6, d7⟩, -⟩ := F.out.ha.eight
              have bk := F.out.old (by omega) (HL.out i (by omega))
              have bw := F.out.hw.cell i (by omega)
              obtain ⟨xk, hxk⟩ : ∃ x, ks.getD i 0 = x := ⟨_, rfl⟩
              obtain ⟨xw, hxw⟩ : ∃ x, ws.getD i 0 = x := ⟨_, rfl⟩
              rw [hxk] at bk
              rw [hxw] at bw
              have HX := Aside0.mk (And.intro hxk hxw)
              clear hxk hxw
              go_wp2
              refine wp_region_still_lit (by kernel_rfl) (by kernel_rfl) ?_
              repeat still_step
              still_call (turn6 _ _)
              repeat still_step
              still_call (turn11 _ _)
              repeat still_step
              still_call (turn25 _ _)
              repeat still_step
              refine wpStill_nil ?_
              have F3 := Aside0.mk F.out.drew
              have c0_ : wr.drew.cell? _ = _ := c0
              have d1_ : wr.drew.cell? _ = _ := d1
              have d2_ : wr.drew.cell? _ = _ := d2
              have d3_ : wr.drew.cell? _ = _ := d3
              have d4_ : wr.drew.cell? _ = _ := d4
              have d5_ : wr.drew.cell? _ = _ := d5
              have d6_ : wr.drew.cell? _ = _ := d6
              have d7_ : wr.drew.cell? _ = _ := d7
              clear c0 d1 d2 d3 d4 d5 d6 d7 bk bw F
              generalize hxp : IntKind.u32.wrap (IntKind.u32.wrap (_ + xk) + xw) = xp
              have hp : pW a7 a4 a5 a6 xk xw = xp := hxp
              have HP := Aside0.mk hp
              clear hxp hp
              rw [show ({ heap := wr.heap, tape := wr.tape, drawn := wr.drawn + 1, os := wr.os, output := wr.output } : World) = wr.drew from rfl]
              generalize wr.drew = w6 at c0_ d1_ d2_ d3_ d4_ d5_ d6_ d7_ F3 ⊢
              go_wp2
              refine wp_region_still_lit (by kernel_rfl) (by kernel_rfl) ?_
              repeat still_step
              still_call (turn2 _ _)
              repeat still_step
              still_call (turn13 _ _)
              repeat still_step
              still_call (turn22 _ _)
              repeat still_step
              refine wpStill_nil ?_
              obtain ⟨⟨c0, d1, d2, d3, d4, d5, d6, d7⟩, ⟨f0, f1, f2, f3, f4, f5, f6, f7⟩⟩ := F3.out.drew.ha.eight
              have F4 := Aside0.mk F3.out.drew
              clear c0_ d1_ d2_ d3_ d4_ d5_ d6_ d7_ F3
              generalize hxq : IntKind.u32.wrap (_ + Go.bits .xor .u32 _ (Go.bits .and .u32 a1 a2)) = xq
              have hq : qW a0 a1 a2 = xq := hxq
              have HQ := Aside0.mk hq
              clear hxq hq
              rw [show ({ heap := w6.heap, tape := w6.tape, drawn := w6.drawn + 1, os := w6.os, output := w6.output } : World) = w6.drew from rfl]
              generalize w6.drew = w7 at c0 d1 d2 d3 d4 d5 d6 d7 f0 f1 f2 f3 f4 f5 f6 f7 F4 ⊢
              have H1 := Aside0.mk (step2w _ _ _ _ _ _ _ _ _ _ _ _ _ hws hkl hlt xk xw xp xq HX.out.1 HX.out.2 HP.out HQ.out H0.out)
              clear H0
              go_wp2
              go_roundg (64 - (i + 1))
              case measure => omega
              case rel =>
                have F5 := ((((((((F4.out.set 0 (by simp) ((xp + xq) % 4294967296)).set 1 (by simp) a0).set 2 (by simp) a1).set 3 (by simp) a2).set 4 (by simp) ((a3 + xp) % 4294967296)).set 5 (by simp) a4).set 6 (by simp) a5).set 7 (by simp) a6)
                exact ⟨i + 1, _, _, _, _, _, _, _, _, by omega, by omega, by go_num, H1, ⟨F5⟩⟩
            · have hlt2 : ¬ ((i : Int) < 64) := by omega
              have H1 := Aside0.mk (exit2 _ _ _ _ _ _ hlt2 H0.out)
              clear H0
              go_wp2
              go_loopg [182] 8 (fun gg v182 wr => ∃ (i : Nat) (lh : List Int), i ≤ 8 ∧ gg + i = 8 ∧ v182 = .int .i64 (i : Int) ∧ lh.length = 8 ∧ Aside0 (spec_l01Block.lv3 lh [a0, a1, a2, a3, a4, a5, a6, a7] (i : Int) = some r) ∧ Aside0 (Bk2 w wr n lh (List.replicate 8 0) ws [a0, a1, a2, a3, a4, a5, a6, a7]))
              case atStart => exact ⟨0, _, by omega, rfl, rfl, rfl, H1, F⟩
              case round =>
                clear F H1 hlt2 hlt hi
                obtain ⟨i, lh, hi, hg, rfl, hlh, H0, F⟩ := hrel
                by_cases hlt : i < 8
                · have c1 : ((i : Int) < 8) := by omega
                  have H1 := Aside0.mk (step3 _ _ _ _ hlh rfl hlt H0.out)
                  have b0 := F.out.hh.cell i (by omega)
                  have b1 := F.out.ha.cell i (by simpa using hlt)
                  have z1 := F.out.hh.free i (by omega)
                  clear H0
                  obtain ⟨x0, hx0⟩ : ∃ x, lh.getD i 0 = x := ⟨_, rfl⟩
                  obtain ⟨x1, hx1⟩ : ∃ x, ([a0, a1, a2, a3, a4, a5, a6, a7] : List Int).getD i 0 = x := ⟨_, rfl⟩
                  rw [hx0] at b0 H1
                  rw [hx1] at b1 H1
                  rw [u32w_h] at H1
                  clear hx0 hx1
                  go_wp2
                  refine wp_region_still_tail 8 (by kernel_rfl) (by kernel_rfl) ?_
                  simp only [List.take_succ_cons, List.take_zero, List.drop_succ_cons, List.drop_zero]
                  repeat still_step
                  refine wpStill_nil ?_
                  change wpList _ _ _ _ _ wr.drew
                  have z2 : wr.drew.cell? ⟨n, i, none⟩ = some (.int .u32 x0) := b0
                  have z3 : wr.drew.frozen? ⟨n, i, none⟩ = false := z1
                  have F2 := Aside0.mk (F.out.drew.head i (by omega) ((x0 + x1) % 4294967296))
                  generalize wr.drew = w4 at z2 z3 F2 ⊢
                  clear z1 b0 b1 F
                  go_wp2
                  go_roundg (8 - (i + 1))
                  case measure => omega
                  case rel => exact ⟨i + 1, _, by omega, by omega, by go_num, by rw [List.length_set]; exact hlh, H1, F2⟩
                · have hlt2 : ¬ ((i : Int) < 8) := by omega
                  have e := exit3 _ _ _ _ hlt2 H0.out
                  subst e
                  clear H0
                  obtain ⟨b0, b1, b2, b3, b4, b5, b6, b7, rfl⟩ := eight hlh
                  obtain ⟨⟨c0, d1, d2, d3, d4, d5, d6, d7⟩, -⟩ := F.out.hh.eight
                  obtain ⟨⟨k0, k1, k2, k3, k4, k5, k6, k7⟩, ⟨f0, f1, f2, f3, f4, f5, f6, f7⟩⟩ := Au.eight (show Au wr (n + 1) [0, 0, 0, 0, 0, 0, 0, 0] from F.out.hr)
                  go_wp2
                  have F5 := (((((((F.out.out 0 (by simp) b0).out 1 (by simp) b1).out 2 (by simp) b2).out 3 (by simp) b3).out 4 (by simp) b4).out 5 (by simp) b5).out 6 (by simp) b6).out 7 (by simp) b7
                  obtain ⟨⟨r0, r1, r2, r3, r4, r5, r6, r7⟩, -⟩ := F5.hr.eight
                  have hbl := F5.below
                  clear c0 d1 d2 d3 d4 d5 d6 d7 k0 k1 k2 k3 k4 k5 k6 k7 f0 f1 f2 f3 f4 f5 f6 f7 F F5
                  (try simp only [Exit.inBlock, Exit.then])
                  generalize World.setCell (World.setCell (World.setCell (World.setCell (World.setCell (World.setCell (World.setCell (World.setCell wr _ _) _ _) _ _) _ _) _ _) _ _) _ _) _ _ = W8 at hbl r0 r1 r2 r3 r4 r5 r6 r7 ⊢
                  refine bodyPost_ret (res121 _ _ (n + 1) (by rfl) _ _ _ _ _ _ _ _ r0 r1 r2 r3 r4 r5 r6 r7) rfl ?_
                  first | exact ⟨rfl, hbl, rfl⟩ | exact ⟨rfl, hbl⟩
def hashIV : List Int := [1779033703, 3144134277, 1013904242, 2773480762, 1359893119, 2600822924, 528734635, 1541459225]
def roundKs : List Int := [1116352408, 1899447441, 3049323471, 3921009573, 961987163, 1508970993, 2453635748, 2870763221, 3624381080, 310598401, 607225278, 1426881987, 1925078388, 2162078206, 2614888103, 3248222580, 3835390401, 4022224774, 264347078, 604807628, 770255983, 1249150122, 1555081692, 1996064986, 2554220882, 2821834349, 2952996808, 3210313671, 3336571891, 3584528711, 113926993, 338241895, 666307205, 773529912, 1294757372, 1396182291, 1695183700, 1986661051, 2177026350, 2456956037, 2730485921, 2820302411, 3259730800, 3345764771, 3516065817, 3600352804, 4094571909, 275423344, 430227734, 506948616, 659060556, 883997877, 958139571, 1322822218, 1537002063, 1747873779, 1955562222, 2024104815, 2227730452, 2361852424, 2428436474, 2756734187, 3204031479, 3329325298]
theorem hstart (x : List Int) (r : ByteArray) (hx : x.length ≤ 40000000) (H : spec_l01Hash.v x = some r) : spec_l01Hash.lv0 x hashIV (x ++ [128]) = some r := by
  rw [spec_l01Hash.v_eq, Option.bind_some, if_pos (by simp; omega), Option.bind_some, if_pos (by simp; omega), List.nil_append] at H
  exact H
theorem hpad (x h all : List Int) (r : ByteArray) (ha : all.length < 140737488355328) (hc : all.length % 64 ≠ 56) (H : spec_l01Hash.lv0 x h all = some r) : spec_l01Hash.lv0 x h (all ++ [0]) = some r := by
  rw [spec_l01Hash.lv0_eq, if_neg (by omega), if_pos ha] at H
  exact H
theorem hpadded (x h all : List Int) (r : ByteArray) (hc : all.length % 64 = 56) (H : spec_l01Hash.lv0 x h all = some r) : spec_l01Hash.lv1 x h all 7 = some r := by
  rw [spec_l01Hash.lv0_eq, if_pos (by omega)] at H
  exact H
theorem shr_at (n : Int) (k : Nat) (hk : k ≤ 56) : shr .i64 n (k : Int) = n / 2 ^ k := by
  unfold shr
  rw [Int.toNat_natCast, Nat.min_eq_left (by show k ≤ 64; omega)]
/-- The eight bytes of the length. -/
def be8 (n : Int) : List Int := [n / 256 / 256 / 256 / 256 / 256 / 256 / 256 % 256, n / 256 / 256 / 256 / 256 / 256 / 256 % 256, n / 256 / 256 / 256 / 256 / 256 % 256, n / 256 / 256 / 256 / 256 % 256, n / 256 / 256 / 256 % 256, n / 256 / 256 % 256, n / 256 % 256, n % 256]
theorem number8 (n : Int) : impl_number.v n 8 = some (strOfNums (be8 n)) := by
  have w8 : wrap64 (8 - 1) = 7 := w64n _ (by omega) (by omega)
  have w7 : wrap64 (7 - 1) = 6 := w64n _ (by omega) (by omega)
  have w6 : wrap64 (6 - 1) = 5 := w64n _ (by omega) (by omega)
  have w5 : wrap64 (5 - 1) = 4 := w64n _ (by omega) (by omega)
  have w4 : wrap64 (4 - 1) = 3 := w64n _ (by omega) (by omega)
  have w3 : wrap64 (3 - 1) = 2 := w64n _ (by omega) (by omega)
  have w2 : wrap64 (2 - 1) = 1 := w64n _ (by omega) (by omega)
  have w0 : wrap64 (1 - 1) = 0 := w64n _ (by omega) (by omega)
  have w1 : wrap64 (0 - 1) = -1 := w64n _ (by omega) (by omega)
  rw [impl_number.v_eq, if_pos (by decide), if_pos (by decide), w8]
  rw [impl_number.lv0_eq, if_pos (by decide), if_pos (by decide), if_pos (by simp), w7]
  rw [impl_number.lv0_eq, if_pos (by decide), if_pos (by decide), if_pos (by simp), w6]
  rw [impl_number.lv0_eq, if_pos (by decide), if_pos (by decide), if_pos (by simp), w5]
  rw [impl_number.lv0_eq, if_pos (by decide), if_pos (by decide), if_pos (by simp), w4]
  rw [impl_number.lv0_eq, if_pos (by decide), if_pos (by decide), if_pos (by simp), w3]
  rw [impl_number.lv0_eq, if_pos (by decide), if_pos (by decide), if_pos (by simp), w2]
  rw [impl_number.lv0_eq, if_pos (by decide), if_pos (by decide), if_pos (by simp), w0]
  rw [impl_number.lv0_eq, if_pos (by decide), if_pos (by decide), if_pos (by simp), w1, impl_number.lv0_eq, if_neg (by decide)]
  rfl
def be4 (n : Int) : List Int := [n / 256 / 256 / 256 % 256, n / 256 / 256 % 256, n / 256 % 256, n % 256]
theorem number4 (n : Int) : impl_number.v n 4 = some (strOfNums (be4 n)) := by
  have w4 : wrap64 (4 - 1) = 3 := w64n _ (by omega) (by omega)
  have w3 : wrap64 (3 - 1) = 2 := w64n _ (by omega) (by omega)
  have w2 : wrap64 (2 - 1) = 1 := w64n _ (by omega) (by omega)
  have w0 : wrap64 (1 - 1) = 0 := w64n _ (by omega) (by omega)
  have w1 : wrap64 (0 - 1) = -1 := w64n _ (by omega) (by omega)
  rw [impl_number.v_eq, if_pos (by decide), if_pos (by decide), w4]
  rw [impl_number.lv0_eq, if_pos (by decide), if_pos (by decide), if_pos (by simp), w3]
  rw [impl_number.lv0_eq, if_pos (by decide), if_pos (by decide), if_pos (by simp), w2]
  rw [impl_number.lv0_eq, if_pos (by decide), if_pos (by decide), if_pos (by simp), w0]
  rw [impl_number.lv0_eq, if_pos (by decide), if_pos (by decide), if_pos (by simp), w1, impl_number.lv0_eq, if_neg (by decide)]
  rfl
theorem hlen_step (x h all : List Int) (r : ByteArray) (k : Nat) (hk : k < 8) (ha : all.length < 140737488355328) (H : spec_l01Hash.lv1 x h all (k : Int) = some r) :
    spec_l01Hash.lv1 x h (all ++ [wrap64 (8 * (x.length : Int)) / 2 ^ (8 * k) % 256]) ((k : Int) - 1) = some r := by
  have e1 : wrap64 (8 * (k : Int)) = ((8 * k : Nat) : Int) := by rw [w64n _ (by omega) (by omega)]; omega
  have e2 : IntKind.u64.wrap ((8 * k : Nat) : Int) = ((8 * k : Nat) : Int) := by
    clear e1
    unfold IntKind.wrap
    simp [IntKind.bits, IntKind.signed]
    omega
  have e3 : (0 : Int) ≤ ((8 * k : Nat) : Int) := by clear e1 e2; omega
  have e4 : (k : Int) ≥ 0 := by clear e1 e2; omega
  have e5 : wrap64 ((k : Int) - 1) = (k : Int) - 1 := by clear e1 e2; exact w64n _ (by omega) (by omega)
  rw [spec_l01Hash.lv1_eq, e1, e2, e5, if_pos e4, if_pos e3, if_pos ha, shr_at _ _ (by clear e1 e2 e5; omega)] at H
  exact H
theorem hlen_end (x h all : List Int) (r : ByteArray) (H : spec_l01Hash.lv1 x h all (-1) = some r) : spec_l01Hash.lv2 h all roundKs ((64 * 0 : Nat) : Int) = some r := by
  rw [spec_l01Hash.lv1_eq, if_neg (by decide), spec_l01Consts.v_eq, Option.bind_some] at H
  exact H
theorem hlen (x h all : List Int) (r : ByteArray) (ha : all.length < 100000000) (hx : x.length ≤ 40000000) (H : spec_l01Hash.lv1 x h all 7 = some r) :
    spec_l01Hash.lv2 h (all ++ be8 (wrap64 (8 * (x.length : Int)))) roundKs ((64 * 0 : Nat) : Int) = some r := by
  generalize hn : wrap64 (8 * (x.length : Int)) = n
  have h7 := hlen_step x h _ r 7 (by decide) (by omega) H
  have h6 := hlen_step x h _ r 6 (by decide) (by simp; omega) h7
  have h5 := hlen_step x h _ r 5 (by decide) (by simp; omega) h6
  have h4 := hlen_step x h _ r 4 (by decide) (by simp; omega) h5
  have h3 := hlen_step x h _ r 3 (by decide) (by simp; omega) h4
  have h2 := hlen_step x h _ r 2 (by decide) (by simp; omega) h3
  have h1 := hlen_step x h _ r 1 (by decide) (by simp; omega) h2
  have h0 := hlen_step x h _ r 0 (by decide) (by simp; omega) h1
  have he := hlen_end x h _ r h0
  rw [hn] at he
  simp only [List.append_assoc, List.cons_append, List.nil_append] at he
  have v2 : n / 256 / 256 = n / 65536 := by omega
  have v3 : n / 256 / 256 / 256 = n / 16777216 := by omega
  have v4 : n / 256 / 256 / 256 / 256 = n / 4294967296 := by omega
  have v5 : n / 256 / 256 / 256 / 256 / 256 = n / 1099511627776 := by omega
  have v6 : n / 256 / 256 / 256 / 256 / 256 / 256 = n / 281474976710656 := by omega
  have v7 : n / 256 / 256 / 256 / 256 / 256 / 256 / 256 = n / 72057594037927936 := by omega
  unfold be8
  rw [v7, v6, v5, v4, v3, v2]
  simpa using he
theorem hround (hv all : List Int) (r : ByteArray) (m K : Nat) (hl : all.length = 64 * K) (hK : K ≤ 2000000) (hm : m < K) (H : spec_l01Hash.lv2 hv all roundKs ((64 * m : Nat) : Int) = some r) :
    ∃ h', spec_l01Block.v hv ((all.take (64 * m + 64)).drop (64 * m)) roundKs = some h' ∧ spec_l01Hash.lv2 h' all roundKs ((64 * (m + 1) : Nat) : Int) = some r := by
  have e1 : wrap64 (((64 * m : Nat) : Int) + 64) = ((64 * (m + 1) : Nat) : Int) := by rw [w64n _ (by omega) (by omega)]; omega
  have g1 : ((64 * m : Nat) : Int) < (all.length : Int) := by clear e1; omega
  have g2 : (0 : Int) ≤ ((64 * m : Nat) : Int) := by clear e1; omega
  have g3 : ((64 * m : Nat) : Int) ≤ ((64 * (m + 1) : Nat) : Int) := by clear e1; omega
  have g4 : ((64 * (m + 1) : Nat) : Int) ≤ (all.length : Int) := by clear e1; omega
  rw [spec_l01Hash.lv2_eq, e1, if_pos g1, if_pos g2, if_pos g3, if_pos g4, Int.toNat_natCast, Int.toNat_natCast] at H
  obtain ⟨h', e, H⟩ := Option.bind_eq_some_iff.1 H
  exact ⟨h', e, H⟩
theorem hrounds (hv all : List Int) (r : ByteArray) (i : Int) (hi : ¬ i < (all.length : Int)) (H : spec_l01Hash.lv2 hv all roundKs i = some r) : spec_l01Hash.lv3 hv [] ((0 : Nat) : Int) = some r := by
  rw [spec_l01Hash.lv2_eq, if_neg hi] at H
  rw [show ((0 : Nat) : Int) = 0 from rfl]
  exact H
theorem hout (hv o : List Int) (r : ByteArray) (i : Nat) (hh : hv.length = 8) (hi : i < 8) (ho : o.length ≤ 1000) (H : spec_l01Hash.lv3 hv o (i : Int) = some r) :
    spec_l01Hash.lv3 hv (o ++ be4 (hv.getD i 0)) ((i + 1 : Nat) : Int) = some r := by
  have g1 : (i : Int) < 8 := by omega
  have g2 : (0 : Int) ≤ (i : Int) := by omega
  have g3 : (i : Int) < (hv.length : Int) := by omega
  have e1 : wrap64 ((i : Int) + 1) = ((i + 1 : Nat) : Int) := wadd i (by omega)
  have e2 : rd hv (i : Int) = hv.getD i 0 := by simp [rd]
  rw [spec_l01Hash.lv3_eq, e1, if_pos g1, if_pos g2, if_pos g3, Option.bind_some, if_pos (by simp; omega), e2] at H
  have v2 : hv.getD i 0 / 256 / 256 = hv.getD i 0 / 65536 := by clear e1 e2; omega
  have v3 : hv.getD i 0 / 256 / 256 / 256 = hv.getD i 0 / 16777216 := by clear e1 e2 v2; omega
  unfold be4
  rw [v3, v2]
  exact H
theorem hdone (hv o : List Int) (r : ByteArray) (i : Int) (hi : ¬ i < 8) (H : spec_l01Hash.lv3 hv o i = some r) : strOfNums o = r := by
  rw [spec_l01Hash.lv3_eq, if_neg hi] at H
  exact Option.some.inj H
theorem be8_len (n : Int) : (be8 n).length = 8 := by unfold be8; rfl
theorem be4_len (n : Int) : (be4 n).length = 4 := by unfold be4; rfl
theorem bytes_num (l : List Int) (h : ∀ x ∈ l, 0 ≤ x ∧ x < 256) : bytesOf (strOfNums l) = l := by
  unfold bytesOf
  rw [strOfNums_data, List.map_map]
  conv => rhs; rw [← List.map_id l]
  apply List.map_congr_left
  intro x hx
  have := h x hx
  simp only [Function.comp_apply, id]
  rw [UInt8.toNat_ofNat_of_lt' (by show x.toNat < 256; omega)]
  omega
theorem num8 (n : Int) : ∃ k y, impl_number.f k n 8 = some y ∧ bytesOf y = be8 n ∧ y.size = 8 := by
  obtain ⟨k, hk⟩ := (impl_number.v_lim n 8).at_ (strOfNums (be8 n)) (number8 n)
  have hb : bytesOf (strOfNums (be8 n)) = be8 n := bytes_num _ (by
    intro x hx
    unfold be8 at hx
    simp only [List.mem_cons, List.not_mem_nil, or_false] at hx
    rcases hx with rfl | rfl | rfl | rfl | rfl | rfl | rfl | rfl <;> omega)
  exact ⟨k, _, hk, hb, by rw [← bytesOf_length, hb, be8_len]⟩
theorem num4 (n : Int) : ∃ k y, impl_number.f k n 4 = some y ∧ bytesOf y = be4 n ∧ y.size = 4 := by
  obtain ⟨k, hk⟩ := (impl_number.v_lim n 4).at_ (strOfNums (be4 n)) (number4 n)
  have hb : bytesOf (strOfNums (be4 n)) = be4 n := bytes_num _ (by
    intro x hx
    unfold be4 at hx
    simp only [List.mem_cons, List.not_mem_nil, or_false] at hx
    rcases hx with rfl | rfl | rfl | rfl <;> omega)
  exact ⟨k, _, hk, hb, by rw [← bytesOf_length, hb, be4_len]⟩
/-- What the hash's walk keeps: its bytes, its eight words. -/
structure Ih (w W : World) (n g cap gh : Nat) (al hv : List Int) : Prop where
  hs : Hs w W n g cap al
  ha : Au W gh hv
  ne : g ≠ gh
  mine : n ≤ gh
  lt : gh < W.heap.size
theorem Ih.start {w W : World} {n g cap : Nat} {al : List Int} (h : Hs w W n g cap al) (hv : List Int) (t : Nat) : Ih w (W.alloc (.cells (hv.map (Value.int .u32)).toArray t)) n g cap W.heap.size al hv := by
  have h1 := h.lt
  have h2 := h.mine
  refine ⟨h.alloc _, Au.of_row (e := t) _ ?_, by omega, by omega, by rw [alloc_sz]; omega⟩
  rw [alloc_at, if_pos rfl]
theorem Ih.on {w W W' : World} {n g cap gh : Nat} {al hv : List Int} (h : Ih w W n g cap gh al hv) (b : Below W.heap.size W W') : Ih w W' n g cap gh al hv :=
  ⟨h.hs.on b, h.ha.at (b.block gh h.lt), h.ne, h.mine, Nat.lt_of_lt_of_le h.lt b.size⟩
theorem Ih.drew {w W : World} {n g cap gh : Nat} {al hv : List Int} (h : Ih w W n g cap gh al hv) : Ih w W.drew n g cap gh al hv :=
  h.on ⟨rfl, rfl, rfl, Nat.le_refl _, fun _ _ => rfl⟩
theorem Ih.set {w W : World} {n g cap gh : Nat} {al hv : List Int} (h : Ih w W n g cap gh al hv) (j : Nat) (hj : j < hv.length) (x : Int) : Ih w (W.setCell ⟨gh, j, none⟩ (.int .u32 x)) n g cap gh al (hv.set j x) := by
  have hs : (W.setCell ⟨gh, j, none⟩ (.int .u32 x)).heap.size = W.heap.size := by simp [World.setCell]
  exact ⟨⟨h.hs.row.at (setCell_old W _ _ g h.ne), h.hs.mine, by rw [hs]; exact h.hs.lt, below_set_h h.hs.below h.mine⟩, h.ha.set j hj x, h.ne, h.mine, by rw [hs]; exact h.lt⟩
theorem cut64 (al : List Int) (o j : Nat) (hj : j < 64) : ((al.take (o + 64)).drop o).getD j 0 = al.getD (o + j) 0 := by
  simp only [List.getD, List.getElem?_drop, List.getElem?_take]
  rw [if_pos (by omega)]
theorem str_add (a b : List Int) : strOfNums a ++ strOfNums b = strOfNums (a ++ b) := by
  apply ByteArray.ext
  apply Array.toList_inj.1
  rw [ByteArray.data_append, Array.toList_append, strOfNums_data, strOfNums_data, strOfNums_data, List.map_append]
theorem be4_wrap (x : Int) : be4 (wrap64 x) = be4 x := by
  rw [← i64_w, IntKind.wrap_i64]
  unfold be4
  have h : ∀ a b : Int, a % 4294967296 = b % 4294967296 → a / 256 / 256 / 256 % 256 = b / 256 / 256 / 256 % 256 ∧ a / 256 / 256 % 256 = b / 256 / 256 % 256 ∧ a / 256 % 256 = b / 256 % 256 ∧ a % 256 = b % 256 := by
    intro a b h
    refine ⟨by omega, by omega, by omega, by omega⟩
  obtain ⟨h1, h2, h3, h4⟩ := h ((x + 9223372036854775808) % 18446744073709551616 - 9223372036854775808) x (by omega)
  rw [h1, h2, h3, h4]
theorem str_back (s : ByteArray) : strOfNums (bytesOf s) = s := by
  apply ByteArray.ext
  apply Array.toList_inj.1
  rw [strOfNums_data]
  unfold bytesOf
  rw [List.map_map]
  conv => rhs; rw [← List.map_id s.data.toList]
  apply List.map_congr_left
  intro x hx
  simp
theorem num4s (x : Int) : ∃ k y, impl_number.f k (wrap64 x) 4 = some y ∧ y = strOfNums (be4 x) ∧ y.size = 4 := by
  obtain ⟨k, y, h1, h2, h3⟩ := num4 (wrap64 x)
  exact ⟨k, y, h1, by rw [← str_back y, h2, be4_wrap], h3⟩
theorem strsz (l : List Int) : (strOfNums l).size = l.length := by
  show (strOfNums l).data.size = _
  simp [strOfNums]
end Go.Proofs.YtadablpppkjdbaaDoor.A
end

section
namespace Go.Proofs.YtadablpppkjdbaaDoor.A
open Go.RowKit Go.Proofs.YtadablpppkjdbaaDoorW.PrintWords Go.Proofs.YtadablpppkjdbaaDoorW.PrintLast Go.Proofs.YtadablpppkjdbaaDoorW.PrintMore
attribute [local go_sem] max2_int min2_int max_two min_two max_three min_three max_four min_four
set_option maxHeartbeats 8000000 in
set_option maxRecDepth 100000 in
theorem impl_number.calls (k : Nat) (a0 : Int) (a1 : Int) (r : ByteArray) (w : World) (h : impl_number.f k a0 a1 = some r) :
  Calls Tryd.prog 64 #[.int .i64 a0,.int .i64 a1] w fun e w' => e = .returned (.string r) ∧ Below w.heap.size w w' := by
 have HB := am_ (Below.refl w.heap.size w)
 have H : (if 0 ≤ a1 then (if (a1 : Int).toNat ≤ 281474976710656 then (impl_number.l0 k a0 (List.replicate (a1 : Int).toNat 0) (wrap64 (a1 - 1))) else (none)) else (none)) = some r := h
 clear h
 by_cases c3 : 0 ≤ a1
 ·rw [if_pos c3] at H
  have c3b0 := eq_true c3
  have c3b1 : decide (0 ≤ a1) = true := decide_eq_true c3
  clear c3
  by_cases c4 : (a1 : Int).toNat ≤ 281474976710656
  ·rw [if_pos c4] at H
   have c4b0 := eq_true c4
   have c4b1 : decide ((a1 : Int).toNat ≤ 281474976710656) = true := decide_eq_true c4
   clear c4
   obtain ⟨y271,hy271⟩ : ∃ y_ : List Int,y_ = (List.replicate (a1 : Int).toNat 0) := ⟨_,rfl⟩
   replace H : (impl_number.l0 k a0 y271 (wrap64 (a1 - 1))) = some r := by first | (rw [hy271];with_reducible exact H) | (have H2_ := (Option.bind_some _ _).symm.trans H;rw [hy271];with_reducible exact H2_) | (have H2_ := (Option.bind_some _ _).symm.trans H;with_reducible exact H2_) | with_reducible exact H | (rw [hy271];exact H) | exact H
   have Ny271 := am_ hy271
   clear hy271
   have H' := am_ H
   clear H
   go_enter Tryd.func64,Tryd.ntmps64
   go_wp2_with (first | ((with_reducible refine gate_dst (N := 8) rfl ?_);refine Kd.R_make (Kd.int .u8) _ 5 rfl (N := 8) rfl 31 _ _ rfl a1 rfl rfl Tryd.underlying31 (.int .u8 0) 1 info5 rfl (by decide) (by omega) 0 (ok := fun _ => True) (okp := fun _ => True) rfl (fun _ hk => hk) trivial (zo_) (Nat.le_trans (Nat.mul_le_mul_right _ (zo_ : a1.toNat ≤ 281474976710656)) (by omega)) (Below.refl _ _) (Nat.le_refl _) ?_;intro v272 w5 ho6 hb hg_ hnew_;clear hg_ hnew_;(first | rw [← Ny271.out] at ho6 | (simp only [Int.reduceToNat] at ho6;rw [← Ny271.out] at ho6));have HO273 := am_ (Kd.R_lower ho6 (below_size (zl_ HB)));replace HB := zs_ HB hb;clear hb ho6))
   go_loopg [0,6] k (fun kq v0 v6 w' => ∃ (x0_1 : Int) (x5_1 : List Int) (x6_1 : Int),v0 = .int .i64 x0_1 ∧ v6 = .int .i64 x6_1 ∧ Aside0 (impl_number.l0 kq x0_1 x5_1 x6_1 = some r) ∧ Aside0 (kq ≤ k) ∧ Aside0 (Kd.R (Kd.int .u8) 5 w' w.heap.size (fun _ => True) v272 x5_1) ∧ Aside0 (Below w.heap.size w w'))
   case atStart => exact ⟨(a0),(y271),(wrap64 (a1 - 1)),(by first | rfl | (simp;done) | (simp [*];done)),(by first | rfl | (simp;done) | (simp [*];done)),H',⟨Nat.le_refl _⟩,⟨zr HO273⟩,⟨zl_ HB⟩⟩
   case round =>
    clear H'
    try clear p2
    try clear c3
    try clear c3b0
    try clear c3b1
    try clear c4
    try clear c4b0
    try clear c4b1
    try clear c6
    try clear p6
    obtain ⟨x0_1,x5_1,x6_1,rfl,rfl,HA,HK1,HO_5,HB⟩ := hrel
    cases gk with
    | zero => exact absurd HA.out (by simp [impl_number.l0])
    | succ k1 =>
     have H := HA.out
     clear HA
     simp only [impl_number.l0] at H
     by_cases c7 : x6_1 ≥ 0
     ·rw [if_pos c7] at H
      have c7b0 : decide (0 ≤ x6_1) = true := decide_eq_true c7
      clear c7
      by_cases c8 : 0 ≤ x6_1
      ·rw [if_pos c8] at H
       have c8b0 : decide (0 ≤ x6_1) = true := decide_eq_true c8
       clear c8
       by_cases c9 : x6_1 < (x5_1.length : Int)
       ·rw [if_pos c9] at H
        have c9b0 : decide (x6_1 < (x5_1.length : Int)) = true := decide_eq_true c9
        clear c9
        obtain ⟨y274,hy274⟩ : ∃ y_ : List Int,y_ = (x5_1.set (x6_1 : Int).toNat ((x0_1) % 256)) := ⟨_,rfl⟩
        replace H : (impl_number.l0 k1 (x0_1 / 256) y274 (wrap64 (x6_1 - 1))) = some r := by first | (rw [hy274];with_reducible exact H) | (have H2_ := (Option.bind_some _ _).symm.trans H;rw [hy274];with_reducible exact H2_) | (have H2_ := (Option.bind_some _ _).symm.trans H;with_reducible exact H2_) | with_reducible exact H | (rw [hy274];exact H) | exact H
        have Ny274 := am_ hy274
        clear hy274
        have H' := am_ H
        clear H
        have p10 : 0 ≤ (x6_1 : Int) := zo_
        have q10 : (x6_1 : Int) < ((x5_1.length : Int) : Int) := zo_
        obtain ⟨go10,co10,eo10,gb10,gl10,cl10,HG10⟩ := Kd.R_form HO_5.out (by omega)
        (first | cases eo10 | (injection eo10 with ea_ en_ ec_;(first | subst ea_ | (injection ea_ with ea_;subst ea_));subst ec_;clear en_))
        have GB10 := am_ gb10
        have GG10 := am_ HG10
        clear gb10 gl10 HG10
        obtain ⟨hx10_0,hf10_0⟩ := Kd.R_celln 0 HO_5.out (x6_1 : Int) p10 q10
        replace p10 := eq_true p10
        replace q10 := eq_true q10
        have HP11 := Kd.R_putg HO_5.out (x6_1 : Int) ((x0_1) % 256)
        go_wp2_with (first | ((with_reducible refine gate_store (t := 5) (p := 19) rfl ?_);refine store_event (t := 5) (p := 19) (v := ?vo_w12) (w1 := (wr.setCell ⟨go10,(x6_1 : Int).toNat,none⟩ (.int .u8 ((x0_1) % 256)))) ?hg ?ho ?hn ?hr ?_;(case ho => rfl);(case hg => rfl);(case hn => rfl);(case hr => first | (go_simp;done) | (go_simp;rfl));intro w12 hw;have hg : wr.grownBy w12 (some go10) := (by rw [hw];exact HP11.2);have hp_ : Kd.R (Kd.int .u8) 5 w12 w.heap.size (fun _ => True) (.slice (some ⟨go10,0,none⟩) x5_1.length co10) y274 := (by rw [hw,Ny274.out];exact HP11.1);clear HP11;replace HO_5 := am_ (hp_);replace HB := am_ ((by rw [hw];exact below_set (HB.out) GB10.out : Below w.heap.size w w12));clear hg hw hp_))
        go_roundg k1
        case measure => have := HK1.out;omega
        case rel => exact ⟨(x0_1 / 256),(y274),(wrap64 (x6_1 - 1)),(by first | rfl | (simp;done) | (simp [*];done)),(by first | rfl | (simp;done) | (simp [*];done)),H',⟨by have := HK1.out;omega⟩,⟨zr HO_5⟩,⟨zl_ HB⟩⟩
       ·rw [if_neg c9] at H
        exact absurd H (by simp)
      ·rw [if_neg c8] at H
       exact absurd H (by simp)
     ·rw [if_neg c7] at H
      have c7b0 : decide (0 ≤ x6_1) = false := decide_eq_false c7
      clear c7
      obtain rfl := Option.some.inj H
      have hcv13 := own_string (P := Tryd.prog) Tryd.underlying31 Tryd.underlying5 Tryd.underlying9 (Kd.own_of_R HO_5.out)
      go_wp2
      go_ret
      exact ⟨zt_,zl_ HB⟩
  ·rw [if_neg c4] at H
   exact absurd H (by simp)
 ·rw [if_neg c3] at H
  exact absurd H (by simp)
end Go.Proofs.YtadablpppkjdbaaDoor.A
end

section
namespace Go.Proofs.YtadablpppkjdbaaDoor.A
open Go.RowKit Go.Proofs.YtadablpppkjdbaaDoorW.PrintWords Go.Proofs.YtadablpppkjdbaaDoorW.PrintLast Go.Proofs.YtadablpppkjdbaaDoorW.PrintMore
set_option maxRecDepth 100000 in
theorem idx122 (a0 a1 a2 a3 a4 a5 a6 a7 : Int) (W : World) (i : Nat) (hi : i < 8) : Sem.run Tryd.prog (Instr.index 154 (Value.agg #[.int .u32 a0, .int .u32 a1, .int .u32 a2, .int .u32 a3, .int .u32 a4, .int .u32 a5, .int .u32 a6, .int .u32 a7]) (Value.int .i64 (i : Int))) W = .ok (.int .u32 (([a0, a1, a2, a3, a4, a5, a6, a7] : List Int).getD i 0)) W := by
  match i, hi with
  | 0, _ => go_simp; rfl
  | 1, _ => go_simp; rfl
  | 2, _ => go_simp; rfl
  | 3, _ => go_simp; rfl
  | 4, _ => go_simp; rfl
  | 5, _ => go_simp; rfl
  | 6, _ => go_simp; rfl
  | 7, _ => go_simp; rfl
set_option maxHeartbeats 400000 in
set_option maxRecDepth 100000 in
theorem hash_walk (s r : ByteArray) (w : World) (hL : ∀ j, j < 64 → w.cell? ⟨0, j, none⟩ = some (.int .u32 (roundKs.getD j 0))) (hs : s.size ≤ 40000000) (H : spec_l01Hash.v (bytesOf s) = some r) :
    Calls Tryd.prog 72 #[.string s] w fun e w' => e = .returned (.string r) ∧ Below w.heap.size w w' := by
  have h0 : 0 < w.heap.size := World.block_lt_of_cell? w _ (hL 0 (by decide))
  have HL := Aside0.mk hL
  have hxl : (bytesOf s).length = s.size := bytesOf_length s
  have H0 := Aside0.mk (hstart _ _ (by omega) H)
  have HX := Aside0.mk hxl
  clear hL H hxl
  go_enter Tryd.func72, Tryd.ntmps72
  go_wp2_with (first | ((with_reducible refine gate_dst (N := 9) rfl ?_); refine conv_hs 5 rfl 9 31 _ rfl s rfl Tryd.underlying9 Tryd.underlying31 Tryd.underlying5 ?_; intro g cap w1 F0; have F := Aside0.mk F0; clear F0) | ((with_reducible refine gate_builtin (b := .append) (xs := #[.tmp 9, .tmp 10]) rfl ?_); at_builtin; refine append1_hs (l := bytesOf s) 31 5 rfl (.tmp 9) (.tmp 10) rfl Tryd.underlying31 info5 128 (by rw [bytesOf_length]; rfl) rfl F.out (by rw [bytesOf_length]; omega) ?_; clear F; intro g' cap' w2 F0; have F := Aside0.mk F0; clear F0))
  have HG := Aside0.mk h0
  clear h0
  go_loopg [3] (56 + 64 - (s.size + 1) % 64) (fun gg v3 wr => ∃ (g cap : Nat) (l : List Int), (l.length + gg) % 64 = 56 ∧ l.length + gg ≤ 41000000 ∧ v3 = .slice (some ⟨g, 0, none⟩) l.length cap ∧ Aside0 (spec_l01Hash.lv0 (bytesOf s) hashIV l = some r) ∧ Aside0 (Hs w wr w.heap.size g cap l))
  case atStart => exact ⟨_, _, bytesOf s ++ [128], by rw [List.length_append, HX.out, List.length_singleton]; omega, by rw [List.length_append, HX.out, List.length_singleton]; omega, by simp, H0, F⟩
  case round =>
    clear F H0
    obtain ⟨g3, cap3, l, hm, hle, rfl, H0, F⟩ := hrel
    by_cases c : l.length % 64 = 56
    · have c1 : ((l.length : Int).tmod 64 = 56) := by rw [Int.tmod_eq_emod_of_nonneg (by omega)]; omega
      have H1 := Aside0.mk (hlen _ _ _ _ (by omega) (by have := HX.out; omega) (hpadded _ _ _ _ c H0.out))
      obtain ⟨ky, y, hky, hby, hys⟩ := num8 (wrap64 (8 * ((bytesOf s).length : Int)))
      rw [← hby] at H1
      have hw8 : wrap64 (8 * (s.size : Int)) = 8 * (s.size : Int) := by clear hky hby H1; exact w64n _ (by omega) (by omega)
      rw [HX.out, hw8] at hky
      clear hw8
      have HK := Aside0.mk hky
      clear hky hby H0
      have hlw : (8 * (s.size : Int)) ≤ 9223372036854775807 := by omega
      go_wp2_with (first | (go_at_call 64; with_reducible refine (impl_number.calls ky _ _ y _ HK.out).mono ?_; rintro e w5 ⟨rfl, hb5⟩; have HB5 := Aside0.mk hb5; clear hb5) | ((with_reducible refine gate_builtin (b := .append) (xs := #[.tmp 19, .tmp 23]) rfl ?_); at_builtin; refine appendS_hs (l := l) 31 9 5 rfl (.tmp 19) (.tmp 23) rfl Tryd.underlying31 Tryd.underlying9 info5 y (by rfl) rfl (by omega) (F.out.on HB5.out) (by omega) ?_; clear F HB5; intro g' cap' w2 F0; have F := Aside0.mk F0; clear F0))
      have HA : (l ++ bytesOf y).length = l.length + 8 := by rw [List.length_append, bytesOf_length, hys]
      rw [show (bytesOf y).length = 8 by rw [bytesOf_length, hys]]
      have FI : Aside0 (Ih w (w2.alloc (.cells #[.int .u32 1779033703, .int .u32 3144134277, .int .u32 1013904242, .int .u32 2773480762, .int .u32 1359893119, .int .u32 2600822924, .int .u32 528734635, .int .u32 1541459225] 154)) w.heap.size g' cap' w2.heap.size (l ++ bytesOf y) hashIV) := Aside0.mk (Ih.start F.out hashIV 154)
      clear F
      generalize w2.alloc _ = w6 at FI ⊢
      generalize w2.heap.size = gh at FI ⊢
      rw [← HA]
      generalize l ++ bytesOf y = al at HA H1 FI ⊢
      obtain ⟨K, hK⟩ : ∃ K, al.length = 64 * K := ⟨al.length / 64, by omega⟩
      have hKb : K ≤ 2000000 := by omega
      have hcap := FI.out.hs.row.room
      rw [hK] at hcap ⊢
      have HN := Aside0.mk hK
      clear HA hm hle hlw c1 c hK
      go_loopg [3] K (fun gg v3 wr => ∃ (m o ln cp : Nat) (hv : List Int), gg + m = K ∧ (0 < gg → o = 64 * m ∧ cp + o = cap') ∧ ln = 64 * gg ∧ v3 = .slice (some ⟨g', o, none⟩) ln cp ∧ hv.length = 8 ∧ Aside0 (spec_l01Hash.lv2 hv al roundKs ((64 * m : Nat) : Int) = some r) ∧ Aside0 (Ih w wr w.heap.size g' cap' gh al hv))
      case atStart => exact ⟨0, 0, _, _, _, by omega, fun _ => ⟨rfl, rfl⟩, rfl, rfl, rfl, H1, FI⟩
      case round =>
        clear FI H1
        obtain ⟨m, o, ln, cp, hv, hgm, hoc, hln, rfl, hh, H1, FI⟩ := hrel
        by_cases c : 0 < gk
        · obtain ⟨ho, hcp⟩ := hoc c
          have c1 : ((ln : Int) > 0) := by omega
          have c2 : (64 : Int) ≤ (ln : Int) := by omega
          have c3 : (64 : Int) ≤ (cp : Int) := by omega
          obtain ⟨h', e1, H2⟩ := hround hv al r m K HN.out hKb (by omega) H1.out
          have H2 := Aside0.mk H2
          rw [← ho] at e1
          have E1 := Aside0.mk e1
          have HO := Aside0.mk (And.intro ho (And.intro hln (And.intro hcp hgm)))
          clear e1 H1 ho hln hcp hgm hoc
          obtain ⟨a0, a1, a2, a3, a4, a5, a6, a7, rfl⟩ := eight hh
          obtain ⟨⟨c0, d1, d2, d3, d4, d5, d6, d7⟩, -⟩ := FI.out.ha.eight
          go_wp2
          refine wp_region_still_tail 3 (by kernel_rfl) (by kernel_rfl) ?_
          simp only [List.take_succ_cons, List.take_zero, List.drop_succ_cons, List.drop_zero]
          repeat still_step
          refine wpStill_nil ?_
          change wpList _ _ _ _ _ wr.drew
          have F3 := Aside0.mk FI.out.drew
          clear c0 d1 d2 d3 d4 d5 d6 d7 FI
          generalize wr.drew = w7 at F3 ⊢
          have hb7 : ∀ j, j < 64 → w7.cell? ⟨g', o + j, none⟩ = some (.int .u8 (((al.take (o + 64)).drop o).getD j 0)) := fun j hj => by
            rw [cut64 al o j hj]
            exact F3.out.hs.row.cell (o + j) (by have := HN.out; have := HO.out; omega)
          have hl7 : ∀ j, j < 64 → w7.cell? ⟨0, j, none⟩ = some (.int .u32 (roundKs.getD j 0)) := fun j hj =>
            (World.cell?_of_block (a := ⟨0, j, none⟩) (F3.out.hs.below.block 0 HG.out)).trans (HL.out j hj)
          have hbl7 : ((al.take (o + 64)).drop o).length = 64 := by have := HN.out; have := HO.out; rw [List.length_drop, List.length_take]; omega
          have HC := Aside0.mk (block_walk a0 a1 a2 a3 a4 a5 a6 a7 g' o cp _ roundKs h' w7 F3.out.hs.lt hbl7 (by have := HO.out; omega) hb7 hl7 rfl E1.out)
          clear hb7 hl7 hbl7
          go_wp2_with (go_at_call 131; with_reducible refine HC.out.mono ?_; rintro e w8 ⟨rfl, hb8, h8⟩; have HB8 := Aside0.mk hb8; clear hb8)
          have F8 := Aside0.mk (F3.out.on HB8.out)
          clear F3 HB8 HC
          obtain ⟨b0, b1, b2, b3, b4, b5, b6, b7, rfl⟩ := eight h8
          obtain ⟨⟨c0, d1, d2, d3, d4, d5, d6, d7⟩, ⟨f0, f1, f2, f3, f4, f5, f6, f7⟩⟩ := F8.out.ha.eight
          simp only [List.map_cons, List.map_nil]
          have hlc : (ln : Int) ≤ (cp : Int) := by have := HO.out; omega
          have hst : Sem.run Tryd.prog (storeCells ⟨gh, 0, none⟩ [.int .u32 b0, .int .u32 b1, .int .u32 b2, .int .u32 b3, .int .u32 b4, .int .u32 b5, .int .u32 b6, .int .u32 b7]) w8 = .ok () ((((((((w8.setCell ⟨gh, 0, none⟩ (.int .u32 b0)).setCell ⟨gh, 1, none⟩ (.int .u32 b1)).setCell ⟨gh, 2, none⟩ (.int .u32 b2)).setCell ⟨gh, 3, none⟩ (.int .u32 b3)).setCell ⟨gh, 4, none⟩ (.int .u32 b4)).setCell ⟨gh, 5, none⟩ (.int .u32 b5)).setCell ⟨gh, 6, none⟩ (.int .u32 b6)).setCell ⟨gh, 7, none⟩ (.int .u32 b7)) := by
            have := run_storeCells_cells (P := Tryd.prog) gh 0 [.int .u32 b0, .int .u32 b1, .int .u32 b2, .int .u32 b3, .int .u32 b4, .int .u32 b5, .int .u32 b6, .int .u32 b7] 0 w8 (fun j hj => by simp only [Nat.zero_add]; rw [F8.out.ha.cell j (by simpa using hj)]; rfl) (fun j hj => by simp only [Nat.zero_add]; exact F8.out.ha.free j (by simpa using hj)) (fun v hv => by simp only [List.mem_cons, List.not_mem_nil, or_false] at hv; rcases hv with rfl | rfl | rfl | rfl | rfl | rfl | rfl | rfl <;> rfl)
            exact this
          have F9 := Aside0.mk ((((((((F8.out.set 0 (by simp) b0).set 1 (by simp) b1).set 2 (by simp) b2).set 3 (by simp) b3).set 4 (by simp) b4).set 5 (by simp) b5).set 6 (by simp) b6).set 7 (by simp) b7)
          clear c0 d1 d2 d3 d4 d5 d6 d7 f0 f1 f2 f3 f4 f5 f6 f7
          rw [hst]
          clear hst
          generalize World.setCell (World.setCell (World.setCell (World.setCell (World.setCell (World.setCell (World.setCell (World.setCell w8 _ _) _ _) _ _) _ _) _ _) _ _) _ _) _ _ = w9 at F9 ⊢
          by_cases hc64 : cp = 64
          · have hl0 : ln = 64 := by have := HO.out; omega
            subst hc64
            subst hl0
            go_wp2
            go_roundg (gk - 1)
            case measure => omega
            case rel =>
              have := HO.out
              exact ⟨m + 1, o, 0, 0, [b0, b1, b2, b3, b4, b5, b6, b7], by omega, by omega, by omega, rfl, rfl, H2, F9⟩
          · have hc65 : (64 : Int) < (cp : Int) := by omega
            go_wp2
            go_roundg (gk - 1)
            case measure => omega
            case rel =>
              have := HO.out
              exact ⟨m + 1, o + 64, ln - 64, cp - 64, [b0, b1, b2, b3, b4, b5, b6, b7], by omega, by omega, by omega, rfl, rfl, H2, F9⟩
        · have hk0 : gk = 0 := by omega
          subst hk0
          have hln0 : ln = 0 := by omega
          subst hln0
          have H2 := Aside0.mk (hrounds hv al r _ (by have := HN.out; omega) H1.out)
          obtain ⟨a0, a1, a2, a3, a4, a5, a6, a7, rfl⟩ := eight hh
          obtain ⟨⟨c0, d1, d2, d3, d4, d5, d6, d7⟩, -⟩ := FI.out.ha.eight
          have hbel := Aside0.mk FI.out.hs.below
          clear H1 hoc hln FI
          go_wp2
          clear c0 d1 d2 d3 d4 d5 d6 d7
          go_loopg [5, 36] 8 (fun gg v5 v36 wr => ∃ (i : Nat) (ol : List Int), i ≤ 8 ∧ gg + i = 8 ∧ v36 = .int .i64 (i : Int) ∧ v5 = .string (strOfNums ol) ∧ ol.length = 4 * i ∧ Aside0 (spec_l01Hash.lv3 [a0, a1, a2, a3, a4, a5, a6, a7] ol (i : Int) = some r) ∧ Aside0 (Below w.heap.size w wr))
          case atStart => exact ⟨0, [], by omega, by omega, rfl, rfl, rfl, H2, hbel⟩
          case round =>
            clear H2 hbel
            obtain ⟨i, ol, hi, hg, rfl, rfl, hol, H2, hbel⟩ := hrel
            by_cases hlt : i < 8
            · have c1 : ((i : Int) < 8) := by omega
              have H3 := Aside0.mk (hout _ _ _ _ rfl hlt (by omega) H2.out)
              clear H2
              have hix := idx122 a0 a1 a2 a3 a4 a5 a6 a7 wr i hlt
              obtain ⟨x, hx⟩ : ∃ x, ([a0, a1, a2, a3, a4, a5, a6, a7] : List Int).getD i 0 = x := ⟨_, rfl⟩
              rw [hx] at hix H3
              clear hx
              obtain ⟨ky4, y4, hk4, hy4, hs4⟩ := num4s x
              have HK4 := Aside0.mk hk4
              have HY4 := Aside0.mk hy4
              clear hk4 hy4
              have hso : (strOfNums ol).size = ol.length := strsz ol
              have hcat : (strOfNums ol).size + y4.size ≤ 9223372036854775807 := by omega
              have hcat2 : ((strOfNums ol).size : Int) + (y4.size : Int) ≤ 9223372036854775807 := by omega
              have hcat3 : ¬ (9223372036854775807 < ((strOfNums ol).size : Int) + (y4.size : Int)) := by omega
              clear hso
              go_wp2_with (go_at_call 64; with_reducible refine (impl_number.calls ky4 _ _ y4 _ HK4.out).mono ?_; rintro e w5 ⟨rfl, hb5⟩; have HB5 := Aside0.mk hb5; clear hb5)
              go_roundg (8 - (i + 1))
              case measure => omega
              case rel => exact ⟨i + 1, _, by omega, by omega, by go_num, by rw [HY4.out, str_add], by rw [List.length_append, be4_len]; omega, H3, ⟨(hbel.out).trans (HB5.out.mono hbel.out.size)⟩⟩
            · have hlt2 : ¬ ((i : Int) < 8) := by omega
              have e := hdone _ _ _ _ hlt2 H2.out
              subst e
              go_wp2
              go_ret
              exact ⟨rfl, hbel.out⟩
    · have c1 : ¬ ((l.length : Int).tmod 64 = 56) := by rw [Int.tmod_eq_emod_of_nonneg (by omega)]; omega
      have H1 := Aside0.mk (hpad _ _ _ _ (by omega) c H0.out)
      clear H0
      go_wp2_with (first | ((with_reducible refine gate_builtin (b := .append) (xs := #[.tmp 16, .tmp 17]) rfl ?_); at_builtin; refine append1_hs (l := l) 31 5 rfl (.tmp 16) (.tmp 17) rfl Tryd.underlying31 info5 0 (by rfl) rfl F.out (by omega) ?_; clear F; intro g' cap' w2 F0; have F := Aside0.mk F0; clear F0))
      have hgk : 1 ≤ gk := by omega
      go_roundg (gk - 1)
      case measure => omega
      case rel => exact ⟨_, _, _, by rw [List.length_append, List.length_singleton]; omega, by rw [List.length_append, List.length_singleton]; omega, by simp, H1, F⟩
/-- The variable of the round's words, as the program's text lays it. -/
structure Laid (w : World) : Prop where
  cells : ∀ j, j < 64 → w.cell? ⟨0, j, none⟩ = some (.int .u32 (roundKs.getD j 0))
theorem Laid.on {w W : World} (h : Laid w) (b : Below w.heap.size w W) : Laid W :=
  ⟨fun j hj => (World.cell?_of_block (a := ⟨0, j, none⟩) (b.block 0 (World.block_lt_of_cell? w _ (h.cells 0 (by decide))))).trans (h.cells j hj)⟩
end Go.Proofs.YtadablpppkjdbaaDoor.A
end

section
namespace Go.Proofs.YtadablpppkjdbaaDoor.A
open Go.RowKit Go.Proofs.YtadablpppkjdbaaDoorW.PrintWords Go.Proofs.YtadablpppkjdbaaDoorW.PrintLast Go.Proofs.YtadablpppkjdbaaDoorW.PrintMore
attribute [local go_sem] max2_int min2_int max_two min_two max_three min_three max_four min_four
theorem impl_hash.calls (k : Nat) (a0 : ByteArray) (r : ByteArray) (w : World) (hL : Laid w) (h : impl_hash.f k a0 = some r) :
  Calls Tryd.prog 72 #[.string a0] w fun e w' => e = .returned (.string r) ∧ Below w.heap.size w w' := by
 unfold impl_hash.f at h
 by_cases c : a0.size ≤ 40000000
 ·rw [if_pos c] at h
  exact hash_walk a0 r w hL.cells c ((spec_l01Hash.v_lim _).up k r h)
 ·rw [if_neg c] at h
  cases h
set_option maxHeartbeats 8000000 in
set_option maxRecDepth 100000 in
theorem impl_Hash.calls (k : Nat) (A0 : Option Addr) (c0 : Nat) (l0 : List Int) (r : ByteArray) (w : World) (hr0 : Kd.C (Kd.int .u8) w A0 l0.length l0) (hc0 : l0.length ≤ c0) (hL : Laid w) (h : impl_Hash.f k l0 = some r) :
  Calls Tryd.prog 25 #[.slice A0 l0.length c0] w fun e w' => e = .returned (.string r) ∧ Below w.heap.size w w' := by
 have HR0 := am_ hr0
 have HC0 := am_ hc0
 clear hr0 hc0
 have HLD := am_ hL
 clear hL
 have HB := am_ (Below.refl w.heap.size w)
 have H : (if (l0.length : Int) > 65536 then (some (⟨#[]⟩ : ByteArray)) else ((impl_hash.f k (strOfNums l0)).bind fun t726 => (some t726))) = some r := h
 clear h
 by_cases c2 : (l0.length : Int) > 65536
 ·rw [if_pos c2] at H
  have c2b0 : decide (65536 < (l0.length : Int)) = true := decide_eq_true c2
  have c2b1 : decide (65536 < l0.length) = true := decide_eq_true (by omega)
  clear c2
  obtain rfl := Option.some.inj H
  go_enter Tryd.func25,Tryd.ntmps25
  go_wp2
  go_ret
  exact ⟨zt_,zl_ HB⟩
 ·rw [if_neg c2] at H
  have c2b0 : decide (65536 < (l0.length : Int)) = false := decide_eq_false c2
  have c2b1 : decide (65536 < l0.length) = false := decide_eq_false (by omega)
  clear c2
  replace H := Option.bind_eq_some_iff.mp H
  obtain ⟨t726,A30,H⟩ := H
  try dsimp only at H
  have A3 := am_ A30
  clear A30
  obtain rfl := Option.some.inj H
  have hcv4 := Kd.C_string (P := Tryd.prog) (A := A0) (c := c0) Tryd.underlying31 Tryd.underlying5 Tryd.underlying9 HR0.out
  go_enter Tryd.func25,Tryd.ntmps25
  go_wp2_with (first | ((with_reducible refine gate_callee (f := 72) rfl ?_);refine zgl (some 8) Tryd.func72 #[.string (strOfNums l0)] ?_;(with_reducible refine (impl_hash.calls k (strOfNums l0) t726 _ ?side1 A3.out).mono ?_);(case side1 => exact HLD.out.on (zl_ HB));rintro e w5 ⟨rfl,hb⟩;refine ⟨_,rfl,?_⟩;replace HB := zs_ HB hb;(try clear hb);(try clear hb2);(try clear hk);(try clear hi)))
  go_ret
  exact ⟨zt_,zl_ HB⟩
set_option maxHeartbeats 8000000 in
set_option maxRecDepth 100000 in
theorem impl_isHash.calls (a0 : ByteArray) (r : Bool) (w : World) (h : impl_isHash.f a0 = some r) :
  Calls Tryd.prog 127 #[.string a0] w fun e w' => e = .returned (.bool r) ∧ Drawn0 w w' := by
 have H : (some ((a0.size : Int) == 32)) = some r := h
 clear h
 obtain rfl := Option.some.inj H
 go_enter Tryd.func127,Tryd.ntmps127
 go_wp2
 go_ret
 exact ⟨by first | rfl | (simp;done) | (simp [*];done),by repeat (first | exact Drawn0.refl _ | apply Drawn0.step)⟩
set_option maxHeartbeats 8000000 in
set_option maxRecDepth 100000 in
theorem impl_within.calls (a0 : Int) (a1 : Int) (a2 : Int) (r : Bool) (w : World) (h : impl_within.f a0 a1 a2 = some r) :
  Calls Tryd.prog 57 #[.int .i64 a0,.int .i64 a1,.int .i64 a2] w fun e w' => e = .returned (.bool r) ∧ Drawn0 w w' := by
 have H : (if a0 ≥ a1 then (some (decide (a0 ≤ a2))) else (some false)) = some r := h
 clear h
 by_cases c4 : a0 ≥ a1
 ·rw [if_pos c4] at H
  have c4b0 : decide (a1 ≤ a0) = true := decide_eq_true c4
  clear c4
  obtain rfl := Option.some.inj H
  go_enter Tryd.func57,Tryd.ntmps57
  go_wp2
  go_ret
  exact ⟨by first | rfl | (simp;done) | (simp [*];done),by repeat (first | exact Drawn0.refl _ | apply Drawn0.step)⟩
 ·rw [if_neg c4] at H
  have c4b0 : decide (a1 ≤ a0) = false := decide_eq_false c4
  clear c4
  obtain rfl := Option.some.inj H
  go_enter Tryd.func57,Tryd.ntmps57
  go_wp2
  go_ret
  exact ⟨by first | rfl | (simp;done) | (simp [*];done),by repeat (first | exact Drawn0.refl _ | apply Drawn0.step)⟩
set_option maxHeartbeats 8000000 in
set_option maxRecDepth 100000 in
theorem impl_MessageOK.calls (k : Nat) (a0_0 : Int) (a0_1 : Int) (a0_2 : Int) (a0_3 : Int) (a0_4 : ByteArray) (a0_5 : ByteArray) (a0_6 : ByteArray) (r : Bool) (w : World) (h : impl_MessageOK.f k a0_0 a0_1 a0_2 a0_3 a0_4 a0_5 a0_6 = some r) :
  Calls Tryd.prog 65 #[.agg #[.int .i64 a0_0,.int .i64 a0_1,.int .i64 a0_2,.int .i64 a0_3,.string a0_4,.string a0_5,.string a0_6]] w fun e w' => e = .returned (.bool r) ∧ Below w.heap.size w w' := by
 have hu33 := Tryd.underlying33
 have HB := am_ (Below.refl w.heap.size w)
 have H : ((impl_within.f a0_1 0 20).bind fun t642 => (if t642 = true then ((impl_within.f a0_3 0 6).bind fun t643 => (if t643 = true then (if (a0_6.size : Int) = 8 then (impl_MessageOK.j0 k (decide ((a0_5.size : Int) > 20000)) a0_0 a0_1 a0_2 a0_3 a0_4 a0_5 a0_6) else (impl_MessageOK.j0 k true a0_0 a0_1 a0_2 a0_3 a0_4 a0_5 a0_6)) else (impl_MessageOK.j0 k true a0_0 a0_1 a0_2 a0_3 a0_4 a0_5 a0_6))) else (impl_MessageOK.j0 k true a0_0 a0_1 a0_2 a0_3 a0_4 a0_5 a0_6))) = some r := h
 clear h
 have HC2 := am_ H
 clear H
 go_enter Tryd.func65,Tryd.ntmps65
 go_upto_region 1 with (first | ((with_reducible refine gate_dst (N := 1) rfl ?_);(try (refine gate_guard (by rfl) ?_;dsimp only));refine zbx (N := 1) (cs := #[.int .i64 a0_0,.int .i64 a0_1,.int .i64 a0_2,.int .i64 a0_3,.string a0_4,.string a0_5,.string a0_6]) (t := 33) ?_;intro gb641 hg w3 hbox hb;have BK641 := am_ (hbox);have GW641 := zw_ HB hg;have GE641 := zw_ HB hg;replace HB := zs_ HB hb;clear hb hbox hg))
 (try simp only [Act.put,p1_,p2_,p3_])
 go_cut [24] (fun v24 wc => ∃ (kq : Nat) (x24_1 : Bool),v24 = .bool x24_1 ∧ Aside0 (impl_MessageOK.j0 kq x24_1 a0_0 a0_1 a0_2 a0_3 a0_4 a0_5 a0_6 = some r) ∧ Aside0 (kq ≤ k) ∧ Aside0 (wc.heap[gb641]? = some (.cells #[.int .i64 a0_0,.int .i64 a0_1,.int .i64 a0_2,.int .i64 a0_3,.string a0_4,.string a0_5,.string a0_6] 33 (0,0))) ∧ Aside0 (Below w.heap.size w wc))
 case first =>
  have H := HC2.out
  clear HC2
  replace H := Option.bind_eq_some_iff.mp H
  obtain ⟨t642,A40,H⟩ := H
  try dsimp only at H
  have A4 := am_ A40
  clear A40
  by_cases c5 : t642 = true
  ·subst c5
   have H1 : ((impl_within.f a0_3 0 6).bind fun t643 => (if t643 = true then (if (a0_6.size : Int) = 8 then (impl_MessageOK.j0 k (decide ((a0_5.size : Int) > 20000)) a0_0 a0_1 a0_2 a0_3 a0_4 a0_5 a0_6) else (impl_MessageOK.j0 k true a0_0 a0_1 a0_2 a0_3 a0_4 a0_5 a0_6)) else (impl_MessageOK.j0 k true a0_0 a0_1 a0_2 a0_3 a0_4 a0_5 a0_6))) = some r := by rw [if_pos rfl] at H;exact H
   clear H
   have H := H1
   clear H1
   replace H := Option.bind_eq_some_iff.mp H
   obtain ⟨t643,A60,H⟩ := H
   try dsimp only at H
   have A6 := am_ A60
   clear A60
   by_cases c7 : t643 = true
   ·subst c7
    have H1 : (if (a0_6.size : Int) = 8 then (impl_MessageOK.j0 k (decide ((a0_5.size : Int) > 20000)) a0_0 a0_1 a0_2 a0_3 a0_4 a0_5 a0_6) else (impl_MessageOK.j0 k true a0_0 a0_1 a0_2 a0_3 a0_4 a0_5 a0_6)) = some r := by rw [if_pos rfl] at H;exact H
    clear H
    have H := H1
    clear H1
    by_cases c8 : (a0_6.size : Int) = 8
    ·rw [if_pos c8] at H
     have c8b0 : ((a0_6.size : Int) == 8) = true := beq_iff_eq.mpr c8
     have c8b1 : ((a0_6.size : Int) != 8) = false := bne_eq_false_iff_eq.mpr c8
     clear c8
     (first | rw [c8b0] | (simp only [i64_w,i32_w];rw [c8b0]) | skip)
     have H' := am_ H
     clear H
     obtain ⟨hcz9_0,hcz9_1,hcz9_2,hcz9_3,hcz9_4,hcz9_5,hcz9_6,hfz9_0,hfz9_1,hfz9_2,hfz9_3,hfz9_4,hfz9_5,hfz9_6⟩ := zc7 BK641
     go_wp2_with (first | ((with_reducible refine gate_callee (f := 57) rfl ?_);refine zgl (some 5) Tryd.func57 #[.int .i64 a0_1,.int .i64 0,.int .i64 20] ?_;(with_reducible refine (impl_within.calls a0_1 0 20 true _ A4.out).mono ?_);rintro e w' ⟨rfl,⟨nd,rfl⟩⟩;refine ⟨_,rfl,?_⟩) | (go_at_call 57;(with_reducible refine (impl_within.calls a0_3 0 6 true _ A6.out).mono ?_);rintro e w' ⟨rfl,⟨nd,rfl⟩⟩))
     go_meet
     case rel => exact ⟨_,(decide ((a0_5.size : Int) > 20000)),(by first | rfl | (simp;done) | (simp [*];done)),H',⟨by first | omega | exact Nat.le_refl _⟩,⟨by (with_reducible repeat (first | apply k1_ | apply k2_ | apply k3_));exact BK641.out⟩,⟨zl_ HB⟩⟩
    ·rw [if_neg c8] at H
     have c8b0 : ((a0_6.size : Int) == 8) = false := beq_eq_false_iff_ne.mpr c8
     have c8b1 : ((a0_6.size : Int) != 8) = true := bne_iff_ne.mpr c8
     (first | rw [c8b0] | (simp only [i64_w,i32_w];rw [c8b0]) | skip)
     have H' := am_ H
     clear H
     obtain ⟨hcz10_0,hcz10_1,hcz10_2,hcz10_3,hcz10_4,hcz10_5,hcz10_6,hfz10_0,hfz10_1,hfz10_2,hfz10_3,hfz10_4,hfz10_5,hfz10_6⟩ := zc7 BK641
     go_wp2_with (first | ((with_reducible refine gate_callee (f := 57) rfl ?_);refine zgl (some 5) Tryd.func57 #[.int .i64 a0_1,.int .i64 0,.int .i64 20] ?_;(with_reducible refine (impl_within.calls a0_1 0 20 true _ A4.out).mono ?_);rintro e w' ⟨rfl,⟨nd,rfl⟩⟩;refine ⟨_,rfl,?_⟩) | (go_at_call 57;(with_reducible refine (impl_within.calls a0_3 0 6 true _ A6.out).mono ?_);rintro e w' ⟨rfl,⟨nd,rfl⟩⟩))
     go_meet
     case rel => exact ⟨_,(true),(by first | rfl | (simp;done) | (simp [*];done)),H',⟨by first | omega | exact Nat.le_refl _⟩,⟨by (with_reducible repeat (first | apply k1_ | apply k2_ | apply k3_));exact BK641.out⟩,⟨zl_ HB⟩⟩
   ·replace c7 := Bool.eq_false_iff.mpr c7
    subst c7
    have H1 : (impl_MessageOK.j0 k true a0_0 a0_1 a0_2 a0_3 a0_4 a0_5 a0_6) = some r := by rw [if_neg (show ¬ (false = true) by decide)] at H;exact H
    clear H
    have H := H1
    clear H1
    have H' := am_ H
    clear H
    obtain ⟨hcz11_0,hcz11_1,hcz11_2,hcz11_3,hcz11_4,hcz11_5,hcz11_6,hfz11_0,hfz11_1,hfz11_2,hfz11_3,hfz11_4,hfz11_5,hfz11_6⟩ := zc7 BK641
    go_wp2_with (first | ((with_reducible refine gate_callee (f := 57) rfl ?_);refine zgl (some 5) Tryd.func57 #[.int .i64 a0_1,.int .i64 0,.int .i64 20] ?_;(with_reducible refine (impl_within.calls a0_1 0 20 true _ A4.out).mono ?_);rintro e w' ⟨rfl,⟨nd,rfl⟩⟩;refine ⟨_,rfl,?_⟩) | (go_at_call 57;(with_reducible refine (impl_within.calls a0_3 0 6 false _ A6.out).mono ?_);rintro e w' ⟨rfl,⟨nd,rfl⟩⟩))
    go_meet
    case rel => exact ⟨_,(true),(by first | rfl | (simp;done) | (simp [*];done)),H',⟨by first | omega | exact Nat.le_refl _⟩,⟨by (with_reducible repeat (first | apply k1_ | apply k2_ | apply k3_));exact BK641.out⟩,⟨zl_ HB⟩⟩
  ·replace c5 := Bool.eq_false_iff.mpr c5
   subst c5
   have H1 : (impl_MessageOK.j0 k true a0_0 a0_1 a0_2 a0_3 a0_4 a0_5 a0_6) = some r := by rw [if_neg (show ¬ (false = true) by decide)] at H;exact H
   clear H
   have H := H1
   clear H1
   have H' := am_ H
   clear H
   obtain ⟨hcz12_0,hcz12_1,hcz12_2,hcz12_3,hcz12_4,hcz12_5,hcz12_6,hfz12_0,hfz12_1,hfz12_2,hfz12_3,hfz12_4,hfz12_5,hfz12_6⟩ := zc7 BK641
   go_wp2_with (first | ((with_reducible refine gate_callee (f := 57) rfl ?_);refine zgl (some 5) Tryd.func57 #[.int .i64 a0_1,.int .i64 0,.int .i64 20] ?_;(with_reducible refine (impl_within.calls a0_1 0 20 false _ A4.out).mono ?_);rintro e w' ⟨rfl,⟨nd,rfl⟩⟩;refine ⟨_,rfl,?_⟩))
   go_meet
   case rel => exact ⟨_,(true),(by first | rfl | (simp;done) | (simp [*];done)),H',⟨by first | omega | exact Nat.le_refl _⟩,⟨by (with_reducible repeat (first | apply k1_ | apply k2_ | apply k3_));exact BK641.out⟩,⟨zl_ HB⟩⟩
 case rest =>
  clear HC2
  try clear p2
  try clear c5
  try clear c6
  try clear c7
  try clear c8
  try clear c8b0
  try clear c8b1
  try clear hcz10_0
  try clear hcz10_1
  try clear hcz10_2
  try clear hcz10_3
  try clear hcz10_4
  try clear hcz10_5
  try clear hcz10_6
  try clear hcz11_0
  try clear hcz11_1
  try clear hcz11_2
  try clear hcz11_3
  try clear hcz11_4
  try clear hcz11_5
  try clear hcz11_6
  try clear hcz12_0
  try clear hcz12_1
  try clear hcz12_2
  try clear hcz12_3
  try clear hcz12_4
  try clear hcz12_5
  try clear hcz12_6
  try clear hcz9_0
  try clear hcz9_1
  try clear hcz9_2
  try clear hcz9_3
  try clear hcz9_4
  try clear hcz9_5
  try clear hcz9_6
  try clear hfz10_0
  try clear hfz10_1
  try clear hfz10_2
  try clear hfz10_3
  try clear hfz10_4
  try clear hfz10_5
  try clear hfz10_6
  try clear hfz11_0
  try clear hfz11_1
  try clear hfz11_2
  try clear hfz11_3
  try clear hfz11_4
  try clear hfz11_5
  try clear hfz11_6
  try clear hfz12_0
  try clear hfz12_1
  try clear hfz12_2
  try clear hfz12_3
  try clear hfz12_4
  try clear hfz12_5
  try clear hfz12_6
  try clear hfz9_0
  try clear hfz9_1
  try clear hfz9_2
  try clear hfz9_3
  try clear hfz9_4
  try clear hfz9_5
  try clear hfz9_6
  obtain ⟨kq,x24_1,rfl,HA,HJ1,BK641,HB⟩ := hcut
  cases kq with
  | zero => exact absurd HA.out (by simp [impl_MessageOK.j0])
  | succ kj1 =>
   have H := HA.out
   clear HA
   simp only [impl_MessageOK.j0] at H
   by_cases c13 : x24_1 = true
   ·subst c13
    have H1 : (some false) = some r := by rw [if_pos rfl] at H;exact H
    clear H
    have H := H1
    clear H1
    obtain rfl := Option.some.inj H
    go_wp2
    go_ret
    exact ⟨zt_,zl_ HB⟩
   ·replace c13 := Bool.eq_false_iff.mpr c13
    subst c13
    have H1 : (if a0_0 = 1 then (impl_MessageOK.j1 kj1 a0_0 (a0_0 == 1) a0_0 a0_1 a0_2 a0_3 a0_4 a0_5 a0_6) else (if a0_0 = 2 then (impl_MessageOK.j1 kj1 a0_0 (a0_0 == 2) a0_0 a0_1 a0_2 a0_3 a0_4 a0_5 a0_6) else (impl_MessageOK.j1 kj1 a0_0 (a0_0 == 3) a0_0 a0_1 a0_2 a0_3 a0_4 a0_5 a0_6))) = some r := by rw [if_neg (show ¬ (false = true) by decide)] at H;exact H
    clear H
    have H := H1
    clear H1
    have HC14 := am_ H
    clear H
    obtain ⟨hcz15_0,hcz15_1,hcz15_2,hcz15_3,hcz15_4,hcz15_5,hcz15_6,hfz15_0,hfz15_1,hfz15_2,hfz15_3,hfz15_4,hfz15_5,hfz15_6⟩ := zc7 BK641
    go_upto_if 27 with (fail)
    go_cut [27] (fun v27 wc => ∃ (kq : Nat) (x27_13 : Bool),v27 = .bool x27_13 ∧ Aside0 (impl_MessageOK.j1 kq a0_0 x27_13 a0_0 a0_1 a0_2 a0_3 a0_4 a0_5 a0_6 = some r) ∧ Aside0 (kq ≤ kj1) ∧ Aside0 (wc.heap[gb641]? = some (.cells #[.int .i64 a0_0,.int .i64 a0_1,.int .i64 a0_2,.int .i64 a0_3,.string a0_4,.string a0_5,.string a0_6] 33 (0,0))) ∧ Aside0 (Below w.heap.size w wc))
    case first =>
     have H := HC14.out
     clear HC14
     by_cases c16 : a0_0 = 1
     ·rw [if_pos c16] at H
      have c16b0 : (a0_0 == 1) = true := beq_iff_eq.mpr c16
      have c16b1 : (a0_0 != 1) = false := bne_eq_false_iff_eq.mpr c16
      clear c16
      (first | rw [c16b0] | (simp only [i64_w,i32_w];rw [c16b0]) | skip)
      have H' := am_ H
      clear H
      go_wp2
      go_meet
      case rel => exact ⟨_,((a0_0 == 1)),(by first | rfl | (simp;done) | (simp [*];done)),H',⟨by have := HJ1.out;first | omega | exact Nat.le_refl _⟩,⟨by (with_reducible repeat (first | apply k1_ | apply k2_ | apply k3_));exact BK641.out⟩,⟨zl_ HB⟩⟩
     ·rw [if_neg c16] at H
      have c16b0 : (a0_0 == 1) = false := beq_eq_false_iff_ne.mpr c16
      have c16b1 : (a0_0 != 1) = true := bne_iff_ne.mpr c16
      (first | rw [c16b0] | (simp only [i64_w,i32_w];rw [c16b0]) | skip)
      by_cases c17 : a0_0 = 2
      ·rw [if_pos c17] at H
       have c17b0 : (a0_0 == 2) = true := beq_iff_eq.mpr c17
       have c17b1 : (a0_0 != 2) = false := bne_eq_false_iff_eq.mpr c17
       clear c17
       have H' := am_ H
       clear H
       go_wp2
       go_meet
       case rel => exact ⟨_,((a0_0 == 2)),(by first | rfl | (simp;done) | (simp [*];done)),H',⟨by have := HJ1.out;first | omega | exact Nat.le_refl _⟩,⟨by (with_reducible repeat (first | apply k1_ | apply k2_ | apply k3_));exact BK641.out⟩,⟨zl_ HB⟩⟩
      ·rw [if_neg c17] at H
       have c17b0 : (a0_0 == 2) = false := beq_eq_false_iff_ne.mpr c17
       have c17b1 : (a0_0 != 2) = true := bne_iff_ne.mpr c17
       have H' := am_ H
       clear H
       go_wp2
       go_meet
       case rel => exact ⟨_,((a0_0 == 3)),(by first | rfl | (simp;done) | (simp [*];done)),H',⟨by have := HJ1.out;first | omega | exact Nat.le_refl _⟩,⟨by (with_reducible repeat (first | apply k1_ | apply k2_ | apply k3_));exact BK641.out⟩,⟨zl_ HB⟩⟩
    case rest =>
     clear HC14
     try clear c1
     try clear p2
     try clear c5
     try clear c6
     try clear c7
     try clear c8
     try clear c8b0
     try clear c8b1
     try clear c13
     try clear c16
     try clear c16b0
     try clear c16b1
     try clear c17
     try clear c17b0
     try clear c17b1
     try clear hcz10_0
     try clear hcz10_1
     try clear hcz10_2
     try clear hcz10_3
     try clear hcz10_4
     try clear hcz10_5
     try clear hcz10_6
     try clear hcz11_0
     try clear hcz11_1
     try clear hcz11_2
     try clear hcz11_3
     try clear hcz11_4
     try clear hcz11_5
     try clear hcz11_6
     try clear hcz12_0
     try clear hcz12_1
     try clear hcz12_2
     try clear hcz12_3
     try clear hcz12_4
     try clear hcz12_5
     try clear hcz12_6
     try clear hcz15_0
     try clear hcz15_1
     try clear hcz15_2
     try clear hcz15_3
     try clear hcz15_4
     try clear hcz15_5
     try clear hcz15_6
     try clear hcz9_0
     try clear hcz9_1
     try clear hcz9_2
     try clear hcz9_3
     try clear hcz9_4
     try clear hcz9_5
     try clear hcz9_6
     try clear hfz10_0
     try clear hfz10_1
     try clear hfz10_2
     try clear hfz10_3
     try clear hfz10_4
     try clear hfz10_5
     try clear hfz10_6
     try clear hfz11_0
     try clear hfz11_1
     try clear hfz11_2
     try clear hfz11_3
     try clear hfz11_4
     try clear hfz11_5
     try clear hfz11_6
     try clear hfz12_0
     try clear hfz12_1
     try clear hfz12_2
     try clear hfz12_3
     try clear hfz12_4
     try clear hfz12_5
     try clear hfz12_6
     try clear hfz15_0
     try clear hfz15_1
     try clear hfz15_2
     try clear hfz15_3
     try clear hfz15_4
     try clear hfz15_5
     try clear hfz15_6
     try clear hfz9_0
     try clear hfz9_1
     try clear hfz9_2
     try clear hfz9_3
     try clear hfz9_4
     try clear hfz9_5
     try clear hfz9_6
     try clear p2
     obtain ⟨kq,x27_13,rfl,HA,HJ13,BK641,HB⟩ := hcut
     cases kq with
     | zero => exact absurd HA.out (by simp [impl_MessageOK.j1])
     | succ kj13 =>
      have H := HA.out
      clear HA
      simp only [impl_MessageOK.j1] at H
      by_cases c18 : x27_13 = true
      ·subst c18
       have H1 : ((impl_within.f a0_2 1 8).bind fun t644 => (if t644 = true then ((impl_isHash.f a0_4).bind fun t645 => (if t645 = true then (some ((a0_5.toList != ([] : List UInt8)) == (a0_0 == 1))) else (some false))) else (some false))) = some r := by rw [if_pos rfl] at H;exact H
       clear H
       have H := H1
       clear H1
       replace H := Option.bind_eq_some_iff.mp H
       obtain ⟨t644,A190,H⟩ := H
       try dsimp only at H
       have A19 := am_ A190
       clear A190
       by_cases c20 : t644 = true
       ·subst c20
        have H1 : ((impl_isHash.f a0_4).bind fun t645 => (if t645 = true then (some ((a0_5.toList != ([] : List UInt8)) == (a0_0 == 1))) else (some false))) = some r := by rw [if_pos rfl] at H;exact H
        clear H
        have H := H1
        clear H1
        replace H := Option.bind_eq_some_iff.mp H
        obtain ⟨t645,A210,H⟩ := H
        try dsimp only at H
        have A21 := am_ A210
        clear A210
        by_cases c22 : t645 = true
        ·subst c22
         have H1 : (some ((a0_5.toList != ([] : List UInt8)) == (a0_0 == 1))) = some r := by rw [if_pos rfl] at H;exact H
         clear H
         have H := H1
         clear H1
         obtain rfl := Option.some.inj H
         obtain ⟨hcz23_0,hcz23_1,hcz23_2,hcz23_3,hcz23_4,hcz23_5,hcz23_6,hfz23_0,hfz23_1,hfz23_2,hfz23_3,hfz23_4,hfz23_5,hfz23_6⟩ := zc7 BK641
         go_wp2_with (first | ((with_reducible refine gate_callee (f := 57) rfl ?_);refine zgl (some 33) Tryd.func57 #[.int .i64 a0_2,.int .i64 1,.int .i64 8] ?_;(with_reducible refine (impl_within.calls a0_2 1 8 true _ A19.out).mono ?_);rintro e w' ⟨rfl,⟨nd,rfl⟩⟩;refine ⟨_,rfl,?_⟩) | (go_at_call 127;(with_reducible refine (impl_isHash.calls a0_4 true _ A21.out).mono ?_);rintro e w' ⟨rfl,⟨nd,rfl⟩⟩))
         go_ret
         exact ⟨zt_,zl_ HB⟩
        ·replace c22 := Bool.eq_false_iff.mpr c22
         subst c22
         have H1 : (some false) = some r := by rw [if_neg (show ¬ (false = true) by decide)] at H;exact H
         clear H
         have H := H1
         clear H1
         obtain rfl := Option.some.inj H
         obtain ⟨hcz24_0,hcz24_1,hcz24_2,hcz24_3,hcz24_4,hcz24_5,hcz24_6,hfz24_0,hfz24_1,hfz24_2,hfz24_3,hfz24_4,hfz24_5,hfz24_6⟩ := zc7 BK641
         go_wp2_with (first | ((with_reducible refine gate_callee (f := 57) rfl ?_);refine zgl (some 33) Tryd.func57 #[.int .i64 a0_2,.int .i64 1,.int .i64 8] ?_;(with_reducible refine (impl_within.calls a0_2 1 8 true _ A19.out).mono ?_);rintro e w' ⟨rfl,⟨nd,rfl⟩⟩;refine ⟨_,rfl,?_⟩) | (go_at_call 127;(with_reducible refine (impl_isHash.calls a0_4 false _ A21.out).mono ?_);rintro e w' ⟨rfl,⟨nd,rfl⟩⟩))
         go_ret
         exact ⟨zt_,zl_ HB⟩
       ·replace c20 := Bool.eq_false_iff.mpr c20
        subst c20
        have H1 : (some false) = some r := by rw [if_neg (show ¬ (false = true) by decide)] at H;exact H
        clear H
        have H := H1
        clear H1
        obtain rfl := Option.some.inj H
        obtain ⟨hcz25_0,hcz25_1,hcz25_2,hcz25_3,hcz25_4,hcz25_5,hcz25_6,hfz25_0,hfz25_1,hfz25_2,hfz25_3,hfz25_4,hfz25_5,hfz25_6⟩ := zc7 BK641
        go_wp2_with (first | ((with_reducible refine gate_callee (f := 57) rfl ?_);refine zgl (some 33) Tryd.func57 #[.int .i64 a0_2,.int .i64 1,.int .i64 8] ?_;(with_reducible refine (impl_within.calls a0_2 1 8 false _ A19.out).mono ?_);rintro e w' ⟨rfl,⟨nd,rfl⟩⟩;refine ⟨_,rfl,?_⟩))
        go_ret
        exact ⟨zt_,zl_ HB⟩
      ·replace c18 := Bool.eq_false_iff.mpr c18
       subst c18
       have H1 : (if a0_0 = 4 then (if a0_2 = 0 then (some (a0_4.toList == ([] : List UInt8))) else (some false)) else (if a0_0 = 5 then (if a0_2 = 0 then (some (a0_4.toList == ([] : List UInt8))) else (some false)) else (some false))) = some r := by rw [if_neg (show ¬ (false = true) by decide)] at H;exact H
       clear H
       have H := H1
       clear H1
       by_cases c26 : a0_0 = 4
       ·rw [if_pos c26] at H
        have c26b0 : (a0_0 == 4) = true := beq_iff_eq.mpr c26
        have c26b1 : (a0_0 != 4) = false := bne_eq_false_iff_eq.mpr c26
        clear c26
        by_cases c27 : a0_2 = 0
        ·rw [if_pos c27] at H
         have c27b0 : (a0_2 == 0) = true := beq_iff_eq.mpr c27
         have c27b1 : (a0_2 != 0) = false := bne_eq_false_iff_eq.mpr c27
         clear c27
         obtain rfl := Option.some.inj H
         obtain ⟨hcz28_0,hcz28_1,hcz28_2,hcz28_3,hcz28_4,hcz28_5,hcz28_6,hfz28_0,hfz28_1,hfz28_2,hfz28_3,hfz28_4,hfz28_5,hfz28_6⟩ := zc7 BK641
         go_wp2
         go_ret
         exact ⟨zt_,zl_ HB⟩
        ·rw [if_neg c27] at H
         have c27b0 : (a0_2 == 0) = false := beq_eq_false_iff_ne.mpr c27
         have c27b1 : (a0_2 != 0) = true := bne_iff_ne.mpr c27
         obtain rfl := Option.some.inj H
         obtain ⟨hcz29_0,hcz29_1,hcz29_2,hcz29_3,hcz29_4,hcz29_5,hcz29_6,hfz29_0,hfz29_1,hfz29_2,hfz29_3,hfz29_4,hfz29_5,hfz29_6⟩ := zc7 BK641
         go_wp2
         go_ret
         exact ⟨zt_,zl_ HB⟩
       ·rw [if_neg c26] at H
        have c26b0 : (a0_0 == 4) = false := beq_eq_false_iff_ne.mpr c26
        have c26b1 : (a0_0 != 4) = true := bne_iff_ne.mpr c26
        by_cases c30 : a0_0 = 5
        ·rw [if_pos c30] at H
         have c30b0 : (a0_0 == 5) = true := beq_iff_eq.mpr c30
         have c30b1 : (a0_0 != 5) = false := bne_eq_false_iff_eq.mpr c30
         clear c30
         by_cases c31 : a0_2 = 0
         ·rw [if_pos c31] at H
          have c31b0 : (a0_2 == 0) = true := beq_iff_eq.mpr c31
          have c31b1 : (a0_2 != 0) = false := bne_eq_false_iff_eq.mpr c31
          clear c31
          obtain rfl := Option.some.inj H
          obtain ⟨hcz32_0,hcz32_1,hcz32_2,hcz32_3,hcz32_4,hcz32_5,hcz32_6,hfz32_0,hfz32_1,hfz32_2,hfz32_3,hfz32_4,hfz32_5,hfz32_6⟩ := zc7 BK641
          go_wp2
          go_ret
          exact ⟨zt_,zl_ HB⟩
         ·rw [if_neg c31] at H
          have c31b0 : (a0_2 == 0) = false := beq_eq_false_iff_ne.mpr c31
          have c31b1 : (a0_2 != 0) = true := bne_iff_ne.mpr c31
          obtain rfl := Option.some.inj H
          obtain ⟨hcz33_0,hcz33_1,hcz33_2,hcz33_3,hcz33_4,hcz33_5,hcz33_6,hfz33_0,hfz33_1,hfz33_2,hfz33_3,hfz33_4,hfz33_5,hfz33_6⟩ := zc7 BK641
          go_wp2
          go_ret
          exact ⟨zt_,zl_ HB⟩
        ·rw [if_neg c30] at H
         have c30b0 : (a0_0 == 5) = false := beq_eq_false_iff_ne.mpr c30
         have c30b1 : (a0_0 != 5) = true := bne_iff_ne.mpr c30
         obtain rfl := Option.some.inj H
         go_wp2
         go_ret
         exact ⟨zt_,zl_ HB⟩
set_option maxHeartbeats 8000000 in
set_option maxRecDepth 100000 in
theorem impl_FaultsOf.calls (a0 : Int) (r1 : Int) (r2 : Int) (w : World) (h : impl_FaultsOf.f a0 = some (r1,r2)) :
  Calls Tryd.prog 130 #[.int .i64 a0] w fun e w' => e = .returned (.tuple #[.int .i64 r1,.int .i64 r2]) ∧ Drawn0 w w' := by
 have H : (if a0 = 1 then (some (wrap64 (Int.tdiv (wrap64 (a0 - 1)) 3),0)) else (if a0 = 4 then (some (wrap64 (Int.tdiv (wrap64 (a0 - 1)) 3),0)) else (if a0 = 7 then (some (wrap64 (Int.tdiv (wrap64 (a0 - 1)) 3),0)) else (some (0,4))))) = some (r1,r2) := h
 clear h
 by_cases c2 : a0 = 1
 ·rw [if_pos c2] at H
  have c2b0 : (a0 == 1) = true := beq_iff_eq.mpr c2
  have c2b1 : (a0 != 1) = false := bne_eq_false_iff_eq.mpr c2
  clear c2
  simp only [Option.some.injEq,Prod.mk.injEq] at H
  obtain ⟨rfl,rfl⟩ := H
  go_enter Tryd.func130,Tryd.ntmps130
  go_wp2
  go_ret2
  exact ⟨by first | rfl | (simp;done) | (simp [*];done),by repeat (first | exact Drawn0.refl _ | apply Drawn0.step)⟩
 ·rw [if_neg c2] at H
  have c2b0 : (a0 == 1) = false := beq_eq_false_iff_ne.mpr c2
  have c2b1 : (a0 != 1) = true := bne_iff_ne.mpr c2
  by_cases c3 : a0 = 4
  ·rw [if_pos c3] at H
   have c3b0 : (a0 == 4) = true := beq_iff_eq.mpr c3
   have c3b1 : (a0 != 4) = false := bne_eq_false_iff_eq.mpr c3
   clear c3
   simp only [Option.some.injEq,Prod.mk.injEq] at H
   obtain ⟨rfl,rfl⟩ := H
   go_enter Tryd.func130,Tryd.ntmps130
   go_wp2
   go_ret2
   exact ⟨by first | rfl | (simp;done) | (simp [*];done),by repeat (first | exact Drawn0.refl _ | apply Drawn0.step)⟩
  ·rw [if_neg c3] at H
   have c3b0 : (a0 == 4) = false := beq_eq_false_iff_ne.mpr c3
   have c3b1 : (a0 != 4) = true := bne_iff_ne.mpr c3
   by_cases c4 : a0 = 7
   ·rw [if_pos c4] at H
    have c4b0 : (a0 == 7) = true := beq_iff_eq.mpr c4
    have c4b1 : (a0 != 7) = false := bne_eq_false_iff_eq.mpr c4
    clear c4
    simp only [Option.some.injEq,Prod.mk.injEq] at H
    obtain ⟨rfl,rfl⟩ := H
    go_enter Tryd.func130,Tryd.ntmps130
    go_wp2
    go_ret2
    exact ⟨by first | rfl | (simp;done) | (simp [*];done),by repeat (first | exact Drawn0.refl _ | apply Drawn0.step)⟩
   ·rw [if_neg c4] at H
    have c4b0 : (a0 == 7) = false := beq_eq_false_iff_ne.mpr c4
    have c4b1 : (a0 != 7) = true := bne_iff_ne.mpr c4
    simp only [Option.some.injEq,Prod.mk.injEq] at H
    obtain ⟨rfl,rfl⟩ := H
    go_enter Tryd.func130,Tryd.ntmps130
    go_wp2
    go_ret2
    exact ⟨by first | rfl | (simp;done) | (simp [*];done),by repeat (first | exact Drawn0.refl _ | apply Drawn0.step)⟩
set_option maxHeartbeats 8000000 in
set_option maxRecDepth 100000 in
theorem impl_areNodes.calls (a0 : Int) (r : Bool) (w : World) (h : impl_areNodes.f a0 = some r) :
  Calls Tryd.prog 69 #[.int .i64 a0] w fun e w' => e = .returned (.bool r) ∧ Drawn0 w w' := by
 have H : ((impl_FaultsOf.f a0).bind fun bt719 => (some (bt719.2 == 0))) = some r := h
 clear h
 replace H := Option.bind_eq_some_iff.mp H
 obtain ⟨⟨t719,t720⟩,A20,H⟩ := H
 try dsimp only at H
 have A2 := am_ A20
 clear A20
 obtain rfl := Option.some.inj H
 go_enter Tryd.func69,Tryd.ntmps69
 go_wp2_with (first | ((with_reducible refine gate_callee (f := 130) rfl ?_);refine zgl (some 7) Tryd.func130 #[.int .i64 a0] ?_;(with_reducible refine (impl_FaultsOf.calls a0 t719 t720 _ A2.out).mono ?_);rintro e w' ⟨rfl,⟨nd,rfl⟩⟩;refine ⟨_,rfl,?_⟩))
 go_ret
 exact ⟨by first | rfl | (simp;done) | (simp [*];done),by repeat (first | exact Drawn0.refl _ | apply Drawn0.step)⟩
def impl_bareText.T1 : Bool × List (List Nat × List Nat) := (true,[([],[]),([0],[0]),([1],[1]),([],[]),([3],[3]),([4,2],[4]),([2,5],[2,5]),([],[]),([7],[7]),([8,5],[8]),([6,9],[6,9]),([],[]),([11],[11]),([12,9],[12]),([10,13],[10,13]),([],[]),([15],[15]),([16],[16]),([17,13],[17]),([14,18],[14,18]),([],[]),([20],[20]),([19,21],[19,21]),([],[]),([23],[23]),([24],[24]),([25,18],[25]),([22,26],[22,26]),([],[]),([28],[28]),([27,29],[27,29]),([30,26,0,1,2,3,4,5,6,7,8,9,10,11,12,13,14,15,16,17,18,19,20,21,22,23,24,25,26,27,28,29,30],[30])])
def impl_bareText.B1 : List Nat := [0,1,3,0,8,31,63,0,128,447,1023,0,2048,7103,16383,0,32768,98304,244671,524287,0,1048576,4194303,0,8388608,25165824,59227071,134217727,0,268435456,1073741823,2147483647]
theorem impl_bareText.tab1 : rtab .any (opsOf Tryd.f71 1) = impl_bareText.T1 := by kernel_rfl
theorem impl_bareText.bits1 : waitsOk impl_bareText.T1.2 impl_bareText.B1 = true := by kernel_rfl
set_option maxHeartbeats 8000000 in
set_option maxRecDepth 100000 in
theorem impl_bareText.calls (k : Nat) (a0_0 : Int) (a0_1 : Int) (a0_2 : Int) (a0_3 : Int) (a0_4 : ByteArray) (a0_5 : ByteArray) (a0_6 : ByteArray) (r : ByteArray) (w : World) (h : impl_bareText.f k a0_0 a0_1 a0_2 a0_3 a0_4 a0_5 a0_6 = some r) :
  Calls Tryd.prog 71 #[.agg #[.int .i64 a0_0,.int .i64 a0_1,.int .i64 a0_2,.int .i64 a0_3,.string a0_4,.string a0_5,.string a0_6]] w fun e w' => e = .returned (.string r) ∧ Below w.heap.size w w' := by
 have hu33 := Tryd.underlying33
 have HB := am_ (Below.refl w.heap.size w)
 have H : ((impl_number.f k a0_0 1).bind fun t650 => ((impl_number.f k a0_1 1).bind fun t651 => (if t650.size + t651.size ≤ 9223372036854775807 then ((impl_number.f k a0_2 1).bind fun t652 => (if (t650 ++ t651).size + t652.size ≤ 9223372036854775807 then ((impl_number.f k a0_3 1).bind fun t653 => (if ((t650 ++ t651) ++ t652).size + t653.size ≤ 9223372036854775807 then ((impl_number.f k (a0_4.size : Int) 1).bind fun t654 => (if (((t650 ++ t651) ++ t652) ++ t653).size + t654.size ≤ 9223372036854775807 then (if ((((t650 ++ t651) ++ t652) ++ t653) ++ t654).size + a0_4.size ≤ 9223372036854775807 then ((impl_number.f k (a0_5.size : Int) 2).bind fun t655 => (if (((((t650 ++ t651) ++ t652) ++ t653) ++ t654) ++ a0_4).size + t655.size ≤ 9223372036854775807 then (if ((((((t650 ++ t651) ++ t652) ++ t653) ++ t654) ++ a0_4) ++ t655).size + a0_5.size ≤ 9223372036854775807 then (some (((((((t650 ++ t651) ++ t652) ++ t653) ++ t654) ++ a0_4) ++ t655) ++ a0_5)) else (none)) else (none))) else (none)) else (none))) else (none))) else (none))) else (none)))) = some r := h
 clear h
 replace H := Option.bind_eq_some_iff.mp H
 obtain ⟨t650,A20,H⟩ := H
 try dsimp only at H
 have A2 := am_ A20
 clear A20
 replace H := Option.bind_eq_some_iff.mp H
 obtain ⟨t651,A30,H⟩ := H
 try dsimp only at H
 have A3 := am_ A30
 clear A30
 by_cases c4 : t650.size + t651.size ≤ 9223372036854775807
 ·rw [if_pos c4] at H
  have c4b0 := eq_true c4
  have c4b1 : decide (t650.size + t651.size ≤ 9223372036854775807) = true := decide_eq_true c4
  try have c4b2 : (9223372036854775807 < t650.size + t651.size) = False := eq_false (Nat.not_lt.2 c4)
  replace H := Option.bind_eq_some_iff.mp H
  obtain ⟨t652,A50,H⟩ := H
  try dsimp only at H
  have A5 := am_ A50
  clear A50
  by_cases c6 : (t650 ++ t651).size + t652.size ≤ 9223372036854775807
  ·rw [if_pos c6] at H
   have c6b0 := eq_true c6
   have c6b1 : decide ((t650 ++ t651).size + t652.size ≤ 9223372036854775807) = true := decide_eq_true c6
   try have c6b2 : (9223372036854775807 < (t650 ++ t651).size + t652.size) = False := eq_false (Nat.not_lt.2 c6)
   (try have c6b3 := c6b2;simp only [ByteArray.size_append] at c6b3)
   replace H := Option.bind_eq_some_iff.mp H
   obtain ⟨t653,A70,H⟩ := H
   try dsimp only at H
   have A7 := am_ A70
   clear A70
   by_cases c8 : ((t650 ++ t651) ++ t652).size + t653.size ≤ 9223372036854775807
   ·rw [if_pos c8] at H
    have c8b0 := eq_true c8
    have c8b1 : decide (((t650 ++ t651) ++ t652).size + t653.size ≤ 9223372036854775807) = true := decide_eq_true c8
    try have c8b2 : (9223372036854775807 < ((t650 ++ t651) ++ t652).size + t653.size) = False := eq_false (Nat.not_lt.2 c8)
    (try have c8b3 := c8b2;simp only [ByteArray.size_append] at c8b3)
    replace H := Option.bind_eq_some_iff.mp H
    obtain ⟨t654,A90,H⟩ := H
    try dsimp only at H
    have A9 := am_ A90
    clear A90
    by_cases c10 : (((t650 ++ t651) ++ t652) ++ t653).size + t654.size ≤ 9223372036854775807
    ·rw [if_pos c10] at H
     have c10b0 := eq_true c10
     have c10b1 : decide ((((t650 ++ t651) ++ t652) ++ t653).size + t654.size ≤ 9223372036854775807) = true := decide_eq_true c10
     try have c10b2 : (9223372036854775807 < (((t650 ++ t651) ++ t652) ++ t653).size + t654.size) = False := eq_false (Nat.not_lt.2 c10)
     (try have c10b3 := c10b2;simp only [ByteArray.size_append] at c10b3)
     by_cases c11 : ((((t650 ++ t651) ++ t652) ++ t653) ++ t654).size + a0_4.size ≤ 9223372036854775807
     ·rw [if_pos c11] at H
      have c11b0 := eq_true c11
      have c11b1 : decide (((((t650 ++ t651) ++ t652) ++ t653) ++ t654).size + a0_4.size ≤ 9223372036854775807) = true := decide_eq_true c11
      try have c11b2 : (9223372036854775807 < ((((t650 ++ t651) ++ t652) ++ t653) ++ t654).size + a0_4.size) = False := eq_false (Nat.not_lt.2 c11)
      (try have c11b3 := c11b2;simp only [ByteArray.size_append] at c11b3)
      replace H := Option.bind_eq_some_iff.mp H
      obtain ⟨t655,A120,H⟩ := H
      try dsimp only at H
      have A12 := am_ A120
      clear A120
      by_cases c13 : (((((t650 ++ t651) ++ t652) ++ t653) ++ t654) ++ a0_4).size + t655.size ≤ 9223372036854775807
      ·rw [if_pos c13] at H
       have c13b0 := eq_true c13
       have c13b1 : decide ((((((t650 ++ t651) ++ t652) ++ t653) ++ t654) ++ a0_4).size + t655.size ≤ 9223372036854775807) = true := decide_eq_true c13
       try have c13b2 : (9223372036854775807 < (((((t650 ++ t651) ++ t652) ++ t653) ++ t654) ++ a0_4).size + t655.size) = False := eq_false (Nat.not_lt.2 c13)
       (try have c13b3 := c13b2;simp only [ByteArray.size_append] at c13b3)
       by_cases c14 : ((((((t650 ++ t651) ++ t652) ++ t653) ++ t654) ++ a0_4) ++ t655).size + a0_5.size ≤ 9223372036854775807
       ·rw [if_pos c14] at H
        have c14b0 := eq_true c14
        have c14b1 : decide (((((((t650 ++ t651) ++ t652) ++ t653) ++ t654) ++ a0_4) ++ t655).size + a0_5.size ≤ 9223372036854775807) = true := decide_eq_true c14
        try have c14b2 : (9223372036854775807 < ((((((t650 ++ t651) ++ t652) ++ t653) ++ t654) ++ a0_4) ++ t655).size + a0_5.size) = False := eq_false (Nat.not_lt.2 c14)
        (try have c14b3 := c14b2;simp only [ByteArray.size_append] at c14b3)
        obtain rfl := Option.some.inj H
        go_enter Tryd.func71,Tryd.ntmps71
        try go_wp2_with (first | ((with_reducible refine gate_dst (N := 1) rfl ?_);refine zbx (N := 1) (cs := #[.int .i64 a0_0,.int .i64 a0_1,.int .i64 a0_2,.int .i64 a0_3,.string a0_4,.string a0_5,.string a0_6]) (t := 33) ?_;intro gb649 hg w15 hbox hb;have BK649 := am_ (hbox);have GW649 := zw_ HB hg;have GE649 := zw_ HB hg;replace HB := zs_ HB hb;clear hb hbox hg))
        replace BK649 := am_ (blk_drew BK649.out)
        replace HB := am_ (below_drew1 HB.out)
        refine start_ (n := 32) (S := fun w' => w'.cell? ⟨gb649,0,none⟩ = some (.int .i64 a0_0) ∧ w'.cell? ⟨gb649,1,none⟩ = some (.int .i64 a0_1) ∧ w'.cell? ⟨gb649,2,none⟩ = some (.int .i64 a0_2) ∧ w'.cell? ⟨gb649,3,none⟩ = some (.int .i64 a0_3) ∧ w'.cell? ⟨gb649,4,none⟩ = some (.string a0_4) ∧ w'.cell? ⟨gb649,5,none⟩ = some (.string a0_5) ∧ w'.cell? ⟨gb649,6,none⟩ = some (.string a0_6)) (ds := []) #[false,false,false,false,false,false,false,false,false,false,false,false,false,false,false,false,false,false,false,false,false,false,false,false,false,false,false,false,false,false,false,false] (by kernel_rfl) rfl rfl ⟨(blk_cell BK649.out 0).trans rfl,(blk_cell BK649.out 1).trans rfl,(blk_cell BK649.out 2).trans rfl,(blk_cell BK649.out 3).trans rfl,(blk_cell BK649.out 4).trans rfl,(blk_cell BK649.out 5).trans rfl,(blk_cell BK649.out 6).trans rfl⟩ (fun hHeld => ?_);refine with_tabW impl_bareText.tab1 impl_bareText.bits1 (fun HT_ HW_ => ?_)
        generalize w15.drew = w16 at BK649 HB hHeld ⊢
        refine zpu 0 (N := some 3) HT_ ?_
        refine zpu 3 (N := some 6) HT_ ?_
        refine zpu 7 (N := some 10) HT_ ?_
        refine zpu 11 (N := some 14) HT_ ?_
        refine zpu 15 (N := some 18) HT_ ?_
        refine zpu 20 (N := some 23) HT_ ?_
        refine zpu 23 (N := some 26) HT_ ?_
        refine zpu 28 (N := some 31) HT_ ?_
        refine ztk 1 (N := some 4) HT_ HW_ hHeld ?_
        refine ztk 4 (N := some 7) HT_ HW_ hHeld ?_
        refine ztk 8 (N := some 11) HT_ HW_ hHeld ?_
        refine ztk 12 (N := some 15) HT_ HW_ hHeld ?_
        refine ztk 16 (N := some 19) HT_ HW_ hHeld ?_
        refine zpu 17 (N := some 20) HT_ ?_
        refine ztk 21 (N := some 24) HT_ HW_ hHeld ?_
        refine ztk 24 (N := some 27) HT_ HW_ hHeld ?_
        refine zpu 25 (N := some 28) HT_ ?_
        refine ztk 29 (N := some 32) HT_ HW_ hHeld ?_
        refine zon 2 (N := some 5) HT_ (fun K hK => ?_)
        refine zgo Tryd.func64 #[.int .i64 a0_0,.int .i64 1] ?_
        with_reducible refine (impl_number.calls k a0_0 1 t650 _ A2.out).mono ?_
        rintro e w17 ⟨rfl,hb⟩
        refine ⟨_,rfl,?_⟩
        replace BK649 := zb BK649 hb
        replace HB := zs_ HB hb
        (try clear hb)
        (try clear hb2)
        (try clear hk)
        (try clear hi)
        refine hK.out _ _ ⟨(blk_cell BK649.out 0).trans rfl,(blk_cell BK649.out 1).trans rfl,(blk_cell BK649.out 2).trans rfl,(blk_cell BK649.out 3).trans rfl,(blk_cell BK649.out 4).trans rfl,(blk_cell BK649.out 5).trans rfl,(blk_cell BK649.out 6).trans rfl⟩ (fun hHeld => ?_)
        clear hK K
        refine norm_ (a' := ?_) ?_ ?_
        rotate_left
        ·show Act.put _ (some 5) _ = _
         simp only [Act.put,p1_,p2_,p3_,i64_w,i32_w]
         rfl
        refine zon 5 (N := some 8) HT_ (fun K hK => ?_)
        refine zgo Tryd.func64 #[.int .i64 a0_1,.int .i64 1] ?_
        with_reducible refine (impl_number.calls k a0_1 1 t651 _ A3.out).mono ?_
        rintro e w18 ⟨rfl,hb⟩
        refine ⟨_,rfl,?_⟩
        replace BK649 := zb BK649 hb
        replace HB := zs_ HB hb
        (try clear hb)
        (try clear hb2)
        (try clear hk)
        (try clear hi)
        refine hK.out _ _ ⟨(blk_cell BK649.out 0).trans rfl,(blk_cell BK649.out 1).trans rfl,(blk_cell BK649.out 2).trans rfl,(blk_cell BK649.out 3).trans rfl,(blk_cell BK649.out 4).trans rfl,(blk_cell BK649.out 5).trans rfl,(blk_cell BK649.out 6).trans rfl⟩ (fun hHeld => ?_)
        clear hK K
        refine norm_ (a' := ?_) ?_ ?_
        rotate_left
        ·show Act.put _ (some 8) _ = _
         simp only [Act.put,p1_,p2_,p3_,i64_w,i32_w]
         rfl
        refine zpu 6 (N := some 9) HT_ ?_
        refine zon 9 (N := some 12) HT_ (fun K hK => ?_)
        refine zgo Tryd.func64 #[.int .i64 a0_2,.int .i64 1] ?_
        with_reducible refine (impl_number.calls k a0_2 1 t652 _ A5.out).mono ?_
        rintro e w19 ⟨rfl,hb⟩
        refine ⟨_,rfl,?_⟩
        replace BK649 := zb BK649 hb
        replace HB := zs_ HB hb
        (try clear hb)
        (try clear hb2)
        (try clear hk)
        (try clear hi)
        refine hK.out _ _ ⟨(blk_cell BK649.out 0).trans rfl,(blk_cell BK649.out 1).trans rfl,(blk_cell BK649.out 2).trans rfl,(blk_cell BK649.out 3).trans rfl,(blk_cell BK649.out 4).trans rfl,(blk_cell BK649.out 5).trans rfl,(blk_cell BK649.out 6).trans rfl⟩ (fun hHeld => ?_)
        clear hK K
        refine norm_ (a' := ?_) ?_ ?_
        rotate_left
        ·show Act.put _ (some 12) _ = _
         simp only [Act.put,p1_,p2_,p3_,i64_w,i32_w]
         rfl
        refine zpu 10 (N := some 13) HT_ ?_
        refine zon 13 (N := some 16) HT_ (fun K hK => ?_)
        refine zgo Tryd.func64 #[.int .i64 a0_3,.int .i64 1] ?_
        with_reducible refine (impl_number.calls k a0_3 1 t653 _ A7.out).mono ?_
        rintro e w20 ⟨rfl,hb⟩
        refine ⟨_,rfl,?_⟩
        replace BK649 := zb BK649 hb
        replace HB := zs_ HB hb
        (try clear hb)
        (try clear hb2)
        (try clear hk)
        (try clear hi)
        refine hK.out _ _ ⟨(blk_cell BK649.out 0).trans rfl,(blk_cell BK649.out 1).trans rfl,(blk_cell BK649.out 2).trans rfl,(blk_cell BK649.out 3).trans rfl,(blk_cell BK649.out 4).trans rfl,(blk_cell BK649.out 5).trans rfl,(blk_cell BK649.out 6).trans rfl⟩ (fun hHeld => ?_)
        clear hK K
        refine norm_ (a' := ?_) ?_ ?_
        rotate_left
        ·show Act.put _ (some 16) _ = _
         simp only [Act.put,p1_,p2_,p3_,i64_w,i32_w]
         rfl
        refine zpu 14 (N := some 17) HT_ ?_
        refine zon 18 (N := some 21) HT_ (fun K hK => ?_)
        refine zgo Tryd.func64 #[.int .i64 (a0_4.size : Int),.int .i64 1] ?_
        with_reducible refine (impl_number.calls k (a0_4.size : Int) 1 t654 _ A9.out).mono ?_
        rintro e w21 ⟨rfl,hb⟩
        refine ⟨_,rfl,?_⟩
        replace BK649 := zb BK649 hb
        replace HB := zs_ HB hb
        (try clear hb)
        (try clear hb2)
        (try clear hk)
        (try clear hi)
        refine hK.out _ _ ⟨(blk_cell BK649.out 0).trans rfl,(blk_cell BK649.out 1).trans rfl,(blk_cell BK649.out 2).trans rfl,(blk_cell BK649.out 3).trans rfl,(blk_cell BK649.out 4).trans rfl,(blk_cell BK649.out 5).trans rfl,(blk_cell BK649.out 6).trans rfl⟩ (fun hHeld => ?_)
        clear hK K
        refine norm_ (a' := ?_) ?_ ?_
        rotate_left
        ·show Act.put _ (some 21) _ = _
         simp only [Act.put,p1_,p2_,p3_,i64_w,i32_w]
         rfl
        refine zpu 19 (N := some 22) HT_ ?_
        refine zpu 22 (N := some 25) HT_ ?_
        refine zon 26 (N := some 29) HT_ (fun K hK => ?_)
        refine zgo Tryd.func64 #[.int .i64 (a0_5.size : Int),.int .i64 2] ?_
        with_reducible refine (impl_number.calls k (a0_5.size : Int) 2 t655 _ A12.out).mono ?_
        rintro e w22 ⟨rfl,hb⟩
        refine ⟨_,rfl,?_⟩
        replace BK649 := zb BK649 hb
        replace HB := zs_ HB hb
        (try clear hb)
        (try clear hb2)
        (try clear hk)
        (try clear hi)
        refine hK.out _ _ ⟨(blk_cell BK649.out 0).trans rfl,(blk_cell BK649.out 1).trans rfl,(blk_cell BK649.out 2).trans rfl,(blk_cell BK649.out 3).trans rfl,(blk_cell BK649.out 4).trans rfl,(blk_cell BK649.out 5).trans rfl,(blk_cell BK649.out 6).trans rfl⟩ (fun hHeld => ?_)
        clear hK K
        refine norm_ (a' := ?_) ?_ ?_
        rotate_left
        ·show Act.put _ (some 29) _ = _
         simp only [Act.put,p1_,p2_,p3_,i64_w,i32_w]
         rfl
        refine zpu 27 (N := some 30) HT_ ?_
        refine zpu 30 (N := some 33) HT_ ?_
        refine zpu 31 (N := some 2) HT_ ?_
        refine done_ (done_of HT_.out (by kernel_rfl)) ?_
        try go_wp2
        go_ret
        exact ⟨zt_,zl_ HB⟩
       ·rw [if_neg c14] at H
        exact absurd H (by simp)
      ·rw [if_neg c13] at H
       exact absurd H (by simp)
     ·rw [if_neg c11] at H
      exact absurd H (by simp)
    ·rw [if_neg c10] at H
     exact absurd H (by simp)
   ·rw [if_neg c8] at H
    exact absurd H (by simp)
  ·rw [if_neg c6] at H
   exact absurd H (by simp)
 ·rw [if_neg c4] at H
  exact absurd H (by simp)
set_option maxHeartbeats 8000000 in
set_option maxRecDepth 100000 in
theorem impl_mark.calls (k : Nat) (a0 : Int) (a1 : ByteArray) (r : ByteArray) (w : World) (hL : Laid w) (h : impl_mark.f k a0 a1 = some r) :
  Calls Tryd.prog 70 #[.int .i64 a0,.string a1] w fun e w' => e = .returned (.string r) ∧ Below w.heap.size w w' := by
 have HLD := am_ hL
 clear hL
 have HB := am_ (Below.refl w.heap.size w)
 have H : ((impl_number.f k a0 1).bind fun t646 => (if 8 + t646.size ≤ 9223372036854775807 then ((impl_hash.f k ((⟨#[110,111,100,101,32,107,101,121]⟩ : ByteArray) ++ t646)).bind fun t647 => (if t647.size + a1.size ≤ 9223372036854775807 then ((impl_hash.f k (t647 ++ a1)).bind fun t648 => (if 0 ≤ 8 then (if 8 ≤ (t648.size : Int) then (some (t648.extract 0 8)) else (none)) else (none))) else (none))) else (none))) = some r := h
 clear h
 replace H := Option.bind_eq_some_iff.mp H
 obtain ⟨t646,A30,H⟩ := H
 try dsimp only at H
 have A3 := am_ A30
 clear A30
 by_cases c4 : 8 + t646.size ≤ 9223372036854775807
 ·rw [if_pos c4] at H
  have c4b0 := eq_true c4
  have c4b1 : decide (8 + t646.size ≤ 9223372036854775807) = true := decide_eq_true c4
  try have c4b2 : (9223372036854775807 < 8 + t646.size) = False := eq_false (Nat.not_lt.2 c4)
  replace H := Option.bind_eq_some_iff.mp H
  obtain ⟨t647,A50,H⟩ := H
  try dsimp only at H
  have A5 := am_ A50
  clear A50
  by_cases c6 : t647.size + a1.size ≤ 9223372036854775807
  ·rw [if_pos c6] at H
   have c6b0 := eq_true c6
   have c6b1 : decide (t647.size + a1.size ≤ 9223372036854775807) = true := decide_eq_true c6
   try have c6b2 : (9223372036854775807 < t647.size + a1.size) = False := eq_false (Nat.not_lt.2 c6)
   replace H := Option.bind_eq_some_iff.mp H
   obtain ⟨t648,A70,H⟩ := H
   try dsimp only at H
   have A7 := am_ A70
   clear A70
   by_cases c8 : 0 ≤ 8
   ·rw [if_pos c8] at H
    have c8b0 := eq_true c8
    have c8b1 : decide (0 ≤ 8) = true := decide_eq_true c8
    clear c8
    by_cases c9 : 8 ≤ (t648.size : Int)
    ·rw [if_pos c9] at H
     have c9b0 := eq_true c9
     have c9b1 : decide (8 ≤ (t648.size : Int)) = true := decide_eq_true c9
     clear c9
     obtain rfl := Option.some.inj H
     go_enter Tryd.func70,Tryd.ntmps70
     go_wp2_with (first | ((with_reducible refine gate_callee (f := 64) rfl ?_);refine zgl (some 6) Tryd.func64 #[.int .i64 a0,.int .i64 1] ?_;(with_reducible refine (impl_number.calls k a0 1 t646 _ A3.out).mono ?_);rintro e w10 ⟨rfl,hb⟩;refine ⟨_,rfl,?_⟩;replace HB := zs_ HB hb;(try clear hb);(try clear hb2);(try clear hk);(try clear hi)) | ((with_reducible refine gate_callee (f := 72) rfl ?_);refine zgl (some 8) Tryd.func72 #[.string ((⟨#[110,111,100,101,32,107,101,121]⟩ : ByteArray) ++ t646)] ?_;(with_reducible refine (impl_hash.calls k ((⟨#[110,111,100,101,32,107,101,121]⟩ : ByteArray) ++ t646) t647 _ ?side1 A5.out).mono ?_);(case side1 => exact HLD.out.on (zl_ HB));rintro e w11 ⟨rfl,hb⟩;refine ⟨_,rfl,?_⟩;replace HB := zs_ HB hb;(try clear hb);(try clear hb2);(try clear hk);(try clear hi)) | ((with_reducible refine gate_callee (f := 72) rfl ?_);refine zgl (some 11) Tryd.func72 #[.string (t647 ++ a1)] ?_;(with_reducible refine (impl_hash.calls k (t647 ++ a1) t648 _ ?side1 A7.out).mono ?_);(case side1 => exact HLD.out.on (zl_ HB));rintro e w12 ⟨rfl,hb⟩;refine ⟨_,rfl,?_⟩;replace HB := zs_ HB hb;(try clear hb);(try clear hb2);(try clear hk);(try clear hi)))
     go_ret
     exact ⟨zt_,zl_ HB⟩
    ·rw [if_neg c9] at H
     exact absurd H (by simp)
   ·rw [if_neg c8] at H
    exact absurd H (by simp)
  ·rw [if_neg c6] at H
   exact absurd H (by simp)
 ·rw [if_neg c4] at H
  exact absurd H (by simp)
def impl_MessageSigned.T1 : Bool × List (List Nat × List Nat) := (true,[([],[]),([0],[0]),([1,1],[1]),([2],[2]),([3,2,2],[2,3]),([2,4],[2,4]),([5,4],[5]),([6],[6]),([7,6],[6,7]),([6],[6]),([8,9,6],[6,8,9]),([6,10],[6,10]),([11,6],[11]),([12],[12]),([13,12],[12,13]),([12],[12]),([15,12],[12,15]),([12],[12]),([17,12,12],[12,17]),([16,18,18,12],[12,16,18]),([14,19,12],[12,14,19]),([12,20],[12,20]),([21,19,0,1,2,3,4,5,6,7,8,9,10,11,12,13,14,15,16,17,18,19,20,21],[21])])
def impl_MessageSigned.B1 : List Nat := [0,1,3,7,15,31,63,127,255,127,1023,2047,4095,8191,16383,8191,40959,8191,139263,499711,1048575,2097151,4194303]
theorem impl_MessageSigned.tab1 : rtab .any (opsOf Tryd.f24 1) = impl_MessageSigned.T1 := by kernel_rfl
theorem impl_MessageSigned.bits1 : waitsOk impl_MessageSigned.T1.2 impl_MessageSigned.B1 = true := by kernel_rfl
set_option maxHeartbeats 8000000 in
set_option maxRecDepth 100000 in
theorem impl_MessageSigned.calls (k : Nat) (a0 : Int) (a1_0 : Int) (a1_1 : Int) (a1_2 : Int) (a1_3 : Int) (a1_4 : ByteArray) (a1_5 : ByteArray) (a1_6 : ByteArray) (r : Bool) (w : World) (hL : Laid w) (h : impl_MessageSigned.f k a0 a1_0 a1_1 a1_2 a1_3 a1_4 a1_5 a1_6 = some r) :
  Calls Tryd.prog 24 #[.int .i64 a0,.agg #[.int .i64 a1_0,.int .i64 a1_1,.int .i64 a1_2,.int .i64 a1_3,.string a1_4,.string a1_5,.string a1_6]] w fun e w' => e = .returned (.bool r) ∧ Below w.heap.size w w' := by
 have hu33 := Tryd.underlying33
 have HLD := am_ hL
 clear hL
 have HB := am_ (Below.refl w.heap.size w)
 have H : ((impl_areNodes.f a0).bind fun t722 => (if t722 = true then ((impl_MessageOK.f k a1_0 a1_1 a1_2 a1_3 a1_4 a1_5 a1_6).bind fun t723 => (if t723 = true then (if a1_3 < a0 then ((impl_bareText.f k a1_0 a1_1 a1_2 a1_3 a1_4 a1_5 a1_6).bind fun t724 => ((impl_mark.f k a1_3 t724).bind fun t725 => (some (a1_6.toList == t725.toList)))) else (some false)) else (some false))) else (some false))) = some r := h
 clear h
 replace H := Option.bind_eq_some_iff.mp H
 obtain ⟨t722,A30,H⟩ := H
 try dsimp only at H
 have A3 := am_ A30
 clear A30
 by_cases c4 : t722 = true
 ·subst c4
  have H1 : ((impl_MessageOK.f k a1_0 a1_1 a1_2 a1_3 a1_4 a1_5 a1_6).bind fun t723 => (if t723 = true then (if a1_3 < a0 then ((impl_bareText.f k a1_0 a1_1 a1_2 a1_3 a1_4 a1_5 a1_6).bind fun t724 => ((impl_mark.f k a1_3 t724).bind fun t725 => (some (a1_6.toList == t725.toList)))) else (some false)) else (some false))) = some r := by rw [if_pos rfl] at H;exact H
  clear H
  have H := H1
  clear H1
  replace H := Option.bind_eq_some_iff.mp H
  obtain ⟨t723,A50,H⟩ := H
  try dsimp only at H
  have A5 := am_ A50
  clear A50
  by_cases c6 : t723 = true
  ·subst c6
   have H1 : (if a1_3 < a0 then ((impl_bareText.f k a1_0 a1_1 a1_2 a1_3 a1_4 a1_5 a1_6).bind fun t724 => ((impl_mark.f k a1_3 t724).bind fun t725 => (some (a1_6.toList == t725.toList)))) else (some false)) = some r := by rw [if_pos rfl] at H;exact H
   clear H
   have H := H1
   clear H1
   by_cases c7 : a1_3 < a0
   ·rw [if_pos c7] at H
    have c7b0 : decide (a1_3 < a0) = true := decide_eq_true c7
    clear c7
    replace H := Option.bind_eq_some_iff.mp H
    obtain ⟨t724,A80,H⟩ := H
    try dsimp only at H
    have A8 := am_ A80
    clear A80
    replace H := Option.bind_eq_some_iff.mp H
    obtain ⟨t725,A90,H⟩ := H
    try dsimp only at H
    have A9 := am_ A90
    clear A90
    obtain rfl := Option.some.inj H
    go_enter Tryd.func24,Tryd.ntmps24
    try go_wp2_with (first | ((with_reducible refine gate_dst (N := 3) rfl ?_);refine zbx (N := 3) (cs := #[.int .i64 a1_0,.int .i64 a1_1,.int .i64 a1_2,.int .i64 a1_3,.string a1_4,.string a1_5,.string a1_6]) (t := 33) ?_;intro gb721 hg w10 hbox hb;have BK721 := am_ (hbox);have GW721 := zw_ HB hg;have GE721 := zw_ HB hg;replace HB := zs_ HB hb;clear hb hbox hg))
    replace BK721 := am_ (blk_drew BK721.out)
    replace HB := am_ (below_drew1 HB.out)
    refine start_ (n := 23) (S := fun w' => w'.cell? ⟨gb721,0,none⟩ = some (.int .i64 a1_0) ∧ w'.cell? ⟨gb721,1,none⟩ = some (.int .i64 a1_1) ∧ w'.cell? ⟨gb721,2,none⟩ = some (.int .i64 a1_2) ∧ w'.cell? ⟨gb721,3,none⟩ = some (.int .i64 a1_3) ∧ w'.cell? ⟨gb721,4,none⟩ = some (.string a1_4) ∧ w'.cell? ⟨gb721,5,none⟩ = some (.string a1_5) ∧ w'.cell? ⟨gb721,6,none⟩ = some (.string a1_6)) (ds := []) #[false,false,false,false,false,false,false,false,false,false,false,false,false,false,false,false,false,false,false,false,false,false,false] (by kernel_rfl) rfl rfl ⟨(blk_cell BK721.out 0).trans rfl,(blk_cell BK721.out 1).trans rfl,(blk_cell BK721.out 2).trans rfl,(blk_cell BK721.out 3).trans rfl,(blk_cell BK721.out 4).trans rfl,(blk_cell BK721.out 5).trans rfl,(blk_cell BK721.out 6).trans rfl⟩ (fun hHeld => ?_);refine with_tabW impl_MessageSigned.tab1 impl_MessageSigned.bits1 (fun HT_ HW_ => ?_)
    generalize w10.drew = w11 at BK721 HB hHeld ⊢
    refine zpu 0 (N := some 5) HT_ ?_
    refine zon 1 (N := some 6) HT_ (fun K hK => ?_)
    refine zgo Tryd.func69 #[.int .i64 a0] ?_
    with_reducible refine (impl_areNodes.calls a0 true _ A3.out).mono ?_
    rintro e w' ⟨rfl,⟨nd,rfl⟩⟩
    refine ⟨_,rfl,?_⟩
    refine hK.out _ _ ⟨(blk_cell BK721.out 0).trans rfl,(blk_cell BK721.out 1).trans rfl,(blk_cell BK721.out 2).trans rfl,(blk_cell BK721.out 3).trans rfl,(blk_cell BK721.out 4).trans rfl,(blk_cell BK721.out 5).trans rfl,(blk_cell BK721.out 6).trans rfl⟩ (fun hHeld => ?_)
    clear hK K
    refine norm_ (a' := ?_) ?_ ?_
    rotate_left
    ·show Act.put _ (some 6) _ = _
     simp only [Act.put,p1_,p2_,p3_,i64_w,i32_w]
     rfl
    refine zpu 2 (N := some 7) HT_ ?_
    refine ztk 3 (N := some 8) HT_ HW_ hHeld ?_
    refine zon 4 (N := some 9) HT_ (fun K hK => ?_)
    refine zgo Tryd.func65 #[.agg #[.int .i64 a1_0,.int .i64 a1_1,.int .i64 a1_2,.int .i64 a1_3,.string a1_4,.string a1_5,.string a1_6]] ?_
    with_reducible refine (impl_MessageOK.calls k a1_0 a1_1 a1_2 a1_3 a1_4 a1_5 a1_6 true _ A5.out).mono ?_
    rintro e w12 ⟨rfl,hb⟩
    refine ⟨_,rfl,?_⟩
    replace BK721 := zb BK721 hb
    replace HB := zs_ HB hb
    (try clear hb)
    (try clear hb2)
    (try clear hk)
    (try clear hi)
    refine hK.out _ _ ⟨(blk_cell BK721.out 0).trans rfl,(blk_cell BK721.out 1).trans rfl,(blk_cell BK721.out 2).trans rfl,(blk_cell BK721.out 3).trans rfl,(blk_cell BK721.out 4).trans rfl,(blk_cell BK721.out 5).trans rfl,(blk_cell BK721.out 6).trans rfl⟩ (fun hHeld => ?_)
    clear hK K
    refine norm_ (a' := ?_) ?_ ?_
    rotate_left
    ·show Act.put _ (some 9) _ = _
     simp only [Act.put,p1_,p2_,p3_,i64_w,i32_w]
     rfl
    refine zpu 5 (N := some 10) HT_ ?_
    refine zpu 6 (N := some 11) HT_ ?_
    refine zpu 7 (N := some 12) HT_ ?_
    refine zpu 9 (N := some 14) HT_ ?_
    refine ztk 8 (N := some 13) HT_ HW_ hHeld ?_
    refine zpu 10 (N := some 15) HT_ ?_
    refine zpu 11 (N := some 16) HT_ ?_
    refine zpu 12 (N := some 17) HT_ ?_
    refine zpu 13 (N := some 18) HT_ ?_
    refine zpu 15 (N := some 20) HT_ ?_
    refine ztk 14 (N := some 19) HT_ HW_ hHeld ?_
    refine ztk 16 (N := some 21) HT_ HW_ hHeld ?_
    refine ztk 17 (N := some 22) HT_ HW_ hHeld ?_
    refine zon 18 (N := some 23) HT_ (fun K hK => ?_)
    refine zgo Tryd.func71 #[.agg #[.int .i64 a1_0,.int .i64 a1_1,.int .i64 a1_2,.int .i64 a1_3,.string a1_4,.string a1_5,.string a1_6]] ?_
    with_reducible refine (impl_bareText.calls k a1_0 a1_1 a1_2 a1_3 a1_4 a1_5 a1_6 t724 _ A8.out).mono ?_
    rintro e w13 ⟨rfl,hb⟩
    refine ⟨_,rfl,?_⟩
    replace BK721 := zb BK721 hb
    replace HB := zs_ HB hb
    (try clear hb)
    (try clear hb2)
    (try clear hk)
    (try clear hi)
    refine hK.out _ _ ⟨(blk_cell BK721.out 0).trans rfl,(blk_cell BK721.out 1).trans rfl,(blk_cell BK721.out 2).trans rfl,(blk_cell BK721.out 3).trans rfl,(blk_cell BK721.out 4).trans rfl,(blk_cell BK721.out 5).trans rfl,(blk_cell BK721.out 6).trans rfl⟩ (fun hHeld => ?_)
    clear hK K
    refine norm_ (a' := ?_) ?_ ?_
    rotate_left
    ·show Act.put _ (some 23) _ = _
     simp only [Act.put,p1_,p2_,p3_,i64_w,i32_w]
     rfl
    refine zon 19 (N := some 24) HT_ (fun K hK => ?_)
    refine zgo Tryd.func70 #[.int .i64 a1_3,.string t724] ?_
    with_reducible refine (impl_mark.calls k a1_3 t724 t725 _ ?side1 A9.out).mono ?_
    (case side1 => exact HLD.out.on (zl_ HB))
    rintro e w14 ⟨rfl,hb⟩
    refine ⟨_,rfl,?_⟩
    replace BK721 := zb BK721 hb
    replace HB := zs_ HB hb
    (try clear hb)
    (try clear hb2)
    (try clear hk)
    (try clear hi)
    refine hK.out _ _ ⟨(blk_cell BK721.out 0).trans rfl,(blk_cell BK721.out 1).trans rfl,(blk_cell BK721.out 2).trans rfl,(blk_cell BK721.out 3).trans rfl,(blk_cell BK721.out 4).trans rfl,(blk_cell BK721.out 5).trans rfl,(blk_cell BK721.out 6).trans rfl⟩ (fun hHeld => ?_)
    clear hK K
    refine norm_ (a' := ?_) ?_ ?_
    rotate_left
    ·show Act.put _ (some 24) _ = _
     simp only [Act.put,p1_,p2_,p3_,i64_w,i32_w]
     rfl
    refine zpu 20 (N := some 25) HT_ ?_
    refine zpu 21 (N := some 26) HT_ ?_
    refine zpu 22 (N := some 4) HT_ ?_
    refine done_ (done_of HT_.out (by kernel_rfl)) ?_
    try go_wp2
    go_ret
    exact ⟨zt_,zl_ HB⟩
   ·rw [if_neg c7] at H
    have c7b0 : decide (a1_3 < a0) = false := decide_eq_false c7
    clear c7
    obtain rfl := Option.some.inj H
    go_enter Tryd.func24,Tryd.ntmps24
    try go_wp2_with (first | ((with_reducible refine gate_dst (N := 3) rfl ?_);refine zbx (N := 3) (cs := #[.int .i64 a1_0,.int .i64 a1_1,.int .i64 a1_2,.int .i64 a1_3,.string a1_4,.string a1_5,.string a1_6]) (t := 33) ?_;intro gb721 hg w15 hbox hb;have BK721 := am_ (hbox);have GW721 := zw_ HB hg;have GE721 := zw_ HB hg;replace HB := zs_ HB hb;clear hb hbox hg))
    replace BK721 := am_ (blk_drew BK721.out)
    replace HB := am_ (below_drew1 HB.out)
    refine start_ (n := 23) (S := fun w' => w'.cell? ⟨gb721,0,none⟩ = some (.int .i64 a1_0) ∧ w'.cell? ⟨gb721,1,none⟩ = some (.int .i64 a1_1) ∧ w'.cell? ⟨gb721,2,none⟩ = some (.int .i64 a1_2) ∧ w'.cell? ⟨gb721,3,none⟩ = some (.int .i64 a1_3) ∧ w'.cell? ⟨gb721,4,none⟩ = some (.string a1_4) ∧ w'.cell? ⟨gb721,5,none⟩ = some (.string a1_5) ∧ w'.cell? ⟨gb721,6,none⟩ = some (.string a1_6)) (ds := []) #[false,false,false,false,false,false,false,false,false,false,false,false,false,false,false,false,false,false,false,false,false,false,false] (by kernel_rfl) rfl rfl ⟨(blk_cell BK721.out 0).trans rfl,(blk_cell BK721.out 1).trans rfl,(blk_cell BK721.out 2).trans rfl,(blk_cell BK721.out 3).trans rfl,(blk_cell BK721.out 4).trans rfl,(blk_cell BK721.out 5).trans rfl,(blk_cell BK721.out 6).trans rfl⟩ (fun hHeld => ?_);refine with_tabW impl_MessageSigned.tab1 impl_MessageSigned.bits1 (fun HT_ HW_ => ?_)
    generalize w15.drew = w16 at BK721 HB hHeld ⊢
    refine zpu 0 (N := some 5) HT_ ?_
    refine zon 1 (N := some 6) HT_ (fun K hK => ?_)
    refine zgo Tryd.func69 #[.int .i64 a0] ?_
    with_reducible refine (impl_areNodes.calls a0 true _ A3.out).mono ?_
    rintro e w' ⟨rfl,⟨nd,rfl⟩⟩
    refine ⟨_,rfl,?_⟩
    refine hK.out _ _ ⟨(blk_cell BK721.out 0).trans rfl,(blk_cell BK721.out 1).trans rfl,(blk_cell BK721.out 2).trans rfl,(blk_cell BK721.out 3).trans rfl,(blk_cell BK721.out 4).trans rfl,(blk_cell BK721.out 5).trans rfl,(blk_cell BK721.out 6).trans rfl⟩ (fun hHeld => ?_)
    clear hK K
    refine norm_ (a' := ?_) ?_ ?_
    rotate_left
    ·show Act.put _ (some 6) _ = _
     simp only [Act.put,p1_,p2_,p3_,i64_w,i32_w]
     rfl
    refine zpu 2 (N := some 7) HT_ ?_
    refine ztk 3 (N := some 8) HT_ HW_ hHeld ?_
    refine zon 4 (N := some 9) HT_ (fun K hK => ?_)
    refine zgo Tryd.func65 #[.agg #[.int .i64 a1_0,.int .i64 a1_1,.int .i64 a1_2,.int .i64 a1_3,.string a1_4,.string a1_5,.string a1_6]] ?_
    with_reducible refine (impl_MessageOK.calls k a1_0 a1_1 a1_2 a1_3 a1_4 a1_5 a1_6 true _ A5.out).mono ?_
    rintro e w17 ⟨rfl,hb⟩
    refine ⟨_,rfl,?_⟩
    replace BK721 := zb BK721 hb
    replace HB := zs_ HB hb
    (try clear hb)
    (try clear hb2)
    (try clear hk)
    (try clear hi)
    refine hK.out _ _ ⟨(blk_cell BK721.out 0).trans rfl,(blk_cell BK721.out 1).trans rfl,(blk_cell BK721.out 2).trans rfl,(blk_cell BK721.out 3).trans rfl,(blk_cell BK721.out 4).trans rfl,(blk_cell BK721.out 5).trans rfl,(blk_cell BK721.out 6).trans rfl⟩ (fun hHeld => ?_)
    clear hK K
    refine norm_ (a' := ?_) ?_ ?_
    rotate_left
    ·show Act.put _ (some 9) _ = _
     simp only [Act.put,p1_,p2_,p3_,i64_w,i32_w]
     rfl
    refine zpu 5 (N := some 10) HT_ ?_
    refine zpu 6 (N := some 11) HT_ ?_
    refine zpu 7 (N := some 12) HT_ ?_
    refine zpu 9 (N := some 14) HT_ ?_
    refine ztk 8 (N := some 13) HT_ HW_ hHeld ?_
    refine zpu 10 (N := some 15) HT_ ?_
    refine zpu 11 (N := some 16) HT_ ?_
    refine zpu 12 (N := some 17) HT_ ?_
    refine zpx 13 (N := some 18) HT_ ?_
    refine zpx 14 (N := some 19) HT_ ?_
    refine zpx 15 (N := some 20) HT_ ?_
    refine zpx 16 (N := some 21) HT_ ?_
    refine zpx 17 (N := some 22) HT_ ?_
    refine zpx 18 (N := some 23) HT_ ?_
    refine zpx 19 (N := some 24) HT_ ?_
    refine zpx 20 (N := some 25) HT_ ?_
    refine zpu 21 (N := some 26) HT_ ?_
    refine zpu 22 (N := some 4) HT_ ?_
    refine done_ (done_of HT_.out (by kernel_rfl)) ?_
    try go_wp2
    go_ret
    exact ⟨zt_,zl_ HB⟩
  ·replace c6 := Bool.eq_false_iff.mpr c6
   subst c6
   have H1 : (some false) = some r := by rw [if_neg (show ¬ (false = true) by decide)] at H;exact H
   clear H
   have H := H1
   clear H1
   obtain rfl := Option.some.inj H
   go_enter Tryd.func24,Tryd.ntmps24
   try go_wp2_with (first | ((with_reducible refine gate_dst (N := 3) rfl ?_);refine zbx (N := 3) (cs := #[.int .i64 a1_0,.int .i64 a1_1,.int .i64 a1_2,.int .i64 a1_3,.string a1_4,.string a1_5,.string a1_6]) (t := 33) ?_;intro gb721 hg w18 hbox hb;have BK721 := am_ (hbox);have GW721 := zw_ HB hg;have GE721 := zw_ HB hg;replace HB := zs_ HB hb;clear hb hbox hg))
   replace BK721 := am_ (blk_drew BK721.out)
   replace HB := am_ (below_drew1 HB.out)
   refine start_ (n := 23) (S := fun w' => w'.cell? ⟨gb721,0,none⟩ = some (.int .i64 a1_0) ∧ w'.cell? ⟨gb721,1,none⟩ = some (.int .i64 a1_1) ∧ w'.cell? ⟨gb721,2,none⟩ = some (.int .i64 a1_2) ∧ w'.cell? ⟨gb721,3,none⟩ = some (.int .i64 a1_3) ∧ w'.cell? ⟨gb721,4,none⟩ = some (.string a1_4) ∧ w'.cell? ⟨gb721,5,none⟩ = some (.string a1_5) ∧ w'.cell? ⟨gb721,6,none⟩ = some (.string a1_6)) (ds := []) #[false,false,false,false,false,false,false,false,false,false,false,false,false,false,false,false,false,false,false,false,false,false,false] (by kernel_rfl) rfl rfl ⟨(blk_cell BK721.out 0).trans rfl,(blk_cell BK721.out 1).trans rfl,(blk_cell BK721.out 2).trans rfl,(blk_cell BK721.out 3).trans rfl,(blk_cell BK721.out 4).trans rfl,(blk_cell BK721.out 5).trans rfl,(blk_cell BK721.out 6).trans rfl⟩ (fun hHeld => ?_);refine with_tabW impl_MessageSigned.tab1 impl_MessageSigned.bits1 (fun HT_ HW_ => ?_)
   generalize w18.drew = w19 at BK721 HB hHeld ⊢
   refine zpu 0 (N := some 5) HT_ ?_
   refine zon 1 (N := some 6) HT_ (fun K hK => ?_)
   refine zgo Tryd.func69 #[.int .i64 a0] ?_
   with_reducible refine (impl_areNodes.calls a0 true _ A3.out).mono ?_
   rintro e w' ⟨rfl,⟨nd,rfl⟩⟩
   refine ⟨_,rfl,?_⟩
   refine hK.out _ _ ⟨(blk_cell BK721.out 0).trans rfl,(blk_cell BK721.out 1).trans rfl,(blk_cell BK721.out 2).trans rfl,(blk_cell BK721.out 3).trans rfl,(blk_cell BK721.out 4).trans rfl,(blk_cell BK721.out 5).trans rfl,(blk_cell BK721.out 6).trans rfl⟩ (fun hHeld => ?_)
   clear hK K
   refine norm_ (a' := ?_) ?_ ?_
   rotate_left
   ·show Act.put _ (some 6) _ = _
    simp only [Act.put,p1_,p2_,p3_,i64_w,i32_w]
    rfl
   refine zpu 2 (N := some 7) HT_ ?_
   refine ztk 3 (N := some 8) HT_ HW_ hHeld ?_
   refine zon 4 (N := some 9) HT_ (fun K hK => ?_)
   refine zgo Tryd.func65 #[.agg #[.int .i64 a1_0,.int .i64 a1_1,.int .i64 a1_2,.int .i64 a1_3,.string a1_4,.string a1_5,.string a1_6]] ?_
   with_reducible refine (impl_MessageOK.calls k a1_0 a1_1 a1_2 a1_3 a1_4 a1_5 a1_6 false _ A5.out).mono ?_
   rintro e w20 ⟨rfl,hb⟩
   refine ⟨_,rfl,?_⟩
   replace BK721 := zb BK721 hb
   replace HB := zs_ HB hb
   (try clear hb)
   (try clear hb2)
   (try clear hk)
   (try clear hi)
   refine hK.out _ _ ⟨(blk_cell BK721.out 0).trans rfl,(blk_cell BK721.out 1).trans rfl,(blk_cell BK721.out 2).trans rfl,(blk_cell BK721.out 3).trans rfl,(blk_cell BK721.out 4).trans rfl,(blk_cell BK721.out 5).trans rfl,(blk_cell BK721.out 6).trans rfl⟩ (fun hHeld => ?_)
   clear hK K
   refine norm_ (a' := ?_) ?_ ?_
   rotate_left
   ·show Act.put _ (some 9) _ = _
    simp only [Act.put,p1_,p2_,p3_,i64_w,i32_w]
    rfl
   refine zpu 5 (N := some 10) HT_ ?_
   refine zpu 6 (N := some 11) HT_ ?_
   refine zpx 7 (N := some 12) HT_ ?_
   refine zpx 8 (N := some 13) HT_ ?_
   refine zpx 9 (N := some 14) HT_ ?_
   refine zpx 10 (N := some 15) HT_ ?_
   refine zpu 11 (N := some 16) HT_ ?_
   refine zpu 12 (N := some 17) HT_ ?_
   refine zpx 13 (N := some 18) HT_ ?_
   refine zpx 14 (N := some 19) HT_ ?_
   refine zpx 15 (N := some 20) HT_ ?_
   refine zpx 16 (N := some 21) HT_ ?_
   refine zpx 17 (N := some 22) HT_ ?_
   refine zpx 18 (N := some 23) HT_ ?_
   refine zpx 19 (N := some 24) HT_ ?_
   refine zpx 20 (N := some 25) HT_ ?_
   refine zpu 21 (N := some 26) HT_ ?_
   refine zpu 22 (N := some 4) HT_ ?_
   refine done_ (done_of HT_.out (by kernel_rfl)) ?_
   try go_wp2
   go_ret
   exact ⟨zt_,zl_ HB⟩
 ·replace c4 := Bool.eq_false_iff.mpr c4
  subst c4
  have H1 : (some false) = some r := by rw [if_neg (show ¬ (false = true) by decide)] at H;exact H
  clear H
  have H := H1
  clear H1
  obtain rfl := Option.some.inj H
  go_enter Tryd.func24,Tryd.ntmps24
  try go_wp2_with (first | ((with_reducible refine gate_dst (N := 3) rfl ?_);refine zbx (N := 3) (cs := #[.int .i64 a1_0,.int .i64 a1_1,.int .i64 a1_2,.int .i64 a1_3,.string a1_4,.string a1_5,.string a1_6]) (t := 33) ?_;intro gb721 hg w21 hbox hb;have BK721 := am_ (hbox);have GW721 := zw_ HB hg;have GE721 := zw_ HB hg;replace HB := zs_ HB hb;clear hb hbox hg))
  replace BK721 := am_ (blk_drew BK721.out)
  replace HB := am_ (below_drew1 HB.out)
  refine start_ (n := 23) (S := fun w' => True) (ds := []) #[false,false,false,false,false,false,false,false,false,false,false,false,false,false,false,false,false,false,false,false,false,false,false] (by kernel_rfl) rfl rfl trivial (fun hHeld => ?_);refine with_tabW impl_MessageSigned.tab1 impl_MessageSigned.bits1 (fun HT_ HW_ => ?_)
  generalize w21.drew = w22 at BK721 HB hHeld ⊢
  refine zpu 0 (N := some 5) HT_ ?_
  refine zon 1 (N := some 6) HT_ (fun K hK => ?_)
  refine zgo Tryd.func69 #[.int .i64 a0] ?_
  with_reducible refine (impl_areNodes.calls a0 false _ A3.out).mono ?_
  rintro e w' ⟨rfl,⟨nd,rfl⟩⟩
  refine ⟨_,rfl,?_⟩
  refine hK.out _ _ trivial (fun hHeld => ?_)
  clear hK K
  refine norm_ (a' := ?_) ?_ ?_
  rotate_left
  ·show Act.put _ (some 6) _ = _
   simp only [Act.put,p1_,p2_,p3_,i64_w,i32_w]
   rfl
  refine zpu 2 (N := some 7) HT_ ?_
  refine zpx 3 (N := some 8) HT_ ?_
  refine zpx 4 (N := some 9) HT_ ?_
  refine zpu 5 (N := some 10) HT_ ?_
  refine zpu 6 (N := some 11) HT_ ?_
  refine zpx 7 (N := some 12) HT_ ?_
  refine zpx 8 (N := some 13) HT_ ?_
  refine zpx 9 (N := some 14) HT_ ?_
  refine zpx 10 (N := some 15) HT_ ?_
  refine zpu 11 (N := some 16) HT_ ?_
  refine zpu 12 (N := some 17) HT_ ?_
  refine zpx 13 (N := some 18) HT_ ?_
  refine zpx 14 (N := some 19) HT_ ?_
  refine zpx 15 (N := some 20) HT_ ?_
  refine zpx 16 (N := some 21) HT_ ?_
  refine zpx 17 (N := some 22) HT_ ?_
  refine zpx 18 (N := some 23) HT_ ?_
  refine zpx 19 (N := some 24) HT_ ?_
  refine zpx 20 (N := some 25) HT_ ?_
  refine zpu 21 (N := some 26) HT_ ?_
  refine zpu 22 (N := some 4) HT_ ?_
  refine done_ (done_of HT_.out (by kernel_rfl)) ?_
  try go_wp2
  go_ret
  exact ⟨zt_,zl_ HB⟩
set_option maxHeartbeats 8000000 in
set_option maxRecDepth 100000 in
theorem impl_signed.calls (k : Nat) (a0 : Int) (a1_0 : Int) (a1_1 : Int) (a1_2 : Int) (a1_3 : Int) (a1_4 : ByteArray) (a1_5 : ByteArray) (a1_6 : ByteArray) (r1 : Int) (r2 : Int) (r3 : Int) (r4 : Int) (r5 : ByteArray) (r6 : ByteArray) (r7 : ByteArray) (w : World) (hL : Laid w) (h : impl_signed.f k a0 a1_0 a1_1 a1_2 a1_3 a1_4 a1_5 a1_6 = some (r1,r2,r3,r4,r5,r6,r7)) :
  Calls Tryd.prog 66 #[.int .i64 a0,.agg #[.int .i64 a1_0,.int .i64 a1_1,.int .i64 a1_2,.int .i64 a1_3,.string a1_4,.string a1_5,.string a1_6]] w fun e w' => e = .returned (.agg #[.int .i64 r1,.int .i64 r2,.int .i64 r3,.int .i64 r4,.string r5,.string r6,.string r7]) ∧ Below w.heap.size w w' := by
 have hu33 := Tryd.underlying33
 have HLD := am_ hL
 clear hL
 have HB := am_ (Below.refl w.heap.size w)
 have H : ((impl_bareText.f k a1_0 a1_1 a1_2 a0 a1_4 a1_5 a1_6).bind fun t658 => ((impl_mark.f k a0 t658).bind fun t659 => (some (a1_0,a1_1,a1_2,a0,a1_4,a1_5,t659)))) = some (r1,r2,r3,r4,r5,r6,r7) := h
 clear h
 replace H := Option.bind_eq_some_iff.mp H
 obtain ⟨t658,A30,H⟩ := H
 try dsimp only at H
 have A3 := am_ A30
 clear A30
 replace H := Option.bind_eq_some_iff.mp H
 obtain ⟨t659,A40,H⟩ := H
 try dsimp only at H
 have A4 := am_ A40
 clear A40
 simp only [Option.some.injEq,Prod.mk.injEq] at H
 obtain ⟨rfl,rfl,rfl,rfl,rfl,rfl,rfl⟩ := H
 go_enter Tryd.func66,Tryd.ntmps66
 go_wp2_with (first | ((with_reducible refine gate_dst (N := 3) rfl ?_);refine zbx (N := 3) (cs := #[.int .i64 a1_0,.int .i64 a1_1,.int .i64 a1_2,.int .i64 a1_3,.string a1_4,.string a1_5,.string a1_6]) (t := 33) ?_;intro gb656 hg w5 hbox hb;have BK656 := am_ (hbox);have GW656 := zw_ HB hg;have GE656 := zw_ HB hg;replace HB := zs_ HB hb;clear hb hbox hg) | ((with_reducible refine gate_dst (N := 4) rfl ?_);refine zbx (N := 4) (cs := #[.int .i64 0,.int .i64 0,.int .i64 0,.int .i64 0,.string ⟨#[]⟩,.string ⟨#[]⟩,.string ⟨#[]⟩]) (t := 33) ?_;intro gb657 hg w6 hbox hb;have BK657 := am_ (hbox);have GW657 := zw_ HB hg;have GE657 := zw_ HB hg;replace HB := zs_ HB hb;have NB656_657 := zl hg BK656;have NB657_656 := zg hg BK656;replace BK656 := zb BK656 hb;clear hb hbox hg;have hnb7 := NB656_657.out;have hnc7 := NB657_656.out;obtain ⟨hcz8_0,hcz8_1,hcz8_2,hcz8_3,hcz8_4,hcz8_5,hcz8_6,hfz8_0,hfz8_1,hfz8_2,hfz8_3,hfz8_4,hfz8_5,hfz8_6⟩ := zc7 BK656) | ((with_reducible refine gate_callee (f := 71) rfl ?_);refine zgl (some 9) Tryd.func71 #[.agg #[.int .i64 a1_0,.int .i64 a1_1,.int .i64 a1_2,.int .i64 a0,.string a1_4,.string a1_5,.string a1_6]] ?_;(with_reducible refine (impl_bareText.calls k a1_0 a1_1 a1_2 a0 a1_4 a1_5 a1_6 t658 _ A3.out).mono ?_);rintro e w9 ⟨rfl,hb⟩;refine ⟨_,rfl,?_⟩;replace BK656 := am_ (blk_below (g := gb656) (o := .cells #[.int .i64 a1_0,.int .i64 a1_1,.int .i64 a1_2,.int .i64 a0,.string a1_4,.string a1_5,.string a1_6] 33 (0,0)) (zq BK656) hb);replace BK657 := am_ (blk_below (g := gb657) (o := .cells #[.int .i64 0,.int .i64 0,.int .i64 0,.int .i64 0,.string ⟨#[]⟩,.string ⟨#[]⟩,.string ⟨#[]⟩] 33 (0,0)) (zq BK657) hb);replace HB := zs_ HB hb;(try clear hb);(try clear hb2);(try clear hk);(try clear hi)) | ((with_reducible refine gate_callee (f := 70) rfl ?_);refine zgl (some 10) Tryd.func70 #[.int .i64 a0,.string t658] ?_;(with_reducible refine (impl_mark.calls k a0 t658 t659 _ ?side1 A4.out).mono ?_);(case side1 => exact HLD.out.on (zl_ HB));rintro e w10 ⟨rfl,hb⟩;refine ⟨_,rfl,?_⟩;replace BK656 := zb BK656 hb;replace BK657 := zb BK657 hb;replace HB := zs_ HB hb;(try clear hb);(try clear hb2);(try clear hk);(try clear hi);obtain ⟨hcz11_0,hcz11_1,hcz11_2,hcz11_3,hcz11_4,hcz11_5,hcz11_6,hfz11_0,hfz11_1,hfz11_2,hfz11_3,hfz11_4,hfz11_5,hfz11_6⟩ := zc7 BK656;obtain ⟨hcz12_0,hcz12_1,hcz12_2,hcz12_3,hcz12_4,hcz12_5,hcz12_6,hfz12_0,hfz12_1,hfz12_2,hfz12_3,hfz12_4,hfz12_5,hfz12_6⟩ := zc7 BK657))
 refine bodyPost_ret (results_cell_row rfl _ _ gb657 33 #[.int .i64 a1_0,.int .i64 a1_1,.int .i64 a1_2,.int .i64 a0,.string a1_4,.string a1_5,.string t659] (0,0) _ rfl (zq BK657) Tryd.underlying33 rfl (by kernel_rfl)) rfl ?_
 exact ⟨zt_,zl_ HB⟩
set_option maxHeartbeats 8000000 in
set_option maxRecDepth 100000 in
theorem impl_SignMessage.calls (k : Nat) (a0 : Int) (a1_0 : Int) (a1_1 : Int) (a1_2 : Int) (a1_3 : Int) (a1_4 : ByteArray) (a1_5 : ByteArray) (a1_6 : ByteArray) (r1 : Int) (r2 : Int) (r3 : Int) (r4 : Int) (r5 : ByteArray) (r6 : ByteArray) (r7 : ByteArray) (r8 : Int) (w : World) (hL : Laid w) (h : impl_SignMessage.f k a0 a1_0 a1_1 a1_2 a1_3 a1_4 a1_5 a1_6 = some (r1,r2,r3,r4,r5,r6,r7,r8)) :
  Calls Tryd.prog 22 #[.int .i64 a0,.agg #[.int .i64 a1_0,.int .i64 a1_1,.int .i64 a1_2,.int .i64 a1_3,.string a1_4,.string a1_5,.string a1_6]] w fun e w' => e = .returned (.tuple #[.agg #[.int .i64 r1,.int .i64 r2,.int .i64 r3,.int .i64 r4,.string r5,.string r6,.string r7],.int .i64 r8]) ∧ Below w.heap.size w w' := by
 have hu33 := Tryd.underlying33
 have HLD := am_ hL
 clear hL
 have HB := am_ (Below.refl w.heap.size w)
 have H : ((impl_within.f a0 0 6).bind fun t662 => (if t662 = true then ((impl_number.f k 0 8).bind fun t663 => ((impl_MessageOK.f k a1_0 a1_1 a1_2 a0 a1_4 a1_5 t663).bind fun t664 => (if t664 = true then ((impl_signed.f k a0 a1_0 a1_1 a1_2 a0 a1_4 a1_5 t663).bind fun bt665 => (some (bt665.1,bt665.2.1,bt665.2.2.1,bt665.2.2.2.1,bt665.2.2.2.2.1,bt665.2.2.2.2.2.1,bt665.2.2.2.2.2.2,0))) else (some (0,0,0,0,(⟨#[]⟩ : ByteArray),(⟨#[]⟩ : ByteArray),(⟨#[]⟩ : ByteArray),1))))) else (some (0,0,0,0,(⟨#[]⟩ : ByteArray),(⟨#[]⟩ : ByteArray),(⟨#[]⟩ : ByteArray),4)))) = some (r1,r2,r3,r4,r5,r6,r7,r8) := h
 clear h
 replace H := Option.bind_eq_some_iff.mp H
 obtain ⟨t662,A30,H⟩ := H
 try dsimp only at H
 have A3 := am_ A30
 clear A30
 by_cases c4 : t662 = true
 ·subst c4
  have H1 : ((impl_number.f k 0 8).bind fun t663 => ((impl_MessageOK.f k a1_0 a1_1 a1_2 a0 a1_4 a1_5 t663).bind fun t664 => (if t664 = true then ((impl_signed.f k a0 a1_0 a1_1 a1_2 a0 a1_4 a1_5 t663).bind fun bt665 => (some (bt665.1,bt665.2.1,bt665.2.2.1,bt665.2.2.2.1,bt665.2.2.2.2.1,bt665.2.2.2.2.2.1,bt665.2.2.2.2.2.2,0))) else (some (0,0,0,0,(⟨#[]⟩ : ByteArray),(⟨#[]⟩ : ByteArray),(⟨#[]⟩ : ByteArray),1))))) = some (r1,r2,r3,r4,r5,r6,r7,r8) := by rw [if_pos rfl] at H;exact H
  clear H
  have H := H1
  clear H1
  replace H := Option.bind_eq_some_iff.mp H
  obtain ⟨t663,A50,H⟩ := H
  try dsimp only at H
  have A5 := am_ A50
  clear A50
  replace H := Option.bind_eq_some_iff.mp H
  obtain ⟨t664,A60,H⟩ := H
  try dsimp only at H
  have A6 := am_ A60
  clear A60
  by_cases c7 : t664 = true
  ·subst c7
   have H1 : ((impl_signed.f k a0 a1_0 a1_1 a1_2 a0 a1_4 a1_5 t663).bind fun bt665 => (some (bt665.1,bt665.2.1,bt665.2.2.1,bt665.2.2.2.1,bt665.2.2.2.2.1,bt665.2.2.2.2.2.1,bt665.2.2.2.2.2.2,0))) = some (r1,r2,r3,r4,r5,r6,r7,r8) := by rw [if_pos rfl] at H;exact H
   clear H
   have H := H1
   clear H1
   replace H := Option.bind_eq_some_iff.mp H
   obtain ⟨⟨t665,t666,t667,t668,t669,t670,t671⟩,A80,H⟩ := H
   try dsimp only at H
   have A8 := am_ A80
   clear A80
   simp only [Option.some.injEq,Prod.mk.injEq] at H
   obtain ⟨rfl,rfl,rfl,rfl,rfl,rfl,rfl,rfl⟩ := H
   go_enter Tryd.func22,Tryd.ntmps22
   go_wp2_with (first | ((with_reducible refine gate_dst (N := 3) rfl ?_);refine zbx (N := 3) (cs := #[.int .i64 a1_0,.int .i64 a1_1,.int .i64 a1_2,.int .i64 a1_3,.string a1_4,.string a1_5,.string a1_6]) (t := 33) ?_;intro gb660 hg w9 hbox hb;have BK660 := am_ (hbox);have GW660 := zw_ HB hg;have GE660 := zw_ HB hg;replace HB := zs_ HB hb;clear hb hbox hg) | ((with_reducible refine gate_dst (N := 4) rfl ?_);refine zbx (N := 4) (cs := #[.int .i64 0,.int .i64 0,.int .i64 0,.int .i64 0,.string ⟨#[]⟩,.string ⟨#[]⟩,.string ⟨#[]⟩]) (t := 33) ?_;intro gb661 hg w10 hbox hb;have BK661 := am_ (hbox);have GW661 := zw_ HB hg;have GE661 := zw_ HB hg;replace HB := zs_ HB hb;have NB660_661 := zl hg BK660;have NB661_660 := zg hg BK660;replace BK660 := zb BK660 hb;clear hb hbox hg) | ((with_reducible refine gate_callee (f := 57) rfl ?_);refine zgl (some 7) Tryd.func57 #[.int .i64 a0,.int .i64 0,.int .i64 6] ?_;(with_reducible refine (impl_within.calls a0 0 6 true _ A3.out).mono ?_);rintro e w' ⟨rfl,⟨nd,rfl⟩⟩;refine ⟨_,rfl,?_⟩;(try (rw [drewN_self w10];generalize hq_ : World.drewN w10 _ = w10;have n0_ : Aside0 (w10.heap[gb660]? = some (.cells #[.int .i64 a1_0,.int .i64 a1_1,.int .i64 a1_2,.int .i64 a1_3,.string a1_4,.string a1_5,.string a1_6] 33 (0,0))) := ⟨by rw [← hq_];exact (zk BK660)⟩;have n1_ : Aside0 (w10.heap[gb661]? = some (.cells #[.int .i64 0,.int .i64 0,.int .i64 0,.int .i64 0,.string ⟨#[]⟩,.string ⟨#[]⟩,.string ⟨#[]⟩] 33 (0,0))) := ⟨by rw [← hq_];exact (zk BK661)⟩;have n2_ : Aside0 (Below w.heap.size w w10) := ⟨by rw [← hq_];exact (zl_ HB)⟩;clear BK660 BK661 HB hq_;have BK660 := n0_;have BK661 := n1_;have HB := n2_;clear n0_ n1_ n2_));(try have hfu660_0 := blk_frozen BK660.out 0);(try have hcu660_0 : w10.cell? ⟨gb660,0,none⟩ = some (.int .i64 a1_0) := (blk_cell BK660.out 0).trans rfl);(try have hfu660_1 := blk_frozen BK660.out 1);(try have hcu660_1 : w10.cell? ⟨gb660,1,none⟩ = some (.int .i64 a1_1) := (blk_cell BK660.out 1).trans rfl);(try have hfu660_2 := blk_frozen BK660.out 2);(try have hcu660_2 : w10.cell? ⟨gb660,2,none⟩ = some (.int .i64 a1_2) := (blk_cell BK660.out 2).trans rfl);(try have hfu660_3 := blk_frozen BK660.out 3);(try have hcu660_3 : w10.cell? ⟨gb660,3,none⟩ = some (.int .i64 a1_3) := (blk_cell BK660.out 3).trans rfl);(try have hfu660_4 := blk_frozen BK660.out 4);(try have hcu660_4 : w10.cell? ⟨gb660,4,none⟩ = some (.string a1_4) := (blk_cell BK660.out 4).trans rfl);(try have hfu660_5 := blk_frozen BK660.out 5);(try have hcu660_5 : w10.cell? ⟨gb660,5,none⟩ = some (.string a1_5) := (blk_cell BK660.out 5).trans rfl);(try have hfu660_6 := blk_frozen BK660.out 6);(try have hcu660_6 : w10.cell? ⟨gb660,6,none⟩ = some (.string a1_6) := (blk_cell BK660.out 6).trans rfl);(try have hfu661_0 := blk_frozen BK661.out 0);(try have hcu661_0 : w10.cell? ⟨gb661,0,none⟩ = some (.int .i64 0) := (blk_cell BK661.out 0).trans rfl);(try have hfu661_1 := blk_frozen BK661.out 1);(try have hcu661_1 : w10.cell? ⟨gb661,1,none⟩ = some (.int .i64 0) := (blk_cell BK661.out 1).trans rfl);(try have hfu661_2 := blk_frozen BK661.out 2);(try have hcu661_2 : w10.cell? ⟨gb661,2,none⟩ = some (.int .i64 0) := (blk_cell BK661.out 2).trans rfl);(try have hfu661_3 := blk_frozen BK661.out 3);(try have hcu661_3 : w10.cell? ⟨gb661,3,none⟩ = some (.int .i64 0) := (blk_cell BK661.out 3).trans rfl);(try have hfu661_4 := blk_frozen BK661.out 4);(try have hcu661_4 : w10.cell? ⟨gb661,4,none⟩ = some (.string ⟨#[]⟩) := (blk_cell BK661.out 4).trans rfl);(try have hfu661_5 := blk_frozen BK661.out 5);(try have hcu661_5 : w10.cell? ⟨gb661,5,none⟩ = some (.string ⟨#[]⟩) := (blk_cell BK661.out 5).trans rfl);(try have hfu661_6 := blk_frozen BK661.out 6);(try have hcu661_6 : w10.cell? ⟨gb661,6,none⟩ = some (.string ⟨#[]⟩) := (blk_cell BK661.out 6).trans rfl)) | ((with_reducible refine gate_callee (f := 64) rfl ?_);refine zgl (some 11) Tryd.func64 #[.int .i64 0,.int .i64 8] ?_;(with_reducible refine (impl_number.calls k 0 8 t663 _ A5.out).mono ?_);rintro e w11 ⟨rfl,hb⟩;refine ⟨_,rfl,?_⟩;replace BK660 := zb BK660 hb;replace BK661 := zb BK661 hb;replace HB := zs_ HB hb;(try clear hb);(try clear hb2);(try clear hk);(try clear hi);have hnb12 := NB660_661.out;have hnc12 := NB661_660.out;obtain ⟨hcz13_0,hcz13_1,hcz13_2,hcz13_3,hcz13_4,hcz13_5,hcz13_6,hfz13_0,hfz13_1,hfz13_2,hfz13_3,hfz13_4,hfz13_5,hfz13_6⟩ := zc7 BK660) | ((with_reducible refine gate_callee (f := 65) rfl ?_);refine zgl (some 15) Tryd.func65 #[.agg #[.int .i64 a1_0,.int .i64 a1_1,.int .i64 a1_2,.int .i64 a0,.string a1_4,.string a1_5,.string t663]] ?_;(with_reducible refine (impl_MessageOK.calls k a1_0 a1_1 a1_2 a0 a1_4 a1_5 t663 true _ A6.out).mono ?_);rintro e w14 ⟨rfl,hb⟩;refine ⟨_,rfl,?_⟩;replace BK660 := am_ (blk_below (g := gb660) (o := .cells #[.int .i64 a1_0,.int .i64 a1_1,.int .i64 a1_2,.int .i64 a0,.string a1_4,.string a1_5,.string t663] 33 (0,0)) (zq BK660) hb);replace BK661 := am_ (blk_below (g := gb661) (o := .cells #[.int .i64 0,.int .i64 0,.int .i64 0,.int .i64 0,.string ⟨#[]⟩,.string ⟨#[]⟩,.string ⟨#[]⟩] 33 (0,0)) (zq BK661) hb);replace HB := zs_ HB hb;(try clear hb);(try clear hb2);(try clear hk);(try clear hi);obtain ⟨hcz15_0,hcz15_1,hcz15_2,hcz15_3,hcz15_4,hcz15_5,hcz15_6,hfz15_0,hfz15_1,hfz15_2,hfz15_3,hfz15_4,hfz15_5,hfz15_6⟩ := zc7 BK660) | ((with_reducible refine gate_callee (f := 66) rfl ?_);refine zgl (some 20) Tryd.func66 #[.int .i64 a0,.agg #[.int .i64 a1_0,.int .i64 a1_1,.int .i64 a1_2,.int .i64 a0,.string a1_4,.string a1_5,.string t663]] ?_;(with_reducible refine (impl_signed.calls k a0 a1_0 a1_1 a1_2 a0 a1_4 a1_5 t663 t665 t666 t667 t668 t669 t670 t671 _ ?side1 A8.out).mono ?_);(case side1 => exact HLD.out.on (zl_ HB));rintro e w16 ⟨rfl,hb⟩;refine ⟨_,rfl,?_⟩;replace BK660 := zb BK660 hb;replace BK661 := zb BK661 hb;replace HB := zs_ HB hb;(try clear hb);(try clear hb2);(try clear hk);(try clear hi);obtain ⟨hcz17_0,hcz17_1,hcz17_2,hcz17_3,hcz17_4,hcz17_5,hcz17_6,hfz17_0,hfz17_1,hfz17_2,hfz17_3,hfz17_4,hfz17_5,hfz17_6⟩ := zc7 BK661))
   refine bodyPost_ret (results_ct rfl _ _ gb661 33 #[.int .i64 t665,.int .i64 t666,.int .i64 t667,.int .i64 t668,.string t669,.string t670,.string t671] (0,0) _ rfl (zq BK661) Tryd.underlying33 rfl (by kernel_rfl)) rfl ?_
   exact ⟨zt_,zl_ HB⟩
  ·replace c7 := Bool.eq_false_iff.mpr c7
   subst c7
   have H1 : (some (0,0,0,0,(⟨#[]⟩ : ByteArray),(⟨#[]⟩ : ByteArray),(⟨#[]⟩ : ByteArray),1)) = some (r1,r2,r3,r4,r5,r6,r7,r8) := by rw [if_neg (show ¬ (false = true) by decide)] at H;exact H
   clear H
   have H := H1
   clear H1
   simp only [Option.some.injEq,Prod.mk.injEq] at H
   obtain ⟨rfl,rfl,rfl,rfl,rfl,rfl,rfl,rfl⟩ := H
   go_enter Tryd.func22,Tryd.ntmps22
   go_wp2_with (first | ((with_reducible refine gate_dst (N := 3) rfl ?_);refine zbx (N := 3) (cs := #[.int .i64 a1_0,.int .i64 a1_1,.int .i64 a1_2,.int .i64 a1_3,.string a1_4,.string a1_5,.string a1_6]) (t := 33) ?_;intro gb660 hg w18 hbox hb;have BK660 := am_ (hbox);have GW660 := zw_ HB hg;have GE660 := zw_ HB hg;replace HB := zs_ HB hb;clear hb hbox hg) | ((with_reducible refine gate_dst (N := 4) rfl ?_);refine zbx (N := 4) (cs := #[.int .i64 0,.int .i64 0,.int .i64 0,.int .i64 0,.string ⟨#[]⟩,.string ⟨#[]⟩,.string ⟨#[]⟩]) (t := 33) ?_;intro gb661 hg w19 hbox hb;have BK661 := am_ (hbox);have GW661 := zw_ HB hg;have GE661 := zw_ HB hg;replace HB := zs_ HB hb;have NB660_661 := zl hg BK660;have NB661_660 := zg hg BK660;replace BK660 := zb BK660 hb;clear hb hbox hg) | ((with_reducible refine gate_callee (f := 57) rfl ?_);refine zgl (some 7) Tryd.func57 #[.int .i64 a0,.int .i64 0,.int .i64 6] ?_;(with_reducible refine (impl_within.calls a0 0 6 true _ A3.out).mono ?_);rintro e w' ⟨rfl,⟨nd,rfl⟩⟩;refine ⟨_,rfl,?_⟩;(try (rw [drewN_self w19];generalize hq_ : World.drewN w19 _ = w19;have n0_ : Aside0 (w19.heap[gb660]? = some (.cells #[.int .i64 a1_0,.int .i64 a1_1,.int .i64 a1_2,.int .i64 a1_3,.string a1_4,.string a1_5,.string a1_6] 33 (0,0))) := ⟨by rw [← hq_];exact (zk BK660)⟩;have n1_ : Aside0 (w19.heap[gb661]? = some (.cells #[.int .i64 0,.int .i64 0,.int .i64 0,.int .i64 0,.string ⟨#[]⟩,.string ⟨#[]⟩,.string ⟨#[]⟩] 33 (0,0))) := ⟨by rw [← hq_];exact (zk BK661)⟩;have n2_ : Aside0 (Below w.heap.size w w19) := ⟨by rw [← hq_];exact (zl_ HB)⟩;clear BK660 BK661 HB hq_;have BK660 := n0_;have BK661 := n1_;have HB := n2_;clear n0_ n1_ n2_));(try have hfu660_0 := blk_frozen BK660.out 0);(try have hcu660_0 : w19.cell? ⟨gb660,0,none⟩ = some (.int .i64 a1_0) := (blk_cell BK660.out 0).trans rfl);(try have hfu660_1 := blk_frozen BK660.out 1);(try have hcu660_1 : w19.cell? ⟨gb660,1,none⟩ = some (.int .i64 a1_1) := (blk_cell BK660.out 1).trans rfl);(try have hfu660_2 := blk_frozen BK660.out 2);(try have hcu660_2 : w19.cell? ⟨gb660,2,none⟩ = some (.int .i64 a1_2) := (blk_cell BK660.out 2).trans rfl);(try have hfu660_3 := blk_frozen BK660.out 3);(try have hcu660_3 : w19.cell? ⟨gb660,3,none⟩ = some (.int .i64 a1_3) := (blk_cell BK660.out 3).trans rfl);(try have hfu660_4 := blk_frozen BK660.out 4);(try have hcu660_4 : w19.cell? ⟨gb660,4,none⟩ = some (.string a1_4) := (blk_cell BK660.out 4).trans rfl);(try have hfu660_5 := blk_frozen BK660.out 5);(try have hcu660_5 : w19.cell? ⟨gb660,5,none⟩ = some (.string a1_5) := (blk_cell BK660.out 5).trans rfl);(try have hfu660_6 := blk_frozen BK660.out 6);(try have hcu660_6 : w19.cell? ⟨gb660,6,none⟩ = some (.string a1_6) := (blk_cell BK660.out 6).trans rfl);(try have hfu661_0 := blk_frozen BK661.out 0);(try have hcu661_0 : w19.cell? ⟨gb661,0,none⟩ = some (.int .i64 0) := (blk_cell BK661.out 0).trans rfl);(try have hfu661_1 := blk_frozen BK661.out 1);(try have hcu661_1 : w19.cell? ⟨gb661,1,none⟩ = some (.int .i64 0) := (blk_cell BK661.out 1).trans rfl);(try have hfu661_2 := blk_frozen BK661.out 2);(try have hcu661_2 : w19.cell? ⟨gb661,2,none⟩ = some (.int .i64 0) := (blk_cell BK661.out 2).trans rfl);(try have hfu661_3 := blk_frozen BK661.out 3);(try have hcu661_3 : w19.cell? ⟨gb661,3,none⟩ = some (.int .i64 0) := (blk_cell BK661.out 3).trans rfl);(try have hfu661_4 := blk_frozen BK661.out 4);(try have hcu661_4 : w19.cell? ⟨gb661,4,none⟩ = some (.string ⟨#[]⟩) := (blk_cell BK661.out 4).trans rfl);(try have hfu661_5 := blk_frozen BK661.out 5);(try have hcu661_5 : w19.cell? ⟨gb661,5,none⟩ = some (.string ⟨#[]⟩) := (blk_cell BK661.out 5).trans rfl);(try have hfu661_6 := blk_frozen BK661.out 6);(try have hcu661_6 : w19.cell? ⟨gb661,6,none⟩ = some (.string ⟨#[]⟩) := (blk_cell BK661.out 6).trans rfl)) | ((with_reducible refine gate_callee (f := 64) rfl ?_);refine zgl (some 11) Tryd.func64 #[.int .i64 0,.int .i64 8] ?_;(with_reducible refine (impl_number.calls k 0 8 t663 _ A5.out).mono ?_);rintro e w20 ⟨rfl,hb⟩;refine ⟨_,rfl,?_⟩;replace BK660 := zb BK660 hb;replace BK661 := zb BK661 hb;replace HB := zs_ HB hb;(try clear hb);(try clear hb2);(try clear hk);(try clear hi);have hnb21 := NB660_661.out;have hnc21 := NB661_660.out;obtain ⟨hcz22_0,hcz22_1,hcz22_2,hcz22_3,hcz22_4,hcz22_5,hcz22_6,hfz22_0,hfz22_1,hfz22_2,hfz22_3,hfz22_4,hfz22_5,hfz22_6⟩ := zc7 BK660) | ((with_reducible refine gate_callee (f := 65) rfl ?_);refine zgl (some 15) Tryd.func65 #[.agg #[.int .i64 a1_0,.int .i64 a1_1,.int .i64 a1_2,.int .i64 a0,.string a1_4,.string a1_5,.string t663]] ?_;(with_reducible refine (impl_MessageOK.calls k a1_0 a1_1 a1_2 a0 a1_4 a1_5 t663 false _ A6.out).mono ?_);rintro e w23 ⟨rfl,hb⟩;refine ⟨_,rfl,?_⟩;replace BK661 := am_ (blk_below (g := gb661) (o := .cells #[.int .i64 0,.int .i64 0,.int .i64 0,.int .i64 0,.string ⟨#[]⟩,.string ⟨#[]⟩,.string ⟨#[]⟩] 33 (0,0)) (zq BK661) hb);replace HB := zs_ HB hb;(try clear hb);(try clear hb2);(try clear hk);(try clear hi);obtain ⟨hcz24_0,hcz24_1,hcz24_2,hcz24_3,hcz24_4,hcz24_5,hcz24_6,hfz24_0,hfz24_1,hfz24_2,hfz24_3,hfz24_4,hfz24_5,hfz24_6⟩ := zc7 BK661))
   refine bodyPost_ret (results_ct rfl _ _ gb661 33 #[.int .i64 0,.int .i64 0,.int .i64 0,.int .i64 0,.string ⟨#[]⟩,.string ⟨#[]⟩,.string ⟨#[]⟩] (0,0) _ rfl (zq BK661) Tryd.underlying33 rfl (by kernel_rfl)) rfl ?_
   exact ⟨zt_,zl_ HB⟩
 ·replace c4 := Bool.eq_false_iff.mpr c4
  subst c4
  have H1 : (some (0,0,0,0,(⟨#[]⟩ : ByteArray),(⟨#[]⟩ : ByteArray),(⟨#[]⟩ : ByteArray),4)) = some (r1,r2,r3,r4,r5,r6,r7,r8) := by rw [if_neg (show ¬ (false = true) by decide)] at H;exact H
  clear H
  have H := H1
  clear H1
  simp only [Option.some.injEq,Prod.mk.injEq] at H
  obtain ⟨rfl,rfl,rfl,rfl,rfl,rfl,rfl,rfl⟩ := H
  go_enter Tryd.func22,Tryd.ntmps22
  go_wp2_with (first | ((with_reducible refine gate_dst (N := 3) rfl ?_);refine zbx (N := 3) (cs := #[.int .i64 a1_0,.int .i64 a1_1,.int .i64 a1_2,.int .i64 a1_3,.string a1_4,.string a1_5,.string a1_6]) (t := 33) ?_;intro gb660 hg w25 hbox hb;have BK660 := am_ (hbox);have GW660 := zw_ HB hg;have GE660 := zw_ HB hg;replace HB := zs_ HB hb;clear hb hbox hg) | ((with_reducible refine gate_dst (N := 4) rfl ?_);refine zbx (N := 4) (cs := #[.int .i64 0,.int .i64 0,.int .i64 0,.int .i64 0,.string ⟨#[]⟩,.string ⟨#[]⟩,.string ⟨#[]⟩]) (t := 33) ?_;intro gb661 hg w26 hbox hb;have BK661 := am_ (hbox);have GW661 := zw_ HB hg;have GE661 := zw_ HB hg;replace HB := zs_ HB hb;have NB660_661 := zl hg BK660;have NB661_660 := zg hg BK660;replace BK660 := zb BK660 hb;clear hb hbox hg) | ((with_reducible refine gate_callee (f := 57) rfl ?_);refine zgl (some 7) Tryd.func57 #[.int .i64 a0,.int .i64 0,.int .i64 6] ?_;(with_reducible refine (impl_within.calls a0 0 6 false _ A3.out).mono ?_);rintro e w' ⟨rfl,⟨nd,rfl⟩⟩;refine ⟨_,rfl,?_⟩;(try (rw [drewN_self w26];generalize hq_ : World.drewN w26 _ = w26;have n0_ : Aside0 (w26.heap[gb660]? = some (.cells #[.int .i64 a1_0,.int .i64 a1_1,.int .i64 a1_2,.int .i64 a1_3,.string a1_4,.string a1_5,.string a1_6] 33 (0,0))) := ⟨by rw [← hq_];exact (zk BK660)⟩;have n1_ : Aside0 (w26.heap[gb661]? = some (.cells #[.int .i64 0,.int .i64 0,.int .i64 0,.int .i64 0,.string ⟨#[]⟩,.string ⟨#[]⟩,.string ⟨#[]⟩] 33 (0,0))) := ⟨by rw [← hq_];exact (zk BK661)⟩;have n2_ : Aside0 (Below w.heap.size w w26) := ⟨by rw [← hq_];exact (zl_ HB)⟩;clear BK660 BK661 HB hq_;have BK660 := n0_;have BK661 := n1_;have HB := n2_;clear n0_ n1_ n2_));(try have hfu660_0 := blk_frozen BK660.out 0);(try have hcu660_0 : w26.cell? ⟨gb660,0,none⟩ = some (.int .i64 a1_0) := (blk_cell BK660.out 0).trans rfl);(try have hfu660_1 := blk_frozen BK660.out 1);(try have hcu660_1 : w26.cell? ⟨gb660,1,none⟩ = some (.int .i64 a1_1) := (blk_cell BK660.out 1).trans rfl);(try have hfu660_2 := blk_frozen BK660.out 2);(try have hcu660_2 : w26.cell? ⟨gb660,2,none⟩ = some (.int .i64 a1_2) := (blk_cell BK660.out 2).trans rfl);(try have hfu660_3 := blk_frozen BK660.out 3);(try have hcu660_3 : w26.cell? ⟨gb660,3,none⟩ = some (.int .i64 a1_3) := (blk_cell BK660.out 3).trans rfl);(try have hfu660_4 := blk_frozen BK660.out 4);(try have hcu660_4 : w26.cell? ⟨gb660,4,none⟩ = some (.string a1_4) := (blk_cell BK660.out 4).trans rfl);(try have hfu660_5 := blk_frozen BK660.out 5);(try have hcu660_5 : w26.cell? ⟨gb660,5,none⟩ = some (.string a1_5) := (blk_cell BK660.out 5).trans rfl);(try have hfu660_6 := blk_frozen BK660.out 6);(try have hcu660_6 : w26.cell? ⟨gb660,6,none⟩ = some (.string a1_6) := (blk_cell BK660.out 6).trans rfl);(try have hfu661_0 := blk_frozen BK661.out 0);(try have hcu661_0 : w26.cell? ⟨gb661,0,none⟩ = some (.int .i64 0) := (blk_cell BK661.out 0).trans rfl);(try have hfu661_1 := blk_frozen BK661.out 1);(try have hcu661_1 : w26.cell? ⟨gb661,1,none⟩ = some (.int .i64 0) := (blk_cell BK661.out 1).trans rfl);(try have hfu661_2 := blk_frozen BK661.out 2);(try have hcu661_2 : w26.cell? ⟨gb661,2,none⟩ = some (.int .i64 0) := (blk_cell BK661.out 2).trans rfl);(try have hfu661_3 := blk_frozen BK661.out 3);(try have hcu661_3 : w26.cell? ⟨gb661,3,none⟩ = some (.int .i64 0) := (blk_cell BK661.out 3).trans rfl);(try have hfu661_4 := blk_frozen BK661.out 4);(try have hcu661_4 : w26.cell? ⟨gb661,4,none⟩ = some (.string ⟨#[]⟩) := (blk_cell BK661.out 4).trans rfl);(try have hfu661_5 := blk_frozen BK661.out 5);(try have hcu661_5 : w26.cell? ⟨gb661,5,none⟩ = some (.string ⟨#[]⟩) := (blk_cell BK661.out 5).trans rfl);(try have hfu661_6 := blk_frozen BK661.out 6);(try have hcu661_6 : w26.cell? ⟨gb661,6,none⟩ = some (.string ⟨#[]⟩) := (blk_cell BK661.out 6).trans rfl);have hnb27 := NB661_660.out;have hnc27 := NB660_661.out;obtain ⟨hcz28_0,hcz28_1,hcz28_2,hcz28_3,hcz28_4,hcz28_5,hcz28_6,hfz28_0,hfz28_1,hfz28_2,hfz28_3,hfz28_4,hfz28_5,hfz28_6⟩ := zc7 BK661))
  refine bodyPost_ret (results_ct rfl _ _ gb661 33 #[.int .i64 0,.int .i64 0,.int .i64 0,.int .i64 0,.string ⟨#[]⟩,.string ⟨#[]⟩,.string ⟨#[]⟩] (0,0) _ rfl (zq BK661) Tryd.underlying33 rfl (by kernel_rfl)) rfl ?_
  exact ⟨zt_,zl_ HB⟩
set_option maxHeartbeats 8000000 in
set_option maxRecDepth 100000 in
theorem laws_at.calls (A0 : Option Addr) (c0 : Nat) (l0 : List Int) (a1 : Int) (a2 : Int) (r : Int) (w : World) (hr0 : Kd.C (Kd.int .u8) w A0 l0.length l0) (hc0 : l0.length ≤ c0) (h : laws_at.f l0 a1 a2 = some r) :
  Calls Tryd.prog 21 #[.slice A0 l0.length c0,.int .i64 a1,.int .i64 a2] w fun e w' => e = .returned (.int .i64 r) ∧ Drawn0 w w' := by
 have HR0 := am_ hr0
 have HC0 := am_ hc0
 clear hr0 hc0
 have H : (if a2 ≤ 1 then (some 0) else (if (l0.length : Int) = 0 then (if a2 = 0 then (none) else (some (Int.tmod (wrap64 (a1 * 7)) a2))) else (if 0 ≤ (Int.tmod a1 (l0.length : Int)) then (if (Int.tmod a1 (l0.length : Int)) < (l0.length : Int) then (if 0 ≤ (Int.tmod (wrap64 (a1 + 1)) (l0.length : Int)) then (if (Int.tmod (wrap64 (a1 + 1)) (l0.length : Int)) < (l0.length : Int) then (if a2 = 0 then (none) else (some (Int.tmod (wrap64 ((wrap64 ((wrap64 ((wrap64 (rd l0 (Int.tmod a1 (l0.length : Int)))) * 31)) + (wrap64 (rd l0 (Int.tmod (wrap64 (a1 + 1)) (l0.length : Int)))))) + (wrap64 (Int.tdiv a1 (l0.length : Int))))) a2))) else (none)) else (none)) else (none)) else (none)))) = some r := h
 clear h
 by_cases c4 : a2 ≤ 1
 ·rw [if_pos c4] at H
  have c4b0 : decide (a2 ≤ 1) = true := decide_eq_true c4
  clear c4
  obtain rfl := Option.some.inj H
  go_enter Tryd.func21,Tryd.ntmps21
  go_wp2
  repeat (go_quiet (fail);try go_wp2)
  go_ret
  exact ⟨by first | rfl | (simp;done) | (simp [*];done),by repeat (first | exact Drawn0.refl _ | apply Drawn0.step)⟩
 ·rw [if_neg c4] at H
  have c4b0 : decide (a2 ≤ 1) = false := decide_eq_false c4
  clear c4
  by_cases c5 : (l0.length : Int) = 0
  ·rw [if_pos c5] at H
   have c5b0 : ((l0.length : Int) == 0) = true := beq_iff_eq.mpr c5
   have c5b1 : ((l0.length : Int) != 0) = false := bne_eq_false_iff_eq.mpr c5
   clear c5
   by_cases c6 : a2 = 0
   ·rw [if_pos c6] at H
    exact absurd H (by simp)
   ·rw [if_neg c6] at H
    have c6b0 : (a2 == 0) = false := beq_eq_false_iff_ne.mpr c6
    have c6b1 : (a2 != 0) = true := bne_iff_ne.mpr c6
    obtain rfl := Option.some.inj H
    go_enter Tryd.func21,Tryd.ntmps21
    go_wp2
    repeat (go_quiet (fail);try go_wp2)
    go_ret
    exact ⟨by first | rfl | (simp;done) | (simp [*];done),by repeat (first | exact Drawn0.refl _ | apply Drawn0.step)⟩
  ·rw [if_neg c5] at H
   have c5b0 : ((l0.length : Int) == 0) = false := beq_eq_false_iff_ne.mpr c5
   have c5b1 : ((l0.length : Int) != 0) = true := bne_iff_ne.mpr c5
   have c5b2 : ¬ (l0 = []) := fun h_ => c5 (by rw [h_];rfl)
   obtain ⟨ji7,hji7⟩ : ∃ j_ : Int,(Int.tmod a1 (l0.length : Int)) = j_ := ⟨_,rfl⟩
   replace H : (if 0 ≤ (ji7) then (if (ji7) < (l0.length : Int) then (if 0 ≤ (Int.tmod (wrap64 (a1 + 1)) (l0.length : Int)) then (if (Int.tmod (wrap64 (a1 + 1)) (l0.length : Int)) < (l0.length : Int) then (if a2 = 0 then (none) else (some (Int.tmod (wrap64 ((wrap64 ((wrap64 ((wrap64 (rd l0 (ji7))) * 31)) + (wrap64 (rd l0 (Int.tmod (wrap64 (a1 + 1)) (l0.length : Int)))))) + (wrap64 (Int.tdiv a1 (l0.length : Int))))) a2))) else (none)) else (none)) else (none)) else (none)) = some r := by first | (rw [hji7] at H;exact H) | (simp only [hji7] at H ⊢;exact H)
   by_cases c8 : 0 ≤ (ji7)
   ·rw [if_pos c8] at H
    have c8b0 : decide (0 ≤ (ji7)) = true := decide_eq_true c8
    clear c8
    by_cases c9 : (ji7) < (l0.length : Int)
    ·rw [if_pos c9] at H
     have c9b0 : decide ((ji7) < (l0.length : Int)) = true := decide_eq_true c9
     clear c9
     obtain ⟨ji10,hji10⟩ : ∃ j_ : Int,(Int.tmod (wrap64 (a1 + 1)) (l0.length : Int)) = j_ := ⟨_,rfl⟩
     replace H : (if 0 ≤ (ji10) then (if (ji10) < (l0.length : Int) then (if a2 = 0 then (none) else (some (Int.tmod (wrap64 ((wrap64 ((wrap64 ((wrap64 (rd l0 (ji7))) * 31)) + (wrap64 (rd l0 (ji10))))) + (wrap64 (Int.tdiv a1 (l0.length : Int))))) a2))) else (none)) else (none)) = some r := by first | (rw [hji10] at H;exact H) | (simp only [hji10] at H ⊢;exact H)
     by_cases c11 : 0 ≤ (ji10)
     ·rw [if_pos c11] at H
      have c11b0 : decide (0 ≤ (ji10)) = true := decide_eq_true c11
      clear c11
      by_cases c12 : (ji10) < (l0.length : Int)
      ·rw [if_pos c12] at H
       have c12b0 : decide ((ji10) < (l0.length : Int)) = true := decide_eq_true c12
       clear c12
       by_cases c13 : a2 = 0
       ·rw [if_pos c13] at H
        exact absurd H (by simp)
       ·rw [if_neg c13] at H
        have c13b0 : (a2 == 0) = false := beq_eq_false_iff_ne.mpr c13
        have c13b1 : (a2 != 0) = true := bne_iff_ne.mpr c13
        obtain rfl := Option.some.inj H
        have p639 : 0 ≤ ((ji7) : Int) := zo_
        have q639 : (ji7) < (l0.length : Int) := zo_
        obtain ⟨ad639,e639,hx639_0⟩ := Kd.at_int HR0.out (ji7) p639 q639
        cases e639
        replace p639 := eq_true p639
        replace q639 := eq_true q639
        have p640 : 0 ≤ ((ji10) : Int) := zo_
        have q640 : (ji10) < (l0.length : Int) := zo_
        obtain ⟨ad640,e640,hx640_0⟩ := Kd.at_int HR0.out (ji10) p640 q640
        obtain rfl : ad639 = ad640 := (by injection e640)
        replace p640 := eq_true p640
        replace q640 := eq_true q640
        go_enter Tryd.func21,Tryd.ntmps21
        go_wp2
        repeat (go_quiet (fail);try go_wp2)
        go_ret
        exact ⟨by first | rfl | (simp;done) | (simp only [← hji7,← hji10] <;> (first | rfl | simp)) | (simp [*];done),by repeat (first | exact Drawn0.refl _ | apply Drawn0.step)⟩
      ·rw [if_neg c12] at H
       exact absurd H (by simp)
     ·rw [if_neg c11] at H
      exact absurd H (by simp)
    ·rw [if_neg c9] at H
     exact absurd H (by simp)
   ·rw [if_neg c8] at H
    exact absurd H (by simp)
set_option maxHeartbeats 8000000 in
set_option maxRecDepth 100000 in
theorem spec_l00Source.calls (A0 : Option Addr) (c0 : Nat) (l0 : List Int) (r1 : List Int) (r2 : Int) (r3 : Int) (w0 w : World) (hB : Below w0.heap.size w0 w) (hr0 : Kd.C (Kd.int .u8) w0 A0 l0.length l0) (hc0 : l0.length ≤ c0) (h : spec_l00Source.f l0 = some (r1,r2,r3)) :
  Calls Tryd.prog 62 #[.slice A0 l0.length c0] w fun e w' => ∃ g_ : Nat,e = .returned (.pointer (some ⟨g_,0,none⟩)) ∧ IsS138 w0 w' g_ r1 r2 r3 ∧ Below w0.heap.size w0 w' ∧ Below w.heap.size w w' := by
 have hu138 := Tryd.underlying138
 have HR0 := am_ hr0
 have HC0 := am_ hc0
 clear hr0 hc0
 have HBW := am_ (Below.refl w.heap.size w)
 have HW0 := am_ hB.size
 have HB := am_ hB
 clear hB
 have H : (some (l0,0,(l0.length : Int) % 1000)) = some (r1,r2,r3) := h
 clear h
 simp only [Option.some.injEq,Prod.mk.injEq] at H
 obtain ⟨rfl,rfl,rfl⟩ := H
 go_enter Tryd.func62,Tryd.ntmps62
 go_wp2_with (first | ((with_reducible refine gate_dst (N := 8) rfl ?_);refine zbx (N := 8) (cs := #[.slice A0 l0.length c0,.int .i64 0,.int .i64 ((l0.length : Int) % 1000)]) (t := 138) ?_;intro gb422 hg w2 hbox hb;replace HB := zs_ HB hb;have BK422 := am_ (hbox);have GW422 := am_ ((by rw [hg];exact (below_size (by repeat (first | (with_reducible first | exact HBW.out | apply b1_ | apply b2_ | apply b3_) | exact HBW.out))) : w.heap.size ≤ gb422));have GE422 := am_ ((Nat.le_trans HW0.out (by rw [hg];exact (below_size (by repeat (first | (with_reducible first | exact HBW.out | apply b1_ | apply b2_ | apply b3_) | exact HBW.out))) : w.heap.size ≤ gb422) : w0.heap.size ≤ gb422));replace HBW := am_ (below_step HBW.out hb);clear hb hbox hg))
 go_ret
 exact ⟨_,rfl,(show IsS138 w0 _ gb422 l0 0 ((l0.length : Int) % 1000) from ⟨_,_,by (with_reducible repeat (first | apply k1_ | apply k2_ | apply k3_));exact BK422.out,GE422.out,HR0.out⟩),zl_ HB,by repeat (first | (with_reducible first | exact HBW.out | apply b1_ | apply b2_ | apply b3_ | refine below_set ?_ GW422.out) | exact HBW.out)⟩
def spec_l00Src_byte.T2 : Bool × List (List Nat × List Nat) := (true,[([],[]),([0],[0]),([1],[1]),([2],[2]),([],[]),([4],[4]),([5],[5]),([6],[6]),([7],[7]),([3,8],[3,8])])
def spec_l00Src_byte.B2 : List Nat := [0,1,3,7,0,16,48,112,240,511]
theorem spec_l00Src_byte.tab2 : rtab .any (opsOf Tryd.f169 2) = spec_l00Src_byte.T2 := by kernel_rfl
theorem spec_l00Src_byte.bits2 : waitsOk spec_l00Src_byte.T2.2 spec_l00Src_byte.B2 = true := by kernel_rfl
def spec_l00Src_byte.T3 : Bool × List (List Nat × List Nat) := (true,[([],[]),([],[]),([1],[1]),([2],[2]),([3],[3]),([4],[4]),([],[]),([6],[6]),([7],[7]),([8],[8]),([],[]),([10],[10]),([11],[11]),([12],[12]),([13],[13]),([9,14],[9,14]),([15],[15]),([16],[16]),([5,17],[5,17]),([18],[18]),([19],[19]),([0,0,1,2,3,4,5,6,7,8,9,10,11,12,13,14,15,16,17,18,19,20],[0]),([21,0,1,2,3,4,5,6,7,8,9,10,11,12,13,14,15,16,17,18,19,20],[21]),([22,20,0,1,2,3,4,5,6,7,8,9,10,11,12,13,14,15,16,17,18,19,20],[20,22])])
def spec_l00Src_byte.B3 : List Nat := [0,0,2,6,14,30,0,64,192,448,0,1024,3072,7168,15360,32704,65472,131008,262142,524286,1048574,2097151,4194303,8388607]
theorem spec_l00Src_byte.tab3 : rtab .any (opsOf Tryd.f169 3) = spec_l00Src_byte.T3 := by kernel_rfl
theorem spec_l00Src_byte.bits3 : waitsOk spec_l00Src_byte.T3.2 spec_l00Src_byte.B3 = true := by kernel_rfl
def spec_l00Src_byte.T4 : Bool × List (List Nat × List Nat) := (true,[([],[]),([0],[0]),([1],[1]),([2],[2]),([],[]),([4],[4]),([5],[5]),([6],[6]),([7],[7]),([3,8],[3,8]),([9],[9]),([10],[10]),([11,0,1,2,3,4,5,6,7,8,9,10,11],[11])])
def spec_l00Src_byte.B4 : List Nat := [0,1,3,7,0,16,48,112,240,511,1023,2047,4095]
theorem spec_l00Src_byte.tab4 : rtab .any (opsOf Tryd.f169 4) = spec_l00Src_byte.T4 := by kernel_rfl
theorem spec_l00Src_byte.bits4 : waitsOk spec_l00Src_byte.T4.2 spec_l00Src_byte.B4 = true := by kernel_rfl
set_option maxHeartbeats 8000000 in
set_option maxRecDepth 100000 in
theorem spec_l00Src_byte.calls (g : Nat) (s0_0 : List Int) (s0_1 : Int) (s0_2 : Int) (r1 : Int) (r2 : Int) (r3 : Int) (w0 w : World) (hI : IsS138 w0 w g s0_0 s0_1 s0_2) (hB : Below w0.heap.size w0 w) (h : spec_l00Src_byte.f s0_0 s0_1 s0_2 = some (r1,r2,r3)) :
  Calls Tryd.prog 169 #[.pointer (some ⟨g,0,none⟩)] w fun e w' => e = .returned (.int .i64 r1) ∧ IsS138 w0 w' g s0_0 r2 r3 ∧ Below w0.heap.size w0 w' ∧ KeepBut w w' g none := by
 have HI0 := am_ hI
 have HK := am_ (KeepBut.refl w g none)
 have HL := am_ hB.size
 clear hI
 have HW0 := am_ hB.size
 have HB := am_ hB
 clear hB
 have H : (if (wrap64 (s0_1 + 1)) ≤ (s0_0.length : Int) then (if 0 ≤ (wrap64 ((wrap64 (s0_1 + 1)) - 1)) then (if (wrap64 ((wrap64 (s0_1 + 1)) - 1)) < (s0_0.length : Int) then (some (wrap64 (rd s0_0 (wrap64 ((wrap64 (s0_1 + 1)) - 1))),wrap64 (s0_1 + 1),Int.tmod (wrap64 ((wrap64 ((wrap64 (s0_2 * 31)) + (wrap64 (rd s0_0 (wrap64 ((wrap64 (s0_1 + 1)) - 1)))))) + 7)) 2147483648)) else (none)) else (none)) else (if (wrap64 (s0_1 + 1)) > 3000 then (some (0,wrap64 (s0_1 + 1),s0_2)) else (some (Int.tmod (wrap64 (Int.tdiv (Int.tmod (wrap64 ((wrap64 (s0_2 * 1103515245)) + 12345)) 2147483648) 65536)) 256,wrap64 (s0_1 + 1),Int.tmod (wrap64 ((wrap64 (s0_2 * 1103515245)) + 12345)) 2147483648)))) = some (r1,r2,r3) := h
 clear h
 by_cases c2 : (wrap64 (s0_1 + 1)) ≤ (s0_0.length : Int)
 ·rw [if_pos c2] at H
  have c2b0 : decide ((wrap64 (s0_1 + 1)) ≤ (s0_0.length : Int)) = true := decide_eq_true c2
  clear c2
  obtain ⟨ji3,hji3⟩ : ∃ j_ : Int,(wrap64 ((wrap64 (s0_1 + 1)) - 1)) = j_ := ⟨_,rfl⟩
  replace H : (if 0 ≤ (ji3) then (if (ji3) < (s0_0.length : Int) then (some (wrap64 (rd s0_0 (ji3)),wrap64 (s0_1 + 1),Int.tmod (wrap64 ((wrap64 ((wrap64 (s0_2 * 31)) + (wrap64 (rd s0_0 (ji3))))) + 7)) 2147483648)) else (none)) else (none)) = some (r1,r2,r3) := by first | (rw [hji3] at H;exact H) | (simp only [hji3] at H ⊢;exact H)
  have hji3w : (IntKind.i64.wrap ((wrap64 (s0_1 + 1)) - 1)) = ji3 := (i64_w _).trans hji3
  by_cases c4 : 0 ≤ (ji3)
  ·rw [if_pos c4] at H
   have c4b0 : decide (0 ≤ (ji3)) = true := decide_eq_true c4
   clear c4
   by_cases c5 : (ji3) < (s0_0.length : Int)
   ·rw [if_pos c5] at H
    have c5b0 : decide ((ji3) < (s0_0.length : Int)) = true := decide_eq_true c5
    clear c5
    simp only [Option.some.injEq,Prod.mk.injEq] at H
    obtain ⟨rfl,rfl,rfl⟩ := H
    obtain ⟨ASz6_0,cSz6_0,HGz6,hgz6,HSz6_0⟩ := HI0.out
    have hcz6_0 := cellS138_0 HGz6
    have hcz6_1 := cellS138_1 HGz6
    have hcz6_2 := cellS138_2 HGz6
    have hfz6_1 := blk_frozen HGz6 1
    have hfz6_2 := blk_frozen HGz6 2
    clear HGz6 hgz6
    go_enter Tryd.func169,Tryd.ntmps169
    try go_wp2
    have n0_ : Aside0 (IsS138 w0 (w.setCell ⟨g,1,none⟩ (.int .i64 (wrap64 (s0_1 + 1)))) g s0_0 (wrap64 (s0_1 + 1)) s0_2) := ⟨(zi138 HI0)⟩
    have n1_ : Aside0 (KeepBut w (w.setCell ⟨g,1,none⟩ (.int .i64 (wrap64 (s0_1 + 1)))) g none) := ⟨zh_ HK⟩
    have n2_ : Aside0 (Below w0.heap.size w0 (w.setCell ⟨g,1,none⟩ (.int .i64 (wrap64 (s0_1 + 1))))) := ⟨zl_ HB⟩
    (try clear HI0)
    (try clear HK)
    (try clear HB)
    generalize (w.setCell ⟨g,1,none⟩ (.int .i64 (wrap64 (s0_1 + 1)))) = w7 at n0_ n1_ n2_ ⊢
    have HI0 := n0_
    have HK := n1_
    have HB := n2_
    clear n0_ n1_ n2_
    replace HI0 := am_ (IsS138.drew HI0.out)
    replace HK := am_ (keep_drew HK.out)
    replace HB := am_ (below_drew1 HB.out)
    obtain ⟨ASz9_0,cSz9_0,HGz9,hgz9,HSz9_0⟩ := HI0.out
    have hcz9_0 := cellS138_0 HGz9
    have hcz9_1 := cellS138_1 HGz9
    have hcz9_2 := cellS138_2 HGz9
    have hfz9_1 := blk_frozen HGz9 1
    have hfz9_2 := blk_frozen HGz9 2
    clear HGz9 hgz9
    refine start_ (n := 10) (S := fun w' => w'.cell? ⟨g,0,none⟩ = some (.slice ASz9_0 s0_0.length cSz9_0) ∧ w'.cell? ⟨g,1,none⟩ = some (.int .i64 (wrap64 (s0_1 + 1))) ∧ w'.cell? ⟨g,2,none⟩ = some (.int .i64 s0_2)) (ds := []) #[false,false,false,false,false,false,false,false,false,false] (by kernel_rfl) rfl rfl ⟨hcz9_0,hcz9_1,hcz9_2⟩ (fun hHeld => ?_);refine with_tabW spec_l00Src_byte.tab2 spec_l00Src_byte.bits2 (fun HT_ HW_ => ?_)
    generalize w7.drew = w8 at HI0 HK HB hHeld ⊢
    refine zpu 0 (N := some 10) HT_ ?_
    refine zpu 1 (N := some 11) HT_ ?_
    refine zpu 2 (N := some 12) HT_ ?_
    refine zpu 4 (N := some 14) HT_ ?_
    refine zpu 5 (N := some 15) HT_ ?_
    refine zpu 6 (N := some 16) HT_ ?_
    refine ztk 3 (N := some 13) HT_ HW_ hHeld ?_
    refine ztk 7 (N := some 17) HT_ HW_ hHeld ?_
    refine zpu 8 (N := some 18) HT_ ?_
    refine zpu 9 (N := some 19) HT_ ?_
    refine done_ (done_of HT_.out (by kernel_rfl)) ?_
    try go_wp2
    replace HI0 := am_ (IsS138.drew HI0.out)
    replace HK := am_ (keep_drew HK.out)
    replace HB := am_ (below_drew1 HB.out)
    obtain ⟨ASz11_0,cSz11_0,HGz11,hgz11,HSz11_0⟩ := HI0.out
    have hcz11_0 := cellS138_0 HGz11
    have hcz11_1 := cellS138_1 HGz11
    have hcz11_2 := cellS138_2 HGz11
    have hfz11_1 := blk_frozen HGz11 1
    have hfz11_2 := blk_frozen HGz11 2
    clear HGz11 hgz11
    have p423 : 0 ≤ ((ji3) : Int) := zo_
    have q423 : (ji3) < (s0_0.length : Int) := zo_
    obtain ⟨ad423,e423,hx423_0⟩ := Kd.at_int HSz11_0 (ji3) p423 q423
    have hw423_0 := hx423_0
    cases e423
    replace hx423_0 := pw_cell_below HB.out hx423_0
    replace p423 := eq_true p423
    replace q423 := eq_true q423
    refine start_ (n := 24) (S := fun w' => w'.cell? ⟨g,0,none⟩ = some (.slice (some ad423) s0_0.length cSz11_0) ∧ w'.cell? ⟨g,1,none⟩ = some (.int .i64 (wrap64 (s0_1 + 1))) ∧ w'.cell? ⟨g,2,none⟩ = some (.int .i64 s0_2) ∧ w'.cell? (ad423.add ((ji3)).toNat) = some (.int .u8 (rd s0_0 (ji3)))) (ds := [23]) #[false,false,false,false,false,false,false,false,false,false,false,false,false,false,false,false,false,false,false,false,false,false,false,false] (by kernel_rfl) rfl rfl ⟨hcz11_0,hcz11_1,hcz11_2,((HB.out.cell (World.block_lt_of_cell? w0 _ hw423_0)).trans hw423_0)⟩ (fun hHeld => ?_);refine with_tabW spec_l00Src_byte.tab3 spec_l00Src_byte.bits3 (fun HT_ HW_ => ?_)
    generalize w8.drew = w10 at HI0 HK HB hx423_0 hHeld ⊢
    refine zpu 0 (N := some 20) HT_ ?_
    refine zpu 1 (N := some 21) HT_ ?_
    refine zpu 2 (N := some 22) HT_ ?_
    refine zpu 3 (N := some 23) HT_ ?_
    refine zpu 6 (N := some 26) HT_ ?_
    refine zpu 7 (N := some 27) HT_ ?_
    refine zpu 8 (N := some 28) HT_ ?_
    refine zpu 10 (N := some 30) HT_ ?_
    refine zpu 11 (N := some 31) HT_ ?_
    refine zpu 12 (N := some 32) HT_ ?_
    refine ztk 4 (N := some 24) HT_ HW_ hHeld ?_
    refine zpu 5 (N := some 25) HT_ ?_
    refine ztk 9 (N := some 29) HT_ HW_ hHeld ?_
    refine ztk 13 (N := some 33) HT_ HW_ hHeld ?_
    refine zpu 14 (N := some 34) HT_ ?_
    refine zpu 15 (N := some 35) HT_ ?_
    refine ztk 16 (N := some 36) HT_ HW_ hHeld ?_
    refine zpu 17 (N := some 37) HT_ ?_
    refine zpu 18 (N := some 38) HT_ ?_
    refine zpu 19 (N := some 39) HT_ ?_
    refine zpu 20 (N := some 40) HT_ ?_
    refine zpu 21 (N := some 41) HT_ ?_
    refine zpu 22 (N := some 42) HT_ ?_
    refine last_ (i := 23) (N := none) #[true,true,true,true,true,true,true,true,true,true,true,true,true,true,true,true,true,true,true,true,true,true,true,true] rfl rfl (one_of HT_.out (by kernel_rfl)) (by decide) (fun K hK => ?_)
    obtain ⟨Ars12_0,crs12_0,HGrs12,hgrs12,HSrs12_0⟩ := HI0.out
    have hfrs12 := blk_frozen HGrs12 2
    refine skip_ (w1 := ?_) (by rfl) rfl ?_ ?_
    rotate_left
    ·go_simp
     rfl
    refine hK.out _ _ ?_
    clear hK K
    refine done_ (done_of HT_.out (by kernel_rfl)) ?_
    try go_wp2
    have n0_ : Aside0 (IsS138 w0 (w10.setCell ⟨g,2,none⟩ (.int .i64 (Int.tmod (wrap64 ((wrap64 ((wrap64 (s0_2 * 31)) + (wrap64 (rd s0_0 (ji3))))) + 7)) 2147483648))) g s0_0 (wrap64 (s0_1 + 1)) (Int.tmod (wrap64 ((wrap64 ((wrap64 (s0_2 * 31)) + (wrap64 (rd s0_0 (ji3))))) + 7)) 2147483648)) := ⟨(zi138 HI0)⟩
    have n1_ : Aside0 (KeepBut w (w10.setCell ⟨g,2,none⟩ (.int .i64 (Int.tmod (wrap64 ((wrap64 ((wrap64 (s0_2 * 31)) + (wrap64 (rd s0_0 (ji3))))) + 7)) 2147483648))) g none) := ⟨zh_ HK⟩
    have n2_ : Aside0 (Below w0.heap.size w0 (w10.setCell ⟨g,2,none⟩ (.int .i64 (Int.tmod (wrap64 ((wrap64 ((wrap64 (s0_2 * 31)) + (wrap64 (rd s0_0 (ji3))))) + 7)) 2147483648)))) := ⟨zl_ HB⟩
    (try clear HI0)
    (try clear HK)
    (try clear HB)
    generalize (w10.setCell ⟨g,2,none⟩ (.int .i64 (Int.tmod (wrap64 ((wrap64 ((wrap64 (s0_2 * 31)) + (wrap64 (rd s0_0 (ji3))))) + 7)) 2147483648))) = w13 at n0_ n1_ n2_ ⊢
    have HI0 := n0_
    have HK := n1_
    have HB := n2_
    clear n0_ n1_ n2_
    replace HI0 := am_ (IsS138.drew HI0.out)
    replace HK := am_ (keep_drew HK.out)
    replace HB := am_ (below_drew1 HB.out)
    obtain ⟨ASz15_0,cSz15_0,HGz15,hgz15,HSz15_0⟩ := HI0.out
    have hcz15_0 := cellS138_0 HGz15
    have hcz15_1 := cellS138_1 HGz15
    have hcz15_2 := cellS138_2 HGz15
    have hfz15_1 := blk_frozen HGz15 1
    have hfz15_2 := blk_frozen HGz15 2
    clear HGz15 hgz15
    have p424 : 0 ≤ ((ji3) : Int) := zo_
    have q424 : (ji3) < (s0_0.length : Int) := zo_
    obtain ⟨ad424,e424,hx424_0⟩ := Kd.at_int HSz15_0 (ji3) p424 q424
    have hw424_0 := hx424_0
    cases e424
    replace hx424_0 := pw_cell_below HB.out hx424_0
    replace p424 := eq_true p424
    replace q424 := eq_true q424
    refine start_ (n := 13) (S := fun w' => w'.cell? ⟨g,0,none⟩ = some (.slice (some ad424) s0_0.length cSz15_0) ∧ w'.cell? ⟨g,1,none⟩ = some (.int .i64 (wrap64 (s0_1 + 1))) ∧ w'.cell? ⟨g,2,none⟩ = some (.int .i64 (Int.tmod (wrap64 ((wrap64 ((wrap64 (s0_2 * 31)) + (wrap64 (rd s0_0 (ji3))))) + 7)) 2147483648)) ∧ w'.cell? (ad424.add ((ji3)).toNat) = some (.int .u8 (rd s0_0 (ji3)))) (ds := []) #[false,false,false,false,false,false,false,false,false,false,false,false,false] (by kernel_rfl) rfl rfl ⟨hcz15_0,hcz15_1,hcz15_2,((HB.out.cell (World.block_lt_of_cell? w0 _ hw424_0)).trans hw424_0)⟩ (fun hHeld => ?_);refine with_tabW spec_l00Src_byte.tab4 spec_l00Src_byte.bits4 (fun HT_ HW_ => ?_)
    generalize w13.drew = w14 at HI0 HK HB hx424_0 hHeld ⊢
    refine zpu 0 (N := some 43) HT_ ?_
    refine zpu 1 (N := some 44) HT_ ?_
    refine zpu 2 (N := some 45) HT_ ?_
    refine zpu 4 (N := some 47) HT_ ?_
    refine zpu 5 (N := some 48) HT_ ?_
    refine zpu 6 (N := some 49) HT_ ?_
    refine ztk 3 (N := some 46) HT_ HW_ hHeld ?_
    refine ztk 7 (N := some 50) HT_ HW_ hHeld ?_
    refine zpu 8 (N := some 51) HT_ ?_
    refine zpu 9 (N := some 52) HT_ ?_
    refine ztk 10 (N := some 53) HT_ HW_ hHeld ?_
    refine zpu 11 (N := some 54) HT_ ?_
    refine zpu 12 (N := some 2) HT_ ?_
    refine done_ (done_of HT_.out (by kernel_rfl)) ?_
    try go_wp2
    go_ret
    exact ⟨by first | rfl | (simp [e1_,e2_] <;> rfl) | (simp only [← hji3];first | rfl | (simp [e1_,e2_] <;> rfl)) | (simp [*,e1_,e2_] <;> rfl) | (simp [e3_,e4_];done) | (simp [*,e3_,e4_];done),(zi138 HI0),zl_ HB,zh_ HK⟩
   ·rw [if_neg c5] at H
    exact absurd H (by simp)
  ·rw [if_neg c4] at H
   exact absurd H (by simp)
 ·rw [if_neg c2] at H
  have c2b0 : decide ((wrap64 (s0_1 + 1)) ≤ (s0_0.length : Int)) = false := decide_eq_false c2
  clear c2
  by_cases c16 : (wrap64 (s0_1 + 1)) > 3000
  ·rw [if_pos c16] at H
   have c16b0 : decide (3000 < (wrap64 (s0_1 + 1))) = true := decide_eq_true c16
   clear c16
   simp only [Option.some.injEq,Prod.mk.injEq] at H
   obtain ⟨rfl,rfl,rfl⟩ := H
   obtain ⟨ASz17_0,cSz17_0,HGz17,hgz17,HSz17_0⟩ := HI0.out
   have hcz17_0 := cellS138_0 HGz17
   have hcz17_1 := cellS138_1 HGz17
   have hcz17_2 := cellS138_2 HGz17
   have hfz17_1 := blk_frozen HGz17 1
   have hfz17_2 := blk_frozen HGz17 2
   clear HGz17 hgz17
   go_enter Tryd.func169,Tryd.ntmps169
   try go_wp2
   have n0_ : Aside0 (IsS138 w0 (w.setCell ⟨g,1,none⟩ (.int .i64 (wrap64 (s0_1 + 1)))) g s0_0 (wrap64 (s0_1 + 1)) s0_2) := ⟨(zi138 HI0)⟩
   have n1_ : Aside0 (KeepBut w (w.setCell ⟨g,1,none⟩ (.int .i64 (wrap64 (s0_1 + 1)))) g none) := ⟨zh_ HK⟩
   have n2_ : Aside0 (Below w0.heap.size w0 (w.setCell ⟨g,1,none⟩ (.int .i64 (wrap64 (s0_1 + 1))))) := ⟨zl_ HB⟩
   (try clear HI0)
   (try clear HK)
   (try clear HB)
   generalize (w.setCell ⟨g,1,none⟩ (.int .i64 (wrap64 (s0_1 + 1)))) = w18 at n0_ n1_ n2_ ⊢
   have HI0 := n0_
   have HK := n1_
   have HB := n2_
   clear n0_ n1_ n2_
   replace HI0 := am_ (IsS138.drew HI0.out)
   replace HK := am_ (keep_drew HK.out)
   replace HB := am_ (below_drew1 HB.out)
   obtain ⟨ASz20_0,cSz20_0,HGz20,hgz20,HSz20_0⟩ := HI0.out
   have hcz20_0 := cellS138_0 HGz20
   have hcz20_1 := cellS138_1 HGz20
   have hcz20_2 := cellS138_2 HGz20
   have hfz20_1 := blk_frozen HGz20 1
   have hfz20_2 := blk_frozen HGz20 2
   clear HGz20 hgz20
   refine start_ (n := 10) (S := fun w' => w'.cell? ⟨g,0,none⟩ = some (.slice ASz20_0 s0_0.length cSz20_0) ∧ w'.cell? ⟨g,1,none⟩ = some (.int .i64 (wrap64 (s0_1 + 1))) ∧ w'.cell? ⟨g,2,none⟩ = some (.int .i64 s0_2)) (ds := []) #[false,false,false,false,false,false,false,false,false,false] (by kernel_rfl) rfl rfl ⟨hcz20_0,hcz20_1,hcz20_2⟩ (fun hHeld => ?_);refine with_tabW spec_l00Src_byte.tab2 spec_l00Src_byte.bits2 (fun HT_ HW_ => ?_)
   generalize w18.drew = w19 at HI0 HK HB hHeld ⊢
   refine zpu 0 (N := some 10) HT_ ?_
   refine zpu 1 (N := some 11) HT_ ?_
   refine zpu 2 (N := some 12) HT_ ?_
   refine zpu 4 (N := some 14) HT_ ?_
   refine zpu 5 (N := some 15) HT_ ?_
   refine zpu 6 (N := some 16) HT_ ?_
   refine ztk 3 (N := some 13) HT_ HW_ hHeld ?_
   refine ztk 7 (N := some 17) HT_ HW_ hHeld ?_
   refine zpu 8 (N := some 18) HT_ ?_
   refine zpu 9 (N := some 19) HT_ ?_
   refine done_ (done_of HT_.out (by kernel_rfl)) ?_
   obtain ⟨ASz21_0,cSz21_0,HGz21,hgz21,HSz21_0⟩ := HI0.out
   have hcz21_0 := cellS138_0 HGz21
   have hcz21_1 := cellS138_1 HGz21
   have hcz21_2 := cellS138_2 HGz21
   have hfz21_1 := blk_frozen HGz21 1
   have hfz21_2 := blk_frozen HGz21 2
   clear HGz21 hgz21
   try go_wp2
   go_ret
   exact ⟨zt_,(zi138 HI0),zl_ HB,zh_ HK⟩
  ·rw [if_neg c16] at H
   have c16b0 : decide (3000 < (wrap64 (s0_1 + 1))) = false := decide_eq_false c16
   clear c16
   simp only [Option.some.injEq,Prod.mk.injEq] at H
   obtain ⟨rfl,rfl,rfl⟩ := H
   obtain ⟨ASz22_0,cSz22_0,HGz22,hgz22,HSz22_0⟩ := HI0.out
   have hcz22_0 := cellS138_0 HGz22
   have hcz22_1 := cellS138_1 HGz22
   have hcz22_2 := cellS138_2 HGz22
   have hfz22_1 := blk_frozen HGz22 1
   have hfz22_2 := blk_frozen HGz22 2
   clear HGz22 hgz22
   go_enter Tryd.func169,Tryd.ntmps169
   try go_wp2
   have n0_ : Aside0 (IsS138 w0 (w.setCell ⟨g,1,none⟩ (.int .i64 (wrap64 (s0_1 + 1)))) g s0_0 (wrap64 (s0_1 + 1)) s0_2) := ⟨(zi138 HI0)⟩
   have n1_ : Aside0 (KeepBut w (w.setCell ⟨g,1,none⟩ (.int .i64 (wrap64 (s0_1 + 1)))) g none) := ⟨zh_ HK⟩
   have n2_ : Aside0 (Below w0.heap.size w0 (w.setCell ⟨g,1,none⟩ (.int .i64 (wrap64 (s0_1 + 1))))) := ⟨zl_ HB⟩
   (try clear HI0)
   (try clear HK)
   (try clear HB)
   generalize (w.setCell ⟨g,1,none⟩ (.int .i64 (wrap64 (s0_1 + 1)))) = w23 at n0_ n1_ n2_ ⊢
   have HI0 := n0_
   have HK := n1_
   have HB := n2_
   clear n0_ n1_ n2_
   replace HI0 := am_ (IsS138.drew HI0.out)
   replace HK := am_ (keep_drew HK.out)
   replace HB := am_ (below_drew1 HB.out)
   obtain ⟨ASz25_0,cSz25_0,HGz25,hgz25,HSz25_0⟩ := HI0.out
   have hcz25_0 := cellS138_0 HGz25
   have hcz25_1 := cellS138_1 HGz25
   have hcz25_2 := cellS138_2 HGz25
   have hfz25_1 := blk_frozen HGz25 1
   have hfz25_2 := blk_frozen HGz25 2
   clear HGz25 hgz25
   refine start_ (n := 10) (S := fun w' => w'.cell? ⟨g,0,none⟩ = some (.slice ASz25_0 s0_0.length cSz25_0) ∧ w'.cell? ⟨g,1,none⟩ = some (.int .i64 (wrap64 (s0_1 + 1))) ∧ w'.cell? ⟨g,2,none⟩ = some (.int .i64 s0_2)) (ds := []) #[false,false,false,false,false,false,false,false,false,false] (by kernel_rfl) rfl rfl ⟨hcz25_0,hcz25_1,hcz25_2⟩ (fun hHeld => ?_);refine with_tabW spec_l00Src_byte.tab2 spec_l00Src_byte.bits2 (fun HT_ HW_ => ?_)
   generalize w23.drew = w24 at HI0 HK HB hHeld ⊢
   refine zpu 0 (N := some 10) HT_ ?_
   refine zpu 1 (N := some 11) HT_ ?_
   refine zpu 2 (N := some 12) HT_ ?_
   refine zpu 4 (N := some 14) HT_ ?_
   refine zpu 5 (N := some 15) HT_ ?_
   refine zpu 6 (N := some 16) HT_ ?_
   refine ztk 3 (N := some 13) HT_ HW_ hHeld ?_
   refine ztk 7 (N := some 17) HT_ HW_ hHeld ?_
   refine zpu 8 (N := some 18) HT_ ?_
   refine zpu 9 (N := some 19) HT_ ?_
   refine done_ (done_of HT_.out (by kernel_rfl)) ?_
   obtain ⟨ASz26_0,cSz26_0,HGz26,hgz26,HSz26_0⟩ := HI0.out
   have hcz26_0 := cellS138_0 HGz26
   have hcz26_1 := cellS138_1 HGz26
   have hcz26_2 := cellS138_2 HGz26
   have hfz26_1 := blk_frozen HGz26 1
   have hfz26_2 := blk_frozen HGz26 2
   clear HGz26 hgz26
   try go_wp2
   go_ret
   exact ⟨zt_,(zi138 HI0),zl_ HB,zh_ HK⟩
set_option maxHeartbeats 8000000 in
set_option maxRecDepth 100000 in
theorem spec_l00Src_next.calls (g : Nat) (s0_0 : List Int) (s0_1 : Int) (s0_2 : Int) (a1 : Int) (r1 : Int) (r2 : Int) (r3 : Int) (w0 w : World) (hI : IsS138 w0 w g s0_0 s0_1 s0_2) (hB : Below w0.heap.size w0 w) (h : spec_l00Src_next.f s0_0 s0_1 s0_2 a1 = some (r1,r2,r3)) :
  Calls Tryd.prog 122 #[.pointer (some ⟨g,0,none⟩),.int .i64 a1] w fun e w' => e = .returned (.int .i64 r1) ∧ IsS138 w0 w' g s0_0 r2 r3 ∧ Below w0.heap.size w0 w' ∧ KeepBut w w' g none := by
 have HI0 := am_ hI
 have HK := am_ (KeepBut.refl w g none)
 have HL := am_ hB.size
 clear hI
 have HW0 := am_ hB.size
 have HB := am_ hB
 clear hB
 have H : (if a1 ≤ 1 then (some (0,s0_1,s0_2)) else (if a1 ≤ 256 then ((spec_l00Src_byte.f s0_0 s0_1 s0_2).bind fun bt425 => (if a1 = 0 then (none) else (some (Int.tmod bt425.1 a1,bt425.2.1,bt425.2.2)))) else ((spec_l00Src_byte.f s0_0 s0_1 s0_2).bind fun bt428 => ((spec_l00Src_byte.f s0_0 bt428.2.1 bt428.2.2).bind fun bt431 => ((spec_l00Src_byte.f s0_0 bt431.2.1 bt431.2.2).bind fun bt434 => (if a1 = 0 then (none) else (some (Int.tmod (wrap64 ((wrap64 ((wrap64 (bt428.1 * 65536)) + (wrap64 (bt431.1 * 256)))) + bt434.1)) a1,bt434.2.1,bt434.2.2)))))))) = some (r1,r2,r3) := h
 clear h
 by_cases c3 : a1 ≤ 1
 ·rw [if_pos c3] at H
  have c3b0 : decide (a1 ≤ 1) = true := decide_eq_true c3
  clear c3
  simp only [Option.some.injEq,Prod.mk.injEq] at H
  obtain ⟨rfl,rfl,rfl⟩ := H
  go_enter Tryd.func122,Tryd.ntmps122
  go_wp2
  go_ret
  exact ⟨zt_,(zi138 HI0),zl_ HB,zh_ HK⟩
 ·rw [if_neg c3] at H
  have c3b0 : decide (a1 ≤ 1) = false := decide_eq_false c3
  clear c3
  by_cases c4 : a1 ≤ 256
  ·rw [if_pos c4] at H
   have c4b0 : decide (a1 ≤ 256) = true := decide_eq_true c4
   clear c4
   replace H := Option.bind_eq_some_iff.mp H
   obtain ⟨⟨t425,t426,t427⟩,A50,H⟩ := H
   try dsimp only at H
   have A5 := am_ A50
   clear A50
   by_cases c6 : a1 = 0
   ·rw [if_pos c6] at H
    exact absurd H (by simp)
   ·rw [if_neg c6] at H
    have c6b0 : (a1 == 0) = false := beq_eq_false_iff_ne.mpr c6
    have c6b1 : (a1 != 0) = true := bne_iff_ne.mpr c6
    simp only [Option.some.injEq,Prod.mk.injEq] at H
    obtain ⟨rfl,rfl,rfl⟩ := H
    go_enter Tryd.func122,Tryd.ntmps122
    go_wp2_with (first | ((with_reducible refine gate_callee (f := 169) rfl ?_);refine zgl (some 13) Tryd.func169 #[.pointer (some ⟨g,0,none⟩)] ?_;(with_reducible refine (spec_l00Src_byte.calls g s0_0 s0_1 s0_2 t425 t426 t427 w0 _ ?side1 ?side2 A5.out).mono ?_);(case side1 => exact zi138 HI0);(case side2 => exact zl_ HB);rintro e w7 ⟨rfl,hi,hb,hk⟩;refine ⟨_,rfl,?_⟩;replace HK := am_ (KeepBut.trans (zh_ HK) hk (.inl rfl));replace HB := am_ (hb);replace HI0 := am_ (hi);(try clear hb);(try clear hb2);(try clear hk);(try clear hi)))
    go_ret
    exact ⟨zt_,(zi138 HI0),zl_ HB,zh_ HK⟩
  ·rw [if_neg c4] at H
   have c4b0 : decide (a1 ≤ 256) = false := decide_eq_false c4
   clear c4
   replace H := Option.bind_eq_some_iff.mp H
   obtain ⟨⟨t428,t429,t430⟩,A80,H⟩ := H
   try dsimp only at H
   have A8 := am_ A80
   clear A80
   replace H := Option.bind_eq_some_iff.mp H
   obtain ⟨⟨t431,t432,t433⟩,A90,H⟩ := H
   try dsimp only at H
   have A9 := am_ A90
   clear A90
   replace H := Option.bind_eq_some_iff.mp H
   obtain ⟨⟨t434,t435,t436⟩,A100,H⟩ := H
   try dsimp only at H
   have A10 := am_ A100
   clear A100
   by_cases c11 : a1 = 0
   ·rw [if_pos c11] at H
    exact absurd H (by simp)
   ·rw [if_neg c11] at H
    have c11b0 : (a1 == 0) = false := beq_eq_false_iff_ne.mpr c11
    have c11b1 : (a1 != 0) = true := bne_iff_ne.mpr c11
    simp only [Option.some.injEq,Prod.mk.injEq] at H
    obtain ⟨rfl,rfl,rfl⟩ := H
    go_enter Tryd.func122,Tryd.ntmps122
    go_wp2_with (first | ((with_reducible refine gate_callee (f := 169) rfl ?_);refine zgl (some 17) Tryd.func169 #[.pointer (some ⟨g,0,none⟩)] ?_;(with_reducible refine (spec_l00Src_byte.calls g s0_0 s0_1 s0_2 t428 t429 t430 w0 _ ?side1 ?side2 A8.out).mono ?_);(case side1 => exact zi138 HI0);(case side2 => exact zl_ HB);rintro e w12 ⟨rfl,hi,hb,hk⟩;refine ⟨_,rfl,?_⟩;replace HK := am_ (KeepBut.trans (zh_ HK) hk (.inl rfl));replace HB := am_ (hb);replace HI0 := am_ (hi);(try clear hb);(try clear hb2);(try clear hk);(try clear hi)) | ((with_reducible refine gate_callee (f := 169) rfl ?_);refine zgl (some 19) Tryd.func169 #[.pointer (some ⟨g,0,none⟩)] ?_;(with_reducible refine (spec_l00Src_byte.calls g s0_0 t429 t430 t431 t432 t433 w0 _ ?side1 ?side2 A9.out).mono ?_);(case side1 => exact zi138 HI0);(case side2 => exact zl_ HB);rintro e w13 ⟨rfl,hi,hb,hk⟩;refine ⟨_,rfl,?_⟩;replace HK := am_ (KeepBut.trans (zh_ HK) hk (.inl rfl));replace HB := am_ (hb);replace HI0 := am_ (hi);(try clear hb);(try clear hb2);(try clear hk);(try clear hi)) | ((with_reducible refine gate_callee (f := 169) rfl ?_);refine zgl (some 21) Tryd.func169 #[.pointer (some ⟨g,0,none⟩)] ?_;(with_reducible refine (spec_l00Src_byte.calls g s0_0 t432 t433 t434 t435 t436 w0 _ ?side1 ?side2 A10.out).mono ?_);(case side1 => exact zi138 HI0);(case side2 => exact zl_ HB);rintro e w14 ⟨rfl,hi,hb,hk⟩;refine ⟨_,rfl,?_⟩;replace HK := am_ (KeepBut.trans (zh_ HK) hk (.inl rfl));replace HB := am_ (hb);replace HI0 := am_ (hi);(try clear hb);(try clear hb2);(try clear hk);(try clear hi)))
    go_ret
    exact ⟨zt_,(zi138 HI0),zl_ HB,zh_ HK⟩
set_option maxHeartbeats 8000000 in
set_option maxRecDepth 100000 in
theorem spec_l00Src_chance.calls (g : Nat) (s0_0 : List Int) (s0_1 : Int) (s0_2 : Int) (a1 : Int) (r1 : Bool) (r2 : Int) (r3 : Int) (w0 w : World) (hI : IsS138 w0 w g s0_0 s0_1 s0_2) (hB : Below w0.heap.size w0 w) (h : spec_l00Src_chance.f s0_0 s0_1 s0_2 a1 = some (r1,r2,r3)) :
  Calls Tryd.prog 174 #[.pointer (some ⟨g,0,none⟩),.int .i64 a1] w fun e w' => e = .returned (.bool r1) ∧ IsS138 w0 w' g s0_0 r2 r3 ∧ Below w0.heap.size w0 w' ∧ KeepBut w w' g none := by
 have HI0 := am_ hI
 have HK := am_ (KeepBut.refl w g none)
 have HL := am_ hB.size
 clear hI
 have HW0 := am_ hB.size
 have HB := am_ hB
 clear hB
 have H : ((spec_l00Src_next.f s0_0 s0_1 s0_2 a1).bind fun bt496 => (some ((bt496.1 == (wrap64 (a1 - 1))),bt496.2.1,bt496.2.2))) = some (r1,r2,r3) := h
 clear h
 replace H := Option.bind_eq_some_iff.mp H
 obtain ⟨⟨t496,t497,t498⟩,A30,H⟩ := H
 try dsimp only at H
 have A3 := am_ A30
 clear A30
 simp only [Option.some.injEq,Prod.mk.injEq] at H
 obtain ⟨rfl,rfl,rfl⟩ := H
 go_enter Tryd.func174,Tryd.ntmps174
 go_wp2_with (first | ((with_reducible refine gate_callee (f := 122) rfl ?_);refine zgl (some 7) Tryd.func122 #[.pointer (some ⟨g,0,none⟩),.int .i64 a1] ?_;(with_reducible refine (spec_l00Src_next.calls g s0_0 s0_1 s0_2 a1 t496 t497 t498 w0 _ ?side1 ?side2 A3.out).mono ?_);(case side1 => exact zi138 HI0);(case side2 => exact zl_ HB);rintro e w4 ⟨rfl,hi,hb,hk⟩;refine ⟨_,rfl,?_⟩;replace HK := am_ (KeepBut.trans (zh_ HK) hk (.inl rfl));replace HB := am_ (hb);replace HI0 := am_ (hi);(try clear hb);(try clear hb2);(try clear hk);(try clear hi)))
 go_ret
 exact ⟨zt_,(zi138 HI0),zl_ HB,zh_ HK⟩
set_option maxHeartbeats 8000000 in
set_option maxRecDepth 100000 in
theorem spec_l00Src_pick.calls (g : Nat) (s0_0 : List Int) (s0_1 : Int) (s0_2 : Int) (A1 : Option Addr) (c1 : Nat) (l1 : List ByteArray) (r1 : ByteArray) (r2 : Int) (r3 : Int) (w0 w : World) (hI : IsS138 w0 w g s0_0 s0_1 s0_2) (hB : Below w0.heap.size w0 w) (hr1 : Kd.C Kd.string w A1 l1.length l1) (hc1 : l1.length ≤ c1) (hf1 : ∀ ad,A1 = some ad → 0 < l1.length → ad.block ≠ g) (h : spec_l00Src_pick.f s0_0 s0_1 s0_2 l1 = some (r1,r2,r3)) :
  Calls Tryd.prog 198 #[.pointer (some ⟨g,0,none⟩),.slice A1 l1.length c1] w fun e w' => e = .returned (.string r1) ∧ IsS138 w0 w' g s0_0 r2 r3 ∧ Below w0.heap.size w0 w' ∧ KeepBut w w' g none := by
 have HR1 := am_ hr1
 have HC1 := am_ hc1
 clear hr1 hc1
 have HI0 := am_ hI
 have HK := am_ (KeepBut.refl w g none)
 have HL := am_ hB.size
 clear hI
 have HW0 := am_ hB.size
 have HB := am_ hB
 clear hB
 have H : (if (l1.length : Int) = 0 then (some ((⟨#[]⟩ : ByteArray),s0_1,s0_2)) else ((spec_l00Src_next.f s0_0 s0_1 s0_2 (l1.length : Int)).bind fun bt499 => (if 0 ≤ bt499.1 then (if bt499.1 < (l1.length : Int) then (some (rdOf ByteArray.empty l1 bt499.1,bt499.2.1,bt499.2.2)) else (none)) else (none)))) = some (r1,r2,r3) := h
 clear h
 by_cases c3 : (l1.length : Int) = 0
 ·rw [if_pos c3] at H
  have c3b0 : ((l1.length : Int) == 0) = true := beq_iff_eq.mpr c3
  have c3b1 : ((l1.length : Int) != 0) = false := bne_eq_false_iff_eq.mpr c3
  clear c3
  simp only [Option.some.injEq,Prod.mk.injEq] at H
  obtain ⟨rfl,rfl,rfl⟩ := H
  go_enter Tryd.func198,Tryd.ntmps198
  go_wp2
  go_ret
  exact ⟨zt_,(zi138 HI0),zl_ HB,zh_ HK⟩
 ·rw [if_neg c3] at H
  have c3b0 : ((l1.length : Int) == 0) = false := beq_eq_false_iff_ne.mpr c3
  have c3b1 : ((l1.length : Int) != 0) = true := bne_iff_ne.mpr c3
  have c3b2 : ¬ (l1 = []) := fun h_ => c3 (by rw [h_];rfl)
  replace H := Option.bind_eq_some_iff.mp H
  obtain ⟨⟨t499,t500,t501⟩,A40,H⟩ := H
  try dsimp only at H
  have A4 := am_ A40
  clear A40
  by_cases c5 : 0 ≤ t499
  ·rw [if_pos c5] at H
   have c5b0 : decide (0 ≤ t499) = true := decide_eq_true c5
   clear c5
   by_cases c6 : t499 < (l1.length : Int)
   ·rw [if_pos c6] at H
    have c6b0 : decide (t499 < (l1.length : Int)) = true := decide_eq_true c6
    clear c6
    simp only [Option.some.injEq,Prod.mk.injEq] at H
    obtain ⟨rfl,rfl,rfl⟩ := H
    go_enter Tryd.func198,Tryd.ntmps198
    go_wp2_with (first | ((with_reducible refine gate_callee (f := 122) rfl ?_);refine zgl (some 12) Tryd.func122 #[.pointer (some ⟨g,0,none⟩),.int .i64 (l1.length : Int)] ?_;(with_reducible refine (spec_l00Src_next.calls g s0_0 s0_1 s0_2 (l1.length : Int) t499 t500 t501 w0 _ ?side1 ?side2 A4.out).mono ?_);(case side1 => exact zi138 HI0);(case side2 => exact zl_ HB);rintro e w7 ⟨rfl,hi,hb,hk⟩;refine ⟨_,rfl,?_⟩;replace HK := am_ (KeepBut.trans (zh_ HK) hk (.inl rfl));replace HB := am_ (hb);replace HI0 := am_ (hi);(try clear hb);(try clear hb2);(try clear hk);(try clear hi);have p502 : 0 ≤ (t499 : Int) := zo_;have q502 : t499 < (l1.length : Int) := zo_;obtain ⟨ad502,e502,hx502_0⟩ := Kd.at_string HR1.out t499 p502 q502;cases e502;replace hx502_0 := keep_cell HK.out hx502_0 (by first | (rw [add_block];exact hf1 _ rfl (by omega)) | exact hf1 _ rfl (by omega) | exact hf1 ad502 rfl (by omega));replace p502 := eq_true p502;replace q502 := eq_true q502))
    go_ret
    exact ⟨zt_,(zi138 HI0),zl_ HB,zh_ HK⟩
   ·rw [if_neg c6] at H
    exact absurd H (by simp)
  ·rw [if_neg c5] at H
   exact absurd H (by simp)
set_option maxHeartbeats 8000000 in
set_option maxRecDepth 100000 in
theorem spec_l00Src_request.calls (g : Nat) (s0_0 : List Int) (s0_1 : Int) (s0_2 : Int) (r1 : Int) (r2 : Int) (r3 : Int) (r4 : Int) (r5 : ByteArray) (r6 : Int) (r7 : Int) (w0 w : World) (hI : IsS138 w0 w g s0_0 s0_1 s0_2) (hB : Below w0.heap.size w0 w) (h : spec_l00Src_request.f s0_0 s0_1 s0_2 = some (r1,r2,r3,r4,r5,r6,r7)) :
  Calls Tryd.prog 175 #[.pointer (some ⟨g,0,none⟩)] w fun e w' => e = .returned (.agg #[.int .i64 r1,.int .i64 r2,.int .i64 r3,.int .i64 r4,.string r5]) ∧ IsS138 w0 w' g s0_0 r6 r7 ∧ Below w0.heap.size w0 w' ∧ KeepBut w w' g none := by
 have hu141 := Tryd.underlying141
 have HI0 := am_ hI
 have HK := am_ (KeepBut.refl w g none)
 have HL := am_ hB.size
 clear hI
 have HW0 := am_ hB.size
 have HB := am_ hB
 clear hB
 have H : ((spec_l00Src_next.f s0_0 s0_1 s0_2 3).bind fun bt504 => ((spec_l00Src_next.f s0_0 bt504.2.1 bt504.2.2 5).bind fun bt507 => ((spec_l00Src_next.f s0_0 bt507.2.1 bt507.2.2 4).bind fun bt510 => ((spec_l00Src_pick.f s0_0 bt510.2.1 bt510.2.2 (([(⟨#[97]⟩ : ByteArray),(⟨#[98]⟩ : ByteArray),(⟨#[108,111,99,107]⟩ : ByteArray)] : List ByteArray))).bind fun bt516 => (if (wrap64 (1 + bt510.1)) = 1 then ((spec_l00Src_next.f s0_0 bt516.2.1 bt516.2.2 30).bind fun bt520 => (some (bt504.1,wrap64 (1 + bt507.1),wrap64 (1 + bt510.1),wrap64 (1 + bt520.1),bt516.1,bt520.2.1,bt520.2.2))) else (if (wrap64 (1 + bt510.1)) = 3 then ((spec_l00Src_next.f s0_0 bt516.2.1 bt516.2.2 30).bind fun bt523 => (some (bt504.1,wrap64 (1 + bt507.1),wrap64 (1 + bt510.1),wrap64 (1 + bt523.1),bt516.1,bt523.2.1,bt523.2.2))) else (some (bt504.1,wrap64 (1 + bt507.1),wrap64 (1 + bt510.1),0,bt516.1,bt516.2.1,bt516.2.2)))))))) = some (r1,r2,r3,r4,r5,r6,r7) := h
 clear h
 replace H := Option.bind_eq_some_iff.mp H
 obtain ⟨⟨t504,t505,t506⟩,A20,H⟩ := H
 try dsimp only at H
 have A2 := am_ A20
 clear A20
 replace H := Option.bind_eq_some_iff.mp H
 obtain ⟨⟨t507,t508,t509⟩,A30,H⟩ := H
 try dsimp only at H
 have A3 := am_ A30
 clear A30
 replace H := Option.bind_eq_some_iff.mp H
 obtain ⟨⟨t510,t511,t512⟩,A40,H⟩ := H
 try dsimp only at H
 have A4 := am_ A40
 clear A40
 obtain ⟨y513,hy513⟩ : ∃ y_ : List ByteArray,y_ = (([(⟨#[97]⟩ : ByteArray),(⟨#[98]⟩ : ByteArray),(⟨#[108,111,99,107]⟩ : ByteArray)] : List ByteArray)) := ⟨_,rfl⟩
 replace H : ((spec_l00Src_pick.f s0_0 t511 t512 y513).bind fun bt516 => (if (wrap64 (1 + t510)) = 1 then ((spec_l00Src_next.f s0_0 bt516.2.1 bt516.2.2 30).bind fun bt520 => (some (t504,wrap64 (1 + t507),wrap64 (1 + t510),wrap64 (1 + bt520.1),bt516.1,bt520.2.1,bt520.2.2))) else (if (wrap64 (1 + t510)) = 3 then ((spec_l00Src_next.f s0_0 bt516.2.1 bt516.2.2 30).bind fun bt523 => (some (t504,wrap64 (1 + t507),wrap64 (1 + t510),wrap64 (1 + bt523.1),bt516.1,bt523.2.1,bt523.2.2))) else (some (t504,wrap64 (1 + t507),wrap64 (1 + t510),0,bt516.1,bt516.2.1,bt516.2.2))))) = some (r1,r2,r3,r4,r5,r6,r7) := by first | (rw [hy513];with_reducible exact H) | (have H2_ := (Option.bind_some _ _).symm.trans H;rw [hy513];with_reducible exact H2_) | (have H2_ := (Option.bind_some _ _).symm.trans H;with_reducible exact H2_) | with_reducible exact H | (rw [hy513];exact H) | exact H
 have Ny513 := am_ hy513
 clear hy513
 replace H := Option.bind_eq_some_iff.mp H
 obtain ⟨⟨t516,t517,t518⟩,A50,H⟩ := H
 try dsimp only at H
 have A5 := am_ A50
 clear A50
 by_cases c6 : (wrap64 (1 + t510)) = 1
 ·rw [if_pos c6] at H
  have c6b0 : ((wrap64 (1 + t510)) == 1) = true := beq_iff_eq.mpr c6
  have c6b1 : ((wrap64 (1 + t510)) != 1) = false := bne_eq_false_iff_eq.mpr c6
  clear c6
  replace H := Option.bind_eq_some_iff.mp H
  obtain ⟨⟨t520,t521,t522⟩,A70,H⟩ := H
  try dsimp only at H
  have A7 := am_ A70
  clear A70
  simp only [Option.some.injEq,Prod.mk.injEq] at H
  obtain ⟨rfl,rfl,rfl,rfl,rfl,rfl,rfl⟩ := H
  go_enter Tryd.func175,Tryd.ntmps175
  go_wp2_with (first | ((with_reducible refine gate_dst (N := 2) rfl ?_);refine zbx (N := 2) (cs := #[.int .i64 0,.int .i64 0,.int .i64 0,.int .i64 0,.string ⟨#[]⟩]) (t := 141) ?_;intro gb503 hg w8 hbox hb;replace HB := zs_ HB hb;have BK503 := am_ (hbox);have GW503 := am_ ((by rw [hg];exact (keep_size (w := w) (g := g) (row := none) (zh_ HK)) : w.heap.size ≤ gb503));have GE503 := am_ ((Nat.le_trans HW0.out (by rw [hg];exact (keep_size (w := w) (g := g) (row := none) (zh_ HK)) : w.heap.size ≤ gb503) : w0.heap.size ≤ gb503));replace HK := am_ (KeepBut.trans (zh_ HK) (KeepBut.of_below hb g none) (.inl rfl));have NB0_503 := am_ ((by rw [hg];exact Nat.ne_of_lt (IsS138.lt (show IsS138 w0 _ g s0_0 s0_1 s0_2 from (zi138 HI0))) : g ≠ gb503));have NB503_0 := am_ ((by rw [hg];exact Nat.ne_of_gt (IsS138.lt (show IsS138 w0 _ g s0_0 s0_1 s0_2 from (zi138 HI0))) : gb503 ≠ g));replace HI0 := am_ (IsS138.below (zi138 HI0) hb);clear hb hbox hg) | ((with_reducible refine gate_callee (f := 122) rfl ?_);refine zgl (some 5) Tryd.func122 #[.pointer (some ⟨g,0,none⟩),.int .i64 3] ?_;(with_reducible refine (spec_l00Src_next.calls g s0_0 s0_1 s0_2 3 t504 t505 t506 w0 _ ?side1 ?side2 A2.out).mono ?_);(case side1 => exact zi138 HI0);(case side2 => exact zl_ HB);rintro e w9 ⟨rfl,hi,hb,hk⟩;refine ⟨_,rfl,?_⟩;replace BK503 := zkb hk BK503 NB503_0;replace HK := am_ (KeepBut.trans (zh_ HK) hk (.inl rfl));replace HB := am_ (hb);replace HI0 := am_ (hi);(try clear hb);(try clear hb2);(try clear hk);(try clear hi)) | ((with_reducible refine gate_callee (f := 122) rfl ?_);refine zgl (some 7) Tryd.func122 #[.pointer (some ⟨g,0,none⟩),.int .i64 5] ?_;(with_reducible refine (spec_l00Src_next.calls g s0_0 t505 t506 5 t507 t508 t509 w0 _ ?side1 ?side2 A3.out).mono ?_);(case side1 => exact zi138 HI0);(case side2 => exact zl_ HB);rintro e w10 ⟨rfl,hi,hb,hk⟩;refine ⟨_,rfl,?_⟩;replace BK503 := zkb hk BK503 NB503_0;replace HK := am_ (KeepBut.trans (zh_ HK) hk (.inl rfl));replace HB := am_ (hb);replace HI0 := am_ (hi);(try clear hb);(try clear hb2);(try clear hk);(try clear hi)) | ((with_reducible refine gate_callee (f := 122) rfl ?_);refine zgl (some 10) Tryd.func122 #[.pointer (some ⟨g,0,none⟩),.int .i64 4] ?_;(with_reducible refine (spec_l00Src_next.calls g s0_0 t508 t509 4 t510 t511 t512 w0 _ ?side1 ?side2 A4.out).mono ?_);(case side1 => exact zi138 HI0);(case side2 => exact zl_ HB);rintro e w11 ⟨rfl,hi,hb,hk⟩;refine ⟨_,rfl,?_⟩;replace BK503 := zkb hk BK503 NB503_0;replace HK := am_ (KeepBut.trans (zh_ HK) hk (.inl rfl));replace HB := am_ (hb);replace HI0 := am_ (hi);(try clear hb);(try clear hb2);(try clear hk);(try clear hi)) | ((with_reducible refine gate_dst (N := 13) rfl ?_);refine Kd.R_lit Kd.string _ 9 ?hg (N := 13) ?hd (xs := ([(⟨#[97]⟩ : ByteArray),(⟨#[98]⟩ : ByteArray),(⟨#[108,111,99,107]⟩ : ByteArray)] : List ByteArray)) (inner := [.string ⟨#[97]⟩,.string ⟨#[98]⟩,.string ⟨#[108,111,99,107]⟩]) (ok := fun _ => True) (okp := fun _ => True) ?hr ?hp (fun _ hk => hk) trivial (Below.refl _ _) (Nat.le_refl _) (by simp) ?_;(case hd => rfl);(case hg => rfl);(case hr => first | (go_simp;done) | (go_simp;rfl));(case hp => exact (Reps.one (show Kd.M Kd.string _ _ _ (⟨#[97]⟩ : ByteArray) [.string ⟨#[97]⟩] from rfl) (Reps.one (show Kd.M Kd.string _ _ _ (⟨#[98]⟩ : ByteArray) [.string ⟨#[98]⟩] from rfl) (Reps.one (show Kd.M Kd.string _ _ _ (⟨#[108,111,99,107]⟩ : ByteArray) [.string ⟨#[108,111,99,107]⟩] from rfl) (Reps.none _ _)))));intro v514 w12 ho13 hb hg_ hnew_;clear hg_ hnew_;(first | rw [← Ny513.out] at ho13 | (simp only [Int.reduceToNat] at ho13;rw [← Ny513.out] at ho13));have HO515 := am_ (Kd.R_lower ho13 (keep_size (w := w) (g := g) (row := none) (zh_ HK)));replace HI0 := am_ (IsS138.below (zi138 HI0) hb);replace BK503 := zb BK503 hb;replace HK := am_ (KeepBut.trans (zh_ HK) (KeepBut.of_below hb g none) (.inl rfl));replace HB := zs_ HB hb;clear hb ho13;obtain ⟨Ao14,co14,eo14⟩ := Kd.R_slice HO515.out;subst eo14) | ((with_reducible refine gate_callee (f := 198) rfl ?_);refine zgl (some 14) Tryd.func198 #[.pointer (some ⟨g,0,none⟩),.slice Ao14 y513.length co14] ?_;(with_reducible refine (spec_l00Src_pick.calls g s0_0 t511 t512 _ _ y513 t516 t517 t518 w0 _ ?side1 ?side2 ?side3 ?side4 ?side5 A5.out).mono ?_);(case side1 => exact zi138 HI0);(case side2 => exact zl_ HB);(case side3 => repeat (first | exact (Kd.R_reads' HO515.out).2.2 | (with_reducible refine Kd.C_alloc ?_ _) | (with_reducible refine Kd.C_drewN ?_ _) | (with_reducible refine Kd.C_drew ?_)));(case side4 => exact (Kd.R_reads' HO515.out).2.1);(case side5 => exact far_slice (IsS138.own_ne HI0.out HO515.out (by decide)));rintro e w15 ⟨rfl,hi,hb,hk⟩;refine ⟨_,rfl,?_⟩;replace BK503 := zkb hk BK503 NB503_0;replace HO515 := am_ (Kd.R_mono (Kd.R_keep (IsS138.apart (show IsS138 w0 _ g s0_0 t511 t512 from (zi138 HI0)) (zr HO515) (by decide)) hk (fun _ h => h.2)) (fun _ h => h.1));replace HK := am_ (KeepBut.trans (zh_ HK) hk (.inl rfl));replace HB := am_ (hb);replace HI0 := am_ (hi);(try clear hb);(try clear hb2);(try clear hk);(try clear hi)) | ((with_reducible refine gate_dst (N := 3) rfl ?_);refine zbx (N := 3) (cs := #[.int .i64 0,.int .i64 0,.int .i64 0,.int .i64 0,.string ⟨#[]⟩]) (t := 141) ?_;intro gb519 hg w16 hbox hb;replace HO515 := zrb HO515 hb;replace HB := zs_ HB hb;have BK519 := am_ (hbox);have GW519 := am_ ((by rw [hg];exact (keep_size (w := w) (g := g) (row := none) (zh_ HK)) : w.heap.size ≤ gb519));have GE519 := am_ ((Nat.le_trans HW0.out (by rw [hg];exact (keep_size (w := w) (g := g) (row := none) (zh_ HK)) : w.heap.size ≤ gb519) : w0.heap.size ≤ gb519));replace HK := am_ (KeepBut.trans (zh_ HK) (KeepBut.of_below hb g none) (.inl rfl));have NB503_519 := zl hg BK503;have NB519_503 := zg hg BK503;replace BK503 := zb BK503 hb;have NB0_519 := am_ ((by rw [hg];exact Nat.ne_of_lt (IsS138.lt (show IsS138 w0 _ g s0_0 t517 t518 from (zi138 HI0))) : g ≠ gb519));have NB519_0 := am_ ((by rw [hg];exact Nat.ne_of_gt (IsS138.lt (show IsS138 w0 _ g s0_0 t517 t518 from (zi138 HI0))) : gb519 ≠ g));replace HI0 := am_ (IsS138.below (zi138 HI0) hb);clear hb hbox hg;have hnb17 := NB519_503.out;have hnc17 := NB503_519.out;have hnb18 := NB519_0.out;have hnc18 := NB0_519.out;obtain ⟨hcz19_0,hcz19_1,hcz19_2,hcz19_3,hcz19_4,hfz19_0,hfz19_1,hfz19_2,hfz19_3,hfz19_4⟩ := zc5 BK519) | ((with_reducible refine gate_callee (f := 122) rfl ?_);refine zgl (some 25) Tryd.func122 #[.pointer (some ⟨g,0,none⟩),.int .i64 30] ?_;(with_reducible refine (spec_l00Src_next.calls g s0_0 t517 t518 30 t520 t521 t522 w0 _ ?side1 ?side2 A7.out).mono ?_);(case side1 => exact zi138 HI0);(case side2 => exact zl_ HB);rintro e w20 ⟨rfl,hi,hb,hk⟩;refine ⟨_,rfl,?_⟩;replace BK503 := am_ (KeepBut.blk hk (g' := gb503) (o := .cells #[.int .i64 0,.int .i64 0,.int .i64 0,.int .i64 0,.string ⟨#[]⟩] 141 (0,0)) (zq BK503) NB503_0.out (by simp));replace HO515 := am_ (Kd.R_mono (Kd.R_keep (IsS138.apart (show IsS138 w0 _ g s0_0 t517 t518 from (zi138 HI0)) (by (with_reducible repeat (first | apply r1_ | apply r2_ | apply r3_));exact (Kd.R_mono (zrf (Kd.R_types HO515.out BK519.out (by decide))) (fun _ h_ => h_.1))) (by decide)) hk (fun _ h => h.2)) (fun _ h => h.1));replace BK519 := am_ (KeepBut.blk hk (g' := gb519) (o := .cells #[.int .i64 t504,.int .i64 (wrap64 (1 + t507)),.int .i64 (wrap64 (1 + t510)),.int .i64 0,.string t516] 141 (0,0)) (zq BK519) NB519_0.out (by simp));replace HK := am_ (KeepBut.trans (zh_ HK) hk (.inl rfl));replace HB := am_ (hb);replace HI0 := am_ (hi);(try clear hb);(try clear hb2);(try clear hk);(try clear hi);obtain ⟨hcz21_0,hcz21_1,hcz21_2,hcz21_3,hcz21_4,hfz21_0,hfz21_1,hfz21_2,hfz21_3,hfz21_4⟩ := zc5 BK519;have hnb22 := NB503_0.out;have hnc22 := NB0_503.out;obtain ⟨hcz23_0,hcz23_1,hcz23_2,hcz23_3,hcz23_4,hfz23_0,hfz23_1,hfz23_2,hfz23_3,hfz23_4⟩ := zc5 BK503))
  refine bodyPost_ret (results_cell_row rfl _ _ gb503 141 #[.int .i64 t504,.int .i64 (wrap64 (1 + t507)),.int .i64 (wrap64 (1 + t510)),.int .i64 (wrap64 (1 + t520)),.string t516] (0,0) _ rfl (zq BK503) Tryd.underlying141 rfl (by kernel_rfl)) rfl ?_
  exact ⟨zt_,(zi138 HI0),zl_ HB,zh_ HK⟩
 ·rw [if_neg c6] at H
  have c6b0 : ((wrap64 (1 + t510)) == 1) = false := beq_eq_false_iff_ne.mpr c6
  have c6b1 : ((wrap64 (1 + t510)) != 1) = true := bne_iff_ne.mpr c6
  by_cases c24 : (wrap64 (1 + t510)) = 3
  ·rw [if_pos c24] at H
   have c24b0 : ((wrap64 (1 + t510)) == 3) = true := beq_iff_eq.mpr c24
   have c24b1 : ((wrap64 (1 + t510)) != 3) = false := bne_eq_false_iff_eq.mpr c24
   clear c24
   replace H := Option.bind_eq_some_iff.mp H
   obtain ⟨⟨t523,t524,t525⟩,A250,H⟩ := H
   try dsimp only at H
   have A25 := am_ A250
   clear A250
   simp only [Option.some.injEq,Prod.mk.injEq] at H
   obtain ⟨rfl,rfl,rfl,rfl,rfl,rfl,rfl⟩ := H
   go_enter Tryd.func175,Tryd.ntmps175
   go_wp2_with (first | ((with_reducible refine gate_dst (N := 2) rfl ?_);refine zbx (N := 2) (cs := #[.int .i64 0,.int .i64 0,.int .i64 0,.int .i64 0,.string ⟨#[]⟩]) (t := 141) ?_;intro gb503 hg w26 hbox hb;replace HB := zs_ HB hb;have BK503 := am_ (hbox);have GW503 := am_ ((by rw [hg];exact (keep_size (w := w) (g := g) (row := none) (zh_ HK)) : w.heap.size ≤ gb503));have GE503 := am_ ((Nat.le_trans HW0.out (by rw [hg];exact (keep_size (w := w) (g := g) (row := none) (zh_ HK)) : w.heap.size ≤ gb503) : w0.heap.size ≤ gb503));replace HK := am_ (KeepBut.trans (zh_ HK) (KeepBut.of_below hb g none) (.inl rfl));have NB0_503 := am_ ((by rw [hg];exact Nat.ne_of_lt (IsS138.lt (show IsS138 w0 _ g s0_0 s0_1 s0_2 from (zi138 HI0))) : g ≠ gb503));have NB503_0 := am_ ((by rw [hg];exact Nat.ne_of_gt (IsS138.lt (show IsS138 w0 _ g s0_0 s0_1 s0_2 from (zi138 HI0))) : gb503 ≠ g));replace HI0 := am_ (IsS138.below (zi138 HI0) hb);clear hb hbox hg) | ((with_reducible refine gate_callee (f := 122) rfl ?_);refine zgl (some 5) Tryd.func122 #[.pointer (some ⟨g,0,none⟩),.int .i64 3] ?_;(with_reducible refine (spec_l00Src_next.calls g s0_0 s0_1 s0_2 3 t504 t505 t506 w0 _ ?side1 ?side2 A2.out).mono ?_);(case side1 => exact zi138 HI0);(case side2 => exact zl_ HB);rintro e w27 ⟨rfl,hi,hb,hk⟩;refine ⟨_,rfl,?_⟩;replace BK503 := zkb hk BK503 NB503_0;replace HK := am_ (KeepBut.trans (zh_ HK) hk (.inl rfl));replace HB := am_ (hb);replace HI0 := am_ (hi);(try clear hb);(try clear hb2);(try clear hk);(try clear hi)) | ((with_reducible refine gate_callee (f := 122) rfl ?_);refine zgl (some 7) Tryd.func122 #[.pointer (some ⟨g,0,none⟩),.int .i64 5] ?_;(with_reducible refine (spec_l00Src_next.calls g s0_0 t505 t506 5 t507 t508 t509 w0 _ ?side1 ?side2 A3.out).mono ?_);(case side1 => exact zi138 HI0);(case side2 => exact zl_ HB);rintro e w28 ⟨rfl,hi,hb,hk⟩;refine ⟨_,rfl,?_⟩;replace BK503 := zkb hk BK503 NB503_0;replace HK := am_ (KeepBut.trans (zh_ HK) hk (.inl rfl));replace HB := am_ (hb);replace HI0 := am_ (hi);(try clear hb);(try clear hb2);(try clear hk);(try clear hi)) | ((with_reducible refine gate_callee (f := 122) rfl ?_);refine zgl (some 10) Tryd.func122 #[.pointer (some ⟨g,0,none⟩),.int .i64 4] ?_;(with_reducible refine (spec_l00Src_next.calls g s0_0 t508 t509 4 t510 t511 t512 w0 _ ?side1 ?side2 A4.out).mono ?_);(case side1 => exact zi138 HI0);(case side2 => exact zl_ HB);rintro e w29 ⟨rfl,hi,hb,hk⟩;refine ⟨_,rfl,?_⟩;replace BK503 := zkb hk BK503 NB503_0;replace HK := am_ (KeepBut.trans (zh_ HK) hk (.inl rfl));replace HB := am_ (hb);replace HI0 := am_ (hi);(try clear hb);(try clear hb2);(try clear hk);(try clear hi)) | ((with_reducible refine gate_dst (N := 13) rfl ?_);refine Kd.R_lit Kd.string _ 9 ?hg (N := 13) ?hd (xs := ([(⟨#[97]⟩ : ByteArray),(⟨#[98]⟩ : ByteArray),(⟨#[108,111,99,107]⟩ : ByteArray)] : List ByteArray)) (inner := [.string ⟨#[97]⟩,.string ⟨#[98]⟩,.string ⟨#[108,111,99,107]⟩]) (ok := fun _ => True) (okp := fun _ => True) ?hr ?hp (fun _ hk => hk) trivial (Below.refl _ _) (Nat.le_refl _) (by simp) ?_;(case hd => rfl);(case hg => rfl);(case hr => first | (go_simp;done) | (go_simp;rfl));(case hp => exact (Reps.one (show Kd.M Kd.string _ _ _ (⟨#[97]⟩ : ByteArray) [.string ⟨#[97]⟩] from rfl) (Reps.one (show Kd.M Kd.string _ _ _ (⟨#[98]⟩ : ByteArray) [.string ⟨#[98]⟩] from rfl) (Reps.one (show Kd.M Kd.string _ _ _ (⟨#[108,111,99,107]⟩ : ByteArray) [.string ⟨#[108,111,99,107]⟩] from rfl) (Reps.none _ _)))));intro v514 w30 ho31 hb hg_ hnew_;clear hg_ hnew_;(first | rw [← Ny513.out] at ho31 | (simp only [Int.reduceToNat] at ho31;rw [← Ny513.out] at ho31));have HO515 := am_ (Kd.R_lower ho31 (keep_size (w := w) (g := g) (row := none) (zh_ HK)));replace HI0 := am_ (IsS138.below (zi138 HI0) hb);replace BK503 := zb BK503 hb;replace HK := am_ (KeepBut.trans (zh_ HK) (KeepBut.of_below hb g none) (.inl rfl));replace HB := zs_ HB hb;clear hb ho31;obtain ⟨Ao32,co32,eo32⟩ := Kd.R_slice HO515.out;subst eo32) | ((with_reducible refine gate_callee (f := 198) rfl ?_);refine zgl (some 14) Tryd.func198 #[.pointer (some ⟨g,0,none⟩),.slice Ao32 y513.length co32] ?_;(with_reducible refine (spec_l00Src_pick.calls g s0_0 t511 t512 _ _ y513 t516 t517 t518 w0 _ ?side1 ?side2 ?side3 ?side4 ?side5 A5.out).mono ?_);(case side1 => exact zi138 HI0);(case side2 => exact zl_ HB);(case side3 => repeat (first | exact (Kd.R_reads' HO515.out).2.2 | (with_reducible refine Kd.C_alloc ?_ _) | (with_reducible refine Kd.C_drewN ?_ _) | (with_reducible refine Kd.C_drew ?_)));(case side4 => exact (Kd.R_reads' HO515.out).2.1);(case side5 => exact far_slice (IsS138.own_ne HI0.out HO515.out (by decide)));rintro e w33 ⟨rfl,hi,hb,hk⟩;refine ⟨_,rfl,?_⟩;replace BK503 := zkb hk BK503 NB503_0;replace HO515 := am_ (Kd.R_mono (Kd.R_keep (IsS138.apart (show IsS138 w0 _ g s0_0 t511 t512 from (zi138 HI0)) (zr HO515) (by decide)) hk (fun _ h => h.2)) (fun _ h => h.1));replace HK := am_ (KeepBut.trans (zh_ HK) hk (.inl rfl));replace HB := am_ (hb);replace HI0 := am_ (hi);(try clear hb);(try clear hb2);(try clear hk);(try clear hi)) | ((with_reducible refine gate_dst (N := 3) rfl ?_);refine zbx (N := 3) (cs := #[.int .i64 0,.int .i64 0,.int .i64 0,.int .i64 0,.string ⟨#[]⟩]) (t := 141) ?_;intro gb519 hg w34 hbox hb;replace HO515 := zrb HO515 hb;replace HB := zs_ HB hb;have BK519 := am_ (hbox);have GW519 := am_ ((by rw [hg];exact (keep_size (w := w) (g := g) (row := none) (zh_ HK)) : w.heap.size ≤ gb519));have GE519 := am_ ((Nat.le_trans HW0.out (by rw [hg];exact (keep_size (w := w) (g := g) (row := none) (zh_ HK)) : w.heap.size ≤ gb519) : w0.heap.size ≤ gb519));replace HK := am_ (KeepBut.trans (zh_ HK) (KeepBut.of_below hb g none) (.inl rfl));have NB503_519 := zl hg BK503;have NB519_503 := zg hg BK503;replace BK503 := zb BK503 hb;have NB0_519 := am_ ((by rw [hg];exact Nat.ne_of_lt (IsS138.lt (show IsS138 w0 _ g s0_0 t517 t518 from (zi138 HI0))) : g ≠ gb519));have NB519_0 := am_ ((by rw [hg];exact Nat.ne_of_gt (IsS138.lt (show IsS138 w0 _ g s0_0 t517 t518 from (zi138 HI0))) : gb519 ≠ g));replace HI0 := am_ (IsS138.below (zi138 HI0) hb);clear hb hbox hg;have hnb35 := NB519_503.out;have hnc35 := NB503_519.out;have hnb36 := NB519_0.out;have hnc36 := NB0_519.out;obtain ⟨hcz37_0,hcz37_1,hcz37_2,hcz37_3,hcz37_4,hfz37_0,hfz37_1,hfz37_2,hfz37_3,hfz37_4⟩ := zc5 BK519) | ((with_reducible refine gate_callee (f := 122) rfl ?_);refine zgl (some 25) Tryd.func122 #[.pointer (some ⟨g,0,none⟩),.int .i64 30] ?_;(with_reducible refine (spec_l00Src_next.calls g s0_0 t517 t518 30 t523 t524 t525 w0 _ ?side1 ?side2 A25.out).mono ?_);(case side1 => exact zi138 HI0);(case side2 => exact zl_ HB);rintro e w38 ⟨rfl,hi,hb,hk⟩;refine ⟨_,rfl,?_⟩;replace BK503 := am_ (KeepBut.blk hk (g' := gb503) (o := .cells #[.int .i64 0,.int .i64 0,.int .i64 0,.int .i64 0,.string ⟨#[]⟩] 141 (0,0)) (zq BK503) NB503_0.out (by simp));replace HO515 := am_ (Kd.R_mono (Kd.R_keep (IsS138.apart (show IsS138 w0 _ g s0_0 t517 t518 from (zi138 HI0)) (by (with_reducible repeat (first | apply r1_ | apply r2_ | apply r3_));exact (Kd.R_mono (zrf (Kd.R_types HO515.out BK519.out (by decide))) (fun _ h_ => h_.1))) (by decide)) hk (fun _ h => h.2)) (fun _ h => h.1));replace BK519 := am_ (KeepBut.blk hk (g' := gb519) (o := .cells #[.int .i64 t504,.int .i64 (wrap64 (1 + t507)),.int .i64 (wrap64 (1 + t510)),.int .i64 0,.string t516] 141 (0,0)) (zq BK519) NB519_0.out (by simp));replace HK := am_ (KeepBut.trans (zh_ HK) hk (.inl rfl));replace HB := am_ (hb);replace HI0 := am_ (hi);(try clear hb);(try clear hb2);(try clear hk);(try clear hi);obtain ⟨hcz39_0,hcz39_1,hcz39_2,hcz39_3,hcz39_4,hfz39_0,hfz39_1,hfz39_2,hfz39_3,hfz39_4⟩ := zc5 BK519;have hnb40 := NB503_0.out;have hnc40 := NB0_503.out;obtain ⟨hcz41_0,hcz41_1,hcz41_2,hcz41_3,hcz41_4,hfz41_0,hfz41_1,hfz41_2,hfz41_3,hfz41_4⟩ := zc5 BK503))
   refine bodyPost_ret (results_cell_row rfl _ _ gb503 141 #[.int .i64 t504,.int .i64 (wrap64 (1 + t507)),.int .i64 (wrap64 (1 + t510)),.int .i64 (wrap64 (1 + t523)),.string t516] (0,0) _ rfl (zq BK503) Tryd.underlying141 rfl (by kernel_rfl)) rfl ?_
   exact ⟨zt_,(zi138 HI0),zl_ HB,zh_ HK⟩
  ·rw [if_neg c24] at H
   have c24b0 : ((wrap64 (1 + t510)) == 3) = false := beq_eq_false_iff_ne.mpr c24
   have c24b1 : ((wrap64 (1 + t510)) != 3) = true := bne_iff_ne.mpr c24
   simp only [Option.some.injEq,Prod.mk.injEq] at H
   obtain ⟨rfl,rfl,rfl,rfl,rfl,rfl,rfl⟩ := H
   go_enter Tryd.func175,Tryd.ntmps175
   go_wp2_with (first | ((with_reducible refine gate_dst (N := 2) rfl ?_);refine zbx (N := 2) (cs := #[.int .i64 0,.int .i64 0,.int .i64 0,.int .i64 0,.string ⟨#[]⟩]) (t := 141) ?_;intro gb503 hg w42 hbox hb;replace HB := zs_ HB hb;have BK503 := am_ (hbox);have GW503 := am_ ((by rw [hg];exact (keep_size (w := w) (g := g) (row := none) (zh_ HK)) : w.heap.size ≤ gb503));have GE503 := am_ ((Nat.le_trans HW0.out (by rw [hg];exact (keep_size (w := w) (g := g) (row := none) (zh_ HK)) : w.heap.size ≤ gb503) : w0.heap.size ≤ gb503));replace HK := am_ (KeepBut.trans (zh_ HK) (KeepBut.of_below hb g none) (.inl rfl));have NB0_503 := am_ ((by rw [hg];exact Nat.ne_of_lt (IsS138.lt (show IsS138 w0 _ g s0_0 s0_1 s0_2 from (zi138 HI0))) : g ≠ gb503));have NB503_0 := am_ ((by rw [hg];exact Nat.ne_of_gt (IsS138.lt (show IsS138 w0 _ g s0_0 s0_1 s0_2 from (zi138 HI0))) : gb503 ≠ g));replace HI0 := am_ (IsS138.below (zi138 HI0) hb);clear hb hbox hg) | ((with_reducible refine gate_callee (f := 122) rfl ?_);refine zgl (some 5) Tryd.func122 #[.pointer (some ⟨g,0,none⟩),.int .i64 3] ?_;(with_reducible refine (spec_l00Src_next.calls g s0_0 s0_1 s0_2 3 t504 t505 t506 w0 _ ?side1 ?side2 A2.out).mono ?_);(case side1 => exact zi138 HI0);(case side2 => exact zl_ HB);rintro e w43 ⟨rfl,hi,hb,hk⟩;refine ⟨_,rfl,?_⟩;replace BK503 := zkb hk BK503 NB503_0;replace HK := am_ (KeepBut.trans (zh_ HK) hk (.inl rfl));replace HB := am_ (hb);replace HI0 := am_ (hi);(try clear hb);(try clear hb2);(try clear hk);(try clear hi)) | ((with_reducible refine gate_callee (f := 122) rfl ?_);refine zgl (some 7) Tryd.func122 #[.pointer (some ⟨g,0,none⟩),.int .i64 5] ?_;(with_reducible refine (spec_l00Src_next.calls g s0_0 t505 t506 5 t507 t508 t509 w0 _ ?side1 ?side2 A3.out).mono ?_);(case side1 => exact zi138 HI0);(case side2 => exact zl_ HB);rintro e w44 ⟨rfl,hi,hb,hk⟩;refine ⟨_,rfl,?_⟩;replace BK503 := zkb hk BK503 NB503_0;replace HK := am_ (KeepBut.trans (zh_ HK) hk (.inl rfl));replace HB := am_ (hb);replace HI0 := am_ (hi);(try clear hb);(try clear hb2);(try clear hk);(try clear hi)) | ((with_reducible refine gate_callee (f := 122) rfl ?_);refine zgl (some 10) Tryd.func122 #[.pointer (some ⟨g,0,none⟩),.int .i64 4] ?_;(with_reducible refine (spec_l00Src_next.calls g s0_0 t508 t509 4 t510 t511 t512 w0 _ ?side1 ?side2 A4.out).mono ?_);(case side1 => exact zi138 HI0);(case side2 => exact zl_ HB);rintro e w45 ⟨rfl,hi,hb,hk⟩;refine ⟨_,rfl,?_⟩;replace BK503 := zkb hk BK503 NB503_0;replace HK := am_ (KeepBut.trans (zh_ HK) hk (.inl rfl));replace HB := am_ (hb);replace HI0 := am_ (hi);(try clear hb);(try clear hb2);(try clear hk);(try clear hi)) | ((with_reducible refine gate_dst (N := 13) rfl ?_);refine Kd.R_lit Kd.string _ 9 ?hg (N := 13) ?hd (xs := ([(⟨#[97]⟩ : ByteArray),(⟨#[98]⟩ : ByteArray),(⟨#[108,111,99,107]⟩ : ByteArray)] : List ByteArray)) (inner := [.string ⟨#[97]⟩,.string ⟨#[98]⟩,.string ⟨#[108,111,99,107]⟩]) (ok := fun _ => True) (okp := fun _ => True) ?hr ?hp (fun _ hk => hk) trivial (Below.refl _ _) (Nat.le_refl _) (by simp) ?_;(case hd => rfl);(case hg => rfl);(case hr => first | (go_simp;done) | (go_simp;rfl));(case hp => exact (Reps.one (show Kd.M Kd.string _ _ _ (⟨#[97]⟩ : ByteArray) [.string ⟨#[97]⟩] from rfl) (Reps.one (show Kd.M Kd.string _ _ _ (⟨#[98]⟩ : ByteArray) [.string ⟨#[98]⟩] from rfl) (Reps.one (show Kd.M Kd.string _ _ _ (⟨#[108,111,99,107]⟩ : ByteArray) [.string ⟨#[108,111,99,107]⟩] from rfl) (Reps.none _ _)))));intro v514 w46 ho47 hb hg_ hnew_;clear hg_ hnew_;(first | rw [← Ny513.out] at ho47 | (simp only [Int.reduceToNat] at ho47;rw [← Ny513.out] at ho47));have HO515 := am_ (Kd.R_lower ho47 (keep_size (w := w) (g := g) (row := none) (zh_ HK)));replace HI0 := am_ (IsS138.below (zi138 HI0) hb);replace BK503 := zb BK503 hb;replace HK := am_ (KeepBut.trans (zh_ HK) (KeepBut.of_below hb g none) (.inl rfl));replace HB := zs_ HB hb;clear hb ho47;obtain ⟨Ao48,co48,eo48⟩ := Kd.R_slice HO515.out;subst eo48) | ((with_reducible refine gate_callee (f := 198) rfl ?_);refine zgl (some 14) Tryd.func198 #[.pointer (some ⟨g,0,none⟩),.slice Ao48 y513.length co48] ?_;(with_reducible refine (spec_l00Src_pick.calls g s0_0 t511 t512 _ _ y513 t516 t517 t518 w0 _ ?side1 ?side2 ?side3 ?side4 ?side5 A5.out).mono ?_);(case side1 => exact zi138 HI0);(case side2 => exact zl_ HB);(case side3 => repeat (first | exact (Kd.R_reads' HO515.out).2.2 | (with_reducible refine Kd.C_alloc ?_ _) | (with_reducible refine Kd.C_drewN ?_ _) | (with_reducible refine Kd.C_drew ?_)));(case side4 => exact (Kd.R_reads' HO515.out).2.1);(case side5 => exact far_slice (IsS138.own_ne HI0.out HO515.out (by decide)));rintro e w49 ⟨rfl,hi,hb,hk⟩;refine ⟨_,rfl,?_⟩;replace BK503 := zkb hk BK503 NB503_0;replace HK := am_ (KeepBut.trans (zh_ HK) hk (.inl rfl));replace HB := am_ (hb);replace HI0 := am_ (hi);(try clear hb);(try clear hb2);(try clear hk);(try clear hi)) | ((with_reducible refine gate_dst (N := 3) rfl ?_);refine zbx (N := 3) (cs := #[.int .i64 0,.int .i64 0,.int .i64 0,.int .i64 0,.string ⟨#[]⟩]) (t := 141) ?_;intro gb519 hg w50 hbox hb;replace HB := zs_ HB hb;have BK519 := am_ (hbox);have GW519 := am_ ((by rw [hg];exact (keep_size (w := w) (g := g) (row := none) (zh_ HK)) : w.heap.size ≤ gb519));have GE519 := am_ ((Nat.le_trans HW0.out (by rw [hg];exact (keep_size (w := w) (g := g) (row := none) (zh_ HK)) : w.heap.size ≤ gb519) : w0.heap.size ≤ gb519));replace HK := am_ (KeepBut.trans (zh_ HK) (KeepBut.of_below hb g none) (.inl rfl));have NB503_519 := zl hg BK503;have NB519_503 := zg hg BK503;replace BK503 := zb BK503 hb;have NB0_519 := am_ ((by rw [hg];exact Nat.ne_of_lt (IsS138.lt (show IsS138 w0 _ g s0_0 t517 t518 from (zi138 HI0))) : g ≠ gb519));have NB519_0 := am_ ((by rw [hg];exact Nat.ne_of_gt (IsS138.lt (show IsS138 w0 _ g s0_0 t517 t518 from (zi138 HI0))) : gb519 ≠ g));replace HI0 := am_ (IsS138.below (zi138 HI0) hb);clear hb hbox hg;have hnb51 := NB519_503.out;have hnc51 := NB503_519.out;have hnb52 := NB519_0.out;have hnc52 := NB0_519.out;obtain ⟨hcz53_0,hcz53_1,hcz53_2,hcz53_3,hcz53_4,hfz53_0,hfz53_1,hfz53_2,hfz53_3,hfz53_4⟩ := zc5 BK519;have hnb54 := NB503_0.out;have hnc54 := NB0_503.out;obtain ⟨hcz55_0,hcz55_1,hcz55_2,hcz55_3,hcz55_4,hfz55_0,hfz55_1,hfz55_2,hfz55_3,hfz55_4⟩ := zc5 BK503))
   refine bodyPost_ret (results_cell_row rfl _ _ gb503 141 #[.int .i64 t504,.int .i64 (wrap64 (1 + t507)),.int .i64 (wrap64 (1 + t510)),.int .i64 0,.string t516] (0,0) _ rfl (zq BK503) Tryd.underlying141 rfl (by kernel_rfl)) rfl ?_
   exact ⟨zt_,(zi138 HI0),zl_ HB,zh_ HK⟩
end Go.Proofs.YtadablpppkjdbaaDoor.A
end
