/- A part of the proof that FnExactReadCert returns true at every input: plain functions, contracts and lemmas. No conditions. -/
import Derived.Test.YtadablpppkjdbaaQReadCertb
import Derived.Lib.SlBy
import Derived.Lib.Walk
set_option linter.unusedVariables false
set_option linter.unusedSimpArgs false
set_option linter.unusedSectionVars false
section
namespace Go.Proofs.Ytadablpppkjdbaa.A
open Go.RowKit Go.Proofs.YtadablpppkjdbaaW.PrintWords Go.Proofs.YtadablpppkjdbaaW.PrintLast Go.Proofs.YtadablpppkjdbaaW.PrintMore
abbrev k1_ := @blk_drewN
abbrev k2_ := @blk_drew
abbrev k3_ := @blk_alloc
abbrev r1_ := @Kd.R_alloc
abbrev r2_ := @Kd.R_drewN
abbrev r3_ := @Kd.R_drew
theorem d1_ {α : Type _} (l : List α) (i : Nat) : (l.drop i).length = l.length - i := List.length_drop
theorem d2_ {α : Type _} (l : List α) (i : Nat) : (l.take i).length = min i l.length := List.length_take
theorem o1_ {p : Prop} [Decidable p] (h : decide p = true) : p := of_decide_eq_true h
theorem e3_ (l : List UInt8) : (l == []) = l.isEmpty := mp_beq_nil l
theorem e4_ (l : List UInt8) : (l != []) = !l.isEmpty := mp_bne_nil l
theorem am_ {p : Prop} (h : p) : Aside0 p := ⟨h⟩
theorem p1_ {α : Type _} (l : List α) (i : Nat) (a : α) : l.toArray.setIfInBounds i a = (l.set i a).toArray := List.setIfInBounds_toArray ..
theorem p2_ {α : Type _} (x : α) (xs : List α) (a : α) : (x :: xs).set 0 a = a :: xs := List.set_cons_zero
theorem p3_ {α : Type _} (x : α) (xs : List α) (i : Nat) (a : α) : (x :: xs).set (i + 1) a = x :: xs.set i a := List.set_cons_succ
theorem m1_ {α β : Type _} (f : α → β) (l : List α) : l.toArray.map f = (l.map f).toArray := List.map_toArray
theorem m2_ {α β : Type _} (f : α → β) (a : α) (l : List α) : (a :: l).map f = f a :: l.map f := List.map_cons
theorem m3_ {α β : Type _} (f : α → β) : ([] : List α).map f = [] := List.map_nil
attribute [local go_sem] max2_int min2_int max_two min_two max_three min_three max_four min_four
def errW : Option Int → Value
  | none => .nilIface
  | some c => .iface 0 (.int .i64 c)
theorem errW_none : errW none = .nilIface := rfl
theorem errW_some (c : Int) : errW (some c) = .iface 0 (.int .i64 c) := rfl
theorem e1_ : errW none = .nilIface := rfl
theorem e2_ (c : Int) : errW (some c) = .iface 0 (.int .i64 c) := rfl
theorem info5 : (Try.prog.info? 5).map (fun i => (i.zero, i.size, i.bytes)) = some (some (.int .u8 0), 1, 1) := by kernel_rfl
theorem info9 : (Try.prog.info? 9).map (fun i => (i.zero, i.size, i.bytes)) = some (some (.string ⟨#[]⟩), 1, 16) := by kernel_rfl
theorem info63 : (Try.prog.info? 63).map (fun i => (i.zero, i.size, i.bytes)) = some (some (.agg #[(.int .i64 0), (.int .i64 0), (.int .i64 0), (.int .i64 0), (.string ⟨#[]⟩), (.string ⟨#[]⟩), (.string ⟨#[]⟩)]), 7, 80) := by kernel_rfl
def k63 : Kd S63 := Kd.iso (Kd.pair (Kd.int .i64) (Kd.pair (Kd.int .i64) (Kd.pair (Kd.int .i64) (Kd.pair (Kd.int .i64) (Kd.pair Kd.string (Kd.pair Kd.string Kd.string)))))) (fun x : S63 => (x.f0, x.f1, x.f2, x.f3, x.f4, x.f5, x.f6))
theorem k63_open {w : World} {x : S63} {cs : List Value} (h : k63.K w x cs) : cs = [.int .i64 x.f0, .int .i64 x.f1, .int .i64 x.f2, .int .i64 x.f3, .string x.f4, .string x.f5, .string x.f6] := by
  obtain ⟨_, _, rfl, rfl, ⟨_, _, rfl, rfl, ⟨_, _, rfl, rfl, ⟨_, _, rfl, rfl, ⟨_, _, rfl, rfl, ⟨_, _, rfl, rfl, rfl⟩⟩⟩⟩⟩⟩ := h
  exact rfl
theorem k63_openM {w : World} {base : Nat} {ok : Nat → Prop} {x : S63} {cs : List Value} (h : k63.M w base ok x cs) : cs = [.int .i64 x.f0, .int .i64 x.f1, .int .i64 x.f2, .int .i64 x.f3, .string x.f4, .string x.f5, .string x.f6] := by
  obtain ⟨_, _, rfl, rfl, ⟨_, _, rfl, rfl, ⟨_, _, rfl, rfl, ⟨_, _, rfl, rfl, ⟨_, _, rfl, rfl, ⟨_, _, rfl, rfl, rfl⟩⟩⟩⟩⟩⟩ := h
  exact rfl
theorem k63_mkM (w : World) (base : Nat) (ok : Nat → Prop) (x : S63)  : k63.M w base ok x [.int .i64 x.f0, .int .i64 x.f1, .int .i64 x.f2, .int .i64 x.f3, .string x.f4, .string x.f5, .string x.f6] := ⟨[.int .i64 x.f0], [.int .i64 x.f1, .int .i64 x.f2, .int .i64 x.f3, .string x.f4, .string x.f5, .string x.f6], rfl, rfl, ⟨[.int .i64 x.f1], [.int .i64 x.f2, .int .i64 x.f3, .string x.f4, .string x.f5, .string x.f6], rfl, rfl, ⟨[.int .i64 x.f2], [.int .i64 x.f3, .string x.f4, .string x.f5, .string x.f6], rfl, rfl, ⟨[.int .i64 x.f3], [.string x.f4, .string x.f5, .string x.f6], rfl, rfl, ⟨[.string x.f4], [.string x.f5, .string x.f6], rfl, rfl, ⟨[.string x.f5], [.string x.f6], rfl, rfl, rfl⟩⟩⟩⟩⟩⟩
theorem at_T63 {w : World} {A : Option Addr} {n : Nat} {xs : List S63} (h : Kd.C k63 w A n xs) (i : Int) (h0 : 0 ≤ i) (h1 : i < n) : ∃ ad , A = some ad ∧ w.cell? (ad.add (i.toNat * 7)) = some (.int .i64 (rd_T63 xs i).f0) ∧ w.cell? ⟨(ad.add (i.toNat * 7)).block, (ad.add (i.toNat * 7)).off + 1, none⟩ = some (.int .i64 (rd_T63 xs i).f1) ∧ w.cell? ⟨(ad.add (i.toNat * 7)).block, (ad.add (i.toNat * 7)).off + 2, none⟩ = some (.int .i64 (rd_T63 xs i).f2) ∧ w.cell? ⟨(ad.add (i.toNat * 7)).block, (ad.add (i.toNat * 7)).off + 3, none⟩ = some (.int .i64 (rd_T63 xs i).f3) ∧ w.cell? ⟨(ad.add (i.toNat * 7)).block, (ad.add (i.toNat * 7)).off + 4, none⟩ = some (.string (rd_T63 xs i).f4) ∧ w.cell? ⟨(ad.add (i.toNat * 7)).block, (ad.add (i.toNat * 7)).off + 5, none⟩ = some (.string (rd_T63 xs i).f5) ∧ w.cell? ⟨(ad.add (i.toNat * 7)).block, (ad.add (i.toNat * 7)).off + 6, none⟩ = some (.string (rd_T63 xs i).f6) := by
  obtain ⟨ad, c, e, _, hK, hc0⟩ := Kd.C_get h z63 i h0 h1
  have hc : ∀ j u, c[j]? = some u → w.cell? (ad.add (i.toNat * 7 + j)) = some u := hc0
  obtain rfl := k63_open hK
  exact ⟨ad, e, hc 0 _ rfl, by rw [← add_field _ _ 1 (by omega)]; exact hc 1 _ rfl, by rw [← add_field _ _ 2 (by omega)]; exact hc 2 _ rfl, by rw [← add_field _ _ 3 (by omega)]; exact hc 3 _ rfl, by rw [← add_field _ _ 4 (by omega)]; exact hc 4 _ rfl, by rw [← add_field _ _ 5 (by omega)]; exact hc 5 _ rfl, by rw [← add_field _ _ 6 (by omega)]; exact hc 6 _ rfl⟩
/-- A state of type 112 at block g of W; what its slices lead to came in by w0. -/
def IsS112 (w0 W : World) (g : Nat) (f0 : ByteArray) (f1 : Bool) : Prop := W.heap[g]? = some (.cells #[.string f0, .bool f1] 112 (0, 0)) ∧ w0.heap.size ≤ g
theorem IsS112.grown {w0 W : World} {g : Nat} {f0 : ByteArray} {f1 : Bool} {W1 : World} {row : Option Nat} (h : IsS112 w0 W g f0 f1) (hw : W.grownBy W1 row) (hne : some g ≠ row) : IsS112 w0 W1 g f0 f1 := by
  obtain ⟨hb, hg⟩ := h
  exact ⟨blk_grown hb hw hne, hg⟩
theorem IsS112.fresh {w0 W : World} {g : Nat} {f0 : ByteArray} {f1 : Bool} (h : IsS112 w0 W g f0 f1) : ∀ k, W.heap.size ≤ k → k ≠ g := by
  obtain ⟨hb, hg⟩ := h
  exact Kd.freshB hb
theorem IsS112.kept {w0 W : World} {g : Nat} {f0 : ByteArray} {f1 : Bool} {W1 : World} {S : Nat → Prop} (h : IsS112 w0 W g f0 f1) (hk : Kept W W1 S) (hne : ¬ S g) : IsS112 w0 W1 g f0 f1 := by
  obtain ⟨hb, hg⟩ := h
  exact ⟨blk_kept hb hk hne, hg⟩
theorem IsS112.below {w0 W : World} {g : Nat} {f0 : ByteArray} {f1 : Bool} {W1 : World} (h : IsS112 w0 W g f0 f1) (hw : Below W.heap.size W W1) : IsS112 w0 W1 g f0 f1 := h.grown (grown_of_below hw none) (by simp)
theorem IsS112.alloc {w0 W : World} {g : Nat} {f0 : ByteArray} {f1 : Bool} (h : IsS112 w0 W g f0 f1) (o : Obj) : IsS112 w0 (W.alloc o) g f0 f1 := h.below (below_alloc (Below.refl _ _) o)
theorem IsS112.drewN {w0 W : World} {g : Nat} {f0 : ByteArray} {f1 : Bool} (h : IsS112 w0 W g f0 f1) (m : Nat) : IsS112 w0 (W.drewN m) g f0 f1 := h
theorem IsS112.drew {w0 W : World} {g : Nat} {f0 : ByteArray} {f1 : Bool} (h : IsS112 w0 W g f0 f1) : IsS112 w0 W.drew g f0 f1 := h
theorem IsS112.at_ {w0 W : World} {g : Nat} {f0 : ByteArray} {f1 : Bool} {w' : World} {m : Nat} (hq : W.drewN m = w') (h : IsS112 w0 W g f0 f1) : IsS112 w0 w' g f0 f1 := by subst hq; exact IsS112.drewN h m
theorem IsS112.apart {w0 W : World} {g : Nat} {f0 : ByteArray} {f1 : Bool} {α : Type} {d : Kd α} {e : Nat} {base : Nat} {ok : Nat → Prop} {v : Value} {xs : List α} (h : IsS112 w0 W g f0 f1) (ho : d.R e W base ok v xs) (ht : ∀ q, q ∈ e :: d.E → q ≠ 112) : d.R e W base (fun k => ok k ∧ k ≠ g) v xs := by
  obtain ⟨hb, hg⟩ := h
  exact Kd.R_types ho hb ht
theorem IsS112.own_ne {w0 W : World} {g : Nat} {f0 : ByteArray} {f1 : Bool} {α : Type} {d : Kd α} {e : Nat} {base : Nat} {ok : Nat → Prop} {v : Value} {xs : List α} (h : IsS112 w0 W g f0 f1) (ho : d.R e W base ok v xs) (ht : e ≠ 112) : some g ≠ v.ownBlock := by
  obtain ⟨hb, hg⟩ := h
  exact Kd.R_ne ho hb ht
theorem IsS112.lt {w0 W : World} {g : Nat} {f0 : ByteArray} {f1 : Bool} (h : IsS112 w0 W g f0 f1) : g < W.heap.size := by
  obtain ⟨hb, hg⟩ := h
  exact blk_lt hb
theorem IsS112.ge {w0 W : World} {g : Nat} {f0 : ByteArray} {f1 : Bool} (h : IsS112 w0 W g f0 f1) : w0.heap.size ≤ g := by
  obtain ⟨hb, hg⟩ := h
  exact hg
theorem IsS112.far {w0 W : World} {g : Nat} {f0 : ByteArray} {f1 : Bool} {p : Addr} (h : IsS112 w0 W g f0 f1) (hne : g ≠ p.block) (u : Value) : IsS112 w0 (W.setCell p u) g f0 f1 := by
  obtain ⟨hb, hg⟩ := h
  exact ⟨blk_far hb hne u, hg⟩
theorem cellS112_0 {W : World} {g : Nat} {f0 : ByteArray} {f1 : Bool} (h : W.heap[g]? = some (.cells #[.string f0, .bool f1] 112 (0, 0))) : W.cell? ⟨g, 0, none⟩ = some (.string f0) := (blk_cell h 0).trans rfl
theorem IsS112.set_0 {w0 W : World} {g : Nat} {f0 : ByteArray} {f1 : Bool} (h : IsS112 w0 W g f0 f1) (x : ByteArray) : IsS112 w0 (W.setCell ⟨g, 0, none⟩ (.string x)) g x f1 := by
  obtain ⟨hb, hg⟩ := h
  exact ⟨by simpa using blk_set hb 0 (.string x), hg⟩
theorem cellS112_1 {W : World} {g : Nat} {f0 : ByteArray} {f1 : Bool} (h : W.heap[g]? = some (.cells #[.string f0, .bool f1] 112 (0, 0))) : W.cell? ⟨g, 1, none⟩ = some (.bool f1) := (blk_cell h 1).trans rfl
theorem IsS112.set_1 {w0 W : World} {g : Nat} {f0 : ByteArray} {f1 : Bool} (h : IsS112 w0 W g f0 f1) (x : Bool) : IsS112 w0 (W.setCell ⟨g, 1, none⟩ (.bool x)) g f0 x := by
  obtain ⟨hb, hg⟩ := h
  exact ⟨by simpa using blk_set hb 1 (.bool x), hg⟩
theorem zl_ {w W0 W : World} (b : Aside0 (Below w.heap.size w W0)) (h : Below w.heap.size w W := by repeat (first | (with_reducible first | exact HB.out | apply below_alloc | apply pw_below_drewN | apply below_drew1 | refine below_set ?_ (Aside0.out (by with_reducible assumption)) | refine below_set ?_ (IsS112.ge (Aside0.out (by with_reducible assumption)))) | exact HB.out)) : Below w.heap.size w W := h
theorem zs_ {w W0 W W1 : World} (b : Aside0 (Below w.heap.size w W0)) (hb : Below W.heap.size W W1) (h : Below w.heap.size w W := by repeat (first | (with_reducible first | exact HB.out | apply below_alloc | apply pw_below_drewN | apply below_drew1 | refine below_set ?_ (Aside0.out (by with_reducible assumption)) | refine below_set ?_ (IsS112.ge (Aside0.out (by with_reducible assumption)))) | exact HB.out)) : Aside0 (Below w.heap.size w W1) := ⟨below_step h hb⟩
theorem zw_ {w W0 W : World} {g : Nat} (b : Aside0 (Below w.heap.size w W0)) (hg : g = W.heap.size) (h : Below w.heap.size w W := by repeat (first | (with_reducible first | exact HB.out | apply below_alloc | apply pw_below_drewN | apply below_drew1 | refine below_set ?_ (Aside0.out (by with_reducible assumption)) | refine below_set ?_ (IsS112.ge (Aside0.out (by with_reducible assumption)))) | exact HB.out)) : Aside0 (w.heap.size ≤ g) := ⟨by rw [hg]; exact below_size h⟩
theorem zt_ {p : Prop} (h : p := by first | rfl | (simp [errW_none, errW_some] <;> rfl) | (simp [*, errW_none, errW_some] <;> rfl) | (simp [mp_beq_nil, mp_bne_nil]; done) | (simp [*, mp_beq_nil, mp_bne_nil]; done)) : p := h
theorem zc2 {w : World} {g : Nat} {t : TypeId} {a0 a1 : Value} (h : Aside0 (w.heap[g]? = some (.cells #[a0, a1] t (0, 0)))) : w.cell? ⟨g, 0, none⟩ = some a0 ∧ w.cell? ⟨g, 1, none⟩ = some a1 ∧ w.frozen? ⟨g, 0, none⟩ = false ∧ w.frozen? ⟨g, 1, none⟩ = false := ⟨(blk_cell h.out 0).trans rfl, (blk_cell h.out 1).trans rfl, blk_frozen h.out 0, blk_frozen h.out 1⟩
theorem zc7 {w : World} {g : Nat} {t : TypeId} {a0 a1 a2 a3 a4 a5 a6 : Value} (h : Aside0 (w.heap[g]? = some (.cells #[a0, a1, a2, a3, a4, a5, a6] t (0, 0)))) : w.cell? ⟨g, 0, none⟩ = some a0 ∧ w.cell? ⟨g, 1, none⟩ = some a1 ∧ w.cell? ⟨g, 2, none⟩ = some a2 ∧ w.cell? ⟨g, 3, none⟩ = some a3 ∧ w.cell? ⟨g, 4, none⟩ = some a4 ∧ w.cell? ⟨g, 5, none⟩ = some a5 ∧ w.cell? ⟨g, 6, none⟩ = some a6 ∧ w.frozen? ⟨g, 0, none⟩ = false ∧ w.frozen? ⟨g, 1, none⟩ = false ∧ w.frozen? ⟨g, 2, none⟩ = false ∧ w.frozen? ⟨g, 3, none⟩ = false ∧ w.frozen? ⟨g, 4, none⟩ = false ∧ w.frozen? ⟨g, 5, none⟩ = false ∧ w.frozen? ⟨g, 6, none⟩ = false := ⟨(blk_cell h.out 0).trans rfl, (blk_cell h.out 1).trans rfl, (blk_cell h.out 2).trans rfl, (blk_cell h.out 3).trans rfl, (blk_cell h.out 4).trans rfl, (blk_cell h.out 5).trans rfl, (blk_cell h.out 6).trans rfl, blk_frozen h.out 0, blk_frozen h.out 1, blk_frozen h.out 2, blk_frozen h.out 3, blk_frozen h.out 4, blk_frozen h.out 5, blk_frozen h.out 6⟩
theorem zi112 {w0 W : World} {g : Nat} {f0 : ByteArray} {f1 : Bool} {W' : World} {f0' : ByteArray} {f1' : Bool} (b : Aside0 (IsS112 w0 W g f0 f1)) (m : IsS112 w0 W g f0 f1 → IsS112 w0 W' g f0' f1' := by intro h_; repeat (first | (with_reducible first | exact h_ | apply IsS112.alloc | apply IsS112.drewN | apply IsS112.drew | apply IsS112.set_0 | apply IsS112.set_1 | refine IsS112.far ?_ (Aside0.out (by with_reducible assumption)) _) | exact h_)) : IsS112 w0 W' g f0' f1' := m b.out
theorem zh_ {w W0 W : World} {g : Nat} {row : Option Nat} (k : Aside0 (KeepBut w W0 g row)) (h : KeepBut w W g row := by repeat (first | (with_reducible first | exact HK.out | apply KeepBut.set_ | apply keep_drewN | apply keep_drew | apply keep_alloc | refine keep_far ?_ (Aside0.out (by with_reducible assumption)) _) | exact HK.out)) : KeepBut w W g row := h
end Go.Proofs.Ytadablpppkjdbaa.A
end

section
namespace Go.Proofs.Ytadablpppkjdbaa.A
open Go.RowKit Go.Proofs.YtadablpppkjdbaaW.PrintWords Go.Proofs.YtadablpppkjdbaaW.PrintLast Go.Proofs.YtadablpppkjdbaaW.PrintMore
attribute [local go_sem] max2_int min2_int max_two min_two max_three min_three max_four min_four
set_option maxHeartbeats 8000000 in
set_option maxRecDepth 100000 in
theorem impl_isHash.calls (a0 : ByteArray) (r : Bool) (w : World) (h : impl_isHash.f a0 = some r) :
  Calls Try.prog 95 #[.string a0] w fun e w' => e = .returned (.bool r) ∧ Drawn0 w w' := by
 have H : (some ((a0.size : Int) == 32)) = some r := h
 clear h
 obtain rfl := Option.some.inj H
 go_enter Try.func95,Try.ntmps95
 go_wp2
 go_ret
 exact ⟨by first | rfl | (simp;done) | (simp [*];done),by repeat (first | exact Drawn0.refl _ | apply Drawn0.step)⟩
set_option maxHeartbeats 8000000 in
set_option maxRecDepth 100000 in
theorem impl_within.calls (a0 : Int) (a1 : Int) (a2 : Int) (r : Bool) (w : World) (h : impl_within.f a0 a1 a2 = some r) :
  Calls Try.prog 51 #[.int .i64 a0,.int .i64 a1,.int .i64 a2] w fun e w' => e = .returned (.bool r) ∧ Drawn0 w w' := by
 have H : (if a0 ≥ a1 then (some (decide (a0 ≤ a2))) else (some false)) = some r := h
 clear h
 by_cases c4 : a0 ≥ a1
 ·rw [if_pos c4] at H
  have c4b0 : decide (a1 ≤ a0) = true := decide_eq_true c4
  clear c4
  obtain rfl := Option.some.inj H
  go_enter Try.func51,Try.ntmps51
  go_wp2
  go_ret
  exact ⟨by first | rfl | (simp;done) | (simp [*];done),by repeat (first | exact Drawn0.refl _ | apply Drawn0.step)⟩
 ·rw [if_neg c4] at H
  have c4b0 : decide (a1 ≤ a0) = false := decide_eq_false c4
  clear c4
  obtain rfl := Option.some.inj H
  go_enter Try.func51,Try.ntmps51
  go_wp2
  go_ret
  exact ⟨by first | rfl | (simp;done) | (simp [*];done),by repeat (first | exact Drawn0.refl _ | apply Drawn0.step)⟩
set_option maxHeartbeats 8000000 in
set_option maxRecDepth 100000 in
theorem impl_MessageOK.calls (k : Nat) (a0_0 : Int) (a0_1 : Int) (a0_2 : Int) (a0_3 : Int) (a0_4 : ByteArray) (a0_5 : ByteArray) (a0_6 : ByteArray) (r : Bool) (w : World) (h : impl_MessageOK.f k a0_0 a0_1 a0_2 a0_3 a0_4 a0_5 a0_6 = some r) :
  Calls Try.prog 83 #[.agg #[.int .i64 a0_0,.int .i64 a0_1,.int .i64 a0_2,.int .i64 a0_3,.string a0_4,.string a0_5,.string a0_6]] w fun e w' => e = .returned (.bool r) ∧ Below w.heap.size w w' := by
 have hu63 := Try.underlying63
 have HB := am_ (Below.refl w.heap.size w)
 have H : ((impl_within.f a0_1 0 20).bind fun t296 => (if t296 = true then ((impl_within.f a0_3 0 6).bind fun t297 => (if t297 = true then (if (a0_6.size : Int) = 8 then (impl_MessageOK.j0 k (decide ((a0_5.size : Int) > 20000)) a0_0 a0_1 a0_2 a0_3 a0_4 a0_5 a0_6) else (impl_MessageOK.j0 k true a0_0 a0_1 a0_2 a0_3 a0_4 a0_5 a0_6)) else (impl_MessageOK.j0 k true a0_0 a0_1 a0_2 a0_3 a0_4 a0_5 a0_6))) else (impl_MessageOK.j0 k true a0_0 a0_1 a0_2 a0_3 a0_4 a0_5 a0_6))) = some r := h
 clear h
 have HC2 := am_ H
 clear H
 go_enter Try.func83,Try.ntmps83
 go_upto_region 1 with (first | ((with_reducible refine gate_dst (N := 1) rfl ?_);(try (refine gate_guard (by rfl) ?_;dsimp only));refine zbx (N := 1) (cs := #[.int .i64 a0_0,.int .i64 a0_1,.int .i64 a0_2,.int .i64 a0_3,.string a0_4,.string a0_5,.string a0_6]) (t := 63) ?_;intro gb295 hg w3 hbox hb;have BK295 := am_ (hbox);have GW295 := zw_ HB hg;have GE295 := zw_ HB hg;replace HB := zs_ HB hb;clear hb hbox hg))
 (try simp only [Act.put,p1_,p2_,p3_])
 go_cut [24] (fun v24 wc => ∃ (kq : Nat) (x24_1 : Bool),v24 = .bool x24_1 ∧ Aside0 (impl_MessageOK.j0 kq x24_1 a0_0 a0_1 a0_2 a0_3 a0_4 a0_5 a0_6 = some r) ∧ Aside0 (kq ≤ k) ∧ Aside0 (wc.heap[gb295]? = some (.cells #[.int .i64 a0_0,.int .i64 a0_1,.int .i64 a0_2,.int .i64 a0_3,.string a0_4,.string a0_5,.string a0_6] 63 (0,0))) ∧ Aside0 (Below w.heap.size w wc))
 case first =>
  have H := HC2.out
  clear HC2
  replace H := Option.bind_eq_some_iff.mp H
  obtain ⟨t296,A40,H⟩ := H
  try dsimp only at H
  have A4 := am_ A40
  clear A40
  by_cases c5 : t296 = true
  ·subst c5
   have H1 : ((impl_within.f a0_3 0 6).bind fun t297 => (if t297 = true then (if (a0_6.size : Int) = 8 then (impl_MessageOK.j0 k (decide ((a0_5.size : Int) > 20000)) a0_0 a0_1 a0_2 a0_3 a0_4 a0_5 a0_6) else (impl_MessageOK.j0 k true a0_0 a0_1 a0_2 a0_3 a0_4 a0_5 a0_6)) else (impl_MessageOK.j0 k true a0_0 a0_1 a0_2 a0_3 a0_4 a0_5 a0_6))) = some r := by rw [if_pos rfl] at H;exact H
   clear H
   have H := H1
   clear H1
   replace H := Option.bind_eq_some_iff.mp H
   obtain ⟨t297,A60,H⟩ := H
   try dsimp only at H
   have A6 := am_ A60
   clear A60
   by_cases c7 : t297 = true
   ·subst c7
    have H1 : (if (a0_6.size : Int) = 8 then (impl_MessageOK.j0 k (decide ((a0_5.size : Int) > 20000)) a0_0 a0_1 a0_2 a0_3 a0_4 a0_5 a0_6) else (impl_MessageOK.j0 k true a0_0 a0_1 a0_2 a0_3 a0_4 a0_5 a0_6)) = some r := by rw [if_pos rfl] at H;exact H
    clear H
    have H := H1
    clear H1
    by_cases c8 : (a0_6.size : Int) = 8
    ·rw [if_pos c8] at H
     have c8b0 : ((a0_6.size : Int) == 8) = true := beq_iff_eq.mpr c8
     have c8b1 : ((a0_6.size : Int) != 8) = false := bne_eq_false_iff_eq.mpr c8
     clear c8
     (first | rw [c8b0] | (simp only [i64_w,i32_w];rw [c8b0]) | skip)
     have H' := am_ H
     clear H
     obtain ⟨hcz9_0,hcz9_1,hcz9_2,hcz9_3,hcz9_4,hcz9_5,hcz9_6,hfz9_0,hfz9_1,hfz9_2,hfz9_3,hfz9_4,hfz9_5,hfz9_6⟩ := zc7 BK295
     go_wp2_with (first | ((with_reducible refine gate_callee (f := 51) rfl ?_);refine zgl (some 5) Try.func51 #[.int .i64 a0_1,.int .i64 0,.int .i64 20] ?_;(with_reducible refine (impl_within.calls a0_1 0 20 true _ A4.out).mono ?_);rintro e w' ⟨rfl,⟨nd,rfl⟩⟩;refine ⟨_,rfl,?_⟩) | (go_at_call 51;(with_reducible refine (impl_within.calls a0_3 0 6 true _ A6.out).mono ?_);rintro e w' ⟨rfl,⟨nd,rfl⟩⟩))
     go_meet
     case rel => exact ⟨_,(decide ((a0_5.size : Int) > 20000)),(by first | rfl | (simp;done) | (simp [*];done)),H',⟨by first | omega | exact Nat.le_refl _⟩,⟨by (with_reducible repeat (first | apply k1_ | apply k2_ | apply k3_));exact BK295.out⟩,⟨zl_ HB⟩⟩
    ·rw [if_neg c8] at H
     have c8b0 : ((a0_6.size : Int) == 8) = false := beq_eq_false_iff_ne.mpr c8
     have c8b1 : ((a0_6.size : Int) != 8) = true := bne_iff_ne.mpr c8
     (first | rw [c8b0] | (simp only [i64_w,i32_w];rw [c8b0]) | skip)
     have H' := am_ H
     clear H
     obtain ⟨hcz10_0,hcz10_1,hcz10_2,hcz10_3,hcz10_4,hcz10_5,hcz10_6,hfz10_0,hfz10_1,hfz10_2,hfz10_3,hfz10_4,hfz10_5,hfz10_6⟩ := zc7 BK295
     go_wp2_with (first | ((with_reducible refine gate_callee (f := 51) rfl ?_);refine zgl (some 5) Try.func51 #[.int .i64 a0_1,.int .i64 0,.int .i64 20] ?_;(with_reducible refine (impl_within.calls a0_1 0 20 true _ A4.out).mono ?_);rintro e w' ⟨rfl,⟨nd,rfl⟩⟩;refine ⟨_,rfl,?_⟩) | (go_at_call 51;(with_reducible refine (impl_within.calls a0_3 0 6 true _ A6.out).mono ?_);rintro e w' ⟨rfl,⟨nd,rfl⟩⟩))
     go_meet
     case rel => exact ⟨_,(true),(by first | rfl | (simp;done) | (simp [*];done)),H',⟨by first | omega | exact Nat.le_refl _⟩,⟨by (with_reducible repeat (first | apply k1_ | apply k2_ | apply k3_));exact BK295.out⟩,⟨zl_ HB⟩⟩
   ·replace c7 := Bool.eq_false_iff.mpr c7
    subst c7
    have H1 : (impl_MessageOK.j0 k true a0_0 a0_1 a0_2 a0_3 a0_4 a0_5 a0_6) = some r := by rw [if_neg (show ¬ (false = true) by decide)] at H;exact H
    clear H
    have H := H1
    clear H1
    have H' := am_ H
    clear H
    obtain ⟨hcz11_0,hcz11_1,hcz11_2,hcz11_3,hcz11_4,hcz11_5,hcz11_6,hfz11_0,hfz11_1,hfz11_2,hfz11_3,hfz11_4,hfz11_5,hfz11_6⟩ := zc7 BK295
    go_wp2_with (first | ((with_reducible refine gate_callee (f := 51) rfl ?_);refine zgl (some 5) Try.func51 #[.int .i64 a0_1,.int .i64 0,.int .i64 20] ?_;(with_reducible refine (impl_within.calls a0_1 0 20 true _ A4.out).mono ?_);rintro e w' ⟨rfl,⟨nd,rfl⟩⟩;refine ⟨_,rfl,?_⟩) | (go_at_call 51;(with_reducible refine (impl_within.calls a0_3 0 6 false _ A6.out).mono ?_);rintro e w' ⟨rfl,⟨nd,rfl⟩⟩))
    go_meet
    case rel => exact ⟨_,(true),(by first | rfl | (simp;done) | (simp [*];done)),H',⟨by first | omega | exact Nat.le_refl _⟩,⟨by (with_reducible repeat (first | apply k1_ | apply k2_ | apply k3_));exact BK295.out⟩,⟨zl_ HB⟩⟩
  ·replace c5 := Bool.eq_false_iff.mpr c5
   subst c5
   have H1 : (impl_MessageOK.j0 k true a0_0 a0_1 a0_2 a0_3 a0_4 a0_5 a0_6) = some r := by rw [if_neg (show ¬ (false = true) by decide)] at H;exact H
   clear H
   have H := H1
   clear H1
   have H' := am_ H
   clear H
   obtain ⟨hcz12_0,hcz12_1,hcz12_2,hcz12_3,hcz12_4,hcz12_5,hcz12_6,hfz12_0,hfz12_1,hfz12_2,hfz12_3,hfz12_4,hfz12_5,hfz12_6⟩ := zc7 BK295
   go_wp2_with (first | ((with_reducible refine gate_callee (f := 51) rfl ?_);refine zgl (some 5) Try.func51 #[.int .i64 a0_1,.int .i64 0,.int .i64 20] ?_;(with_reducible refine (impl_within.calls a0_1 0 20 false _ A4.out).mono ?_);rintro e w' ⟨rfl,⟨nd,rfl⟩⟩;refine ⟨_,rfl,?_⟩))
   go_meet
   case rel => exact ⟨_,(true),(by first | rfl | (simp;done) | (simp [*];done)),H',⟨by first | omega | exact Nat.le_refl _⟩,⟨by (with_reducible repeat (first | apply k1_ | apply k2_ | apply k3_));exact BK295.out⟩,⟨zl_ HB⟩⟩
 case rest =>
  clear HC2
  try clear p2
  try clear c5
  try clear c7
  try clear c8
  try clear c8b0
  try clear c8b1
  try clear hcz10_0
  try clear hcz10_1
  try clear hcz10_2
  try clear hcz10_3
  try clear hcz10_4
  try clear hcz10_5
  try clear hcz10_6
  try clear hcz11_0
  try clear hcz11_1
  try clear hcz11_2
  try clear hcz11_3
  try clear hcz11_4
  try clear hcz11_5
  try clear hcz11_6
  try clear hcz12_0
  try clear hcz12_1
  try clear hcz12_2
  try clear hcz12_3
  try clear hcz12_4
  try clear hcz12_5
  try clear hcz12_6
  try clear hcz9_0
  try clear hcz9_1
  try clear hcz9_2
  try clear hcz9_3
  try clear hcz9_4
  try clear hcz9_5
  try clear hcz9_6
  try clear hfz10_0
  try clear hfz10_1
  try clear hfz10_2
  try clear hfz10_3
  try clear hfz10_4
  try clear hfz10_5
  try clear hfz10_6
  try clear hfz11_0
  try clear hfz11_1
  try clear hfz11_2
  try clear hfz11_3
  try clear hfz11_4
  try clear hfz11_5
  try clear hfz11_6
  try clear hfz12_0
  try clear hfz12_1
  try clear hfz12_2
  try clear hfz12_3
  try clear hfz12_4
  try clear hfz12_5
  try clear hfz12_6
  try clear hfz9_0
  try clear hfz9_1
  try clear hfz9_2
  try clear hfz9_3
  try clear hfz9_4
  try clear hfz9_5
  try clear hfz9_6
  obtain ⟨kq,x24_1,rfl,HA,HJ1,BK295,HB⟩ := hcut
  cases kq with
  | zero => exact absurd HA.out (by simp [impl_MessageOK.j0])
  | succ kj1 =>
   have H := HA.out
   clear HA
   simp only [impl_MessageOK.j0] at H
   by_cases c13 : x24_1 = true
   ·subst c13
    have H1 : (some false) = some r := by rw [if_pos rfl] at H;exact H
    clear H
    have H := H1
    clear H1
    obtain rfl := Option.some.inj H
    go_wp2
    go_ret
    exact ⟨zt_,zl_ HB⟩
   ·replace c13 := Bool.eq_false_iff.mpr c13
    subst c13
    have H1 : (if a0_0 = 1 then (impl_MessageOK.j1 kj1 a0_0 (a0_0 == 1) a0_0 a0_1 a0_2 a0_3 a0_4 a0_5 a0_6) else (if a0_0 = 2 then (impl_MessageOK.j1 kj1 a0_0 (a0_0 == 2) a0_0 a0_1 a0_2 a0_3 a0_4 a0_5 a0_6) else (impl_MessageOK.j1 kj1 a0_0 (a0_0 == 3) a0_0 a0_1 a0_2 a0_3 a0_4 a0_5 a0_6))) = some r := by rw [if_neg (show ¬ (false = true) by decide)] at H;exact H
    clear H
    have H := H1
    clear H1
    have HC14 := am_ H
    clear H
    obtain ⟨hcz15_0,hcz15_1,hcz15_2,hcz15_3,hcz15_4,hcz15_5,hcz15_6,hfz15_0,hfz15_1,hfz15_2,hfz15_3,hfz15_4,hfz15_5,hfz15_6⟩ := zc7 BK295
    go_upto_if 27 with (fail)
    go_cut [27] (fun v27 wc => ∃ (kq : Nat) (x27_13 : Bool),v27 = .bool x27_13 ∧ Aside0 (impl_MessageOK.j1 kq a0_0 x27_13 a0_0 a0_1 a0_2 a0_3 a0_4 a0_5 a0_6 = some r) ∧ Aside0 (kq ≤ kj1) ∧ Aside0 (wc.heap[gb295]? = some (.cells #[.int .i64 a0_0,.int .i64 a0_1,.int .i64 a0_2,.int .i64 a0_3,.string a0_4,.string a0_5,.string a0_6] 63 (0,0))) ∧ Aside0 (Below w.heap.size w wc))
    case first =>
     have H := HC14.out
     clear HC14
     by_cases c16 : a0_0 = 1
     ·rw [if_pos c16] at H
      have c16b0 : (a0_0 == 1) = true := beq_iff_eq.mpr c16
      have c16b1 : (a0_0 != 1) = false := bne_eq_false_iff_eq.mpr c16
      clear c16
      (first | rw [c16b0] | (simp only [i64_w,i32_w];rw [c16b0]) | skip)
      have H' := am_ H
      clear H
      go_wp2
      go_meet
      case rel => exact ⟨_,((a0_0 == 1)),(by first | rfl | (simp;done) | (simp [*];done)),H',⟨by have := HJ1.out;first | omega | exact Nat.le_refl _⟩,⟨by (with_reducible repeat (first | apply k1_ | apply k2_ | apply k3_));exact BK295.out⟩,⟨zl_ HB⟩⟩
     ·rw [if_neg c16] at H
      have c16b0 : (a0_0 == 1) = false := beq_eq_false_iff_ne.mpr c16
      have c16b1 : (a0_0 != 1) = true := bne_iff_ne.mpr c16
      (first | rw [c16b0] | (simp only [i64_w,i32_w];rw [c16b0]) | skip)
      by_cases c17 : a0_0 = 2
      ·rw [if_pos c17] at H
       have c17b0 : (a0_0 == 2) = true := beq_iff_eq.mpr c17
       have c17b1 : (a0_0 != 2) = false := bne_eq_false_iff_eq.mpr c17
       clear c17
       have H' := am_ H
       clear H
       go_wp2
       go_meet
       case rel => exact ⟨_,((a0_0 == 2)),(by first | rfl | (simp;done) | (simp [*];done)),H',⟨by have := HJ1.out;first | omega | exact Nat.le_refl _⟩,⟨by (with_reducible repeat (first | apply k1_ | apply k2_ | apply k3_));exact BK295.out⟩,⟨zl_ HB⟩⟩
      ·rw [if_neg c17] at H
       have c17b0 : (a0_0 == 2) = false := beq_eq_false_iff_ne.mpr c17
       have c17b1 : (a0_0 != 2) = true := bne_iff_ne.mpr c17
       have H' := am_ H
       clear H
       go_wp2
       go_meet
       case rel => exact ⟨_,((a0_0 == 3)),(by first | rfl | (simp;done) | (simp [*];done)),H',⟨by have := HJ1.out;first | omega | exact Nat.le_refl _⟩,⟨by (with_reducible repeat (first | apply k1_ | apply k2_ | apply k3_));exact BK295.out⟩,⟨zl_ HB⟩⟩
    case rest =>
     clear HC14
     try clear c1
     try clear p2
     try clear c5
     try clear c7
     try clear c8
     try clear c8b0
     try clear c8b1
     try clear c13
     try clear c16
     try clear c16b0
     try clear c16b1
     try clear c17
     try clear c17b0
     try clear c17b1
     try clear hcz10_0
     try clear hcz10_1
     try clear hcz10_2
     try clear hcz10_3
     try clear hcz10_4
     try clear hcz10_5
     try clear hcz10_6
     try clear hcz11_0
     try clear hcz11_1
     try clear hcz11_2
     try clear hcz11_3
     try clear hcz11_4
     try clear hcz11_5
     try clear hcz11_6
     try clear hcz12_0
     try clear hcz12_1
     try clear hcz12_2
     try clear hcz12_3
     try clear hcz12_4
     try clear hcz12_5
     try clear hcz12_6
     try clear hcz15_0
     try clear hcz15_1
     try clear hcz15_2
     try clear hcz15_3
     try clear hcz15_4
     try clear hcz15_5
     try clear hcz15_6
     try clear hcz9_0
     try clear hcz9_1
     try clear hcz9_2
     try clear hcz9_3
     try clear hcz9_4
     try clear hcz9_5
     try clear hcz9_6
     try clear hfz10_0
     try clear hfz10_1
     try clear hfz10_2
     try clear hfz10_3
     try clear hfz10_4
     try clear hfz10_5
     try clear hfz10_6
     try clear hfz11_0
     try clear hfz11_1
     try clear hfz11_2
     try clear hfz11_3
     try clear hfz11_4
     try clear hfz11_5
     try clear hfz11_6
     try clear hfz12_0
     try clear hfz12_1
     try clear hfz12_2
     try clear hfz12_3
     try clear hfz12_4
     try clear hfz12_5
     try clear hfz12_6
     try clear hfz15_0
     try clear hfz15_1
     try clear hfz15_2
     try clear hfz15_3
     try clear hfz15_4
     try clear hfz15_5
     try clear hfz15_6
     try clear hfz9_0
     try clear hfz9_1
     try clear hfz9_2
     try clear hfz9_3
     try clear hfz9_4
     try clear hfz9_5
     try clear hfz9_6
     try clear p2
     obtain ⟨kq,x27_13,rfl,HA,HJ13,BK295,HB⟩ := hcut
     cases kq with
     | zero => exact absurd HA.out (by simp [impl_MessageOK.j1])
     | succ kj13 =>
      have H := HA.out
      clear HA
      simp only [impl_MessageOK.j1] at H
      by_cases c18 : x27_13 = true
      ·subst c18
       have H1 : ((impl_within.f a0_2 1 8).bind fun t298 => (if t298 = true then ((impl_isHash.f a0_4).bind fun t299 => (if t299 = true then (some ((a0_5.toList != ([] : List UInt8)) == (a0_0 == 1))) else (some false))) else (some false))) = some r := by rw [if_pos rfl] at H;exact H
       clear H
       have H := H1
       clear H1
       replace H := Option.bind_eq_some_iff.mp H
       obtain ⟨t298,A190,H⟩ := H
       try dsimp only at H
       have A19 := am_ A190
       clear A190
       by_cases c20 : t298 = true
       ·subst c20
        have H1 : ((impl_isHash.f a0_4).bind fun t299 => (if t299 = true then (some ((a0_5.toList != ([] : List UInt8)) == (a0_0 == 1))) else (some false))) = some r := by rw [if_pos rfl] at H;exact H
        clear H
        have H := H1
        clear H1
        replace H := Option.bind_eq_some_iff.mp H
        obtain ⟨t299,A210,H⟩ := H
        try dsimp only at H
        have A21 := am_ A210
        clear A210
        by_cases c22 : t299 = true
        ·subst c22
         have H1 : (some ((a0_5.toList != ([] : List UInt8)) == (a0_0 == 1))) = some r := by rw [if_pos rfl] at H;exact H
         clear H
         have H := H1
         clear H1
         obtain rfl := Option.some.inj H
         obtain ⟨hcz23_0,hcz23_1,hcz23_2,hcz23_3,hcz23_4,hcz23_5,hcz23_6,hfz23_0,hfz23_1,hfz23_2,hfz23_3,hfz23_4,hfz23_5,hfz23_6⟩ := zc7 BK295
         go_wp2_with (first | ((with_reducible refine gate_callee (f := 51) rfl ?_);refine zgl (some 33) Try.func51 #[.int .i64 a0_2,.int .i64 1,.int .i64 8] ?_;(with_reducible refine (impl_within.calls a0_2 1 8 true _ A19.out).mono ?_);rintro e w' ⟨rfl,⟨nd,rfl⟩⟩;refine ⟨_,rfl,?_⟩) | (go_at_call 95;(with_reducible refine (impl_isHash.calls a0_4 true _ A21.out).mono ?_);rintro e w' ⟨rfl,⟨nd,rfl⟩⟩))
         go_ret
         exact ⟨zt_,zl_ HB⟩
        ·replace c22 := Bool.eq_false_iff.mpr c22
         subst c22
         have H1 : (some false) = some r := by rw [if_neg (show ¬ (false = true) by decide)] at H;exact H
         clear H
         have H := H1
         clear H1
         obtain rfl := Option.some.inj H
         obtain ⟨hcz24_0,hcz24_1,hcz24_2,hcz24_3,hcz24_4,hcz24_5,hcz24_6,hfz24_0,hfz24_1,hfz24_2,hfz24_3,hfz24_4,hfz24_5,hfz24_6⟩ := zc7 BK295
         go_wp2_with (first | ((with_reducible refine gate_callee (f := 51) rfl ?_);refine zgl (some 33) Try.func51 #[.int .i64 a0_2,.int .i64 1,.int .i64 8] ?_;(with_reducible refine (impl_within.calls a0_2 1 8 true _ A19.out).mono ?_);rintro e w' ⟨rfl,⟨nd,rfl⟩⟩;refine ⟨_,rfl,?_⟩) | (go_at_call 95;(with_reducible refine (impl_isHash.calls a0_4 false _ A21.out).mono ?_);rintro e w' ⟨rfl,⟨nd,rfl⟩⟩))
         go_ret
         exact ⟨zt_,zl_ HB⟩
       ·replace c20 := Bool.eq_false_iff.mpr c20
        subst c20
        have H1 : (some false) = some r := by rw [if_neg (show ¬ (false = true) by decide)] at H;exact H
        clear H
        have H := H1
        clear H1
        obtain rfl := Option.some.inj H
        obtain ⟨hcz25_0,hcz25_1,hcz25_2,hcz25_3,hcz25_4,hcz25_5,hcz25_6,hfz25_0,hfz25_1,hfz25_2,hfz25_3,hfz25_4,hfz25_5,hfz25_6⟩ := zc7 BK295
        go_wp2_with (first | ((with_reducible refine gate_callee (f := 51) rfl ?_);refine zgl (some 33) Try.func51 #[.int .i64 a0_2,.int .i64 1,.int .i64 8] ?_;(with_reducible refine (impl_within.calls a0_2 1 8 false _ A19.out).mono ?_);rintro e w' ⟨rfl,⟨nd,rfl⟩⟩;refine ⟨_,rfl,?_⟩))
        go_ret
        exact ⟨zt_,zl_ HB⟩
      ·replace c18 := Bool.eq_false_iff.mpr c18
       subst c18
       have H1 : (if a0_0 = 4 then (if a0_2 = 0 then (some (a0_4.toList == ([] : List UInt8))) else (some false)) else (if a0_0 = 5 then (if a0_2 = 0 then (some (a0_4.toList == ([] : List UInt8))) else (some false)) else (some false))) = some r := by rw [if_neg (show ¬ (false = true) by decide)] at H;exact H
       clear H
       have H := H1
       clear H1
       by_cases c26 : a0_0 = 4
       ·rw [if_pos c26] at H
        have c26b0 : (a0_0 == 4) = true := beq_iff_eq.mpr c26
        have c26b1 : (a0_0 != 4) = false := bne_eq_false_iff_eq.mpr c26
        clear c26
        by_cases c27 : a0_2 = 0
        ·rw [if_pos c27] at H
         have c27b0 : (a0_2 == 0) = true := beq_iff_eq.mpr c27
         have c27b1 : (a0_2 != 0) = false := bne_eq_false_iff_eq.mpr c27
         clear c27
         obtain rfl := Option.some.inj H
         obtain ⟨hcz28_0,hcz28_1,hcz28_2,hcz28_3,hcz28_4,hcz28_5,hcz28_6,hfz28_0,hfz28_1,hfz28_2,hfz28_3,hfz28_4,hfz28_5,hfz28_6⟩ := zc7 BK295
         go_wp2
         go_ret
         exact ⟨zt_,zl_ HB⟩
        ·rw [if_neg c27] at H
         have c27b0 : (a0_2 == 0) = false := beq_eq_false_iff_ne.mpr c27
         have c27b1 : (a0_2 != 0) = true := bne_iff_ne.mpr c27
         obtain rfl := Option.some.inj H
         obtain ⟨hcz29_0,hcz29_1,hcz29_2,hcz29_3,hcz29_4,hcz29_5,hcz29_6,hfz29_0,hfz29_1,hfz29_2,hfz29_3,hfz29_4,hfz29_5,hfz29_6⟩ := zc7 BK295
         go_wp2
         go_ret
         exact ⟨zt_,zl_ HB⟩
       ·rw [if_neg c26] at H
        have c26b0 : (a0_0 == 4) = false := beq_eq_false_iff_ne.mpr c26
        have c26b1 : (a0_0 != 4) = true := bne_iff_ne.mpr c26
        by_cases c30 : a0_0 = 5
        ·rw [if_pos c30] at H
         have c30b0 : (a0_0 == 5) = true := beq_iff_eq.mpr c30
         have c30b1 : (a0_0 != 5) = false := bne_eq_false_iff_eq.mpr c30
         clear c30
         by_cases c31 : a0_2 = 0
         ·rw [if_pos c31] at H
          have c31b0 : (a0_2 == 0) = true := beq_iff_eq.mpr c31
          have c31b1 : (a0_2 != 0) = false := bne_eq_false_iff_eq.mpr c31
          clear c31
          obtain rfl := Option.some.inj H
          obtain ⟨hcz32_0,hcz32_1,hcz32_2,hcz32_3,hcz32_4,hcz32_5,hcz32_6,hfz32_0,hfz32_1,hfz32_2,hfz32_3,hfz32_4,hfz32_5,hfz32_6⟩ := zc7 BK295
          go_wp2
          go_ret
          exact ⟨zt_,zl_ HB⟩
         ·rw [if_neg c31] at H
          have c31b0 : (a0_2 == 0) = false := beq_eq_false_iff_ne.mpr c31
          have c31b1 : (a0_2 != 0) = true := bne_iff_ne.mpr c31
          obtain rfl := Option.some.inj H
          obtain ⟨hcz33_0,hcz33_1,hcz33_2,hcz33_3,hcz33_4,hcz33_5,hcz33_6,hfz33_0,hfz33_1,hfz33_2,hfz33_3,hfz33_4,hfz33_5,hfz33_6⟩ := zc7 BK295
          go_wp2
          go_ret
          exact ⟨zt_,zl_ HB⟩
        ·rw [if_neg c30] at H
         have c30b0 : (a0_0 == 5) = false := beq_eq_false_iff_ne.mpr c30
         have c30b1 : (a0_0 != 5) = true := bne_iff_ne.mpr c30
         obtain rfl := Option.some.inj H
         go_wp2
         go_ret
         exact ⟨zt_,zl_ HB⟩
set_option maxHeartbeats 8000000 in
set_option maxRecDepth 100000 in
theorem impl_isPrepare.calls (k : Nat) (a0_0 : Int) (a0_1 : Int) (a0_2 : Int) (a0_3 : Int) (a0_4 : ByteArray) (a0_5 : ByteArray) (a0_6 : ByteArray) (r : Bool) (w : World) (h : impl_isPrepare.f k a0_0 a0_1 a0_2 a0_3 a0_4 a0_5 a0_6 = some r) :
  Calls Try.prog 68 #[.agg #[.int .i64 a0_0,.int .i64 a0_1,.int .i64 a0_2,.int .i64 a0_3,.string a0_4,.string a0_5,.string a0_6]] w fun e w' => e = .returned (.bool r) ∧ Below w.heap.size w w' := by
 have hu63 := Try.underlying63
 have HB := am_ (Below.refl w.heap.size w)
 have H : (if a0_0 = 2 then ((impl_MessageOK.f k a0_0 a0_1 a0_2 a0_3 a0_4 a0_5 a0_6).bind fun t301 => (some t301)) else (some false)) = some r := h
 clear h
 by_cases c2 : a0_0 = 2
 ·rw [if_pos c2] at H
  have c2b0 : (a0_0 == 2) = true := beq_iff_eq.mpr c2
  have c2b1 : (a0_0 != 2) = false := bne_eq_false_iff_eq.mpr c2
  clear c2
  replace H := Option.bind_eq_some_iff.mp H
  obtain ⟨t301,A30,H⟩ := H
  try dsimp only at H
  have A3 := am_ A30
  clear A30
  obtain rfl := Option.some.inj H
  go_enter Try.func68,Try.ntmps68
  go_wp2_with (first | ((with_reducible refine gate_dst (N := 1) rfl ?_);refine zbx (N := 1) (cs := #[.int .i64 a0_0,.int .i64 a0_1,.int .i64 a0_2,.int .i64 a0_3,.string a0_4,.string a0_5,.string a0_6]) (t := 63) ?_;intro gb300 hg w4 hbox hb;have BK300 := am_ (hbox);have GW300 := zw_ HB hg;have GE300 := zw_ HB hg;replace HB := zs_ HB hb;clear hb hbox hg;obtain ⟨hcz5_0,hcz5_1,hcz5_2,hcz5_3,hcz5_4,hcz5_5,hcz5_6,hfz5_0,hfz5_1,hfz5_2,hfz5_3,hfz5_4,hfz5_5,hfz5_6⟩ := zc7 BK300) | (go_at_call 83;(with_reducible refine (impl_MessageOK.calls k a0_0 a0_1 a0_2 a0_3 a0_4 a0_5 a0_6 t301 _ A3.out).mono ?_);rintro e w6 ⟨rfl,hb⟩;replace BK300 := zb BK300 hb;replace HB := zs_ HB hb;(try clear hb);(try clear hb2);(try clear hk);(try clear hi)))
  go_ret
  exact ⟨zt_,zl_ HB⟩
 ·rw [if_neg c2] at H
  have c2b0 : (a0_0 == 2) = false := beq_eq_false_iff_ne.mpr c2
  have c2b1 : (a0_0 != 2) = true := bne_iff_ne.mpr c2
  obtain rfl := Option.some.inj H
  go_enter Try.func68,Try.ntmps68
  go_wp2_with (first | ((with_reducible refine gate_dst (N := 1) rfl ?_);refine zbx (N := 1) (cs := #[.int .i64 a0_0,.int .i64 a0_1,.int .i64 a0_2,.int .i64 a0_3,.string a0_4,.string a0_5,.string a0_6]) (t := 63) ?_;intro gb300 hg w7 hbox hb;have BK300 := am_ (hbox);have GW300 := zw_ HB hg;have GE300 := zw_ HB hg;replace HB := zs_ HB hb;clear hb hbox hg;obtain ⟨hcz8_0,hcz8_1,hcz8_2,hcz8_3,hcz8_4,hcz8_5,hcz8_6,hfz8_0,hfz8_1,hfz8_2,hfz8_3,hfz8_4,hfz8_5,hfz8_6⟩ := zc7 BK300))
  go_ret
  exact ⟨zt_,zl_ HB⟩
set_option maxHeartbeats 8000000 in
set_option maxRecDepth 100000 in
theorem impl_readList_1.calls (a0 : ByteArray) (r : Bool) (w : World) (h : impl_readList_1.f a0 = some r) :
  Calls Try.prog 91 #[.string a0] w fun e w' => e = .returned (.bool r) ∧ Drawn0 w w' := by
 have H : (some (decide ((a0.size : Int) > 20000))) = some r := h
 clear h
 obtain rfl := Option.some.inj H
 go_enter Try.func91,Try.ntmps91
 go_wp2
 go_ret
 exact ⟨by first | rfl | (simp;done) | (simp [*];done),by repeat (first | exact Drawn0.refl _ | apply Drawn0.step)⟩
theorem contains_impl_readList_1_pred (s : ByteArray) : impl_readList_1.f s = some ((impl_readList_1.f s).getD false) := rfl
set_option maxHeartbeats 2000000 in
theorem contains_impl_readList_1_ix (A0 : Option Addr) (c0 : Nat) (l0 : List ByteArray) (w : World) (hr0 : Kd.C Kd.string w A0 l0.length l0) :
  Calls Try.prog 96 #[.slice A0 l0.length c0,.func (.func 91) #[] #[]] w fun e w' => e = .returned (.int .i64 (Lib.idxBy (fun _ y => (impl_readList_1.f y).getD false) l0 default)) ∧ ∃ q,w' = w.drewN q := by
 have hlen : l0.length ≤ 9223372036854775807 := hr0.2.1
 have HR0 := am_ hr0
 clear hr0
 have hcl : ∀ (s : ByteArray) (W : World),Calls Try.prog 91 #[.string s] W fun e w' => e = .returned (.bool ((impl_readList_1.f s).getD false)) ∧ ∃ q,w' = W.drewN q := fun s W => (impl_readList_1.calls s _ W (contains_impl_readList_1_pred s)).mono fun e w' h => ⟨h.1,h.2.out⟩
 generalize hp : (fun s => (impl_readList_1.f s).getD false) = p at *
 have hp2 : ∀ s,(impl_readList_1.f s).getD false = p s := fun s => congrFun hp s
 simp only [hp2] at hcl ⊢
 clear hp hp2
 have HCL := am_ hcl
 clear hcl
 go_enter Try.func96,Try.ntmps96
 go_wp2
 go_loopg [5,8] l0.length (fun gg _ s8 wr => ∃ kk q : Nat,kk ≤ l0.length ∧ l0.length - kk ≤ gg ∧ s8 = .int .i64 kk ∧ wr = w.drewN q ∧ Aside0 (∀ j,j < kk → p l0[j]! = false))
 case atStart => exact ⟨0,0,Nat.zero_le _,by omega,rfl,rfl,⟨fun j hj => absurd hj (Nat.not_lt_zero _)⟩⟩
 case round =>
  obtain ⟨kk,q,hkk,hg,rfl,rfl,HA⟩ := hrel
  by_cases hlt : kk < l0.length
  ·have hltz : (kk : Int) < (l0.length : Int) := by omega
   obtain ⟨ad,e0,hcell0⟩ := Kd.at_string HR0.out (kk : Int) (by omega) hltz
   subst e0
   have hcell : w.cell? (ad.add kk) = some (.string l0[kk]!) := by
    rw [Int.toNat_natCast] at hcell0
    rw [hcell0]
    simp [rdOf,List.getD,getElem!_def,List.getElem?_eq_getElem hlt]
   clear hcell0
   generalize hy : l0[kk]! = y at hcell
   have HB := am_ hy
   clear hy
   cases hq : p y with
   | true =>
    have hcall := fun W => HCL.out y W
    rw [hq] at hcall
    have HC2 := am_ hcall
    clear hcall
    go_wp2_with (go_at_call 91;refine (HC2.out _).mono ?_;rintro e w' ⟨rfl,q',rfl⟩)
    go_ret
    refine ⟨?_,_,rfl⟩
    have hh := Lib.idxBy_hit (fun _ y => p y) l0 l0.length kk default hlt (Nat.le_refl _) (by show p l0[kk]! = true;rw [HB.out];exact hq) HA.out
    rw [List.take_length] at hh
    rw [hh]
    rfl
   | false =>
    have hcall := fun W => HCL.out y W
    rw [hq] at hcall
    have HC2 := am_ hcall
    clear hcall
    go_wp2_with (go_at_call 91;refine (HC2.out _).mono ?_;rintro e w' ⟨rfl,q',rfl⟩)
    go_roundg (l0.length - (kk + 1))
    case measure => omega
    case rel =>
     refine ⟨kk + 1,_,by omega,by omega,by go_num,rfl,⟨fun j hj => ?_⟩⟩
     by_cases e : j = kk
     ·subst e
      rw [HB.out];exact hq
     ·exact HA.out j (by omega)
  ·have hltz : ¬ (kk : Int) < (l0.length : Int) := by omega
   have hk : kk = l0.length := by omega
   subst hk
   go_wp2
   go_ret
   refine ⟨?_,_,rfl⟩
   have hh := Lib.idxBy_miss (fun _ y => p y) l0 l0.length default (fun j hj => HA.out j hj)
   rw [List.take_length] at hh
   rw [hh]
   rfl
theorem contains_impl_readList_1.calls (A0 : Option Addr) (c0 : Nat) (l0 : List ByteArray) (r : Bool) (w : World) (hr0 : Kd.C Kd.string w A0 l0.length l0) (hc0 : l0.length ≤ c0) (h : contains_impl_readList_1.f l0 = some r) :
  Calls Try.prog 90 #[.slice A0 l0.length c0,.func (.func 91) #[] #[]] w fun e w' => e = .returned (.bool r) ∧ Drawn0 w w' := by
 have hr : (decide (0 ≤ Lib.idxBy (fun _ y => (impl_readList_1.f y).getD false) l0 default)) = r := by
  rw [Lib.idxBy_nonneg_iff (fun _ y => (impl_readList_1.f y).getD false) l0 default]
  exact Option.some.inj h
 have hix := fun W (hW : Kd.C Kd.string W A0 l0.length l0) => contains_impl_readList_1_ix A0 c0 l0 W hW
 generalize Lib.idxBy (fun _ y => (impl_readList_1.f y).getD false) l0 default = i at hr hix
 subst hr
 have HR0 := am_ hr0
 have HIX := am_ hix
 clear hr0 hc0 h hix
 go_enter Try.func90,Try.ntmps90
 go_wp2_with (go_at_call 96;refine (HIX.out _ HR0.out).mono ?_;rintro e w' ⟨rfl,q,rfl⟩)
 go_ret
 exact ⟨rfl,⟨⟨_,rfl⟩⟩⟩
set_option maxHeartbeats 8000000 in
set_option maxRecDepth 100000 in
theorem impl_reader_done.calls (g : Nat) (s0_0 : ByteArray) (s0_1 : Bool) (r1 : Bool) (r2 : ByteArray) (r3 : Bool) (w0 w : World) (hI : IsS112 w0 w g s0_0 s0_1) (hB : Below w0.heap.size w0 w) (h : impl_reader_done.f s0_0 s0_1 = some (r1,r2,r3)) :
  Calls Try.prog 89 #[.pointer (some ⟨g,0,none⟩)] w fun e w' => e = .returned (.bool r1) ∧ IsS112 w0 w' g r2 r3 ∧ Below w0.heap.size w0 w' ∧ KeepBut w w' g none := by
 have HI0 := am_ hI
 have HK := am_ (KeepBut.refl w g none)
 have HL := am_ hB.size
 clear hI
 have HW0 := am_ hB.size
 have HB := am_ hB
 clear hB
 have H : (if s0_1 = true then (some (false,s0_0,s0_1)) else (some ((s0_0.toList == ([] : List UInt8)),s0_0,s0_1))) = some (r1,r2,r3) := h
 clear h
 by_cases c2 : s0_1 = true
 ·subst c2
  have H1 : (some (false,s0_0,true)) = some (r1,r2,r3) := by rw [if_pos rfl] at H;exact H
  clear H
  have H := H1
  clear H1
  simp only [Option.some.injEq,Prod.mk.injEq] at H
  obtain ⟨rfl,rfl,rfl⟩ := H
  obtain ⟨HGz3,hgz3⟩ := HI0.out
  have hcz3_0 := cellS112_0 HGz3
  have hcz3_1 := cellS112_1 HGz3
  have hfz3_0 := blk_frozen HGz3 0
  have hfz3_1 := blk_frozen HGz3 1
  clear HGz3 hgz3
  go_enter Try.func89,Try.ntmps89
  go_wp2
  go_ret
  exact ⟨zt_,(zi112 HI0),zl_ HB,zh_ HK⟩
 ·replace c2 := Bool.eq_false_iff.mpr c2
  subst c2
  have H1 : (some ((s0_0.toList == ([] : List UInt8)),s0_0,false)) = some (r1,r2,r3) := by rw [if_neg (show ¬ (false = true) by decide)] at H;exact H
  clear H
  have H := H1
  clear H1
  simp only [Option.some.injEq,Prod.mk.injEq] at H
  obtain ⟨rfl,rfl,rfl⟩ := H
  obtain ⟨HGz4,hgz4⟩ := HI0.out
  have hcz4_0 := cellS112_0 HGz4
  have hcz4_1 := cellS112_1 HGz4
  have hfz4_0 := blk_frozen HGz4 0
  have hfz4_1 := blk_frozen HGz4 1
  clear HGz4 hgz4
  go_enter Try.func89,Try.ntmps89
  go_wp2
  go_ret
  exact ⟨zt_,(zi112 HI0),zl_ HB,zh_ HK⟩
set_option maxHeartbeats 8000000 in
set_option maxRecDepth 100000 in
theorem impl_reader_take.calls (g : Nat) (s0_0 : ByteArray) (s0_1 : Bool) (a1 : Int) (r1 : ByteArray) (r2 : ByteArray) (r3 : Bool) (w0 w : World) (hI : IsS112 w0 w g s0_0 s0_1) (hB : Below w0.heap.size w0 w) (h : impl_reader_take.f s0_0 s0_1 a1 = some (r1,r2,r3)) :
  Calls Try.prog 92 #[.pointer (some ⟨g,0,none⟩),.int .i64 a1] w fun e w' => e = .returned (.string r1) ∧ IsS112 w0 w' g r2 r3 ∧ Below w0.heap.size w0 w' ∧ KeepBut w w' g none := by
 have HI0 := am_ hI
 have HK := am_ (KeepBut.refl w g none)
 have HL := am_ hB.size
 clear hI
 have HW0 := am_ hB.size
 have HB := am_ hB
 clear hB
 have H : (if s0_1 = true then (some ((⟨#[]⟩ : ByteArray),s0_0,true)) else (if a1 > (s0_0.size : Int) then (some ((⟨#[]⟩ : ByteArray),s0_0,true)) else (if 0 ≤ a1 then (if a1 ≤ (s0_0.size : Int) then (some (s0_0.extract 0 (a1 : Int).toNat,s0_0.extract (a1 : Int).toNat s0_0.size,s0_1)) else (none)) else (none)))) = some (r1,r2,r3) := h
 clear h
 by_cases c3 : s0_1 = true
 ·subst c3
  have H1 : (some ((⟨#[]⟩ : ByteArray),s0_0,true)) = some (r1,r2,r3) := by rw [if_pos rfl] at H;exact H
  clear H
  have H := H1
  clear H1
  simp only [Option.some.injEq,Prod.mk.injEq] at H
  obtain ⟨rfl,rfl,rfl⟩ := H
  obtain ⟨HGz4,hgz4⟩ := HI0.out
  have hcz4_0 := cellS112_0 HGz4
  have hcz4_1 := cellS112_1 HGz4
  have hfz4_0 := blk_frozen HGz4 0
  have hfz4_1 := blk_frozen HGz4 1
  clear HGz4 hgz4
  go_enter Try.func92,Try.ntmps92
  go_wp2
  go_ret
  exact ⟨zt_,(zi112 HI0),zl_ HB,zh_ HK⟩
 ·replace c3 := Bool.eq_false_iff.mpr c3
  subst c3
  have H1 : (if a1 > (s0_0.size : Int) then (some ((⟨#[]⟩ : ByteArray),s0_0,true)) else (if 0 ≤ a1 then (if a1 ≤ (s0_0.size : Int) then (some (s0_0.extract 0 (a1 : Int).toNat,s0_0.extract (a1 : Int).toNat s0_0.size,false)) else (none)) else (none))) = some (r1,r2,r3) := by rw [if_neg (show ¬ (false = true) by decide)] at H;exact H
  clear H
  have H := H1
  clear H1
  by_cases c5 : a1 > (s0_0.size : Int)
  ·rw [if_pos c5] at H
   have c5b0 : decide ((s0_0.size : Int) < a1) = true := decide_eq_true c5
   clear c5
   simp only [Option.some.injEq,Prod.mk.injEq] at H
   obtain ⟨rfl,rfl,rfl⟩ := H
   obtain ⟨HGz6,hgz6⟩ := HI0.out
   have hcz6_0 := cellS112_0 HGz6
   have hcz6_1 := cellS112_1 HGz6
   have hfz6_0 := blk_frozen HGz6 0
   have hfz6_1 := blk_frozen HGz6 1
   clear HGz6 hgz6
   go_enter Try.func92,Try.ntmps92
   go_wp2
   go_ret
   exact ⟨zt_,(zi112 HI0),zl_ HB,zh_ HK⟩
  ·rw [if_neg c5] at H
   have c5b0 : decide ((s0_0.size : Int) < a1) = false := decide_eq_false c5
   clear c5
   by_cases c7 : 0 ≤ a1
   ·rw [if_pos c7] at H
    have c7b0 := eq_true c7
    have c7b1 : decide (0 ≤ a1) = true := decide_eq_true c7
    clear c7
    by_cases c8 : a1 ≤ (s0_0.size : Int)
    ·rw [if_pos c8] at H
     have c8b0 := eq_true c8
     have c8b1 : decide (a1 ≤ (s0_0.size : Int)) = true := decide_eq_true c8
     clear c8
     have c9b0 := eq_true (zo_ : 0 ≤ a1)
     have c10b0 := eq_true (zo_ : a1 ≤ (s0_0.size : Int))
     simp only [Option.some.injEq,Prod.mk.injEq] at H
     obtain ⟨rfl,rfl,rfl⟩ := H
     obtain ⟨HGz11,hgz11⟩ := HI0.out
     have hcz11_0 := cellS112_0 HGz11
     have hcz11_1 := cellS112_1 HGz11
     have hfz11_0 := blk_frozen HGz11 0
     have hfz11_1 := blk_frozen HGz11 1
     clear HGz11 hgz11
     go_enter Try.func92,Try.ntmps92
     go_wp2
     go_ret
     exact ⟨zt_,(zi112 HI0),zl_ HB,zh_ HK⟩
    ·rw [if_neg c8] at H
     exact absurd H (by simp)
   ·rw [if_neg c7] at H
    exact absurd H (by simp)
set_option maxHeartbeats 8000000 in
set_option maxRecDepth 100000 in
theorem impl_reader_number.calls (k : Nat) (g : Nat) (s0_0 : ByteArray) (s0_1 : Bool) (a1 : Int) (r1 : Int) (r2 : ByteArray) (r3 : Bool) (w0 w : World) (hI : IsS112 w0 w g s0_0 s0_1) (hB : Below w0.heap.size w0 w) (h : impl_reader_number.f k s0_0 s0_1 a1 = some (r1,r2,r3)) :
  Calls Try.prog 87 #[.pointer (some ⟨g,0,none⟩),.int .i64 a1] w fun e w' => e = .returned (.int .i64 r1) ∧ IsS112 w0 w' g r2 r3 ∧ Below w0.heap.size w0 w' ∧ KeepBut w w' g none := by
 have HI0 := am_ hI
 have HK := am_ (KeepBut.refl w g none)
 have HL := am_ hB.size
 clear hI
 have HW0 := am_ hB.size
 have HB := am_ hB
 clear hB
 have H : ((impl_reader_take.f s0_0 s0_1 a1).bind fun bt458 => (if bt458.1.size ≤ 140737488355328 then ((some (bytesOf bt458.1 : List Int)).bind fun y461 => (impl_reader_number.l0 k 0 y461 (y461.length : Int) 0 bt458.2.1 bt458.2.2)) else (none))) = some (r1,r2,r3) := h
 clear h
 replace H := Option.bind_eq_some_iff.mp H
 obtain ⟨⟨t458,t459,t460⟩,A30,H⟩ := H
 try dsimp only at H
 have A3 := am_ A30
 clear A30
 by_cases c4 : t458.size ≤ 140737488355328
 ·rw [if_pos c4] at H
  have c4b0 := eq_true c4
  have c4b1 : decide (t458.size ≤ 140737488355328) = true := decide_eq_true c4
  clear c4
  obtain ⟨y461,hy461⟩ : ∃ y_ : List Int,y_ = (bytesOf t458) := ⟨_,rfl⟩
  replace H : (impl_reader_number.l0 k 0 y461 (y461.length : Int) 0 t459 t460) = some (r1,r2,r3) := by first | (rw [hy461];with_reducible exact H) | (have H2_ := (Option.bind_some _ _).symm.trans H;rw [hy461];with_reducible exact H2_) | (have H2_ := (Option.bind_some _ _).symm.trans H;with_reducible exact H2_) | with_reducible exact H | (rw [hy461];exact H) | exact H
  have Ny461 := am_ hy461
  clear hy461
  have H' := am_ H
  clear H
  go_enter Try.func87,Try.ntmps87
  go_wp2_with (first | ((with_reducible refine gate_callee (f := 92) rfl ?_);refine zgl (some 10) Try.func92 #[.pointer (some ⟨g,0,none⟩),.int .i64 a1] ?_;(with_reducible refine (impl_reader_take.calls g s0_0 s0_1 a1 t458 t459 t460 w0 _ ?side1 ?side2 A3.out).mono ?_);(case side1 => exact zi112 HI0);(case side2 => exact zl_ HB);rintro e w5 ⟨rfl,hi,hb,hk⟩;refine ⟨_,rfl,?_⟩;replace HK := am_ (KeepBut.trans (zh_ HK) hk (.inl rfl));replace HB := am_ (hb);replace HI0 := am_ (hi);(try clear hb);(try clear hb2);(try clear hk);(try clear hi)) | ((with_reducible refine gate_dst (N := 11) rfl ?_);refine Kd.V_conv (Kd.int .u8) rfl _ 5 rfl (N := 11) rfl 9 24 _ rfl t458 rfl Try.underlying9 Try.underlying24 Try.underlying5 (ok := fun k_ => w5.heap.size ≤ k_) (okp := fun _ => False) (fun _ hk => hk.elim) (Nat.le_refl _) (by have := o1_ (by first | (with_reducible assumption) | assumption : decide (t458.size ≤ 140737488355328) = true);omega) (Below.refl _ _) (Nat.le_refl _) ?_;intro v462 w6 ho7 hb hg_ hnew_;clear hg_ hnew_;(first | rw [← Ny461.out] at ho7 | (simp only [Int.reduceToNat] at ho7;rw [← Ny461.out] at ho7));have HO463 := am_ (Kd.V_lower (Kd.V_mono (ok' := fun k_ => k_ ≠ g) ho7 (fun k_ hk_ => (IsS112.fresh (zi112 HI0) k_ hk_))) (keep_size (w := w) (g := g) (row := none) (zh_ HK)));replace HI0 := am_ (IsS112.below (zi112 HI0) hb);replace HK := am_ (KeepBut.trans (zh_ HK) (KeepBut.of_below hb g none) (.inl rfl));replace HB := zs_ HB hb;clear hb ho7;obtain ⟨Ao8,co8,eo8⟩ := Kd.V_slice HO463.out;subst eo8))
  go_loopg [5,13] k (fun kq v5 v13 w' => ∃ (x5_1 : Int) (x13_1 : Int),v5 = .int .i64 x5_1 ∧ v13 = .int .i64 x13_1 ∧ Aside0 (impl_reader_number.l0 kq x5_1 y461 (y461.length : Int) x13_1 t459 t460 = some (r1,r2,r3)) ∧ Aside0 (kq ≤ k) ∧ Aside0 (Kd.V (Kd.int .u8) 5 w' w.heap.size (fun k_ => k_ ≠ g) (.slice Ao8 y461.length co8) y461) ∧ Aside0 (IsS112 w0 w' g t459 t460) ∧ Aside0 (KeepBut w w' g none) ∧ Aside0 (Below w0.heap.size w0 w'))
  case atStart => exact ⟨(0),(0),(by first | rfl | (simp;done) | (simp [*];done)),(by first | rfl | (simp;done) | (simp [*];done)),H',⟨Nat.le_refl _⟩,⟨by (with_reducible repeat (first | apply Kd.V_alloc | apply Kd.V_drewN | apply Kd.V_drew));exact HO463.out⟩,⟨(zi112 HI0)⟩,⟨zh_ HK⟩,⟨zl_ HB⟩⟩
  case round =>
   clear H'
   try clear p2
   try clear c4
   try clear c4b0
   try clear c4b1
   try clear c8
   obtain ⟨x5_1,x13_1,rfl,rfl,HA,HK1,HO_11,HI0,HK,HB⟩ := hrel
   cases gk with
   | zero => exact absurd HA.out (by simp [impl_reader_number.l0])
   | succ k1 =>
    have H := HA.out
    clear HA
    simp only [impl_reader_number.l0] at H
    by_cases c9 : x13_1 < (y461.length : Int)
    ·rw [if_pos c9] at H
     have c9b0 : decide (x13_1 < (y461.length : Int)) = true := decide_eq_true c9
     clear c9
     by_cases c10 : 0 ≤ x13_1
     ·rw [if_pos c10] at H
      have c10b0 : decide (0 ≤ x13_1) = true := decide_eq_true c10
      clear c10
      by_cases c11 : x13_1 < (y461.length : Int)
      ·rw [if_pos c11] at H
       have c11b0 : decide (x13_1 < (y461.length : Int)) = true := decide_eq_true c11
       clear c11
       have H' := am_ H
       clear H
       have p464 : 0 ≤ (x13_1 : Int) := zo_
       have q464 : x13_1 < (y461.length : Int) := zo_
       obtain ⟨ad464,e464,hx464_0⟩ := Kd.at_int (Kd.V_reads' HO_11.out).2.2 x13_1 p464 q464
       cases e464
       replace p464 := eq_true p464
       replace q464 := eq_true q464
       go_wp2
       go_roundg k1
       case measure => have := HK1.out;omega
       case rel => exact ⟨(Go.bits .or .i64 (wrap64 (x5_1 * 256)) (wrap64 (rd y461 x13_1))),(wrap64 (x13_1 + 1)),(by first | rfl | (simp;done) | (simp [*];done)),(by first | rfl | (simp;done) | (simp [*];done)),H',⟨by have := HK1.out;omega⟩,⟨by (with_reducible repeat (first | apply Kd.V_alloc | apply Kd.V_drewN | apply Kd.V_drew));exact HO_11.out⟩,⟨(zi112 HI0)⟩,⟨zh_ HK⟩,⟨zl_ HB⟩⟩
      ·rw [if_neg c11] at H
       exact absurd H (by simp)
     ·rw [if_neg c10] at H
      exact absurd H (by simp)
    ·rw [if_neg c9] at H
     have c9b0 : decide (x13_1 < (y461.length : Int)) = false := decide_eq_false c9
     clear c9
     simp only [Option.some.injEq,Prod.mk.injEq] at H
     obtain ⟨rfl,rfl,rfl⟩ := H
     go_wp2
     go_ret
     exact ⟨zt_,(zi112 HI0),zl_ HB,zh_ HK⟩
 ·rw [if_neg c4] at H
  exact absurd H (by simp)
set_option maxHeartbeats 8000000 in
set_option maxRecDepth 100000 in
theorem impl_reader_sized.calls (k : Nat) (g : Nat) (s0_0 : ByteArray) (s0_1 : Bool) (a1 : Int) (r1 : ByteArray) (r2 : ByteArray) (r3 : Bool) (w0 w : World) (hI : IsS112 w0 w g s0_0 s0_1) (hB : Below w0.heap.size w0 w) (h : impl_reader_sized.f k s0_0 s0_1 a1 = some (r1,r2,r3)) :
  Calls Try.prog 88 #[.pointer (some ⟨g,0,none⟩),.int .i64 a1] w fun e w' => e = .returned (.string r1) ∧ IsS112 w0 w' g r2 r3 ∧ Below w0.heap.size w0 w' ∧ KeepBut w w' g none := by
 have HI0 := am_ hI
 have HK := am_ (KeepBut.refl w g none)
 have HL := am_ hB.size
 clear hI
 have HW0 := am_ hB.size
 have HB := am_ hB
 clear hB
 have H : ((impl_reader_number.f k s0_0 s0_1 a1).bind fun bt465 => ((impl_reader_take.f bt465.2.1 bt465.2.2 bt465.1).bind fun bt468 => (some (bt468.1,bt468.2.1,bt468.2.2)))) = some (r1,r2,r3) := h
 clear h
 replace H := Option.bind_eq_some_iff.mp H
 obtain ⟨⟨t465,t466,t467⟩,A30,H⟩ := H
 try dsimp only at H
 have A3 := am_ A30
 clear A30
 replace H := Option.bind_eq_some_iff.mp H
 obtain ⟨⟨t468,t469,t470⟩,A40,H⟩ := H
 try dsimp only at H
 have A4 := am_ A40
 clear A40
 simp only [Option.some.injEq,Prod.mk.injEq] at H
 obtain ⟨rfl,rfl,rfl⟩ := H
 go_enter Try.func88,Try.ntmps88
 go_wp2_with (first | ((with_reducible refine gate_callee (f := 87) rfl ?_);refine zgl (some 8) Try.func87 #[.pointer (some ⟨g,0,none⟩),.int .i64 a1] ?_;(with_reducible refine (impl_reader_number.calls k g s0_0 s0_1 a1 t465 t466 t467 w0 _ ?side1 ?side2 A3.out).mono ?_);(case side1 => exact zi112 HI0);(case side2 => exact zl_ HB);rintro e w5 ⟨rfl,hi,hb,hk⟩;refine ⟨_,rfl,?_⟩;replace HK := am_ (KeepBut.trans (zh_ HK) hk (.inl rfl));replace HB := am_ (hb);replace HI0 := am_ (hi);(try clear hb);(try clear hb2);(try clear hk);(try clear hi)) | ((with_reducible refine gate_callee (f := 92) rfl ?_);refine zgl (some 9) Try.func92 #[.pointer (some ⟨g,0,none⟩),.int .i64 t465] ?_;(with_reducible refine (impl_reader_take.calls g t466 t467 t465 t468 t469 t470 w0 _ ?side1 ?side2 A4.out).mono ?_);(case side1 => exact zi112 HI0);(case side2 => exact zl_ HB);rintro e w6 ⟨rfl,hi,hb,hk⟩;refine ⟨_,rfl,?_⟩;replace HK := am_ (KeepBut.trans (zh_ HK) hk (.inl rfl));replace HB := am_ (hb);replace HI0 := am_ (hi);(try clear hb);(try clear hb2);(try clear hk);(try clear hi)))
 go_ret
 exact ⟨zt_,(zi112 HI0),zl_ HB,zh_ HK⟩
set_option maxHeartbeats 8000000 in
set_option maxRecDepth 100000 in
theorem impl_readList.calls (k : Nat) (a0 : ByteArray) (r1 : List ByteArray) (r2 : Bool) (w : World) (h : impl_readList.f k a0 = some (r1,r2)) :
  Calls Try.prog 74 #[.string a0] w fun e w' => ∃ v0_ : Value,e = .returned (.tuple #[v0_,.bool r2]) ∧ Kd.R Kd.string 9 w' w.heap.size (fun _ => True) v0_ r1 ∧ Below w.heap.size w w' := by
 have hu112 := Try.underlying112
 have HB := am_ (Below.refl w.heap.size w)
 have H : ((impl_reader_number.f k a0 false 1).bind fun bt472 => (impl_readList.l0 k ([] : List ByteArray) bt472.1 0 bt472.2.1 bt472.2.2)) = some (r1,r2) := h
 clear h
 replace H := Option.bind_eq_some_iff.mp H
 obtain ⟨⟨t472,t473,t474⟩,A20,H⟩ := H
 try dsimp only at H
 have A2 := am_ A20
 clear A20
 have H' := am_ H
 clear H
 go_enter Try.func74,Try.ntmps74
 go_wp2_with (first | ((with_reducible refine gate_dst (N := 8) rfl ?_);(try (refine gate_guard (by rfl) ?_;dsimp only));refine zbx (N := 8) (cs := #[.string a0,.bool false]) (t := 112) ?_;intro g471 hg w3 hbox hb;have HI471 := am_ ((show IsS112 w _ g471 a0 false from ⟨hbox,(by rw [hg];exact (below_size (zl_ HB)) : w.heap.size ≤ g471)⟩));replace HB := zs_ HB hb;clear hb hbox hg) | ((with_reducible refine gate_callee (f := 87) rfl ?_);refine zgl (some 10) Try.func87 #[.pointer (some ⟨g471,0,none⟩),.int .i64 1] ?_;(with_reducible refine (impl_reader_number.calls k g471 a0 false 1 t472 t473 t474 w _ ?side1 ?side2 A2.out).mono ?_);(case side1 => exact zi112 HI471);(case side2 => exact zl_ HB);rintro e w4 ⟨rfl,hi,hb,hk⟩;refine ⟨_,rfl,?_⟩;replace HB := am_ (hb);replace HI471 := am_ (hi);(try clear hb);(try clear hb2);(try clear hk);(try clear hi)))
 go_loopg [5,11] k (fun kq v5 v11 w' => ∃ (x5_1 : List ByteArray) (x11_1 : Int) (x472000_1 : ByteArray) (x472001_1 : Bool),v11 = .int .i64 x11_1 ∧ Aside0 (impl_readList.l0 kq x5_1 t472 x11_1 x472000_1 x472001_1 = some (r1,r2)) ∧ Aside0 (kq ≤ k) ∧ Aside0 (Kd.R Kd.string 9 w' w.heap.size (fun _ => True) v5 x5_1) ∧ Aside0 (IsS112 w w' g471 x472000_1 x472001_1) ∧ Aside0 (Below w.heap.size w w'))
 case atStart => exact ⟨(([] : List ByteArray)),(0),(t473),(t474),(by first | rfl | (simp;done) | (simp [*];done)),H',⟨Nat.le_refl _⟩,⟨by first | exact Kd.R_nil _ _ _ _ _ | exact Kd.N_nil _ _ _ _ _ | exact Kd.V_nil _ _ _ _ _ | exact Kd.Q_nil _ _ _ _ _ | exact Kd.S_nil _ _ _ _ _⟩,⟨(zi112 HI471)⟩,⟨zl_ HB⟩⟩
 case round =>
  clear H'
  try clear p2
  obtain ⟨x5_1,x11_1,x472000_1,x472001_1,rfl,HA,HK1,HO_5,HI471,HB⟩ := hrel
  cases gk with
  | zero => exact absurd HA.out (by simp [impl_readList.l0])
  | succ k1 =>
   have H := HA.out
   clear HA
   simp only [impl_readList.l0] at H
   by_cases c5 : x11_1 < t472
   ·rw [if_pos c5] at H
    have c5b0 : decide (x11_1 < t472) = true := decide_eq_true c5
    clear c5
    replace H := Option.bind_eq_some_iff.mp H
    obtain ⟨⟨t475,t476,t477⟩,A60,H⟩ := H
    try dsimp only at H
    have A6 := am_ A60
    clear A60
    by_cases c7 : x5_1.length < 8796093022208
    ·rw [if_pos c7] at H
     have LMc7 := am_ c7
     clear c7
     obtain ⟨y478,hy478⟩ : ∃ y_ : List ByteArray,y_ = (x5_1 ++ [t475]) := ⟨_,rfl⟩
     replace H : (impl_readList.l0 k1 y478 t472 (wrap64 (x11_1 + 1)) t476 t477) = some (r1,r2) := by first | (rw [hy478];with_reducible exact H) | (have H2_ := (Option.bind_some _ _).symm.trans H;rw [hy478];with_reducible exact H2_) | (have H2_ := (Option.bind_some _ _).symm.trans H;with_reducible exact H2_) | with_reducible exact H | (rw [hy478];exact H) | exact H
     have Ny478 := am_ hy478
     clear hy478
     have H' := am_ H
     clear H
     go_wp2_with (first | ((with_reducible refine gate_callee (f := 88) rfl ?_);refine zgl (some 15) Try.func88 #[.pointer (some ⟨g471,0,none⟩),.int .i64 2] ?_;(with_reducible refine (impl_reader_sized.calls k1 g471 x472000_1 x472001_1 2 t475 t476 t477 w _ ?side1 ?side2 A6.out).mono ?_);(case side1 => exact zi112 HI471);(case side2 => exact zl_ HB);rintro e w8 ⟨rfl,hi,hb,hk⟩;refine ⟨_,rfl,?_⟩;replace HO_5 := am_ (Kd.R_mono (Kd.R_keep (IsS112.apart (show IsS112 w _ g471 x472000_1 x472001_1 from (zi112 HI471)) (zr HO_5) (by decide)) hk (fun _ h => h.2)) (fun _ h => h.1));replace HB := am_ (hb);replace HI471 := am_ (hi);(try clear hb);(try clear hb2);(try clear hk);(try clear hi)) | ((with_reducible refine gate_builtin (b := .append) (xs := #[.tmp 13,.tmp 16]) rfl ?_);(try (refine gate_guard (by rfl) ?_;dsimp only));at_builtin;refine Kd.R_append Kd.string (w0 := w) w.heap.size rfl (.tmp 13) (.tmp 16) 22 9 (.string ⟨#[]⟩) 16 rfl Try.underlying22 info9 rfl (by decide) (by omega) u5 x5_1 t475 [.string t475] (fun _ => True) (fun _ => False) rfl rfl ?aP (fun _ hk => hk.elim) ?aF ?aO ?aB ?aS ?aL ?_;(case aP => exact rfl);(case aB => exact (zl_ HB));(case aF => exact (fun _ _ => trivial));(case aO => exact (zr HO_5));(case aS => exact (below_size (zl_ HB)));(case aL => have := LMc7.out;omega);intro v479 w9 ho hb hg hat;rw [← Ny478.out] at ho;replace HI471 := am_ (IsS112.grown (zi112 HI471) hg (IsS112.own_ne HI471.out HO_5.out (by decide)));replace HB := am_ (hb);have HO480 := am_ (ho);clear HO_5;clear ho hb hg hat))
     go_roundg k1
     case measure => have := HK1.out;omega
     case rel => exact ⟨(y478),(wrap64 (x11_1 + 1)),(t476),(t477),(by first | rfl | (simp;done) | (simp [*];done)),H',⟨by have := HK1.out;omega⟩,⟨zr HO480⟩,⟨(zi112 HI471)⟩,⟨zl_ HB⟩⟩
    ·rw [if_neg c7] at H
     exact absurd H (by simp)
   ·rw [if_neg c5] at H
    have c5b0 : decide (x11_1 < t472) = false := decide_eq_false c5
    clear c5
    replace H := Option.bind_eq_some_iff.mp H
    obtain ⟨⟨t481,t482,t483⟩,A100,H⟩ := H
    try dsimp only at H
    have A10 := am_ A100
    clear A100
    by_cases c11 : t481 = true
    ·subst c11
     have H1 : (if (x5_1.length : Int) > 100 then (some (([] : List ByteArray),false)) else ((contains_impl_readList_1.f x5_1).bind fun t484 => (if t484 = true then (some (([] : List ByteArray),false)) else (some (x5_1,true))))) = some (r1,r2) := by rw [if_pos rfl] at H;exact H
     clear H
     have H := H1
     clear H1
     by_cases c12 : (x5_1.length : Int) > 100
     ·rw [if_pos c12] at H
      have c12b0 : decide (100 < (x5_1.length : Int)) = true := decide_eq_true c12
      have c12b1 : decide (100 < x5_1.length) = true := decide_eq_true (by omega)
      clear c12
      simp only [Option.some.injEq,Prod.mk.injEq] at H
      obtain ⟨rfl,rfl⟩ := H
      go_wp2_with (first | ((with_reducible refine gate_callee (f := 89) rfl ?_);refine zgl (some 20) Try.func89 #[.pointer (some ⟨g471,0,none⟩)] ?_;(with_reducible refine (impl_reader_done.calls g471 x472000_1 x472001_1 true t482 t483 w _ ?side1 ?side2 A10.out).mono ?_);(case side1 => exact zi112 HI471);(case side2 => exact zl_ HB);rintro e w13 ⟨rfl,hi,hb,hk⟩;refine ⟨_,rfl,?_⟩;replace HO_5 := am_ (Kd.R_mono (Kd.R_keep (IsS112.apart (show IsS112 w _ g471 x472000_1 x472001_1 from (zi112 HI471)) (zr HO_5) (by decide)) hk (fun _ h => h.2)) (fun _ h => h.1));replace HB := am_ (hb);replace HI471 := am_ (hi);(try clear hb);(try clear hb2);(try clear hk);(try clear hi);obtain ⟨Ao14,co14,eo14⟩ := Kd.R_slice HO_5.out;subst eo14))
      go_ret2
      exact ⟨_,zt_,by first | exact Kd.R_nil _ _ _ _ _ | exact Kd.N_nil _ _ _ _ _ | exact Kd.V_nil _ _ _ _ _ | exact Kd.Q_nil _ _ _ _ _ | exact Kd.S_nil _ _ _ _ _,zl_ HB⟩
     ·rw [if_neg c12] at H
      have c12b0 : decide (100 < (x5_1.length : Int)) = false := decide_eq_false c12
      have c12b1 : decide (100 < x5_1.length) = false := decide_eq_false (by omega)
      clear c12
      replace H := Option.bind_eq_some_iff.mp H
      obtain ⟨t484,A150,H⟩ := H
      try dsimp only at H
      have A15 := am_ A150
      clear A150
      by_cases c16 : t484 = true
      ·subst c16
       have H1 : (some (([] : List ByteArray),false)) = some (r1,r2) := by rw [if_pos rfl] at H;exact H
       clear H
       have H := H1
       clear H1
       simp only [Option.some.injEq,Prod.mk.injEq] at H
       obtain ⟨rfl,rfl⟩ := H
       go_wp2_with (first | ((with_reducible refine gate_callee (f := 89) rfl ?_);refine zgl (some 20) Try.func89 #[.pointer (some ⟨g471,0,none⟩)] ?_;(with_reducible refine (impl_reader_done.calls g471 x472000_1 x472001_1 true t482 t483 w _ ?side1 ?side2 A10.out).mono ?_);(case side1 => exact zi112 HI471);(case side2 => exact zl_ HB);rintro e w17 ⟨rfl,hi,hb,hk⟩;refine ⟨_,rfl,?_⟩;replace HO_5 := am_ (Kd.R_mono (Kd.R_keep (IsS112.apart (show IsS112 w _ g471 x472000_1 x472001_1 from (zi112 HI471)) (zr HO_5) (by decide)) hk (fun _ h => h.2)) (fun _ h => h.1));replace HB := am_ (hb);replace HI471 := am_ (hi);(try clear hb);(try clear hb2);(try clear hk);(try clear hi);obtain ⟨Ao18,co18,eo18⟩ := Kd.R_slice HO_5.out;subst eo18) | (go_at_call 90;(with_reducible refine (contains_impl_readList_1.calls _ _ x5_1  true _ ?side1 ?side2 A15.out).mono ?_);(case side1 => repeat (first | exact (Kd.R_reads' HO_5.out).2.2 | (with_reducible refine Kd.C_alloc ?_ _) | (with_reducible refine Kd.C_drewN ?_ _) | (with_reducible refine Kd.C_drew ?_)));(case side2 => exact (Kd.R_reads' HO_5.out).2.1);rintro e w' ⟨rfl,⟨nd,rfl⟩⟩))
       go_ret2
       exact ⟨_,zt_,by first | exact Kd.R_nil _ _ _ _ _ | exact Kd.N_nil _ _ _ _ _ | exact Kd.V_nil _ _ _ _ _ | exact Kd.Q_nil _ _ _ _ _ | exact Kd.S_nil _ _ _ _ _,zl_ HB⟩
      ·replace c16 := Bool.eq_false_iff.mpr c16
       subst c16
       have H1 : (some (x5_1,true)) = some (r1,r2) := by rw [if_neg (show ¬ (false = true) by decide)] at H;exact H
       clear H
       have H := H1
       clear H1
       simp only [Option.some.injEq,Prod.mk.injEq] at H
       obtain ⟨rfl,rfl⟩ := H
       go_wp2_with (first | ((with_reducible refine gate_callee (f := 89) rfl ?_);refine zgl (some 20) Try.func89 #[.pointer (some ⟨g471,0,none⟩)] ?_;(with_reducible refine (impl_reader_done.calls g471 x472000_1 x472001_1 true t482 t483 w _ ?side1 ?side2 A10.out).mono ?_);(case side1 => exact zi112 HI471);(case side2 => exact zl_ HB);rintro e w19 ⟨rfl,hi,hb,hk⟩;refine ⟨_,rfl,?_⟩;replace HO_5 := am_ (Kd.R_mono (Kd.R_keep (IsS112.apart (show IsS112 w _ g471 x472000_1 x472001_1 from (zi112 HI471)) (zr HO_5) (by decide)) hk (fun _ h => h.2)) (fun _ h => h.1));replace HB := am_ (hb);replace HI471 := am_ (hi);(try clear hb);(try clear hb2);(try clear hk);(try clear hi);obtain ⟨Ao20,co20,eo20⟩ := Kd.R_slice HO_5.out;subst eo20) | (go_at_call 90;(with_reducible refine (contains_impl_readList_1.calls _ _ x5_1  false _ ?side1 ?side2 A15.out).mono ?_);(case side1 => repeat (first | exact (Kd.R_reads' HO_5.out).2.2 | (with_reducible refine Kd.C_alloc ?_ _) | (with_reducible refine Kd.C_drewN ?_ _) | (with_reducible refine Kd.C_drew ?_)));(case side2 => exact (Kd.R_reads' HO_5.out).2.1);rintro e w' ⟨rfl,⟨nd,rfl⟩⟩))
       go_ret2
       exact ⟨_,zt_,zr HO_5,zl_ HB⟩
    ·replace c11 := Bool.eq_false_iff.mpr c11
     subst c11
     have H1 : (some (([] : List ByteArray),false)) = some (r1,r2) := by rw [if_neg (show ¬ (false = true) by decide)] at H;exact H
     clear H
     have H := H1
     clear H1
     simp only [Option.some.injEq,Prod.mk.injEq] at H
     obtain ⟨rfl,rfl⟩ := H
     go_wp2_with (first | ((with_reducible refine gate_callee (f := 89) rfl ?_);refine zgl (some 20) Try.func89 #[.pointer (some ⟨g471,0,none⟩)] ?_;(with_reducible refine (impl_reader_done.calls g471 x472000_1 x472001_1 false t482 t483 w _ ?side1 ?side2 A10.out).mono ?_);(case side1 => exact zi112 HI471);(case side2 => exact zl_ HB);rintro e w21 ⟨rfl,hi,hb,hk⟩;refine ⟨_,rfl,?_⟩;replace HB := am_ (hb);replace HI471 := am_ (hi);(try clear hb);(try clear hb2);(try clear hk);(try clear hi)))
     go_ret2
     exact ⟨_,zt_,by first | exact Kd.R_nil _ _ _ _ _ | exact Kd.N_nil _ _ _ _ _ | exact Kd.V_nil _ _ _ _ _ | exact Kd.Q_nil _ _ _ _ _ | exact Kd.S_nil _ _ _ _ _,zl_ HB⟩
set_option maxHeartbeats 8000000 in
set_option maxRecDepth 100000 in
theorem impl_readMessage.calls (k : Nat) (a0 : ByteArray) (r1 : Int) (r2 : Int) (r3 : Int) (r4 : Int) (r5 : ByteArray) (r6 : ByteArray) (r7 : ByteArray) (r8 : Bool) (w : World) (h : impl_readMessage.f k a0 = some (r1,r2,r3,r4,r5,r6,r7,r8)) :
  Calls Try.prog 75 #[.string a0] w fun e w' => e = .returned (.tuple #[.agg #[.int .i64 r1,.int .i64 r2,.int .i64 r3,.int .i64 r4,.string r5,.string r6,.string r7],.bool r8]) ∧ Below w.heap.size w w' := by
 have hu63 := Try.underlying63
 have hu112 := Try.underlying112
 have HB := am_ (Below.refl w.heap.size w)
 have H : ((impl_reader_number.f k a0 false 1).bind fun bt487 => ((impl_reader_number.f k bt487.2.1 bt487.2.2 1).bind fun bt490 => ((impl_reader_number.f k bt490.2.1 bt490.2.2 1).bind fun bt493 => ((impl_reader_number.f k bt493.2.1 bt493.2.2 1).bind fun bt496 => ((impl_reader_sized.f k bt496.2.1 bt496.2.2 1).bind fun bt499 => ((impl_reader_sized.f k bt499.2.1 bt499.2.2 2).bind fun bt502 => ((impl_reader_take.f bt502.2.1 bt502.2.2 8).bind fun bt505 => ((impl_reader_done.f bt505.2.1 bt505.2.2).bind fun bt509 => (if bt509.1 = true then ((impl_MessageOK.f k bt487.1 bt490.1 bt493.1 bt496.1 bt499.1 bt502.1 bt505.1).bind fun t512 => (if t512 = true then (some (bt487.1,bt490.1,bt493.1,bt496.1,bt499.1,bt502.1,bt505.1,true)) else (some (0,0,0,0,(⟨#[]⟩ : ByteArray),(⟨#[]⟩ : ByteArray),(⟨#[]⟩ : ByteArray),false)))) else (some (0,0,0,0,(⟨#[]⟩ : ByteArray),(⟨#[]⟩ : ByteArray),(⟨#[]⟩ : ByteArray),false))))))))))) = some (r1,r2,r3,r4,r5,r6,r7,r8) := h
 clear h
 replace H := Option.bind_eq_some_iff.mp H
 obtain ⟨⟨t487,t488,t489⟩,A20,H⟩ := H
 try dsimp only at H
 have A2 := am_ A20
 clear A20
 replace H := Option.bind_eq_some_iff.mp H
 obtain ⟨⟨t490,t491,t492⟩,A30,H⟩ := H
 try dsimp only at H
 have A3 := am_ A30
 clear A30
 replace H := Option.bind_eq_some_iff.mp H
 obtain ⟨⟨t493,t494,t495⟩,A40,H⟩ := H
 try dsimp only at H
 have A4 := am_ A40
 clear A40
 replace H := Option.bind_eq_some_iff.mp H
 obtain ⟨⟨t496,t497,t498⟩,A50,H⟩ := H
 try dsimp only at H
 have A5 := am_ A50
 clear A50
 replace H := Option.bind_eq_some_iff.mp H
 obtain ⟨⟨t499,t500,t501⟩,A60,H⟩ := H
 try dsimp only at H
 have A6 := am_ A60
 clear A60
 replace H := Option.bind_eq_some_iff.mp H
 obtain ⟨⟨t502,t503,t504⟩,A70,H⟩ := H
 try dsimp only at H
 have A7 := am_ A70
 clear A70
 replace H := Option.bind_eq_some_iff.mp H
 obtain ⟨⟨t505,t506,t507⟩,A80,H⟩ := H
 try dsimp only at H
 have A8 := am_ A80
 clear A80
 replace H := Option.bind_eq_some_iff.mp H
 obtain ⟨⟨t509,t510,t511⟩,A90,H⟩ := H
 try dsimp only at H
 have A9 := am_ A90
 clear A90
 by_cases c10 : t509 = true
 ·subst c10
  have H1 : ((impl_MessageOK.f k t487 t490 t493 t496 t499 t502 t505).bind fun t512 => (if t512 = true then (some (t487,t490,t493,t496,t499,t502,t505,true)) else (some (0,0,0,0,(⟨#[]⟩ : ByteArray),(⟨#[]⟩ : ByteArray),(⟨#[]⟩ : ByteArray),false)))) = some (r1,r2,r3,r4,r5,r6,r7,r8) := by rw [if_pos rfl] at H;exact H
  clear H
  have H := H1
  clear H1
  replace H := Option.bind_eq_some_iff.mp H
  obtain ⟨t512,A110,H⟩ := H
  try dsimp only at H
  have A11 := am_ A110
  clear A110
  by_cases c12 : t512 = true
  ·subst c12
   have H1 : (some (t487,t490,t493,t496,t499,t502,t505,true)) = some (r1,r2,r3,r4,r5,r6,r7,r8) := by rw [if_pos rfl] at H;exact H
   clear H
   have H := H1
   clear H1
   simp only [Option.some.injEq,Prod.mk.injEq] at H
   obtain ⟨rfl,rfl,rfl,rfl,rfl,rfl,rfl,rfl⟩ := H
   go_enter Try.func75,Try.ntmps75
   go_wp2_with (first | ((with_reducible refine gate_dst (N := 2) rfl ?_);refine zbx (N := 2) (cs := #[.int .i64 0,.int .i64 0,.int .i64 0,.int .i64 0,.string ⟨#[]⟩,.string ⟨#[]⟩,.string ⟨#[]⟩]) (t := 63) ?_;intro gb485 hg w13 hbox hb;have BK485 := am_ (hbox);have GW485 := zw_ HB hg;have GE485 := zw_ HB hg;replace HB := zs_ HB hb;clear hb hbox hg) | ((with_reducible refine gate_dst (N := 8) rfl ?_);refine zbx (N := 8) (cs := #[.string a0,.bool false]) (t := 112) ?_;intro g486 hg w14 hbox hb;have HI486 := am_ ((show IsS112 w _ g486 a0 false from ⟨hbox,(by rw [hg];exact (below_size (zl_ HB)) : w.heap.size ≤ g486)⟩));replace HB := zs_ HB hb;have NB486_485 := zg hg BK485;have NB485_486 := zl hg BK485;replace BK485 := zb BK485 hb;clear hb hbox hg) | ((with_reducible refine gate_callee (f := 87) rfl ?_);refine zgl (some 10) Try.func87 #[.pointer (some ⟨g486,0,none⟩),.int .i64 1] ?_;(with_reducible refine (impl_reader_number.calls k g486 a0 false 1 t487 t488 t489 w _ ?side1 ?side2 A2.out).mono ?_);(case side1 => exact zi112 HI486);(case side2 => exact zl_ HB);rintro e w15 ⟨rfl,hi,hb,hk⟩;refine ⟨_,rfl,?_⟩;replace BK485 := zkb hk BK485 NB485_486;replace HB := am_ (hb);replace HI486 := am_ (hi);(try clear hb);(try clear hb2);(try clear hk);(try clear hi)) | ((with_reducible refine gate_callee (f := 87) rfl ?_);refine zgl (some 12) Try.func87 #[.pointer (some ⟨g486,0,none⟩),.int .i64 1] ?_;(with_reducible refine (impl_reader_number.calls k g486 t488 t489 1 t490 t491 t492 w _ ?side1 ?side2 A3.out).mono ?_);(case side1 => exact zi112 HI486);(case side2 => exact zl_ HB);rintro e w16 ⟨rfl,hi,hb,hk⟩;refine ⟨_,rfl,?_⟩;replace BK485 := zkb hk BK485 NB485_486;replace HB := am_ (hb);replace HI486 := am_ (hi);(try clear hb);(try clear hb2);(try clear hk);(try clear hi)) | ((with_reducible refine gate_callee (f := 87) rfl ?_);refine zgl (some 14) Try.func87 #[.pointer (some ⟨g486,0,none⟩),.int .i64 1] ?_;(with_reducible refine (impl_reader_number.calls k g486 t491 t492 1 t493 t494 t495 w _ ?side1 ?side2 A4.out).mono ?_);(case side1 => exact zi112 HI486);(case side2 => exact zl_ HB);rintro e w17 ⟨rfl,hi,hb,hk⟩;refine ⟨_,rfl,?_⟩;replace BK485 := zkb hk BK485 NB485_486;replace HB := am_ (hb);replace HI486 := am_ (hi);(try clear hb);(try clear hb2);(try clear hk);(try clear hi)) | ((with_reducible refine gate_callee (f := 87) rfl ?_);refine zgl (some 16) Try.func87 #[.pointer (some ⟨g486,0,none⟩),.int .i64 1] ?_;(with_reducible refine (impl_reader_number.calls k g486 t494 t495 1 t496 t497 t498 w _ ?side1 ?side2 A5.out).mono ?_);(case side1 => exact zi112 HI486);(case side2 => exact zl_ HB);rintro e w18 ⟨rfl,hi,hb,hk⟩;refine ⟨_,rfl,?_⟩;replace BK485 := zkb hk BK485 NB485_486;replace HB := am_ (hb);replace HI486 := am_ (hi);(try clear hb);(try clear hb2);(try clear hk);(try clear hi)) | ((with_reducible refine gate_callee (f := 88) rfl ?_);refine zgl (some 18) Try.func88 #[.pointer (some ⟨g486,0,none⟩),.int .i64 1] ?_;(with_reducible refine (impl_reader_sized.calls k g486 t497 t498 1 t499 t500 t501 w _ ?side1 ?side2 A6.out).mono ?_);(case side1 => exact zi112 HI486);(case side2 => exact zl_ HB);rintro e w19 ⟨rfl,hi,hb,hk⟩;refine ⟨_,rfl,?_⟩;replace BK485 := zkb hk BK485 NB485_486;replace HB := am_ (hb);replace HI486 := am_ (hi);(try clear hb);(try clear hb2);(try clear hk);(try clear hi)) | ((with_reducible refine gate_callee (f := 88) rfl ?_);refine zgl (some 20) Try.func88 #[.pointer (some ⟨g486,0,none⟩),.int .i64 2] ?_;(with_reducible refine (impl_reader_sized.calls k g486 t500 t501 2 t502 t503 t504 w _ ?side1 ?side2 A7.out).mono ?_);(case side1 => exact zi112 HI486);(case side2 => exact zl_ HB);rintro e w20 ⟨rfl,hi,hb,hk⟩;refine ⟨_,rfl,?_⟩;replace BK485 := zkb hk BK485 NB485_486;replace HB := am_ (hb);replace HI486 := am_ (hi);(try clear hb);(try clear hb2);(try clear hk);(try clear hi)) | ((with_reducible refine gate_callee (f := 92) rfl ?_);refine zgl (some 22) Try.func92 #[.pointer (some ⟨g486,0,none⟩),.int .i64 8] ?_;(with_reducible refine (impl_reader_take.calls g486 t503 t504 8 t505 t506 t507 w _ ?side1 ?side2 A8.out).mono ?_);(case side1 => exact zi112 HI486);(case side2 => exact zl_ HB);rintro e w21 ⟨rfl,hi,hb,hk⟩;refine ⟨_,rfl,?_⟩;replace BK485 := zkb hk BK485 NB485_486;replace HB := am_ (hb);replace HI486 := am_ (hi);(try clear hb);(try clear hb2);(try clear hk);(try clear hi)) | ((with_reducible refine gate_dst (N := 5) rfl ?_);refine zbx (N := 5) (cs := #[.int .i64 0,.int .i64 0,.int .i64 0,.int .i64 0,.string ⟨#[]⟩,.string ⟨#[]⟩,.string ⟨#[]⟩]) (t := 63) ?_;intro gb508 hg w22 hbox hb;have BK508 := am_ (hbox);have GW508 := zw_ HB hg;have GE508 := zw_ HB hg;replace HB := zs_ HB hb;have NB485_508 := zl hg BK485;have NB508_485 := zg hg BK485;replace BK485 := zb BK485 hb;have NB486_508 := am_ ((by rw [hg];exact Nat.ne_of_lt (IsS112.lt (show IsS112 w _ g486 t506 t507 from (zi112 HI486))) : g486 ≠ gb508));have NB508_486 := am_ ((by rw [hg];exact Nat.ne_of_gt (IsS112.lt (show IsS112 w _ g486 t506 t507 from (zi112 HI486))) : gb508 ≠ g486));replace HI486 := am_ (IsS112.below (zi112 HI486) hb);clear hb hbox hg;have hnb23 := NB508_485.out;have hnc23 := NB485_508.out;have hnb24 := NB508_486.out;have hnc24 := NB486_508.out;obtain ⟨hcz25_0,hcz25_1,hcz25_2,hcz25_3,hcz25_4,hcz25_5,hcz25_6,hfz25_0,hfz25_1,hfz25_2,hfz25_3,hfz25_4,hfz25_5,hfz25_6⟩ := zc7 BK508) | ((with_reducible refine gate_callee (f := 89) rfl ?_);refine zgl (some 25) Try.func89 #[.pointer (some ⟨g486,0,none⟩)] ?_;(with_reducible refine (impl_reader_done.calls g486 t506 t507 true t510 t511 w _ ?side1 ?side2 A9.out).mono ?_);(case side1 => exact zi112 HI486);(case side2 => exact zl_ HB);rintro e w26 ⟨rfl,hi,hb,hk⟩;refine ⟨_,rfl,?_⟩;replace BK485 := am_ (KeepBut.blk hk (g' := gb485) (o := .cells #[.int .i64 0,.int .i64 0,.int .i64 0,.int .i64 0,.string ⟨#[]⟩,.string ⟨#[]⟩,.string ⟨#[]⟩] 63 (0,0)) (zq BK485) NB485_486.out (by simp));replace BK508 := am_ (KeepBut.blk hk (g' := gb508) (o := .cells #[.int .i64 t487,.int .i64 t490,.int .i64 t493,.int .i64 t496,.string t499,.string t502,.string t505] 63 (0,0)) (zq BK508) NB508_486.out (by simp));replace HB := am_ (hb);replace HI486 := am_ (hi);(try clear hb);(try clear hb2);(try clear hk);(try clear hi);obtain ⟨hcz27_0,hcz27_1,hcz27_2,hcz27_3,hcz27_4,hcz27_5,hcz27_6,hfz27_0,hfz27_1,hfz27_2,hfz27_3,hfz27_4,hfz27_5,hfz27_6⟩ := zc7 BK508) | (go_at_call 83;(with_reducible refine (impl_MessageOK.calls k t487 t490 t493 t496 t499 t502 t505 true _ A11.out).mono ?_);rintro e w28 ⟨rfl,hb⟩;replace BK485 := zb BK485 hb;replace HI486 := am_ (IsS112.below (zi112 HI486) hb);replace BK508 := zb BK508 hb;replace HB := zs_ HB hb;(try clear hb);(try clear hb2);(try clear hk);(try clear hi);obtain ⟨hcz29_0,hcz29_1,hcz29_2,hcz29_3,hcz29_4,hcz29_5,hcz29_6,hfz29_0,hfz29_1,hfz29_2,hfz29_3,hfz29_4,hfz29_5,hfz29_6⟩ := zc7 BK508;have hnb30 := NB485_486.out;have hnc30 := NB486_485.out;obtain ⟨hcz31_0,hcz31_1,hcz31_2,hcz31_3,hcz31_4,hcz31_5,hcz31_6,hfz31_0,hfz31_1,hfz31_2,hfz31_3,hfz31_4,hfz31_5,hfz31_6⟩ := zc7 BK485))
   refine bodyPost_ret (results_ct rfl _ _ gb485 63 #[.int .i64 t487,.int .i64 t490,.int .i64 t493,.int .i64 t496,.string t499,.string t502,.string t505] (0,0) _ rfl (zq BK485) Try.underlying63 rfl (by kernel_rfl)) rfl ?_
   exact ⟨zt_,zl_ HB⟩
  ·replace c12 := Bool.eq_false_iff.mpr c12
   subst c12
   have H1 : (some (0,0,0,0,(⟨#[]⟩ : ByteArray),(⟨#[]⟩ : ByteArray),(⟨#[]⟩ : ByteArray),false)) = some (r1,r2,r3,r4,r5,r6,r7,r8) := by rw [if_neg (show ¬ (false = true) by decide)] at H;exact H
   clear H
   have H := H1
   clear H1
   simp only [Option.some.injEq,Prod.mk.injEq] at H
   obtain ⟨rfl,rfl,rfl,rfl,rfl,rfl,rfl,rfl⟩ := H
   go_enter Try.func75,Try.ntmps75
   go_wp2_with (first | ((with_reducible refine gate_dst (N := 2) rfl ?_);refine zbx (N := 2) (cs := #[.int .i64 0,.int .i64 0,.int .i64 0,.int .i64 0,.string ⟨#[]⟩,.string ⟨#[]⟩,.string ⟨#[]⟩]) (t := 63) ?_;intro gb485 hg w32 hbox hb;have BK485 := am_ (hbox);have GW485 := zw_ HB hg;have GE485 := zw_ HB hg;replace HB := zs_ HB hb;clear hb hbox hg) | ((with_reducible refine gate_dst (N := 8) rfl ?_);refine zbx (N := 8) (cs := #[.string a0,.bool false]) (t := 112) ?_;intro g486 hg w33 hbox hb;have HI486 := am_ ((show IsS112 w _ g486 a0 false from ⟨hbox,(by rw [hg];exact (below_size (zl_ HB)) : w.heap.size ≤ g486)⟩));replace HB := zs_ HB hb;have NB486_485 := zg hg BK485;have NB485_486 := zl hg BK485;replace BK485 := zb BK485 hb;clear hb hbox hg) | ((with_reducible refine gate_callee (f := 87) rfl ?_);refine zgl (some 10) Try.func87 #[.pointer (some ⟨g486,0,none⟩),.int .i64 1] ?_;(with_reducible refine (impl_reader_number.calls k g486 a0 false 1 t487 t488 t489 w _ ?side1 ?side2 A2.out).mono ?_);(case side1 => exact zi112 HI486);(case side2 => exact zl_ HB);rintro e w34 ⟨rfl,hi,hb,hk⟩;refine ⟨_,rfl,?_⟩;replace BK485 := zkb hk BK485 NB485_486;replace HB := am_ (hb);replace HI486 := am_ (hi);(try clear hb);(try clear hb2);(try clear hk);(try clear hi)) | ((with_reducible refine gate_callee (f := 87) rfl ?_);refine zgl (some 12) Try.func87 #[.pointer (some ⟨g486,0,none⟩),.int .i64 1] ?_;(with_reducible refine (impl_reader_number.calls k g486 t488 t489 1 t490 t491 t492 w _ ?side1 ?side2 A3.out).mono ?_);(case side1 => exact zi112 HI486);(case side2 => exact zl_ HB);rintro e w35 ⟨rfl,hi,hb,hk⟩;refine ⟨_,rfl,?_⟩;replace BK485 := zkb hk BK485 NB485_486;replace HB := am_ (hb);replace HI486 := am_ (hi);(try clear hb);(try clear hb2);(try clear hk);(try clear hi)) | ((with_reducible refine gate_callee (f := 87) rfl ?_);refine zgl (some 14) Try.func87 #[.pointer (some ⟨g486,0,none⟩),.int .i64 1] ?_;(with_reducible refine (impl_reader_number.calls k g486 t491 t492 1 t493 t494 t495 w _ ?side1 ?side2 A4.out).mono ?_);(case side1 => exact zi112 HI486);(case side2 => exact zl_ HB);rintro e w36 ⟨rfl,hi,hb,hk⟩;refine ⟨_,rfl,?_⟩;replace BK485 := zkb hk BK485 NB485_486;replace HB := am_ (hb);replace HI486 := am_ (hi);(try clear hb);(try clear hb2);(try clear hk);(try clear hi)) | ((with_reducible refine gate_callee (f := 87) rfl ?_);refine zgl (some 16) Try.func87 #[.pointer (some ⟨g486,0,none⟩),.int .i64 1] ?_;(with_reducible refine (impl_reader_number.calls k g486 t494 t495 1 t496 t497 t498 w _ ?side1 ?side2 A5.out).mono ?_);(case side1 => exact zi112 HI486);(case side2 => exact zl_ HB);rintro e w37 ⟨rfl,hi,hb,hk⟩;refine ⟨_,rfl,?_⟩;replace BK485 := zkb hk BK485 NB485_486;replace HB := am_ (hb);replace HI486 := am_ (hi);(try clear hb);(try clear hb2);(try clear hk);(try clear hi)) | ((with_reducible refine gate_callee (f := 88) rfl ?_);refine zgl (some 18) Try.func88 #[.pointer (some ⟨g486,0,none⟩),.int .i64 1] ?_;(with_reducible refine (impl_reader_sized.calls k g486 t497 t498 1 t499 t500 t501 w _ ?side1 ?side2 A6.out).mono ?_);(case side1 => exact zi112 HI486);(case side2 => exact zl_ HB);rintro e w38 ⟨rfl,hi,hb,hk⟩;refine ⟨_,rfl,?_⟩;replace BK485 := zkb hk BK485 NB485_486;replace HB := am_ (hb);replace HI486 := am_ (hi);(try clear hb);(try clear hb2);(try clear hk);(try clear hi)) | ((with_reducible refine gate_callee (f := 88) rfl ?_);refine zgl (some 20) Try.func88 #[.pointer (some ⟨g486,0,none⟩),.int .i64 2] ?_;(with_reducible refine (impl_reader_sized.calls k g486 t500 t501 2 t502 t503 t504 w _ ?side1 ?side2 A7.out).mono ?_);(case side1 => exact zi112 HI486);(case side2 => exact zl_ HB);rintro e w39 ⟨rfl,hi,hb,hk⟩;refine ⟨_,rfl,?_⟩;replace BK485 := zkb hk BK485 NB485_486;replace HB := am_ (hb);replace HI486 := am_ (hi);(try clear hb);(try clear hb2);(try clear hk);(try clear hi)) | ((with_reducible refine gate_callee (f := 92) rfl ?_);refine zgl (some 22) Try.func92 #[.pointer (some ⟨g486,0,none⟩),.int .i64 8] ?_;(with_reducible refine (impl_reader_take.calls g486 t503 t504 8 t505 t506 t507 w _ ?side1 ?side2 A8.out).mono ?_);(case side1 => exact zi112 HI486);(case side2 => exact zl_ HB);rintro e w40 ⟨rfl,hi,hb,hk⟩;refine ⟨_,rfl,?_⟩;replace BK485 := zkb hk BK485 NB485_486;replace HB := am_ (hb);replace HI486 := am_ (hi);(try clear hb);(try clear hb2);(try clear hk);(try clear hi)) | ((with_reducible refine gate_dst (N := 5) rfl ?_);refine zbx (N := 5) (cs := #[.int .i64 0,.int .i64 0,.int .i64 0,.int .i64 0,.string ⟨#[]⟩,.string ⟨#[]⟩,.string ⟨#[]⟩]) (t := 63) ?_;intro gb508 hg w41 hbox hb;have BK508 := am_ (hbox);have GW508 := zw_ HB hg;have GE508 := zw_ HB hg;replace HB := zs_ HB hb;have NB485_508 := zl hg BK485;have NB508_485 := zg hg BK485;replace BK485 := zb BK485 hb;have NB486_508 := am_ ((by rw [hg];exact Nat.ne_of_lt (IsS112.lt (show IsS112 w _ g486 t506 t507 from (zi112 HI486))) : g486 ≠ gb508));have NB508_486 := am_ ((by rw [hg];exact Nat.ne_of_gt (IsS112.lt (show IsS112 w _ g486 t506 t507 from (zi112 HI486))) : gb508 ≠ g486));replace HI486 := am_ (IsS112.below (zi112 HI486) hb);clear hb hbox hg;have hnb42 := NB508_485.out;have hnc42 := NB485_508.out;have hnb43 := NB508_486.out;have hnc43 := NB486_508.out;obtain ⟨hcz44_0,hcz44_1,hcz44_2,hcz44_3,hcz44_4,hcz44_5,hcz44_6,hfz44_0,hfz44_1,hfz44_2,hfz44_3,hfz44_4,hfz44_5,hfz44_6⟩ := zc7 BK508) | ((with_reducible refine gate_callee (f := 89) rfl ?_);refine zgl (some 25) Try.func89 #[.pointer (some ⟨g486,0,none⟩)] ?_;(with_reducible refine (impl_reader_done.calls g486 t506 t507 true t510 t511 w _ ?side1 ?side2 A9.out).mono ?_);(case side1 => exact zi112 HI486);(case side2 => exact zl_ HB);rintro e w45 ⟨rfl,hi,hb,hk⟩;refine ⟨_,rfl,?_⟩;replace BK485 := am_ (KeepBut.blk hk (g' := gb485) (o := .cells #[.int .i64 0,.int .i64 0,.int .i64 0,.int .i64 0,.string ⟨#[]⟩,.string ⟨#[]⟩,.string ⟨#[]⟩] 63 (0,0)) (zq BK485) NB485_486.out (by simp));replace BK508 := am_ (KeepBut.blk hk (g' := gb508) (o := .cells #[.int .i64 t487,.int .i64 t490,.int .i64 t493,.int .i64 t496,.string t499,.string t502,.string t505] 63 (0,0)) (zq BK508) NB508_486.out (by simp));replace HB := am_ (hb);replace HI486 := am_ (hi);(try clear hb);(try clear hb2);(try clear hk);(try clear hi);obtain ⟨hcz46_0,hcz46_1,hcz46_2,hcz46_3,hcz46_4,hcz46_5,hcz46_6,hfz46_0,hfz46_1,hfz46_2,hfz46_3,hfz46_4,hfz46_5,hfz46_6⟩ := zc7 BK508) | (go_at_call 83;(with_reducible refine (impl_MessageOK.calls k t487 t490 t493 t496 t499 t502 t505 false _ A11.out).mono ?_);rintro e w47 ⟨rfl,hb⟩;replace BK485 := zb BK485 hb;replace HI486 := am_ (IsS112.below (zi112 HI486) hb);replace HB := zs_ HB hb;(try clear hb);(try clear hb2);(try clear hk);(try clear hi);have hnb48 := NB485_486.out;have hnc48 := NB486_485.out;obtain ⟨hcz49_0,hcz49_1,hcz49_2,hcz49_3,hcz49_4,hcz49_5,hcz49_6,hfz49_0,hfz49_1,hfz49_2,hfz49_3,hfz49_4,hfz49_5,hfz49_6⟩ := zc7 BK485))
   refine bodyPost_ret (results_ct rfl _ _ gb485 63 #[.int .i64 0,.int .i64 0,.int .i64 0,.int .i64 0,.string ⟨#[]⟩,.string ⟨#[]⟩,.string ⟨#[]⟩] (0,0) _ rfl (zq BK485) Try.underlying63 rfl (by kernel_rfl)) rfl ?_
   exact ⟨zt_,zl_ HB⟩
 ·replace c10 := Bool.eq_false_iff.mpr c10
  subst c10
  have H1 : (some (0,0,0,0,(⟨#[]⟩ : ByteArray),(⟨#[]⟩ : ByteArray),(⟨#[]⟩ : ByteArray),false)) = some (r1,r2,r3,r4,r5,r6,r7,r8) := by rw [if_neg (show ¬ (false = true) by decide)] at H;exact H
  clear H
  have H := H1
  clear H1
  simp only [Option.some.injEq,Prod.mk.injEq] at H
  obtain ⟨rfl,rfl,rfl,rfl,rfl,rfl,rfl,rfl⟩ := H
  go_enter Try.func75,Try.ntmps75
  go_wp2_with (first | ((with_reducible refine gate_dst (N := 2) rfl ?_);refine zbx (N := 2) (cs := #[.int .i64 0,.int .i64 0,.int .i64 0,.int .i64 0,.string ⟨#[]⟩,.string ⟨#[]⟩,.string ⟨#[]⟩]) (t := 63) ?_;intro gb485 hg w50 hbox hb;have BK485 := am_ (hbox);have GW485 := zw_ HB hg;have GE485 := zw_ HB hg;replace HB := zs_ HB hb;clear hb hbox hg) | ((with_reducible refine gate_dst (N := 8) rfl ?_);refine zbx (N := 8) (cs := #[.string a0,.bool false]) (t := 112) ?_;intro g486 hg w51 hbox hb;have HI486 := am_ ((show IsS112 w _ g486 a0 false from ⟨hbox,(by rw [hg];exact (below_size (zl_ HB)) : w.heap.size ≤ g486)⟩));replace HB := zs_ HB hb;have NB486_485 := zg hg BK485;have NB485_486 := zl hg BK485;replace BK485 := zb BK485 hb;clear hb hbox hg) | ((with_reducible refine gate_callee (f := 87) rfl ?_);refine zgl (some 10) Try.func87 #[.pointer (some ⟨g486,0,none⟩),.int .i64 1] ?_;(with_reducible refine (impl_reader_number.calls k g486 a0 false 1 t487 t488 t489 w _ ?side1 ?side2 A2.out).mono ?_);(case side1 => exact zi112 HI486);(case side2 => exact zl_ HB);rintro e w52 ⟨rfl,hi,hb,hk⟩;refine ⟨_,rfl,?_⟩;replace BK485 := zkb hk BK485 NB485_486;replace HB := am_ (hb);replace HI486 := am_ (hi);(try clear hb);(try clear hb2);(try clear hk);(try clear hi)) | ((with_reducible refine gate_callee (f := 87) rfl ?_);refine zgl (some 12) Try.func87 #[.pointer (some ⟨g486,0,none⟩),.int .i64 1] ?_;(with_reducible refine (impl_reader_number.calls k g486 t488 t489 1 t490 t491 t492 w _ ?side1 ?side2 A3.out).mono ?_);(case side1 => exact zi112 HI486);(case side2 => exact zl_ HB);rintro e w53 ⟨rfl,hi,hb,hk⟩;refine ⟨_,rfl,?_⟩;replace BK485 := zkb hk BK485 NB485_486;replace HB := am_ (hb);replace HI486 := am_ (hi);(try clear hb);(try clear hb2);(try clear hk);(try clear hi)) | ((with_reducible refine gate_callee (f := 87) rfl ?_);refine zgl (some 14) Try.func87 #[.pointer (some ⟨g486,0,none⟩),.int .i64 1] ?_;(with_reducible refine (impl_reader_number.calls k g486 t491 t492 1 t493 t494 t495 w _ ?side1 ?side2 A4.out).mono ?_);(case side1 => exact zi112 HI486);(case side2 => exact zl_ HB);rintro e w54 ⟨rfl,hi,hb,hk⟩;refine ⟨_,rfl,?_⟩;replace BK485 := zkb hk BK485 NB485_486;replace HB := am_ (hb);replace HI486 := am_ (hi);(try clear hb);(try clear hb2);(try clear hk);(try clear hi)) | ((with_reducible refine gate_callee (f := 87) rfl ?_);refine zgl (some 16) Try.func87 #[.pointer (some ⟨g486,0,none⟩),.int .i64 1] ?_;(with_reducible refine (impl_reader_number.calls k g486 t494 t495 1 t496 t497 t498 w _ ?side1 ?side2 A5.out).mono ?_);(case side1 => exact zi112 HI486);(case side2 => exact zl_ HB);rintro e w55 ⟨rfl,hi,hb,hk⟩;refine ⟨_,rfl,?_⟩;replace BK485 := zkb hk BK485 NB485_486;replace HB := am_ (hb);replace HI486 := am_ (hi);(try clear hb);(try clear hb2);(try clear hk);(try clear hi)) | ((with_reducible refine gate_callee (f := 88) rfl ?_);refine zgl (some 18) Try.func88 #[.pointer (some ⟨g486,0,none⟩),.int .i64 1] ?_;(with_reducible refine (impl_reader_sized.calls k g486 t497 t498 1 t499 t500 t501 w _ ?side1 ?side2 A6.out).mono ?_);(case side1 => exact zi112 HI486);(case side2 => exact zl_ HB);rintro e w56 ⟨rfl,hi,hb,hk⟩;refine ⟨_,rfl,?_⟩;replace BK485 := zkb hk BK485 NB485_486;replace HB := am_ (hb);replace HI486 := am_ (hi);(try clear hb);(try clear hb2);(try clear hk);(try clear hi)) | ((with_reducible refine gate_callee (f := 88) rfl ?_);refine zgl (some 20) Try.func88 #[.pointer (some ⟨g486,0,none⟩),.int .i64 2] ?_;(with_reducible refine (impl_reader_sized.calls k g486 t500 t501 2 t502 t503 t504 w _ ?side1 ?side2 A7.out).mono ?_);(case side1 => exact zi112 HI486);(case side2 => exact zl_ HB);rintro e w57 ⟨rfl,hi,hb,hk⟩;refine ⟨_,rfl,?_⟩;replace BK485 := zkb hk BK485 NB485_486;replace HB := am_ (hb);replace HI486 := am_ (hi);(try clear hb);(try clear hb2);(try clear hk);(try clear hi)) | ((with_reducible refine gate_callee (f := 92) rfl ?_);refine zgl (some 22) Try.func92 #[.pointer (some ⟨g486,0,none⟩),.int .i64 8] ?_;(with_reducible refine (impl_reader_take.calls g486 t503 t504 8 t505 t506 t507 w _ ?side1 ?side2 A8.out).mono ?_);(case side1 => exact zi112 HI486);(case side2 => exact zl_ HB);rintro e w58 ⟨rfl,hi,hb,hk⟩;refine ⟨_,rfl,?_⟩;replace BK485 := zkb hk BK485 NB485_486;replace HB := am_ (hb);replace HI486 := am_ (hi);(try clear hb);(try clear hb2);(try clear hk);(try clear hi)) | ((with_reducible refine gate_dst (N := 5) rfl ?_);refine zbx (N := 5) (cs := #[.int .i64 0,.int .i64 0,.int .i64 0,.int .i64 0,.string ⟨#[]⟩,.string ⟨#[]⟩,.string ⟨#[]⟩]) (t := 63) ?_;intro gb508 hg w59 hbox hb;have BK508 := am_ (hbox);have GW508 := zw_ HB hg;have GE508 := zw_ HB hg;replace HB := zs_ HB hb;have NB485_508 := zl hg BK485;have NB508_485 := zg hg BK485;replace BK485 := zb BK485 hb;have NB486_508 := am_ ((by rw [hg];exact Nat.ne_of_lt (IsS112.lt (show IsS112 w _ g486 t506 t507 from (zi112 HI486))) : g486 ≠ gb508));have NB508_486 := am_ ((by rw [hg];exact Nat.ne_of_gt (IsS112.lt (show IsS112 w _ g486 t506 t507 from (zi112 HI486))) : gb508 ≠ g486));replace HI486 := am_ (IsS112.below (zi112 HI486) hb);clear hb hbox hg;have hnb60 := NB508_485.out;have hnc60 := NB485_508.out;have hnb61 := NB508_486.out;have hnc61 := NB486_508.out;obtain ⟨hcz62_0,hcz62_1,hcz62_2,hcz62_3,hcz62_4,hcz62_5,hcz62_6,hfz62_0,hfz62_1,hfz62_2,hfz62_3,hfz62_4,hfz62_5,hfz62_6⟩ := zc7 BK508) | ((with_reducible refine gate_callee (f := 89) rfl ?_);refine zgl (some 25) Try.func89 #[.pointer (some ⟨g486,0,none⟩)] ?_;(with_reducible refine (impl_reader_done.calls g486 t506 t507 false t510 t511 w _ ?side1 ?side2 A9.out).mono ?_);(case side1 => exact zi112 HI486);(case side2 => exact zl_ HB);rintro e w63 ⟨rfl,hi,hb,hk⟩;refine ⟨_,rfl,?_⟩;replace BK485 := am_ (KeepBut.blk hk (g' := gb485) (o := .cells #[.int .i64 0,.int .i64 0,.int .i64 0,.int .i64 0,.string ⟨#[]⟩,.string ⟨#[]⟩,.string ⟨#[]⟩] 63 (0,0)) (zq BK485) NB485_486.out (by simp));replace HB := am_ (hb);replace HI486 := am_ (hi);(try clear hb);(try clear hb2);(try clear hk);(try clear hi);have hnb64 := NB485_486.out;have hnc64 := NB486_485.out;obtain ⟨hcz65_0,hcz65_1,hcz65_2,hcz65_3,hcz65_4,hcz65_5,hcz65_6,hfz65_0,hfz65_1,hfz65_2,hfz65_3,hfz65_4,hfz65_5,hfz65_6⟩ := zc7 BK485))
  refine bodyPost_ret (results_ct rfl _ _ gb485 63 #[.int .i64 0,.int .i64 0,.int .i64 0,.int .i64 0,.string ⟨#[]⟩,.string ⟨#[]⟩,.string ⟨#[]⟩] (0,0) _ rfl (zq BK485) Try.underlying63 rfl (by kernel_rfl)) rfl ?_
  exact ⟨zt_,zl_ HB⟩
set_option maxHeartbeats 8000000 in
set_option maxRecDepth 100000 in
theorem impl_readCert.calls (k : Nat) (a0 : ByteArray) (r1 : ByteArray) (r2 : List (S63)) (r3 : Bool) (w : World) (h : impl_readCert.f k a0 = some (r1,r2,r3)) :
  Calls Try.prog 45 #[.string a0] w fun e w' => ∃ v1_ : Value,e = .returned (.tuple #[.agg #[.string r1,v1_],.bool r3]) ∧ Kd.R k63 63 w' w.heap.size (fun _ => True) v1_ r2 ∧ Below w.heap.size w w' := by
 have hu39 := Try.underlying39
 have hu63 := Try.underlying63
 have HB := am_ (Below.refl w.heap.size w)
 have H : ((impl_readList.f k a0).bind fun bt514 => (if bt514.2 = true then ((impl_within.f (bt514.1.length : Int) 1 8).bind fun t518 => (impl_readCert.j0 k bt514.1 (!t518))) else (impl_readCert.j0 k bt514.1 true))) = some (r1,r2,r3) := h
 clear h
 replace H := Option.bind_eq_some_iff.mp H
 obtain ⟨⟨t514,t515⟩,A20,H⟩ := H
 try dsimp only at H
 have A2 := am_ A20
 clear A20
 have HC3 := am_ H
 clear H
 go_enter Try.func45,Try.ntmps45
 go_upto_region 2 with (first | ((with_reducible refine gate_dst (N := 2) rfl ?_);(try (refine gate_guard (by rfl) ?_;dsimp only));refine zbx (N := 2) (cs := #[.string ⟨#[]⟩,.slice none 0 0]) (t := 39) ?_;intro gb513 hg w4 hbox hb;have BK513 := am_ (hbox);have GW513 := zw_ HB hg;have GE513 := zw_ HB hg;replace HB := zs_ HB hb;clear hb hbox hg) | ((with_reducible refine gate_callee (f := 74) rfl ?_);refine zgl (some 13) Try.func74 #[.string a0] ?_;(with_reducible refine (impl_readList.calls k a0 t514 t515 _ A2.out).mono ?_);rintro e w5 ⟨v516,rfl,ho0,hb⟩;refine ⟨_,rfl,?_⟩;have HO517 := am_ (Kd.R_lower ho0 (below_size (zl_ HB)));replace BK513 := zb BK513 hb;replace HB := zs_ HB hb;(try clear hb);(try clear hb2);(try clear hk);(try clear hi);(try clear ho0)))
 (try simp only [Act.put,p1_,p2_,p3_])
 go_cut [23] (fun v23 wc => ∃ (kq : Nat) (x23_2 : Bool),v23 = .bool x23_2 ∧ Aside0 (impl_readCert.j0 kq t514 x23_2 = some (r1,r2,r3)) ∧ Aside0 (kq ≤ k) ∧ Aside0 (Kd.R Kd.string 9 wc w.heap.size (fun _ => True) v516 t514) ∧ Aside0 (wc.heap[gb513]? = some (.cells #[.string ⟨#[]⟩,(.slice none 0 0)] 39 (0,0))) ∧ Aside0 (Below w.heap.size w wc))
 case first =>
  have H := HC3.out
  clear HC3
  by_cases c6 : t515 = true
  ·subst c6
   have H1 : ((impl_within.f (t514.length : Int) 1 8).bind fun t518 => (impl_readCert.j0 k t514 (!t518))) = some (r1,r2,r3) := by rw [if_pos rfl] at H;exact H
   clear H
   have H := H1
   clear H1
   replace H := Option.bind_eq_some_iff.mp H
   obtain ⟨t518,A70,H⟩ := H
   try dsimp only at H
   have A7 := am_ A70
   clear A70
   have H' := am_ H
   clear H
   obtain ⟨Ao8,co8,eo8⟩ := Kd.R_slice HO517.out
   subst eo8
   go_wp2_with (first | (go_at_call 51;(with_reducible refine (impl_within.calls (t514.length : Int) 1 8 t518 _ A7.out).mono ?_);rintro e w' ⟨rfl,⟨nd,rfl⟩⟩))
   go_meet
   case rel => exact ⟨_,(!t518),(by first | rfl | (simp;done) | (simp [*];done)),H',⟨by first | omega | exact Nat.le_refl _⟩,⟨zr HO517⟩,⟨by (with_reducible repeat (first | apply k1_ | apply k2_ | apply k3_));exact BK513.out⟩,⟨zl_ HB⟩⟩
  ·replace c6 := Bool.eq_false_iff.mpr c6
   subst c6
   have H1 : (impl_readCert.j0 k t514 true) = some (r1,r2,r3) := by rw [if_neg (show ¬ (false = true) by decide)] at H;exact H
   clear H
   have H := H1
   clear H1
   have H' := am_ H
   clear H
   go_wp2
   go_meet
   case rel => exact ⟨_,(true),(by first | rfl | (simp;done) | (simp [*];done)),H',⟨by first | omega | exact Nat.le_refl _⟩,⟨zr HO517⟩,⟨by (with_reducible repeat (first | apply k1_ | apply k2_ | apply k3_));exact BK513.out⟩,⟨zl_ HB⟩⟩
 case rest =>
  clear HC3
  try clear p2
  try clear c4
  try clear c6
  try clear c7
  obtain ⟨kq,x23_2,rfl,HA,HJ2,HO_4,BK513,HB⟩ := hcut
  cases kq with
  | zero => exact absurd HA.out (by simp [impl_readCert.j0])
  | succ kj2 =>
   have H := HA.out
   clear HA
   simp only [impl_readCert.j0] at H
   by_cases c9 : x23_2 = true
   ·subst c9
    have H1 : (some ((⟨#[]⟩ : ByteArray),([] : List (S63)),false)) = some (r1,r2,r3) := by rw [if_pos rfl] at H;exact H
    clear H
    have H := H1
    clear H1
    simp only [Option.some.injEq,Prod.mk.injEq] at H
    obtain ⟨rfl,rfl,rfl⟩ := H
    obtain ⟨hcz10_0,hcz10_1,hfz10_0,hfz10_1⟩ := zc2 BK513
    go_wp2
    refine bodyPost_ret (results_ct rfl _ _ gb513 39 #[.string ⟨#[]⟩,.slice none 0 0] (0,0) _ rfl (zq BK513) Try.underlying39 rfl (by kernel_rfl)) rfl ?_
    exact ⟨_,zt_,by first | exact Kd.R_nil _ _ _ _ _ | exact Kd.N_nil _ _ _ _ _ | exact Kd.V_nil _ _ _ _ _ | exact Kd.Q_nil _ _ _ _ _ | exact Kd.S_nil _ _ _ _ _,zl_ HB⟩
   ·replace c9 := Bool.eq_false_iff.mpr c9
    subst c9
    have H1 : (if 0 < (t514.length : Int) then (if 1 ≤ (t514.length : Int) then ((some (t514.drop 1 : List ByteArray)).bind fun y521 => (impl_readCert.l0 kj2 y521 (y521.length : Int) 0 (rdOf ByteArray.empty t514 0) ([] : List (S63)))) else (none)) else (none)) = some (r1,r2,r3) := by rw [if_neg (show ¬ (false = true) by decide)] at H;exact H
    clear H
    have H := H1
    clear H1
    by_cases c11 : 0 < (t514.length : Int)
    ·rw [if_pos c11] at H
     have c11b0 : decide (0 < (t514.length : Int)) = true := decide_eq_true c11
     have c11b1 : decide (0 < t514.length) = true := decide_eq_true (by omega)
     clear c11
     by_cases c12 : 1 ≤ (t514.length : Int)
     ·rw [if_pos c12] at H
      have c12b0 := eq_true c12
      have c12b1 : decide (1 ≤ (t514.length : Int)) = true := decide_eq_true c12
      clear c12
      obtain ⟨y521,hy521⟩ : ∃ y_ : List ByteArray,y_ = (t514.drop 1) := ⟨_,rfl⟩
      replace H : (impl_readCert.l0 kj2 y521 (y521.length : Int) 0 (rdOf ByteArray.empty t514 0) ([] : List (S63))) = some (r1,r2,r3) := by first | (rw [hy521];with_reducible exact H) | (have H2_ := (Option.bind_some _ _).symm.trans H;rw [hy521];with_reducible exact H2_) | (have H2_ := (Option.bind_some _ _).symm.trans H;with_reducible exact H2_) | with_reducible exact H | (rw [hy521];exact H) | exact H
      have Ny521 := am_ hy521
      clear hy521
      have H' := am_ H
      clear H
      obtain ⟨Ao13,co13,eo13⟩ := Kd.R_slice HO_4.out
      subst eo13
      have p519 : 0 ≤ (0 : Int) := (by omega)
      have q519 : 0 < (t514.length : Int) := zo_
      obtain ⟨ad519,e519,hx519_0⟩ := Kd.at_string (Kd.R_reads' HO_4.out).2.2 0 p519 q519
      cases e519
      have qi519 : (0 < t514.length) = True := eq_true (by omega)
      (try rw [show ((0 : Int)).toNat = 0 from rfl] at hx519_0)
      (try rw [Addr.add_zero'] at hx519_0)
      replace p519 := eq_true p519
      replace q519 := eq_true q519
      go_wp2_with (first | ((with_reducible refine gate_dst (N := 6) rfl ?_);(try (refine gate_guard (by rfl) ?_;dsimp only));refine zbx (N := 6) (cs := #[.string ⟨#[]⟩,.slice none 0 0]) (t := 39) ?_;intro gb520 hg w14 hbox hb;replace HO_4 := zrb HO_4 hb;have BK520 := am_ (hbox);have GW520 := zw_ HB hg;have GE520 := zw_ HB hg;replace HB := zs_ HB hb;have NB513_520 := zl hg BK513;have NB520_513 := zg hg BK513;replace BK513 := zb BK513 hb;clear hb hbox hg;have hnb15 := NB520_513.out;have hnc15 := NB513_520.out;obtain ⟨hcz16_0,hcz16_1,hfz16_0,hfz16_1⟩ := zc2 BK520) | ((with_reducible refine gate_store (t := 39) (p := 6) rfl ?_);refine store_event (t := 39) (p := 6) (v := ?vo_w17) (w1 := ((w14.setCell ⟨gb520,0,none⟩ (.string (rdOf ByteArray.empty t514 0))).setCell ⟨gb520,1,none⟩ (.slice none 0 0))) ?hg ?ho ?hn ?hr ?_;(case ho => rfl);(case hg => rfl);(case hn => rfl);(case hr => first | (go_simp;done) | (go_simp;rfl));intro w17 hw;have n0_ : Aside0 (Kd.R Kd.string 9 w17 w.heap.size (fun _ => True) (.slice (some ad519) t514.length co13) t514) := ⟨(by rw [hw];exact (by (with_reducible repeat (first | apply r1_ | apply r2_ | apply r3_));exact Kd.R_mono (zrf (Kd.R_types HO_4.out BK520.out (by decide))) (fun _ hk => trivial)))⟩;have n1_ : Aside0 (w17.heap[gb513]? = some (.cells #[.string ⟨#[]⟩,.slice none 0 0] 39 (0,0))) := ⟨(by rw [hw];exact (zq BK513))⟩;have n2_ : Aside0 (w17.heap[gb520]? = some (.cells #[.string (rdOf ByteArray.empty t514 0),.slice none 0 0] 39 (0,0))) := ⟨(by rw [hw];exact (zq BK520))⟩;have n3_ : Aside0 (Below w.heap.size w w17) := ⟨(by rw [hw];exact (zl_ HB))⟩;clear hw;clear HO_4;clear BK513;clear BK520;clear HB;have HO_4 := n0_;have BK513 := n1_;have BK520 := n2_;have HB := n3_;clear n0_ n1_ n2_ n3_;have q18 : (1 : Int) ≤ ((t514.length : Int) : Int) := zo_;obtain ⟨i018,hi018,_,hsz18,_⟩ := info_parts info9;have hroom18 : t514.length ≤ co13 := (Kd.R_reads' HO_4.out).2.1;have hC18 : Kd.F Kd.string _ _ (some ad519) t514.length t514 := (Kd.V_at (base := w.heap.size) (Kd.R_V (Kd.R_types (Kd.R_types (HO_4.out) BK513.out (by decide)) BK520.out (by decide)))).2.2;have hcut18 := cut_from (P := Try.prog) 22 9 .i64 Try.underlying22 hi018 1 hsz18 (some ad519) t514.length co13 1 (by omega) q18;have hr18 := Kd.F_cut (m := (1 : Int).toNat) (c := co13) hC18 (by omega) hroom18;obtain ⟨A18,hA18⟩ : ∃ A1,A1 = (if co13 = (1 : Int).toNat then (some ad519) else ((some ad519) : Option Addr).map (·.add ((1 : Int).toNat * 1))) := ⟨_,rfl⟩;obtain ⟨c18,hc18⟩ : ∃ c1,c1 = co13 - (1 : Int).toNat := ⟨_,rfl⟩;have hy18 : y521.length = t514.length - (1 : Int).toNat := (by rw [Ny521.out,List.length_drop] <;> omega);rw [show (t514).drop (1 : Int).toNat = y521 from Ny521.out.symm] at hr18;replace hr18 : Kd.F Kd.string _ _ A18 y521.length y521 := (by rw [hA18];exact hr18);rw [← hy18,← hA18,← hc18] at hcut18;have HO525 := am_ (show Kd.V Kd.string 9 _ w.heap.size _ (.slice A18 y521.length c18) y521 from Kd.V_mk (by rw [hy18,hc18];exact Nat.sub_le_sub_right hroom18 _) hr18);have HC525 := am_ (show y521.length ≤ c18 from by rw [hy18,hc18];exact Nat.sub_le_sub_right hroom18 _);clear hr18 hC18 hroom18 hi018 hsz18 hc18;have KY18 := am_ hy18;have KA18 := am_ hA18;clear hy18 hA18;replace q18 := eq_true q18))
      go_loopg [32] kj2 (fun kq v32 w' => ∃ (x32_2 : Int) (x514000_2 : ByteArray) (x521001_2 : List (S63)) (u521001 : Value),v32 = .int .i64 x32_2 ∧ Aside0 (impl_readCert.l0 kq y521 (y521.length : Int) x32_2 (rdOf ByteArray.empty t514 0) x521001_2 = some (r1,r2,r3)) ∧ Aside0 (kq ≤ kj2) ∧ Aside0 (Kd.V Kd.string 9 w' w.heap.size (fun k_ => some k_ ≠ (u521001 : Value).ownBlock ∧ k_ ≠ gb513 ∧ k_ ≠ gb520) (.slice A18 y521.length c18) y521) ∧ Aside0 (Kd.R k63 63 w' w.heap.size (fun _ => True) u521001 x521001_2) ∧ Aside0 (w'.heap[gb513]? = some (.cells #[.string x514000_2,(.slice none 0 0)] 39 (0,0))) ∧ Aside0 (w'.heap[gb520]? = some (.cells #[.string (rdOf ByteArray.empty t514 0),u521001] 39 (0,0))) ∧ Aside0 (Below w.heap.size w w'))
      case atStart => exact ⟨(0),((⟨#[]⟩ : ByteArray)),(([] : List (S63))),(.slice none 0 0),(by first | rfl | (simp;done) | (simp [*];done)),H',⟨Nat.le_refl _⟩,⟨by (with_reducible repeat (first | apply Kd.V_alloc | apply Kd.V_drewN | apply Kd.V_drew));exact Kd.V_mono HO525.out (fun _ hk => ⟨(by simp [Value.ownBlock]),⟨hk.1.2,hk.2⟩⟩)⟩,⟨by first | exact Kd.R_nil _ _ _ _ _ | exact Kd.N_nil _ _ _ _ _ | exact Kd.V_nil _ _ _ _ _ | exact Kd.Q_nil _ _ _ _ _ | exact Kd.S_nil _ _ _ _ _⟩,⟨by (with_reducible repeat (first | apply k1_ | apply k2_ | apply k3_));exact BK513.out⟩,⟨by (with_reducible repeat (first | apply k1_ | apply k2_ | apply k3_));exact BK520.out⟩,⟨zl_ HB⟩⟩
      case round =>
       clear H'
       try clear c1
       try clear q1
       try clear p2
       try clear c4
       try clear p5
       try clear q5
       try clear hx5
       try clear qi5
       try clear c6
       try clear c7
       try clear c9
       try clear c11
       try clear c11b0
       try clear c11b1
       try clear c12
       try clear c12b0
       try clear c12b1
       try clear c15
       try clear c18
       try clear q18
       try clear hcz10_0
       try clear hcz10_1
       try clear hcz16_0
       try clear hcz16_1
       try clear hfz10_0
       try clear hfz10_1
       try clear hfz16_0
       try clear hfz16_1
       try clear hx519_0
       try clear p2
       try clear p519
       try clear q18
       try clear q519
       obtain ⟨x32_2,x514000_2,x521001_2,u521001,rfl,HA,HK2,HO_30,HO_521001,BK513,BK520,HB⟩ := hrel
       cases gk with
       | zero => exact absurd HA.out (by simp [impl_readCert.l0])
       | succ k2 =>
        have H := HA.out
        clear HA
        simp only [impl_readCert.l0] at H
        by_cases c19 : x32_2 < (y521.length : Int)
        ·rw [if_pos c19] at H
         have c19b0 : decide (x32_2 < (y521.length : Int)) = true := decide_eq_true c19
         clear c19
         by_cases c20 : 0 ≤ x32_2
         ·rw [if_pos c20] at H
          have c20b0 : decide (0 ≤ x32_2) = true := decide_eq_true c20
          clear c20
          by_cases c21 : x32_2 < (y521.length : Int)
          ·rw [if_pos c21] at H
           have c21b0 : decide (x32_2 < (y521.length : Int)) = true := decide_eq_true c21
           clear c21
           replace H := Option.bind_eq_some_iff.mp H
           obtain ⟨⟨t527,t528,t529,t530,t531,t532,t533,t534⟩,A220,H⟩ := H
           try dsimp only at H
           have A22 := am_ A220
           clear A220
           by_cases c23 : t534 = true
           ·subst c23
            have H1 : ((impl_isPrepare.f k2 t527 t528 t529 t530 t531 t532 t533).bind fun t536 => (if t536 = true then (if x521001_2.length < 1759218604441 then (impl_readCert.l0 k2 y521 (y521.length : Int) (wrap64 (x32_2 + 1)) (rdOf ByteArray.empty t514 0) (x521001_2 ++ [(⟨t527,t528,t529,t530,t531,t532,t533⟩ : S63)])) else (none)) else (some ((⟨#[]⟩ : ByteArray),([] : List (S63)),false)))) = some (r1,r2,r3) := by rw [if_pos rfl] at H;exact H
            clear H
            have H := H1
            clear H1
            replace H := Option.bind_eq_some_iff.mp H
            obtain ⟨t536,A240,H⟩ := H
            try dsimp only at H
            have A24 := am_ A240
            clear A240
            by_cases c25 : t536 = true
            ·subst c25
             have H1 : (if x521001_2.length < 1759218604441 then (impl_readCert.l0 k2 y521 (y521.length : Int) (wrap64 (x32_2 + 1)) (rdOf ByteArray.empty t514 0) (x521001_2 ++ [(⟨t527,t528,t529,t530,t531,t532,t533⟩ : S63)])) else (none)) = some (r1,r2,r3) := by rw [if_pos rfl] at H;exact H
             clear H
             have H := H1
             clear H1
             by_cases c26 : x521001_2.length < 1759218604441
             ·rw [if_pos c26] at H
              have LMc26 := am_ c26
              clear c26
              obtain ⟨y537,hy537⟩ : ∃ y_ : List (S63),y_ = (x521001_2 ++ [(⟨t527,t528,t529,t530,t531,t532,t533⟩ : S63)]) := ⟨_,rfl⟩
              replace H : (impl_readCert.l0 k2 y521 (y521.length : Int) (wrap64 (x32_2 + 1)) (rdOf ByteArray.empty t514 0) y537) = some (r1,r2,r3) := by first | (rw [hy537];with_reducible exact H) | (have H2_ := (Option.bind_some _ _).symm.trans H;rw [hy537];with_reducible exact H2_) | (have H2_ := (Option.bind_some _ _).symm.trans H;with_reducible exact H2_) | with_reducible exact H | (rw [hy537];exact H) | exact H
              have Ny537 := am_ hy537
              clear hy537
              have H' := am_ H
              clear H
              have p526 : 0 ≤ (x32_2 : Int) := zo_
              have q526 : x32_2 < (y521.length : Int) := zo_
              obtain ⟨ad526,e526,hx526_0⟩ := Kd.at_string (Kd.V_reads' HO_30.out).2.2 x32_2 p526 q526
              cases e526
              replace p526 := eq_true p526
              replace q526 := eq_true q526
              go_wp2_with (first | ((with_reducible refine gate_callee (f := 75) rfl ?_);refine zgl (some 38) Try.func75 #[.string (rdOf ByteArray.empty y521 x32_2)] ?_;(with_reducible refine (impl_readMessage.calls k2 (rdOf ByteArray.empty y521 x32_2) t527 t528 t529 t530 t531 t532 t533 true _ A22.out).mono ?_);rintro e w27 ⟨rfl,hb⟩;refine ⟨_,rfl,?_⟩;replace HO_30 := am_ (Kd.V_below (by (with_reducible repeat (first | apply Kd.V_alloc | apply Kd.V_drewN | apply Kd.V_drew));exact HO_30.out) hb);replace HO_521001 := zrb HO_521001 hb;replace BK513 := zb BK513 hb;replace BK520 := zb BK520 hb;replace HB := zs_ HB hb;(try clear hb);(try clear hb2);(try clear hk);(try clear hi)) | ((with_reducible refine gate_dst (N := 9) rfl ?_);(try (refine gate_guard (by rfl) ?_;dsimp only));refine zbx (N := 9) (cs := #[.int .i64 0,.int .i64 0,.int .i64 0,.int .i64 0,.string ⟨#[]⟩,.string ⟨#[]⟩,.string ⟨#[]⟩]) (t := 63) ?_;intro gb535 hg w28 hbox hb;replace HO_30 := am_ (Kd.V_below (Kd.V_elderB (by (with_reducible repeat (first | apply Kd.V_alloc | apply Kd.V_drewN | apply Kd.V_drew));exact HO_30.out) gb535 (Nat.le_of_eq hg.symm)) hb);replace HO_521001 := am_ (Kd.R_below (Kd.R_elderB (zr HO_521001) gb535 (Nat.le_of_eq hg.symm)) hb);have BK535 := am_ (hbox);have GW535 := zw_ HB hg;have GE535 := zw_ HB hg;replace HB := zs_ HB hb;have NB513_535 := zl hg BK513;have NB535_513 := zg hg BK513;replace BK513 := zb BK513 hb;have NB520_535 := zl hg BK520;have NB535_520 := zg hg BK520;replace BK520 := zb BK520 hb;clear hb hbox hg;have hnb29 := NB535_513.out;have hnc29 := NB513_535.out;have hnb30 := NB535_520.out;have hnc30 := NB520_535.out;obtain ⟨hcz31_0,hcz31_1,hcz31_2,hcz31_3,hcz31_4,hcz31_5,hcz31_6,hfz31_0,hfz31_1,hfz31_2,hfz31_3,hfz31_4,hfz31_5,hfz31_6⟩ := zc7 BK535) | (go_at_call 68;(with_reducible refine (impl_isPrepare.calls k2 t527 t528 t529 t530 t531 t532 t533 true _ A24.out).mono ?_);rintro e w32 ⟨rfl,hb⟩;replace HO_30 := am_ (Kd.V_below (by (with_reducible repeat (first | apply Kd.V_alloc | apply Kd.V_drewN | apply Kd.V_drew));exact (Kd.V_mono (Kd.V_far (p := ⟨gb535,6,none⟩) (Kd.V_far (p := ⟨gb535,5,none⟩) (Kd.V_far (p := ⟨gb535,4,none⟩) (Kd.V_far (p := ⟨gb535,3,none⟩) (Kd.V_far (p := ⟨gb535,2,none⟩) (Kd.V_far (p := ⟨gb535,1,none⟩) (Kd.V_far (p := ⟨gb535,0,none⟩) (Kd.V_mono HO_30.out (fun k_ hk => (⟨hk,hk.2⟩ : _ ∧ k_ ≠ gb535))) (fun _ hk => hk.2) (.int .i64 t527)) (fun _ hk => hk.2) (.int .i64 t528)) (fun _ hk => hk.2) (.int .i64 t529)) (fun _ hk => hk.2) (.int .i64 t530)) (fun _ hk => hk.2) (.string t531)) (fun _ hk => hk.2) (.string t532)) (fun _ hk => hk.2) (.string t533)) (fun _ h_ => h_.1))) hb);replace HO_521001 := am_ (Kd.R_below (by (with_reducible repeat (first | apply r1_ | apply r2_ | apply r3_));exact (Kd.R_mono (Kd.Rf (Kd.Rf (Kd.Rf (Kd.Rf (Kd.Rf (Kd.Rf (Kd.Rf (Kd.R_mono HO_521001.out (fun k_ hk => (⟨hk,hk.2⟩ : _ ∧ k_ ≠ gb535)))))))))) (fun _ h_ => h_.1))) hb);replace BK513 := am_ (blk_below (g := gb513) (o := .cells #[.string x514000_2,.slice none 0 0] 39 (0,0)) (zq BK513) hb);replace BK520 := am_ (blk_below (g := gb520) (o := .cells #[.string (rdOf ByteArray.empty t514 0),u521001] 39 (0,0)) (zq BK520) hb);replace BK535 := am_ (blk_below (g := gb535) (o := .cells #[.int .i64 t527,.int .i64 t528,.int .i64 t529,.int .i64 t530,.string t531,.string t532,.string t533] 63 (0,0)) (zq BK535) hb);replace HB := zs_ HB hb;(try clear hb);(try clear hb2);(try clear hk);(try clear hi);have hnb33 := NB520_513.out;have hnc33 := NB513_520.out;obtain ⟨hcz34_0,hcz34_1,hfz34_0,hfz34_1⟩ := zc2 BK520;obtain ⟨hcz35_0,hcz35_1,hcz35_2,hcz35_3,hcz35_4,hcz35_5,hcz35_6,hfz35_0,hfz35_1,hfz35_2,hfz35_3,hfz35_4,hfz35_5,hfz35_6⟩ := zc7 BK535) | ((with_reducible refine gate_builtin (b := .append) (xs := #[.tmp 50,.tmp 52]) rfl ?_);(try (refine gate_guard (by rfl) ?_;dsimp only));at_builtin;refine Kd.R_append k63 (w0 := w) w.heap.size rfl (.tmp 50) (.tmp 52) 37 63 (.agg #[(.int .i64 0),(.int .i64 0),(.int .i64 0),(.int .i64 0),(.string ⟨#[]⟩),(.string ⟨#[]⟩),(.string ⟨#[]⟩)]) 80 rfl Try.underlying37 info63 rfl (by decide) (by omega) u521001 x521001_2 (⟨t527,t528,t529,t530,t531,t532,t533⟩ : S63) [.int .i64 t527,.int .i64 t528,.int .i64 t529,.int .i64 t530,.string t531,.string t532,.string t533] (fun k_ => k_ ≠ gb535) (fun _ => False) rfl rfl ?aP (fun _ hk => hk.elim) ?aF ?aO ?aB ?aS ?aL ?_;(case aP => exact k63_mkM _ _ _ (⟨t527,t528,t529,t530,t531,t532,t533⟩ : S63));(case aB => exact (zl_ HB));(case aF => exact (fun k_ hk => Kd.freshB (g := gb535) (o := .cells #[.int .i64 t527,.int .i64 t528,.int .i64 t529,.int .i64 t530,.string t531,.string t532,.string t533] 63 (0,0)) (zk BK535) k_ hk));(case aO => exact (by (with_reducible repeat (first | apply r1_ | apply r2_ | apply r3_));exact Kd.R_mono HO_521001.out (fun _ hk => hk.2)));(case aS => exact (below_size (zl_ HB)));(case aL => have := LMc26.out;omega);intro v538 w36 ho hb hg hat;rw [← Ny537.out] at ho;replace HO_30 := am_ (Kd.V_afterv (ok := (fun k_ => k_ ≠ gb513 ∧ k_ ≠ gb520 ∧ k_ ≠ gb535)) (by (with_reducible repeat (first | apply Kd.V_alloc | apply Kd.V_drewN | apply Kd.V_drew));exact Kd.V_mono HO_30.out (fun _ hk => ⟨⟨hk.1.2.1,⟨hk.1.2.2,hk.2⟩⟩,hk.1.1⟩)) hg hat);replace BK513 := am_ (blk_grown (g := gb513) (o := .cells #[.string x514000_2,.slice none 0 0] 39 (0,0)) (zk BK513) hg (Kd.R_ne HO_521001.out BK513.out (by decide)));replace BK520 := am_ (blk_grown (g := gb520) (o := .cells #[.string (rdOf ByteArray.empty t514 0),u521001] 39 (0,0)) (zk BK520) hg (Kd.R_ne HO_521001.out BK520.out (by decide)));replace HB := am_ (hb);have HO539 := am_ (ho);clear HO_521001;clear ho hb hg hat;obtain ⟨Ao37,co37,eo37⟩ := Kd.R_slice HO539.out;subst eo37;obtain ⟨hcz38_0,hcz38_1,hfz38_0,hfz38_1⟩ := zc2 BK520))
              go_roundg k2
              case measure => have := HJ2.out;have := HK2.out;omega
              case rel => exact ⟨(wrap64 (x32_2 + 1)),(x514000_2),(y537),(.slice Ao37 y537.length co37),(by first | rfl | (simp;done) | (simp [*];done)),H',⟨by have := HJ2.out;have := HK2.out;omega⟩,⟨by (with_reducible repeat (first | apply Kd.V_alloc | apply Kd.V_drewN | apply Kd.V_drew));exact Kd.V_mono (Kd.V_far (p := ⟨gb520,1,none⟩) (Kd.V_mono HO_30.out (fun k_ hk => (⟨hk,hk.1.2.1⟩ : _ ∧ k_ ≠ gb520))) (fun _ hk => hk.2) (.slice Ao37 y537.length co37)) (fun _ hk => ⟨hk.1.2,⟨hk.1.1.1,hk.1.1.2.1⟩⟩)⟩,⟨by (with_reducible repeat (first | apply r1_ | apply r2_ | apply r3_));exact Kd.R_mono (zrf (Kd.R_types HO539.out BK520.out (by decide))) (fun _ hk => trivial)⟩,⟨zq BK513⟩,⟨zq BK520⟩,⟨zl_ HB⟩⟩
             ·rw [if_neg c26] at H
              exact absurd H (by simp)
            ·replace c25 := Bool.eq_false_iff.mpr c25
             subst c25
             have H1 : (some ((⟨#[]⟩ : ByteArray),([] : List (S63)),false)) = some (r1,r2,r3) := by rw [if_neg (show ¬ (false = true) by decide)] at H;exact H
             clear H
             have H := H1
             clear H1
             simp only [Option.some.injEq,Prod.mk.injEq] at H
             obtain ⟨rfl,rfl,rfl⟩ := H
             have p526 : 0 ≤ (x32_2 : Int) := zo_
             have q526 : x32_2 < (y521.length : Int) := zo_
             obtain ⟨ad526,e526,hx526_0⟩ := Kd.at_string (Kd.V_reads' HO_30.out).2.2 x32_2 p526 q526
             cases e526
             replace p526 := eq_true p526
             replace q526 := eq_true q526
             go_wp2_with (first | ((with_reducible refine gate_callee (f := 75) rfl ?_);refine zgl (some 38) Try.func75 #[.string (rdOf ByteArray.empty y521 x32_2)] ?_;(with_reducible refine (impl_readMessage.calls k2 (rdOf ByteArray.empty y521 x32_2) t527 t528 t529 t530 t531 t532 t533 true _ A22.out).mono ?_);rintro e w39 ⟨rfl,hb⟩;refine ⟨_,rfl,?_⟩;replace BK513 := zb BK513 hb;replace BK520 := zb BK520 hb;replace HB := zs_ HB hb;(try clear hb);(try clear hb2);(try clear hk);(try clear hi)) | ((with_reducible refine gate_dst (N := 9) rfl ?_);(try (refine gate_guard (by rfl) ?_;dsimp only));refine zbx (N := 9) (cs := #[.int .i64 0,.int .i64 0,.int .i64 0,.int .i64 0,.string ⟨#[]⟩,.string ⟨#[]⟩,.string ⟨#[]⟩]) (t := 63) ?_;intro gb535 hg w40 hbox hb;have BK535 := am_ (hbox);have GW535 := zw_ HB hg;have GE535 := zw_ HB hg;replace HB := zs_ HB hb;have NB513_535 := zl hg BK513;have NB535_513 := zg hg BK513;replace BK513 := zb BK513 hb;have NB520_535 := zl hg BK520;have NB535_520 := zg hg BK520;clear hb hbox hg;have hnb41 := NB535_513.out;have hnc41 := NB513_535.out;have hnb42 := NB535_520.out;have hnc42 := NB520_535.out;obtain ⟨hcz43_0,hcz43_1,hcz43_2,hcz43_3,hcz43_4,hcz43_5,hcz43_6,hfz43_0,hfz43_1,hfz43_2,hfz43_3,hfz43_4,hfz43_5,hfz43_6⟩ := zc7 BK535) | (go_at_call 68;(with_reducible refine (impl_isPrepare.calls k2 t527 t528 t529 t530 t531 t532 t533 false _ A24.out).mono ?_);rintro e w44 ⟨rfl,hb⟩;replace BK513 := am_ (blk_below (g := gb513) (o := .cells #[.string x514000_2,.slice none 0 0] 39 (0,0)) (zq BK513) hb);replace HB := zs_ HB hb;(try clear hb);(try clear hb2);(try clear hk);(try clear hi);have hnb45 := NB513_520.out;have hnc45 := NB520_513.out;obtain ⟨hcz46_0,hcz46_1,hfz46_0,hfz46_1⟩ := zc2 BK513))
             refine bodyPost_ret (results_ct rfl _ _ gb513 39 #[.string ⟨#[]⟩,.slice none 0 0] (0,0) _ rfl (zq BK513) Try.underlying39 rfl (by kernel_rfl)) rfl ?_
             exact ⟨_,zt_,by first | exact Kd.R_nil _ _ _ _ _ | exact Kd.N_nil _ _ _ _ _ | exact Kd.V_nil _ _ _ _ _ | exact Kd.Q_nil _ _ _ _ _ | exact Kd.S_nil _ _ _ _ _,zl_ HB⟩
           ·replace c23 := Bool.eq_false_iff.mpr c23
            subst c23
            have H1 : (some ((⟨#[]⟩ : ByteArray),([] : List (S63)),false)) = some (r1,r2,r3) := by rw [if_neg (show ¬ (false = true) by decide)] at H;exact H
            clear H
            have H := H1
            clear H1
            simp only [Option.some.injEq,Prod.mk.injEq] at H
            obtain ⟨rfl,rfl,rfl⟩ := H
            have p526 : 0 ≤ (x32_2 : Int) := zo_
            have q526 : x32_2 < (y521.length : Int) := zo_
            obtain ⟨ad526,e526,hx526_0⟩ := Kd.at_string (Kd.V_reads' HO_30.out).2.2 x32_2 p526 q526
            cases e526
            replace p526 := eq_true p526
            replace q526 := eq_true q526
            go_wp2_with (first | ((with_reducible refine gate_callee (f := 75) rfl ?_);refine zgl (some 38) Try.func75 #[.string (rdOf ByteArray.empty y521 x32_2)] ?_;(with_reducible refine (impl_readMessage.calls k2 (rdOf ByteArray.empty y521 x32_2) t527 t528 t529 t530 t531 t532 t533 false _ A22.out).mono ?_);rintro e w47 ⟨rfl,hb⟩;refine ⟨_,rfl,?_⟩;replace BK513 := zb BK513 hb;replace BK520 := zb BK520 hb;replace HB := zs_ HB hb;(try clear hb);(try clear hb2);(try clear hk);(try clear hi)) | ((with_reducible refine gate_dst (N := 9) rfl ?_);(try (refine gate_guard (by rfl) ?_;dsimp only));refine zbx (N := 9) (cs := #[.int .i64 0,.int .i64 0,.int .i64 0,.int .i64 0,.string ⟨#[]⟩,.string ⟨#[]⟩,.string ⟨#[]⟩]) (t := 63) ?_;intro gb535 hg w48 hbox hb;have BK535 := am_ (hbox);have GW535 := zw_ HB hg;have GE535 := zw_ HB hg;replace HB := zs_ HB hb;have NB513_535 := zl hg BK513;have NB535_513 := zg hg BK513;replace BK513 := zb BK513 hb;have NB520_535 := zl hg BK520;have NB535_520 := zg hg BK520;clear hb hbox hg;have hnb49 := NB535_513.out;have hnc49 := NB513_535.out;have hnb50 := NB535_520.out;have hnc50 := NB520_535.out;obtain ⟨hcz51_0,hcz51_1,hcz51_2,hcz51_3,hcz51_4,hcz51_5,hcz51_6,hfz51_0,hfz51_1,hfz51_2,hfz51_3,hfz51_4,hfz51_5,hfz51_6⟩ := zc7 BK535;have hnb52 := NB513_520.out;have hnc52 := NB520_513.out;obtain ⟨hcz53_0,hcz53_1,hfz53_0,hfz53_1⟩ := zc2 BK513))
            refine bodyPost_ret (results_ct rfl _ _ gb513 39 #[.string ⟨#[]⟩,.slice none 0 0] (0,0) _ rfl (zq BK513) Try.underlying39 rfl (by kernel_rfl)) rfl ?_
            exact ⟨_,zt_,by first | exact Kd.R_nil _ _ _ _ _ | exact Kd.N_nil _ _ _ _ _ | exact Kd.V_nil _ _ _ _ _ | exact Kd.Q_nil _ _ _ _ _ | exact Kd.S_nil _ _ _ _ _,zl_ HB⟩
          ·rw [if_neg c21] at H
           exact absurd H (by simp)
         ·rw [if_neg c20] at H
          exact absurd H (by simp)
        ·rw [if_neg c19] at H
         have c19b0 : decide (x32_2 < (y521.length : Int)) = false := decide_eq_false c19
         clear c19
         simp only [Option.some.injEq,Prod.mk.injEq] at H
         obtain ⟨rfl,rfl,rfl⟩ := H
         have hnb54 := NB520_513.out
         have hnc54 := NB513_520.out
         obtain ⟨hcz55_0,hcz55_1,hfz55_0,hfz55_1⟩ := zc2 BK520
         obtain ⟨hcz56_0,hcz56_1,hfz56_0,hfz56_1⟩ := zc2 BK513
         obtain ⟨Ao57,co57,eo57⟩ := Kd.R_slice HO_521001.out
         subst eo57
         go_wp2
         refine bodyPost_ret (results_ct rfl _ _ gb513 39 #[.string (rdOf ByteArray.empty t514 0),.slice Ao57 x521001_2.length co57] (0,0) _ rfl (zq BK513) Try.underlying39 rfl (by kernel_rfl)) rfl ?_
         exact ⟨_,zt_,by (with_reducible repeat (first | apply r1_ | apply r2_ | apply r3_));exact Kd.R_mono (zrf (Kd.R_types HO_521001.out BK513.out (by decide))) (fun _ hk => trivial),zl_ HB⟩
     ·rw [if_neg c12] at H
      exact absurd H (by simp)
    ·rw [if_neg c11] at H
     exact absurd H (by simp)
set_option maxHeartbeats 8000000 in
set_option maxRecDepth 100000 in
theorem impl_ReadCert.calls (k : Nat) (A0 : Option Addr) (c0 : Nat) (l0 : List Int) (r1 : ByteArray) (r2 : List (S63)) (r3 : Int) (w : World) (hr0 : Kd.C (Kd.int .u8) w A0 l0.length l0) (hc0 : l0.length ≤ c0) (h : impl_ReadCert.f k l0 = some (r1,r2,r3)) :
  Calls Try.prog 24 #[.slice A0 l0.length c0] w fun e w' => ∃ v1_ : Value,e = .returned (.tuple #[.agg #[.string r1,v1_],.int .i64 r3]) ∧ Kd.R k63 63 w' w.heap.size (fun _ => True) v1_ r2 ∧ Below w.heap.size w w' := by
 have hu39 := Try.underlying39
 have HR0 := am_ hr0
 have HC0 := am_ hc0
 clear hr0 hc0
 have HB := am_ (Below.refl w.heap.size w)
 have H : (if (l0.length : Int) > 65536 then (some ((⟨#[]⟩ : ByteArray),([] : List (S63)),2)) else ((impl_readCert.f k (strOfNums l0)).bind fun bt541 => (if bt541.2.2 = true then (some (bt541.1,bt541.2.1,0)) else (some ((⟨#[]⟩ : ByteArray),([] : List (S63)),3))))) = some (r1,r2,r3) := h
 clear h
 by_cases c2 : (l0.length : Int) > 65536
 ·rw [if_pos c2] at H
  have c2b0 : decide (65536 < (l0.length : Int)) = true := decide_eq_true c2
  have c2b1 : decide (65536 < l0.length) = true := decide_eq_true (by omega)
  clear c2
  simp only [Option.some.injEq,Prod.mk.injEq] at H
  obtain ⟨rfl,rfl,rfl⟩ := H
  go_enter Try.func24,Try.ntmps24
  go_wp2_with (first | ((with_reducible refine gate_dst (N := 2) rfl ?_);refine zbx (N := 2) (cs := #[.string ⟨#[]⟩,.slice none 0 0]) (t := 39) ?_;intro gb540 hg w3 hbox hb;have BK540 := am_ (hbox);have GW540 := zw_ HB hg;have GE540 := zw_ HB hg;replace HB := zs_ HB hb;clear hb hbox hg;obtain ⟨hcz4_0,hcz4_1,hfz4_0,hfz4_1⟩ := zc2 BK540))
  refine bodyPost_ret (results_ct rfl _ _ gb540 39 #[.string ⟨#[]⟩,.slice none 0 0] (0,0) _ rfl (zq BK540) Try.underlying39 rfl (by kernel_rfl)) rfl ?_
  exact ⟨_,zt_,by first | exact Kd.R_nil _ _ _ _ _ | exact Kd.N_nil _ _ _ _ _ | exact Kd.V_nil _ _ _ _ _ | exact Kd.Q_nil _ _ _ _ _ | exact Kd.S_nil _ _ _ _ _,zl_ HB⟩
 ·rw [if_neg c2] at H
  have c2b0 : decide (65536 < (l0.length : Int)) = false := decide_eq_false c2
  have c2b1 : decide (65536 < l0.length) = false := decide_eq_false (by omega)
  clear c2
  replace H := Option.bind_eq_some_iff.mp H
  obtain ⟨⟨t541,t542,t545⟩,A50,H⟩ := H
  try dsimp only at H
  have A5 := am_ A50
  clear A50
  by_cases c6 : t545 = true
  ·subst c6
   have H1 : (some (t541,t542,0)) = some (r1,r2,r3) := by rw [if_pos rfl] at H;exact H
   clear H
   have H := H1
   clear H1
   simp only [Option.some.injEq,Prod.mk.injEq] at H
   obtain ⟨rfl,rfl,rfl⟩ := H
   go_enter Try.func24,Try.ntmps24
   go_wp2_with (first | ((with_reducible refine gate_dst (N := 2) rfl ?_);refine zbx (N := 2) (cs := #[.string ⟨#[]⟩,.slice none 0 0]) (t := 39) ?_;intro gb540 hg w7 hbox hb;have BK540 := am_ (hbox);have GW540 := zw_ HB hg;have GE540 := zw_ HB hg;replace HB := zs_ HB hb;clear hb hbox hg;have hcv8 := Kd.C_string (P := Try.prog) (A := A0) (c := c0) Try.underlying24 Try.underlying5 Try.underlying9 (Kd.C_below HR0.out HB.out)) | ((with_reducible refine gate_callee (f := 45) rfl ?_);refine zgl (some 13) Try.func45 #[.string (strOfNums l0)] ?_;(with_reducible refine (impl_readCert.calls k (strOfNums l0) t541 t542 true _ A5.out).mono ?_);rintro e w9 ⟨v543,rfl,ho0,hb⟩;refine ⟨_,rfl,?_⟩;have HO544 := am_ (Kd.R_lower ho0 (below_size (zl_ HB)));replace BK540 := zb BK540 hb;replace HB := zs_ HB hb;(try clear hb);(try clear hb2);(try clear hk);(try clear hi);(try clear ho0)) | ((with_reducible refine gate_dst (N := 4) rfl ?_);refine zbx (N := 4) (cs := #[.string ⟨#[]⟩,.slice none 0 0]) (t := 39) ?_;intro gb546 hg w10 hbox hb;replace HO544 := zrb HO544 hb;have BK546 := am_ (hbox);have GW546 := zw_ HB hg;have GE546 := zw_ HB hg;replace HB := zs_ HB hb;have NB540_546 := zl hg BK540;have NB546_540 := zg hg BK540;replace BK540 := zb BK540 hb;clear hb hbox hg;have hnb11 := NB546_540.out;have hnc11 := NB540_546.out;obtain ⟨hcz12_0,hcz12_1,hfz12_0,hfz12_1⟩ := zc2 BK546;obtain ⟨Ao13,co13,eo13⟩ := Kd.R_slice HO544.out;subst eo13;obtain ⟨hcz14_0,hcz14_1,hfz14_0,hfz14_1⟩ := zc2 BK540))
   refine bodyPost_ret (results_ct rfl _ _ gb540 39 #[.string t541,.slice Ao13 t542.length co13] (0,0) _ rfl (zq BK540) Try.underlying39 rfl (by kernel_rfl)) rfl ?_
   exact ⟨_,zt_,by (with_reducible repeat (first | apply r1_ | apply r2_ | apply r3_));exact Kd.R_mono (Kd.Rf (Kd.Rf (Kd.R_far (p := ⟨gb546,1,none⟩) (Kd.R_far (p := ⟨gb546,0,none⟩) (Kd.R_types (Kd.R_types HO544.out BK546.out (by decide)) BK540.out (by decide)) (fun _ hk => hk.1.2) (.string t541)) (fun _ hk => hk.1.2) (.slice Ao13 t542.length co13)))) (fun _ hk => trivial),zl_ HB⟩
  ·replace c6 := Bool.eq_false_iff.mpr c6
   subst c6
   have H1 : (some ((⟨#[]⟩ : ByteArray),([] : List (S63)),3)) = some (r1,r2,r3) := by rw [if_neg (show ¬ (false = true) by decide)] at H;exact H
   clear H
   have H := H1
   clear H1
   simp only [Option.some.injEq,Prod.mk.injEq] at H
   obtain ⟨rfl,rfl,rfl⟩ := H
   go_enter Try.func24,Try.ntmps24
   go_wp2_with (first | ((with_reducible refine gate_dst (N := 2) rfl ?_);refine zbx (N := 2) (cs := #[.string ⟨#[]⟩,.slice none 0 0]) (t := 39) ?_;intro gb540 hg w15 hbox hb;have BK540 := am_ (hbox);have GW540 := zw_ HB hg;have GE540 := zw_ HB hg;replace HB := zs_ HB hb;clear hb hbox hg;have hcv16 := Kd.C_string (P := Try.prog) (A := A0) (c := c0) Try.underlying24 Try.underlying5 Try.underlying9 (Kd.C_below HR0.out HB.out)) | ((with_reducible refine gate_callee (f := 45) rfl ?_);refine zgl (some 13) Try.func45 #[.string (strOfNums l0)] ?_;(with_reducible refine (impl_readCert.calls k (strOfNums l0) t541 t542 false _ A5.out).mono ?_);rintro e w17 ⟨v543,rfl,ho0,hb⟩;refine ⟨_,rfl,?_⟩;have HO544 := am_ (Kd.R_lower ho0 (below_size (zl_ HB)));replace BK540 := zb BK540 hb;replace HB := zs_ HB hb;(try clear hb);(try clear hb2);(try clear hk);(try clear hi);(try clear ho0)) | ((with_reducible refine gate_dst (N := 4) rfl ?_);refine zbx (N := 4) (cs := #[.string ⟨#[]⟩,.slice none 0 0]) (t := 39) ?_;intro gb546 hg w18 hbox hb;replace HO544 := zrb HO544 hb;have BK546 := am_ (hbox);have GW546 := zw_ HB hg;have GE546 := zw_ HB hg;replace HB := zs_ HB hb;have NB540_546 := zl hg BK540;have NB546_540 := zg hg BK540;replace BK540 := zb BK540 hb;clear hb hbox hg;have hnb19 := NB546_540.out;have hnc19 := NB540_546.out;obtain ⟨hcz20_0,hcz20_1,hfz20_0,hfz20_1⟩ := zc2 BK546;obtain ⟨Ao21,co21,eo21⟩ := Kd.R_slice HO544.out;subst eo21;obtain ⟨hcz22_0,hcz22_1,hfz22_0,hfz22_1⟩ := zc2 BK540))
   refine bodyPost_ret (results_ct rfl _ _ gb540 39 #[.string ⟨#[]⟩,.slice none 0 0] (0,0) _ rfl (zq BK540) Try.underlying39 rfl (by kernel_rfl)) rfl ?_
   exact ⟨_,zt_,by first | exact Kd.R_nil _ _ _ _ _ | exact Kd.N_nil _ _ _ _ _ | exact Kd.V_nil _ _ _ _ _ | exact Kd.Q_nil _ _ _ _ _ | exact Kd.S_nil _ _ _ _ _,zl_ HB⟩
set_option maxHeartbeats 8000000 in
set_option maxRecDepth 100000 in
theorem laws_eqByteS.calls (k : Nat) (A0 : Option Addr) (c0 : Nat) (l0 : List Int) (A1 : Option Addr) (c1 : Nat) (l1 : List Int) (r : Bool) (w : World) (hr0 : Kd.C (Kd.int .u8) w A0 l0.length l0) (hc0 : l0.length ≤ c0) (hr1 : Kd.C (Kd.int .u8) w A1 l1.length l1) (hc1 : l1.length ≤ c1) (h : laws_eqByteS.f k l0 l1 = some r) :
  Calls Try.prog 11 #[.slice A0 l0.length c0,.slice A1 l1.length c1] w fun e w' => e = .returned (.bool r) ∧ Drawn0 w w' := by
 have HR0 := am_ hr0
 have HC0 := am_ hc0
 clear hr0 hc0
 have HR1 := am_ hr1
 have HC1 := am_ hc1
 clear hr1 hc1
 have H : (if (l0.length : Int) = (l1.length : Int) then (laws_eqByteS.l0 k l0 l1 0) else (some false)) = some r := h
 clear h
 by_cases c3 : (l0.length : Int) = (l1.length : Int)
 ·rw [if_pos c3] at H
  have c3b0 : ((l0.length : Int) == (l1.length : Int)) = true := beq_iff_eq.mpr c3
  have c3b1 : ((l0.length : Int) != (l1.length : Int)) = false := bne_eq_false_iff_eq.mpr c3
  have c3b2 : (l0.length == l1.length) = true := by first | simpa using c3 | (simp at c3 ⊢;omega)
  clear c3
  have H' := am_ H
  clear H
  go_enter Try.func11,Try.ntmps11
  go_wp2
  repeat (go_quiet (fail);try go_wp2)
  go_loopg [5] k (fun kq v5 w' => ∃ (x5_1 : Int),v5 = .int .i64 x5_1 ∧ Aside0 (laws_eqByteS.l0 kq l0 l1 x5_1 = some r) ∧ Aside0 (kq ≤ k) ∧ Drawn0 w w')
  case atStart => exact ⟨(0),(by first | rfl | (simp;done) | (simp [*];done)),H',⟨Nat.le_refl _⟩,by repeat (first | exact Drawn0.refl _ | apply Drawn0.step)⟩
  case round =>
   clear H'
   try clear c1
   try clear p2
   try clear c3
   try clear c3b0
   try clear c3b1
   try clear c3b2
   obtain ⟨x5_1,rfl,HA,HK1,⟨m1,rfl⟩⟩ := hrel
   cases gk with
   | zero => exact absurd HA.out (by simp [laws_eqByteS.l0])
   | succ k1 =>
    have H := HA.out
    clear HA
    simp only [laws_eqByteS.l0] at H
    by_cases c4 : x5_1 < (l0.length : Int)
    ·rw [if_pos c4] at H
     have c4b0 : decide (x5_1 < (l0.length : Int)) = true := decide_eq_true c4
     clear c4
     by_cases c5 : 0 ≤ x5_1
     ·rw [if_pos c5] at H
      have c5b0 : decide (0 ≤ x5_1) = true := decide_eq_true c5
      clear c5
      by_cases c6 : x5_1 < (l1.length : Int)
      ·rw [if_pos c6] at H
       have c6b0 : decide (x5_1 < (l1.length : Int)) = true := decide_eq_true c6
       clear c6
       by_cases c7 : (rd l0 x5_1) = (rd l1 x5_1)
       ·rw [if_pos c7] at H
        have c7b0 : ((rd l0 x5_1) == (rd l1 x5_1)) = true := beq_iff_eq.mpr c7
        have c7b1 : ((rd l0 x5_1) != (rd l1 x5_1)) = false := bne_eq_false_iff_eq.mpr c7
        clear c7
        have H' := am_ H
        clear H
        have p143 : 0 ≤ (x5_1 : Int) := zo_
        have q143 : x5_1 < (l0.length : Int) := zo_
        obtain ⟨ad143,e143,hx143_0⟩ := Kd.at_int HR0.out x5_1 p143 q143
        cases e143
        replace p143 := eq_true p143
        replace q143 := eq_true q143
        have p144 : 0 ≤ (x5_1 : Int) := zo_
        have q144 : x5_1 < (l1.length : Int) := zo_
        obtain ⟨ad144,e144,hx144_0⟩ := Kd.at_int HR1.out x5_1 p144 q144
        cases e144
        replace p144 := eq_true p144
        replace q144 := eq_true q144
        go_wp2
        repeat (go_quiet (fail);try go_wp2)
        go_roundg k1
        case measure => have := HK1.out;omega
        case rel => exact ⟨(wrap64 (x5_1 + 1)),(by first | rfl | (simp;done) | (simp [*];done)),H',⟨by have := HK1.out;omega⟩,by repeat (first | exact Drawn0.refl _ | apply Drawn0.step)⟩
       ·rw [if_neg c7] at H
        have c7b0 : ((rd l0 x5_1) == (rd l1 x5_1)) = false := beq_eq_false_iff_ne.mpr c7
        have c7b1 : ((rd l0 x5_1) != (rd l1 x5_1)) = true := bne_iff_ne.mpr c7
        obtain rfl := Option.some.inj H
        have p143 : 0 ≤ (x5_1 : Int) := zo_
        have q143 : x5_1 < (l0.length : Int) := zo_
        obtain ⟨ad143,e143,hx143_0⟩ := Kd.at_int HR0.out x5_1 p143 q143
        cases e143
        replace p143 := eq_true p143
        replace q143 := eq_true q143
        have p144 : 0 ≤ (x5_1 : Int) := zo_
        have q144 : x5_1 < (l1.length : Int) := zo_
        obtain ⟨ad144,e144,hx144_0⟩ := Kd.at_int HR1.out x5_1 p144 q144
        cases e144
        replace p144 := eq_true p144
        replace q144 := eq_true q144
        go_wp2
        repeat (go_quiet (fail);try go_wp2)
        go_ret
        exact ⟨by first | rfl | (simp;done) | (simp [*];done),by repeat (first | exact Drawn0.refl _ | apply Drawn0.step)⟩
      ·rw [if_neg c6] at H
       exact absurd H (by simp)
     ·rw [if_neg c5] at H
      exact absurd H (by simp)
    ·rw [if_neg c4] at H
     have c4b0 : decide (x5_1 < (l0.length : Int)) = false := decide_eq_false c4
     clear c4
     obtain rfl := Option.some.inj H
     go_wp2
     repeat (go_quiet (fail);try go_wp2)
     go_ret
     exact ⟨by first | rfl | (simp;done) | (simp [*];done),by repeat (first | exact Drawn0.refl _ | apply Drawn0.step)⟩
 ·rw [if_neg c3] at H
  have c3b0 : ((l0.length : Int) == (l1.length : Int)) = false := beq_eq_false_iff_ne.mpr c3
  have c3b1 : ((l0.length : Int) != (l1.length : Int)) = true := bne_iff_ne.mpr c3
  have c3b2 : (l0.length == l1.length) = false := by first | simpa using c3 | (simp at c3 ⊢;omega)
  obtain rfl := Option.some.inj H
  go_enter Try.func11,Try.ntmps11
  go_wp2
  repeat (go_quiet (fail);try go_wp2)
  go_ret
  exact ⟨by first | rfl | (simp;done) | (simp [*];done),by repeat (first | exact Drawn0.refl _ | apply Drawn0.step)⟩
set_option maxHeartbeats 8000000 in
set_option maxRecDepth 100000 in
theorem laws_eqMessage.calls (a0_0 : Int) (a0_1 : Int) (a0_2 : Int) (a0_3 : Int) (a0_4 : ByteArray) (a0_5 : ByteArray) (a0_6 : ByteArray) (a1_0 : Int) (a1_1 : Int) (a1_2 : Int) (a1_3 : Int) (a1_4 : ByteArray) (a1_5 : ByteArray) (a1_6 : ByteArray) (r : Bool) (w : World) (h : laws_eqMessage.f a0_0 a0_1 a0_2 a0_3 a0_4 a0_5 a0_6 a1_0 a1_1 a1_2 a1_3 a1_4 a1_5 a1_6 = some r) :
  Calls Try.prog 71 #[.agg #[.int .i64 a0_0,.int .i64 a0_1,.int .i64 a0_2,.int .i64 a0_3,.string a0_4,.string a0_5,.string a0_6],.agg #[.int .i64 a1_0,.int .i64 a1_1,.int .i64 a1_2,.int .i64 a1_3,.string a1_4,.string a1_5,.string a1_6]] w fun e w' => e = .returned (.bool r) ∧ Below w.heap.size w w' := by
 have hu63 := Try.underlying63
 have HB := am_ (Below.refl w.heap.size w)
 have H : (if a0_0 = a1_0 then (if a0_1 = a1_1 then (if a0_2 = a1_2 then (if a0_3 = a1_3 then (if a0_4.toList = a1_4.toList then (if a0_5.toList = a1_5.toList then (if a0_6.toList = a1_6.toList then (some true) else (some false)) else (some false)) else (some false)) else (some false)) else (some false)) else (some false)) else (some false)) = some r := h
 clear h
 by_cases c3 : a0_0 = a1_0
 ·rw [if_pos c3] at H
  have c3b0 : (a0_0 == a1_0) = true := beq_iff_eq.mpr c3
  have c3b1 : (a0_0 != a1_0) = false := bne_eq_false_iff_eq.mpr c3
  clear c3
  by_cases c4 : a0_1 = a1_1
  ·rw [if_pos c4] at H
   have c4b0 : (a0_1 == a1_1) = true := beq_iff_eq.mpr c4
   have c4b1 : (a0_1 != a1_1) = false := bne_eq_false_iff_eq.mpr c4
   clear c4
   by_cases c5 : a0_2 = a1_2
   ·rw [if_pos c5] at H
    have c5b0 : (a0_2 == a1_2) = true := beq_iff_eq.mpr c5
    have c5b1 : (a0_2 != a1_2) = false := bne_eq_false_iff_eq.mpr c5
    clear c5
    by_cases c6 : a0_3 = a1_3
    ·rw [if_pos c6] at H
     have c6b0 : (a0_3 == a1_3) = true := beq_iff_eq.mpr c6
     have c6b1 : (a0_3 != a1_3) = false := bne_eq_false_iff_eq.mpr c6
     clear c6
     by_cases c7 : a0_4.toList = a1_4.toList
     ·rw [if_pos c7] at H
      have c7b0 : (a0_4.toList == a1_4.toList) = true := beq_iff_eq.mpr c7
      have c7b1 : (a0_4.toList != a1_4.toList) = false := bne_eq_false_iff_eq.mpr c7
      clear c7
      by_cases c8 : a0_5.toList = a1_5.toList
      ·rw [if_pos c8] at H
       have c8b0 : (a0_5.toList == a1_5.toList) = true := beq_iff_eq.mpr c8
       have c8b1 : (a0_5.toList != a1_5.toList) = false := bne_eq_false_iff_eq.mpr c8
       clear c8
       by_cases c9 : a0_6.toList = a1_6.toList
       ·rw [if_pos c9] at H
        have c9b0 : (a0_6.toList == a1_6.toList) = true := beq_iff_eq.mpr c9
        have c9b1 : (a0_6.toList != a1_6.toList) = false := bne_eq_false_iff_eq.mpr c9
        clear c9
        obtain rfl := Option.some.inj H
        go_enter Try.func71,Try.ntmps71
        go_wp2_with (first | ((with_reducible refine gate_dst (N := 2) rfl ?_);refine zbx (N := 2) (cs := #[.int .i64 a0_0,.int .i64 a0_1,.int .i64 a0_2,.int .i64 a0_3,.string a0_4,.string a0_5,.string a0_6]) (t := 63) ?_;intro gb337 hg w10 hbox hb;have BK337 := am_ (hbox);have GW337 := zw_ HB hg;have GE337 := zw_ HB hg;replace HB := zs_ HB hb;clear hb hbox hg) | ((with_reducible refine gate_dst (N := 3) rfl ?_);refine zbx (N := 3) (cs := #[.int .i64 a1_0,.int .i64 a1_1,.int .i64 a1_2,.int .i64 a1_3,.string a1_4,.string a1_5,.string a1_6]) (t := 63) ?_;intro gb338 hg w11 hbox hb;have BK338 := am_ (hbox);have GW338 := zw_ HB hg;have GE338 := zw_ HB hg;replace HB := zs_ HB hb;have NB337_338 := zl hg BK337;have NB338_337 := zg hg BK337;replace BK337 := zb BK337 hb;clear hb hbox hg;have hnb12 := NB337_338.out;have hnc12 := NB338_337.out;obtain ⟨hcz13_0,hcz13_1,hcz13_2,hcz13_3,hcz13_4,hcz13_5,hcz13_6,hfz13_0,hfz13_1,hfz13_2,hfz13_3,hfz13_4,hfz13_5,hfz13_6⟩ := zc7 BK337;obtain ⟨hcz14_0,hcz14_1,hcz14_2,hcz14_3,hcz14_4,hcz14_5,hcz14_6,hfz14_0,hfz14_1,hfz14_2,hfz14_3,hfz14_4,hfz14_5,hfz14_6⟩ := zc7 BK338))
        go_ret
        exact ⟨zt_,zl_ HB⟩
       ·rw [if_neg c9] at H
        have c9b0 : (a0_6.toList == a1_6.toList) = false := beq_eq_false_iff_ne.mpr c9
        have c9b1 : (a0_6.toList != a1_6.toList) = true := bne_iff_ne.mpr c9
        obtain rfl := Option.some.inj H
        go_enter Try.func71,Try.ntmps71
        go_wp2_with (first | ((with_reducible refine gate_dst (N := 2) rfl ?_);refine zbx (N := 2) (cs := #[.int .i64 a0_0,.int .i64 a0_1,.int .i64 a0_2,.int .i64 a0_3,.string a0_4,.string a0_5,.string a0_6]) (t := 63) ?_;intro gb337 hg w15 hbox hb;have BK337 := am_ (hbox);have GW337 := zw_ HB hg;have GE337 := zw_ HB hg;replace HB := zs_ HB hb;clear hb hbox hg) | ((with_reducible refine gate_dst (N := 3) rfl ?_);refine zbx (N := 3) (cs := #[.int .i64 a1_0,.int .i64 a1_1,.int .i64 a1_2,.int .i64 a1_3,.string a1_4,.string a1_5,.string a1_6]) (t := 63) ?_;intro gb338 hg w16 hbox hb;have BK338 := am_ (hbox);have GW338 := zw_ HB hg;have GE338 := zw_ HB hg;replace HB := zs_ HB hb;have NB337_338 := zl hg BK337;have NB338_337 := zg hg BK337;replace BK337 := zb BK337 hb;clear hb hbox hg;have hnb17 := NB337_338.out;have hnc17 := NB338_337.out;obtain ⟨hcz18_0,hcz18_1,hcz18_2,hcz18_3,hcz18_4,hcz18_5,hcz18_6,hfz18_0,hfz18_1,hfz18_2,hfz18_3,hfz18_4,hfz18_5,hfz18_6⟩ := zc7 BK337;obtain ⟨hcz19_0,hcz19_1,hcz19_2,hcz19_3,hcz19_4,hcz19_5,hcz19_6,hfz19_0,hfz19_1,hfz19_2,hfz19_3,hfz19_4,hfz19_5,hfz19_6⟩ := zc7 BK338))
        go_ret
        exact ⟨zt_,zl_ HB⟩
      ·rw [if_neg c8] at H
       have c8b0 : (a0_5.toList == a1_5.toList) = false := beq_eq_false_iff_ne.mpr c8
       have c8b1 : (a0_5.toList != a1_5.toList) = true := bne_iff_ne.mpr c8
       obtain rfl := Option.some.inj H
       go_enter Try.func71,Try.ntmps71
       go_wp2_with (first | ((with_reducible refine gate_dst (N := 2) rfl ?_);refine zbx (N := 2) (cs := #[.int .i64 a0_0,.int .i64 a0_1,.int .i64 a0_2,.int .i64 a0_3,.string a0_4,.string a0_5,.string a0_6]) (t := 63) ?_;intro gb337 hg w20 hbox hb;have BK337 := am_ (hbox);have GW337 := zw_ HB hg;have GE337 := zw_ HB hg;replace HB := zs_ HB hb;clear hb hbox hg) | ((with_reducible refine gate_dst (N := 3) rfl ?_);refine zbx (N := 3) (cs := #[.int .i64 a1_0,.int .i64 a1_1,.int .i64 a1_2,.int .i64 a1_3,.string a1_4,.string a1_5,.string a1_6]) (t := 63) ?_;intro gb338 hg w21 hbox hb;have BK338 := am_ (hbox);have GW338 := zw_ HB hg;have GE338 := zw_ HB hg;replace HB := zs_ HB hb;have NB337_338 := zl hg BK337;have NB338_337 := zg hg BK337;replace BK337 := zb BK337 hb;clear hb hbox hg;have hnb22 := NB337_338.out;have hnc22 := NB338_337.out;obtain ⟨hcz23_0,hcz23_1,hcz23_2,hcz23_3,hcz23_4,hcz23_5,hcz23_6,hfz23_0,hfz23_1,hfz23_2,hfz23_3,hfz23_4,hfz23_5,hfz23_6⟩ := zc7 BK337;obtain ⟨hcz24_0,hcz24_1,hcz24_2,hcz24_3,hcz24_4,hcz24_5,hcz24_6,hfz24_0,hfz24_1,hfz24_2,hfz24_3,hfz24_4,hfz24_5,hfz24_6⟩ := zc7 BK338))
       go_ret
       exact ⟨zt_,zl_ HB⟩
     ·rw [if_neg c7] at H
      have c7b0 : (a0_4.toList == a1_4.toList) = false := beq_eq_false_iff_ne.mpr c7
      have c7b1 : (a0_4.toList != a1_4.toList) = true := bne_iff_ne.mpr c7
      obtain rfl := Option.some.inj H
      go_enter Try.func71,Try.ntmps71
      go_wp2_with (first | ((with_reducible refine gate_dst (N := 2) rfl ?_);refine zbx (N := 2) (cs := #[.int .i64 a0_0,.int .i64 a0_1,.int .i64 a0_2,.int .i64 a0_3,.string a0_4,.string a0_5,.string a0_6]) (t := 63) ?_;intro gb337 hg w25 hbox hb;have BK337 := am_ (hbox);have GW337 := zw_ HB hg;have GE337 := zw_ HB hg;replace HB := zs_ HB hb;clear hb hbox hg) | ((with_reducible refine gate_dst (N := 3) rfl ?_);refine zbx (N := 3) (cs := #[.int .i64 a1_0,.int .i64 a1_1,.int .i64 a1_2,.int .i64 a1_3,.string a1_4,.string a1_5,.string a1_6]) (t := 63) ?_;intro gb338 hg w26 hbox hb;have BK338 := am_ (hbox);have GW338 := zw_ HB hg;have GE338 := zw_ HB hg;replace HB := zs_ HB hb;have NB337_338 := zl hg BK337;have NB338_337 := zg hg BK337;replace BK337 := zb BK337 hb;clear hb hbox hg;have hnb27 := NB337_338.out;have hnc27 := NB338_337.out;obtain ⟨hcz28_0,hcz28_1,hcz28_2,hcz28_3,hcz28_4,hcz28_5,hcz28_6,hfz28_0,hfz28_1,hfz28_2,hfz28_3,hfz28_4,hfz28_5,hfz28_6⟩ := zc7 BK337;obtain ⟨hcz29_0,hcz29_1,hcz29_2,hcz29_3,hcz29_4,hcz29_5,hcz29_6,hfz29_0,hfz29_1,hfz29_2,hfz29_3,hfz29_4,hfz29_5,hfz29_6⟩ := zc7 BK338))
      go_ret
      exact ⟨zt_,zl_ HB⟩
    ·rw [if_neg c6] at H
     have c6b0 : (a0_3 == a1_3) = false := beq_eq_false_iff_ne.mpr c6
     have c6b1 : (a0_3 != a1_3) = true := bne_iff_ne.mpr c6
     obtain rfl := Option.some.inj H
     go_enter Try.func71,Try.ntmps71
     go_wp2_with (first | ((with_reducible refine gate_dst (N := 2) rfl ?_);refine zbx (N := 2) (cs := #[.int .i64 a0_0,.int .i64 a0_1,.int .i64 a0_2,.int .i64 a0_3,.string a0_4,.string a0_5,.string a0_6]) (t := 63) ?_;intro gb337 hg w30 hbox hb;have BK337 := am_ (hbox);have GW337 := zw_ HB hg;have GE337 := zw_ HB hg;replace HB := zs_ HB hb;clear hb hbox hg) | ((with_reducible refine gate_dst (N := 3) rfl ?_);refine zbx (N := 3) (cs := #[.int .i64 a1_0,.int .i64 a1_1,.int .i64 a1_2,.int .i64 a1_3,.string a1_4,.string a1_5,.string a1_6]) (t := 63) ?_;intro gb338 hg w31 hbox hb;have BK338 := am_ (hbox);have GW338 := zw_ HB hg;have GE338 := zw_ HB hg;replace HB := zs_ HB hb;have NB337_338 := zl hg BK337;have NB338_337 := zg hg BK337;replace BK337 := zb BK337 hb;clear hb hbox hg;have hnb32 := NB337_338.out;have hnc32 := NB338_337.out;obtain ⟨hcz33_0,hcz33_1,hcz33_2,hcz33_3,hcz33_4,hcz33_5,hcz33_6,hfz33_0,hfz33_1,hfz33_2,hfz33_3,hfz33_4,hfz33_5,hfz33_6⟩ := zc7 BK337;obtain ⟨hcz34_0,hcz34_1,hcz34_2,hcz34_3,hcz34_4,hcz34_5,hcz34_6,hfz34_0,hfz34_1,hfz34_2,hfz34_3,hfz34_4,hfz34_5,hfz34_6⟩ := zc7 BK338))
     go_ret
     exact ⟨zt_,zl_ HB⟩
   ·rw [if_neg c5] at H
    have c5b0 : (a0_2 == a1_2) = false := beq_eq_false_iff_ne.mpr c5
    have c5b1 : (a0_2 != a1_2) = true := bne_iff_ne.mpr c5
    obtain rfl := Option.some.inj H
    go_enter Try.func71,Try.ntmps71
    go_wp2_with (first | ((with_reducible refine gate_dst (N := 2) rfl ?_);refine zbx (N := 2) (cs := #[.int .i64 a0_0,.int .i64 a0_1,.int .i64 a0_2,.int .i64 a0_3,.string a0_4,.string a0_5,.string a0_6]) (t := 63) ?_;intro gb337 hg w35 hbox hb;have BK337 := am_ (hbox);have GW337 := zw_ HB hg;have GE337 := zw_ HB hg;replace HB := zs_ HB hb;clear hb hbox hg) | ((with_reducible refine gate_dst (N := 3) rfl ?_);refine zbx (N := 3) (cs := #[.int .i64 a1_0,.int .i64 a1_1,.int .i64 a1_2,.int .i64 a1_3,.string a1_4,.string a1_5,.string a1_6]) (t := 63) ?_;intro gb338 hg w36 hbox hb;have BK338 := am_ (hbox);have GW338 := zw_ HB hg;have GE338 := zw_ HB hg;replace HB := zs_ HB hb;have NB337_338 := zl hg BK337;have NB338_337 := zg hg BK337;replace BK337 := zb BK337 hb;clear hb hbox hg;have hnb37 := NB337_338.out;have hnc37 := NB338_337.out;obtain ⟨hcz38_0,hcz38_1,hcz38_2,hcz38_3,hcz38_4,hcz38_5,hcz38_6,hfz38_0,hfz38_1,hfz38_2,hfz38_3,hfz38_4,hfz38_5,hfz38_6⟩ := zc7 BK337;obtain ⟨hcz39_0,hcz39_1,hcz39_2,hcz39_3,hcz39_4,hcz39_5,hcz39_6,hfz39_0,hfz39_1,hfz39_2,hfz39_3,hfz39_4,hfz39_5,hfz39_6⟩ := zc7 BK338))
    go_ret
    exact ⟨zt_,zl_ HB⟩
  ·rw [if_neg c4] at H
   have c4b0 : (a0_1 == a1_1) = false := beq_eq_false_iff_ne.mpr c4
   have c4b1 : (a0_1 != a1_1) = true := bne_iff_ne.mpr c4
   obtain rfl := Option.some.inj H
   go_enter Try.func71,Try.ntmps71
   go_wp2_with (first | ((with_reducible refine gate_dst (N := 2) rfl ?_);refine zbx (N := 2) (cs := #[.int .i64 a0_0,.int .i64 a0_1,.int .i64 a0_2,.int .i64 a0_3,.string a0_4,.string a0_5,.string a0_6]) (t := 63) ?_;intro gb337 hg w40 hbox hb;have BK337 := am_ (hbox);have GW337 := zw_ HB hg;have GE337 := zw_ HB hg;replace HB := zs_ HB hb;clear hb hbox hg) | ((with_reducible refine gate_dst (N := 3) rfl ?_);refine zbx (N := 3) (cs := #[.int .i64 a1_0,.int .i64 a1_1,.int .i64 a1_2,.int .i64 a1_3,.string a1_4,.string a1_5,.string a1_6]) (t := 63) ?_;intro gb338 hg w41 hbox hb;have BK338 := am_ (hbox);have GW338 := zw_ HB hg;have GE338 := zw_ HB hg;replace HB := zs_ HB hb;have NB337_338 := zl hg BK337;have NB338_337 := zg hg BK337;replace BK337 := zb BK337 hb;clear hb hbox hg;have hnb42 := NB337_338.out;have hnc42 := NB338_337.out;obtain ⟨hcz43_0,hcz43_1,hcz43_2,hcz43_3,hcz43_4,hcz43_5,hcz43_6,hfz43_0,hfz43_1,hfz43_2,hfz43_3,hfz43_4,hfz43_5,hfz43_6⟩ := zc7 BK337;obtain ⟨hcz44_0,hcz44_1,hcz44_2,hcz44_3,hcz44_4,hcz44_5,hcz44_6,hfz44_0,hfz44_1,hfz44_2,hfz44_3,hfz44_4,hfz44_5,hfz44_6⟩ := zc7 BK338))
   go_ret
   exact ⟨zt_,zl_ HB⟩
 ·rw [if_neg c3] at H
  have c3b0 : (a0_0 == a1_0) = false := beq_eq_false_iff_ne.mpr c3
  have c3b1 : (a0_0 != a1_0) = true := bne_iff_ne.mpr c3
  obtain rfl := Option.some.inj H
  go_enter Try.func71,Try.ntmps71
  go_wp2_with (first | ((with_reducible refine gate_dst (N := 2) rfl ?_);refine zbx (N := 2) (cs := #[.int .i64 a0_0,.int .i64 a0_1,.int .i64 a0_2,.int .i64 a0_3,.string a0_4,.string a0_5,.string a0_6]) (t := 63) ?_;intro gb337 hg w45 hbox hb;have BK337 := am_ (hbox);have GW337 := zw_ HB hg;have GE337 := zw_ HB hg;replace HB := zs_ HB hb;clear hb hbox hg) | ((with_reducible refine gate_dst (N := 3) rfl ?_);refine zbx (N := 3) (cs := #[.int .i64 a1_0,.int .i64 a1_1,.int .i64 a1_2,.int .i64 a1_3,.string a1_4,.string a1_5,.string a1_6]) (t := 63) ?_;intro gb338 hg w46 hbox hb;have BK338 := am_ (hbox);have GW338 := zw_ HB hg;have GE338 := zw_ HB hg;replace HB := zs_ HB hb;have NB337_338 := zl hg BK337;have NB338_337 := zg hg BK337;replace BK337 := zb BK337 hb;clear hb hbox hg;have hnb47 := NB337_338.out;have hnc47 := NB338_337.out;obtain ⟨hcz48_0,hcz48_1,hcz48_2,hcz48_3,hcz48_4,hcz48_5,hcz48_6,hfz48_0,hfz48_1,hfz48_2,hfz48_3,hfz48_4,hfz48_5,hfz48_6⟩ := zc7 BK337;obtain ⟨hcz49_0,hcz49_1,hcz49_2,hcz49_3,hcz49_4,hcz49_5,hcz49_6,hfz49_0,hfz49_1,hfz49_2,hfz49_3,hfz49_4,hfz49_5,hfz49_6⟩ := zc7 BK338))
  go_ret
  exact ⟨zt_,zl_ HB⟩
def laws_eqMessageS.T6 : Bool × List (List Nat × List Nat) := (true,[([],[]),([],[]),([0,1],[0,1]),([2],[2]),([],[]),([],[]),([4,5],[4,5]),([6],[6]),([3,7],[3,7]),([8],[8])])
def laws_eqMessageS.B6 : List Nat := [0,0,3,7,0,0,48,112,255,511]
theorem laws_eqMessageS.tab6 : rtab .any (opsOf Try.f42 6) = laws_eqMessageS.T6 := by kernel_rfl
theorem laws_eqMessageS.bits6 : waitsOk laws_eqMessageS.T6.2 laws_eqMessageS.B6 = true := by kernel_rfl
set_option maxHeartbeats 8000000 in
set_option maxRecDepth 100000 in
theorem laws_eqMessageS.calls (k : Nat) (A0 : Option Addr) (c0 : Nat) (l0 : List (S63)) (A1 : Option Addr) (c1 : Nat) (l1 : List (S63)) (r : Bool) (w : World) (hr0 : Kd.C k63 w A0 l0.length l0) (hc0 : l0.length ≤ c0) (hr1 : Kd.C k63 w A1 l1.length l1) (hc1 : l1.length ≤ c1) (h : laws_eqMessageS.f k l0 l1 = some r) :
  Calls Try.prog 42 #[.slice A0 l0.length c0,.slice A1 l1.length c1] w fun e w' => e = .returned (.bool r) ∧ Below w.heap.size w w' := by
 have hu63 := Try.underlying63
 have HR0 := am_ hr0
 have HC0 := am_ hc0
 clear hr0 hc0
 have HR1 := am_ hr1
 have HC1 := am_ hc1
 clear hr1 hc1
 have HB := am_ (Below.refl w.heap.size w)
 have H : (if (l0.length : Int) = (l1.length : Int) then (laws_eqMessageS.l0 k l0 l1 0) else (some false)) = some r := h
 clear h
 by_cases c3 : (l0.length : Int) = (l1.length : Int)
 ·rw [if_pos c3] at H
  have c3b0 : ((l0.length : Int) == (l1.length : Int)) = true := beq_iff_eq.mpr c3
  have c3b1 : ((l0.length : Int) != (l1.length : Int)) = false := bne_eq_false_iff_eq.mpr c3
  have c3b2 : (l0.length == l1.length) = true := by first | simpa using c3 | (simp at c3 ⊢;omega)
  clear c3
  have H' := am_ H
  clear H
  go_enter Try.func42,Try.ntmps42
  go_wp2
  go_loopg [5] k (fun kq v5 w' => ∃ (x5_1 : Int),v5 = .int .i64 x5_1 ∧ Aside0 (laws_eqMessageS.l0 kq l0 l1 x5_1 = some r) ∧ Aside0 (kq ≤ k) ∧ Aside0 (Below w.heap.size w w'))
  case atStart => exact ⟨(0),(by first | rfl | (simp;done) | (simp [*];done)),H',⟨Nat.le_refl _⟩,⟨zl_ HB⟩⟩
  case round =>
   clear H'
   try clear c1
   try clear p2
   try clear c3
   try clear c3b0
   try clear c3b1
   try clear c3b2
   obtain ⟨x5_1,rfl,HA,HK1,HB⟩ := hrel
   cases gk with
   | zero => exact absurd HA.out (by simp [laws_eqMessageS.l0])
   | succ k1 =>
    have H := HA.out
    clear HA
    simp only [laws_eqMessageS.l0] at H
    by_cases c4 : x5_1 < (l0.length : Int)
    ·rw [if_pos c4] at H
     have c4b0 : decide (x5_1 < (l0.length : Int)) = true := decide_eq_true c4
     clear c4
     by_cases c5 : 0 ≤ x5_1
     ·rw [if_pos c5] at H
      have c5b0 : decide (0 ≤ x5_1) = true := decide_eq_true c5
      clear c5
      by_cases c6 : x5_1 < (l1.length : Int)
      ·rw [if_pos c6] at H
       have c6b0 : decide (x5_1 < (l1.length : Int)) = true := decide_eq_true c6
       clear c6
       replace H := Option.bind_eq_some_iff.mp H
       obtain ⟨t341,A70,H⟩ := H
       try dsimp only at H
       have A7 := am_ A70
       clear A70
       by_cases c8 : t341 = true
       ·subst c8
        have H1 : (laws_eqMessageS.l0 k1 l0 l1 (wrap64 (x5_1 + 1))) = some r := by rw [if_pos rfl] at H;exact H
        clear H
        have H := H1
        clear H1
        have H' := am_ H
        clear H
        try go_wp2
        replace HB := am_ (below_drew1 HB.out)
        have p339 : 0 ≤ (x5_1 : Int) := zo_
        have q339 : x5_1 < (l0.length : Int) := zo_
        obtain ⟨ad339,e339,hx339_0,hx339_1,hx339_2,hx339_3,hx339_4,hx339_5,hx339_6⟩ := at_T63 HR0.out x5_1 p339 q339
        have hw339_6 := hx339_6
        have hw339_5 := hx339_5
        have hw339_4 := hx339_4
        have hw339_3 := hx339_3
        have hw339_2 := hx339_2
        have hw339_1 := hx339_1
        have hw339_0 := hx339_0
        cases e339
        replace hx339_0 := zx_ HB hx339_0
        replace hx339_1 := zx_ HB hx339_1
        replace hx339_2 := zx_ HB hx339_2
        replace hx339_3 := zx_ HB hx339_3
        replace hx339_4 := zx_ HB hx339_4
        replace hx339_5 := zx_ HB hx339_5
        replace hx339_6 := zx_ HB hx339_6
        replace p339 := eq_true p339
        replace q339 := eq_true q339
        have p340 : 0 ≤ (x5_1 : Int) := zo_
        have q340 : x5_1 < (l1.length : Int) := zo_
        obtain ⟨ad340,e340,hx340_0,hx340_1,hx340_2,hx340_3,hx340_4,hx340_5,hx340_6⟩ := at_T63 HR1.out x5_1 p340 q340
        have hw340_6 := hx340_6
        have hw340_5 := hx340_5
        have hw340_4 := hx340_4
        have hw340_3 := hx340_3
        have hw340_2 := hx340_2
        have hw340_1 := hx340_1
        have hw340_0 := hx340_0
        cases e340
        replace hx340_0 := zx_ HB hx340_0
        replace hx340_1 := zx_ HB hx340_1
        replace hx340_2 := zx_ HB hx340_2
        replace hx340_3 := zx_ HB hx340_3
        replace hx340_4 := zx_ HB hx340_4
        replace hx340_5 := zx_ HB hx340_5
        replace hx340_6 := zx_ HB hx340_6
        replace p340 := eq_true p340
        replace q340 := eq_true q340
        refine start_ (n := 10) (S := fun w' => w'.cell? (ad339.add ((x5_1).toNat * 7)) = some (.int .i64 ((rd_T63 l0 x5_1).f0)) ∧ w'.cell? ⟨(ad339.add ((x5_1).toNat * 7)).block,(ad339.add ((x5_1).toNat * 7)).off + 1,none⟩ = some (.int .i64 ((rd_T63 l0 x5_1).f1)) ∧ w'.cell? ⟨(ad339.add ((x5_1).toNat * 7)).block,(ad339.add ((x5_1).toNat * 7)).off + 2,none⟩ = some (.int .i64 ((rd_T63 l0 x5_1).f2)) ∧ w'.cell? ⟨(ad339.add ((x5_1).toNat * 7)).block,(ad339.add ((x5_1).toNat * 7)).off + 3,none⟩ = some (.int .i64 ((rd_T63 l0 x5_1).f3)) ∧ w'.cell? ⟨(ad339.add ((x5_1).toNat * 7)).block,(ad339.add ((x5_1).toNat * 7)).off + 4,none⟩ = some (.string ((rd_T63 l0 x5_1).f4)) ∧ w'.cell? ⟨(ad339.add ((x5_1).toNat * 7)).block,(ad339.add ((x5_1).toNat * 7)).off + 5,none⟩ = some (.string ((rd_T63 l0 x5_1).f5)) ∧ w'.cell? ⟨(ad339.add ((x5_1).toNat * 7)).block,(ad339.add ((x5_1).toNat * 7)).off + 6,none⟩ = some (.string ((rd_T63 l0 x5_1).f6)) ∧ w'.cell? (ad340.add ((x5_1).toNat * 7)) = some (.int .i64 ((rd_T63 l1 x5_1).f0)) ∧ w'.cell? ⟨(ad340.add ((x5_1).toNat * 7)).block,(ad340.add ((x5_1).toNat * 7)).off + 1,none⟩ = some (.int .i64 ((rd_T63 l1 x5_1).f1)) ∧ w'.cell? ⟨(ad340.add ((x5_1).toNat * 7)).block,(ad340.add ((x5_1).toNat * 7)).off + 2,none⟩ = some (.int .i64 ((rd_T63 l1 x5_1).f2)) ∧ w'.cell? ⟨(ad340.add ((x5_1).toNat * 7)).block,(ad340.add ((x5_1).toNat * 7)).off + 3,none⟩ = some (.int .i64 ((rd_T63 l1 x5_1).f3)) ∧ w'.cell? ⟨(ad340.add ((x5_1).toNat * 7)).block,(ad340.add ((x5_1).toNat * 7)).off + 4,none⟩ = some (.string ((rd_T63 l1 x5_1).f4)) ∧ w'.cell? ⟨(ad340.add ((x5_1).toNat * 7)).block,(ad340.add ((x5_1).toNat * 7)).off + 5,none⟩ = some (.string ((rd_T63 l1 x5_1).f5)) ∧ w'.cell? ⟨(ad340.add ((x5_1).toNat * 7)).block,(ad340.add ((x5_1).toNat * 7)).off + 6,none⟩ = some (.string ((rd_T63 l1 x5_1).f6))) (ds := []) #[false,false,false,false,false,false,false,false,false,false] (by kernel_rfl) rfl rfl ⟨(zx_ HB hw339_0),(zx_ HB hw339_1),(zx_ HB hw339_2),(zx_ HB hw339_3),(zx_ HB hw339_4),(zx_ HB hw339_5),(zx_ HB hw339_6),(zx_ HB hw340_0),(zx_ HB hw340_1),(zx_ HB hw340_2),(zx_ HB hw340_3),(zx_ HB hw340_4),(zx_ HB hw340_5),(zx_ HB hw340_6)⟩ (fun hHeld => ?_);refine with_tabW laws_eqMessageS.tab6 laws_eqMessageS.bits6 (fun HT_ HW_ => ?_)
        generalize wr.drew = w9 at HB hx339_0 hx339_1 hx339_2 hx339_3 hx339_4 hx339_5 hx339_6 hx340_0 hx340_1 hx340_2 hx340_3 hx340_4 hx340_5 hx340_6 hHeld ⊢
        refine zpu 0 (N := some 17) HT_ ?_
        refine zpu 1 (N := some 18) HT_ ?_
        refine zpu 2 (N := some 19) HT_ ?_
        refine zpu 4 (N := some 21) HT_ ?_
        refine zpu 5 (N := some 22) HT_ ?_
        refine zpu 6 (N := some 23) HT_ ?_
        refine ztk 3 (N := some 20) HT_ HW_ hHeld ?_
        refine ztk 7 (N := some 24) HT_ HW_ hHeld ?_
        refine zon 8 (N := some 25) HT_ (fun K hK => ?_)
        refine zgo Try.func71 #[.agg #[.int .i64 ((rd_T63 l0 x5_1).f0),.int .i64 ((rd_T63 l0 x5_1).f1),.int .i64 ((rd_T63 l0 x5_1).f2),.int .i64 ((rd_T63 l0 x5_1).f3),.string ((rd_T63 l0 x5_1).f4),.string ((rd_T63 l0 x5_1).f5),.string ((rd_T63 l0 x5_1).f6)],.agg #[.int .i64 ((rd_T63 l1 x5_1).f0),.int .i64 ((rd_T63 l1 x5_1).f1),.int .i64 ((rd_T63 l1 x5_1).f2),.int .i64 ((rd_T63 l1 x5_1).f3),.string ((rd_T63 l1 x5_1).f4),.string ((rd_T63 l1 x5_1).f5),.string ((rd_T63 l1 x5_1).f6)]] ?_
        with_reducible refine (laws_eqMessage.calls ((rd_T63 l0 x5_1).f0) ((rd_T63 l0 x5_1).f1) ((rd_T63 l0 x5_1).f2) ((rd_T63 l0 x5_1).f3) ((rd_T63 l0 x5_1).f4) ((rd_T63 l0 x5_1).f5) ((rd_T63 l0 x5_1).f6) ((rd_T63 l1 x5_1).f0) ((rd_T63 l1 x5_1).f1) ((rd_T63 l1 x5_1).f2) ((rd_T63 l1 x5_1).f3) ((rd_T63 l1 x5_1).f4) ((rd_T63 l1 x5_1).f5) ((rd_T63 l1 x5_1).f6) true _ A7.out).mono ?_
        rintro e w10 ⟨rfl,hb⟩
        refine ⟨_,rfl,?_⟩
        replace HB := zs_ HB hb
        (try clear hb)
        (try clear hb2)
        (try clear hk)
        (try clear hi)
        refine hK.out _ _ ⟨(zx_ HB hw339_0),(zx_ HB hw339_1),(zx_ HB hw339_2),(zx_ HB hw339_3),(zx_ HB hw339_4),(zx_ HB hw339_5),(zx_ HB hw339_6),(zx_ HB hw340_0),(zx_ HB hw340_1),(zx_ HB hw340_2),(zx_ HB hw340_3),(zx_ HB hw340_4),(zx_ HB hw340_5),(zx_ HB hw340_6)⟩ (fun hHeld => ?_)
        clear hK K
        refine norm_ (a' := ?_) ?_ ?_
        rotate_left
        ·show Act.put _ (some 25) _ = _
         simp only [Act.put,p1_,p2_,p3_,i64_w,i32_w]
         rfl
        refine zpu 9 (N := some 26) HT_ ?_
        refine done_ (done_of HT_.out (by kernel_rfl)) ?_
        try go_wp2
        go_roundg k1
        case measure => have := HK1.out;omega
        case rel => exact ⟨(wrap64 (x5_1 + 1)),(by first | rfl | (simp;done) | (simp [*];done)),H',⟨by have := HK1.out;omega⟩,⟨zl_ HB⟩⟩
       ·replace c8 := Bool.eq_false_iff.mpr c8
        subst c8
        have H1 : (some false) = some r := by rw [if_neg (show ¬ (false = true) by decide)] at H;exact H
        clear H
        have H := H1
        clear H1
        obtain rfl := Option.some.inj H
        try go_wp2
        replace HB := am_ (below_drew1 HB.out)
        have p339 : 0 ≤ (x5_1 : Int) := zo_
        have q339 : x5_1 < (l0.length : Int) := zo_
        obtain ⟨ad339,e339,hx339_0,hx339_1,hx339_2,hx339_3,hx339_4,hx339_5,hx339_6⟩ := at_T63 HR0.out x5_1 p339 q339
        have hw339_6 := hx339_6
        have hw339_5 := hx339_5
        have hw339_4 := hx339_4
        have hw339_3 := hx339_3
        have hw339_2 := hx339_2
        have hw339_1 := hx339_1
        have hw339_0 := hx339_0
        cases e339
        replace hx339_0 := zx_ HB hx339_0
        replace hx339_1 := zx_ HB hx339_1
        replace hx339_2 := zx_ HB hx339_2
        replace hx339_3 := zx_ HB hx339_3
        replace hx339_4 := zx_ HB hx339_4
        replace hx339_5 := zx_ HB hx339_5
        replace hx339_6 := zx_ HB hx339_6
        replace p339 := eq_true p339
        replace q339 := eq_true q339
        have p340 : 0 ≤ (x5_1 : Int) := zo_
        have q340 : x5_1 < (l1.length : Int) := zo_
        obtain ⟨ad340,e340,hx340_0,hx340_1,hx340_2,hx340_3,hx340_4,hx340_5,hx340_6⟩ := at_T63 HR1.out x5_1 p340 q340
        have hw340_6 := hx340_6
        have hw340_5 := hx340_5
        have hw340_4 := hx340_4
        have hw340_3 := hx340_3
        have hw340_2 := hx340_2
        have hw340_1 := hx340_1
        have hw340_0 := hx340_0
        cases e340
        replace hx340_0 := zx_ HB hx340_0
        replace hx340_1 := zx_ HB hx340_1
        replace hx340_2 := zx_ HB hx340_2
        replace hx340_3 := zx_ HB hx340_3
        replace hx340_4 := zx_ HB hx340_4
        replace hx340_5 := zx_ HB hx340_5
        replace hx340_6 := zx_ HB hx340_6
        replace p340 := eq_true p340
        replace q340 := eq_true q340
        refine start_ (n := 10) (S := fun w' => w'.cell? (ad339.add ((x5_1).toNat * 7)) = some (.int .i64 ((rd_T63 l0 x5_1).f0)) ∧ w'.cell? ⟨(ad339.add ((x5_1).toNat * 7)).block,(ad339.add ((x5_1).toNat * 7)).off + 1,none⟩ = some (.int .i64 ((rd_T63 l0 x5_1).f1)) ∧ w'.cell? ⟨(ad339.add ((x5_1).toNat * 7)).block,(ad339.add ((x5_1).toNat * 7)).off + 2,none⟩ = some (.int .i64 ((rd_T63 l0 x5_1).f2)) ∧ w'.cell? ⟨(ad339.add ((x5_1).toNat * 7)).block,(ad339.add ((x5_1).toNat * 7)).off + 3,none⟩ = some (.int .i64 ((rd_T63 l0 x5_1).f3)) ∧ w'.cell? ⟨(ad339.add ((x5_1).toNat * 7)).block,(ad339.add ((x5_1).toNat * 7)).off + 4,none⟩ = some (.string ((rd_T63 l0 x5_1).f4)) ∧ w'.cell? ⟨(ad339.add ((x5_1).toNat * 7)).block,(ad339.add ((x5_1).toNat * 7)).off + 5,none⟩ = some (.string ((rd_T63 l0 x5_1).f5)) ∧ w'.cell? ⟨(ad339.add ((x5_1).toNat * 7)).block,(ad339.add ((x5_1).toNat * 7)).off + 6,none⟩ = some (.string ((rd_T63 l0 x5_1).f6)) ∧ w'.cell? (ad340.add ((x5_1).toNat * 7)) = some (.int .i64 ((rd_T63 l1 x5_1).f0)) ∧ w'.cell? ⟨(ad340.add ((x5_1).toNat * 7)).block,(ad340.add ((x5_1).toNat * 7)).off + 1,none⟩ = some (.int .i64 ((rd_T63 l1 x5_1).f1)) ∧ w'.cell? ⟨(ad340.add ((x5_1).toNat * 7)).block,(ad340.add ((x5_1).toNat * 7)).off + 2,none⟩ = some (.int .i64 ((rd_T63 l1 x5_1).f2)) ∧ w'.cell? ⟨(ad340.add ((x5_1).toNat * 7)).block,(ad340.add ((x5_1).toNat * 7)).off + 3,none⟩ = some (.int .i64 ((rd_T63 l1 x5_1).f3)) ∧ w'.cell? ⟨(ad340.add ((x5_1).toNat * 7)).block,(ad340.add ((x5_1).toNat * 7)).off + 4,none⟩ = some (.string ((rd_T63 l1 x5_1).f4)) ∧ w'.cell? ⟨(ad340.add ((x5_1).toNat * 7)).block,(ad340.add ((x5_1).toNat * 7)).off + 5,none⟩ = some (.string ((rd_T63 l1 x5_1).f5)) ∧ w'.cell? ⟨(ad340.add ((x5_1).toNat * 7)).block,(ad340.add ((x5_1).toNat * 7)).off + 6,none⟩ = some (.string ((rd_T63 l1 x5_1).f6))) (ds := []) #[false,false,false,false,false,false,false,false,false,false] (by kernel_rfl) rfl rfl ⟨(zx_ HB hw339_0),(zx_ HB hw339_1),(zx_ HB hw339_2),(zx_ HB hw339_3),(zx_ HB hw339_4),(zx_ HB hw339_5),(zx_ HB hw339_6),(zx_ HB hw340_0),(zx_ HB hw340_1),(zx_ HB hw340_2),(zx_ HB hw340_3),(zx_ HB hw340_4),(zx_ HB hw340_5),(zx_ HB hw340_6)⟩ (fun hHeld => ?_);refine with_tabW laws_eqMessageS.tab6 laws_eqMessageS.bits6 (fun HT_ HW_ => ?_)
        generalize wr.drew = w11 at HB hx339_0 hx339_1 hx339_2 hx339_3 hx339_4 hx339_5 hx339_6 hx340_0 hx340_1 hx340_2 hx340_3 hx340_4 hx340_5 hx340_6 hHeld ⊢
        refine zpu 0 (N := some 17) HT_ ?_
        refine zpu 1 (N := some 18) HT_ ?_
        refine zpu 2 (N := some 19) HT_ ?_
        refine zpu 4 (N := some 21) HT_ ?_
        refine zpu 5 (N := some 22) HT_ ?_
        refine zpu 6 (N := some 23) HT_ ?_
        refine ztk 3 (N := some 20) HT_ HW_ hHeld ?_
        refine ztk 7 (N := some 24) HT_ HW_ hHeld ?_
        refine zon 8 (N := some 25) HT_ (fun K hK => ?_)
        refine zgo Try.func71 #[.agg #[.int .i64 ((rd_T63 l0 x5_1).f0),.int .i64 ((rd_T63 l0 x5_1).f1),.int .i64 ((rd_T63 l0 x5_1).f2),.int .i64 ((rd_T63 l0 x5_1).f3),.string ((rd_T63 l0 x5_1).f4),.string ((rd_T63 l0 x5_1).f5),.string ((rd_T63 l0 x5_1).f6)],.agg #[.int .i64 ((rd_T63 l1 x5_1).f0),.int .i64 ((rd_T63 l1 x5_1).f1),.int .i64 ((rd_T63 l1 x5_1).f2),.int .i64 ((rd_T63 l1 x5_1).f3),.string ((rd_T63 l1 x5_1).f4),.string ((rd_T63 l1 x5_1).f5),.string ((rd_T63 l1 x5_1).f6)]] ?_
        with_reducible refine (laws_eqMessage.calls ((rd_T63 l0 x5_1).f0) ((rd_T63 l0 x5_1).f1) ((rd_T63 l0 x5_1).f2) ((rd_T63 l0 x5_1).f3) ((rd_T63 l0 x5_1).f4) ((rd_T63 l0 x5_1).f5) ((rd_T63 l0 x5_1).f6) ((rd_T63 l1 x5_1).f0) ((rd_T63 l1 x5_1).f1) ((rd_T63 l1 x5_1).f2) ((rd_T63 l1 x5_1).f3) ((rd_T63 l1 x5_1).f4) ((rd_T63 l1 x5_1).f5) ((rd_T63 l1 x5_1).f6) false _ A7.out).mono ?_
        rintro e w12 ⟨rfl,hb⟩
        refine ⟨_,rfl,?_⟩
        replace HB := zs_ HB hb
        (try clear hb)
        (try clear hb2)
        (try clear hk)
        (try clear hi)
        refine hK.out _ _ ⟨(zx_ HB hw339_0),(zx_ HB hw339_1),(zx_ HB hw339_2),(zx_ HB hw339_3),(zx_ HB hw339_4),(zx_ HB hw339_5),(zx_ HB hw339_6),(zx_ HB hw340_0),(zx_ HB hw340_1),(zx_ HB hw340_2),(zx_ HB hw340_3),(zx_ HB hw340_4),(zx_ HB hw340_5),(zx_ HB hw340_6)⟩ (fun hHeld => ?_)
        clear hK K
        refine norm_ (a' := ?_) ?_ ?_
        rotate_left
        ·show Act.put _ (some 25) _ = _
         simp only [Act.put,p1_,p2_,p3_,i64_w,i32_w]
         rfl
        refine zpu 9 (N := some 26) HT_ ?_
        refine done_ (done_of HT_.out (by kernel_rfl)) ?_
        try go_wp2
        go_ret
        exact ⟨zt_,zl_ HB⟩
      ·rw [if_neg c6] at H
       exact absurd H (by simp)
     ·rw [if_neg c5] at H
      exact absurd H (by simp)
    ·rw [if_neg c4] at H
     have c4b0 : decide (x5_1 < (l0.length : Int)) = false := decide_eq_false c4
     clear c4
     obtain rfl := Option.some.inj H
     go_wp2
     go_ret
     exact ⟨zt_,zl_ HB⟩
 ·rw [if_neg c3] at H
  have c3b0 : ((l0.length : Int) == (l1.length : Int)) = false := beq_eq_false_iff_ne.mpr c3
  have c3b1 : ((l0.length : Int) != (l1.length : Int)) = true := bne_iff_ne.mpr c3
  have c3b2 : (l0.length == l1.length) = false := by first | simpa using c3 | (simp at c3 ⊢;omega)
  obtain rfl := Option.some.inj H
  go_enter Try.func42,Try.ntmps42
  go_wp2
  go_ret
  exact ⟨zt_,zl_ HB⟩
set_option maxHeartbeats 8000000 in
set_option maxRecDepth 100000 in
theorem laws_eqCert.calls (k : Nat) (a0_0 : ByteArray) (A0_1 : Option Addr) (c0_1 : Nat) (l0_1 : List (S63)) (a1_0 : ByteArray) (A1_1 : Option Addr) (c1_1 : Nat) (l1_1 : List (S63)) (r : Bool) (w : World) (hr0_1 : Kd.C k63 w A0_1 l0_1.length l0_1) (hc0_1 : l0_1.length ≤ c0_1) (hr1_1 : Kd.C k63 w A1_1 l1_1.length l1_1) (hc1_1 : l1_1.length ≤ c1_1) (h : laws_eqCert.f k a0_0 l0_1 a1_0 l1_1 = some r) :
  Calls Try.prog 20 #[.agg #[.string a0_0,.slice A0_1 l0_1.length c0_1],.agg #[.string a1_0,.slice A1_1 l1_1.length c1_1]] w fun e w' => e = .returned (.bool r) ∧ Below w.heap.size w w' := by
 have hu39 := Try.underlying39
 have HR0_1 := am_ hr0_1
 have HC0_1 := am_ hc0_1
 clear hr0_1 hc0_1
 have HR1_1 := am_ hr1_1
 have HC1_1 := am_ hc1_1
 clear hr1_1 hc1_1
 have HB := am_ (Below.refl w.heap.size w)
 have H : (if a0_0.toList = a1_0.toList then ((laws_eqMessageS.f k l0_1 l1_1).bind fun t344 => (if t344 = true then (some true) else (some false))) else (some false)) = some r := h
 clear h
 by_cases c3 : a0_0.toList = a1_0.toList
 ·rw [if_pos c3] at H
  have c3b0 : (a0_0.toList == a1_0.toList) = true := beq_iff_eq.mpr c3
  have c3b1 : (a0_0.toList != a1_0.toList) = false := bne_eq_false_iff_eq.mpr c3
  clear c3
  replace H := Option.bind_eq_some_iff.mp H
  obtain ⟨t344,A40,H⟩ := H
  try dsimp only at H
  have A4 := am_ A40
  clear A40
  by_cases c5 : t344 = true
  ·subst c5
   have H1 : (some true) = some r := by rw [if_pos rfl] at H;exact H
   clear H
   have H := H1
   clear H1
   obtain rfl := Option.some.inj H
   go_enter Try.func20,Try.ntmps20
   go_wp2_with (first | ((with_reducible refine gate_dst (N := 2) rfl ?_);refine zbx (N := 2) (cs := #[.string a0_0,.slice A0_1 l0_1.length c0_1]) (t := 39) ?_;intro gb342 hg w6 hbox hb;have BK342 := am_ (hbox);have GW342 := zw_ HB hg;have GE342 := zw_ HB hg;replace HB := zs_ HB hb;clear hb hbox hg) | ((with_reducible refine gate_dst (N := 3) rfl ?_);refine zbx (N := 3) (cs := #[.string a1_0,.slice A1_1 l1_1.length c1_1]) (t := 39) ?_;intro gb343 hg w7 hbox hb;have BK343 := am_ (hbox);have GW343 := zw_ HB hg;have GE343 := zw_ HB hg;replace HB := zs_ HB hb;have NB342_343 := zl hg BK342;have NB343_342 := zg hg BK342;replace BK342 := zb BK342 hb;clear hb hbox hg;have hnb8 := NB342_343.out;have hnc8 := NB343_342.out;obtain ⟨hcz9_0,hcz9_1,hfz9_0,hfz9_1⟩ := zc2 BK342;obtain ⟨hcz10_0,hcz10_1,hfz10_0,hfz10_1⟩ := zc2 BK343) | ((with_reducible refine gate_callee (f := 42) rfl ?_);refine zgl (some 14) Try.func42 #[.slice A0_1 l0_1.length c0_1,.slice A1_1 l1_1.length c1_1] ?_;(with_reducible refine (laws_eqMessageS.calls k _ _ l0_1 _ _ l1_1 true _ ?side1 ?side2 ?side3 ?side4 A4.out).mono ?_);(case side1 => exact zc_ HR0_1 HB);(case side2 => exact HC0_1.out);(case side3 => exact zc_ HR1_1 HB);(case side4 => exact HC1_1.out);rintro e w11 ⟨rfl,hb⟩;refine ⟨_,rfl,?_⟩;replace BK342 := zb BK342 hb;replace BK343 := zb BK343 hb;replace HB := zs_ HB hb;(try clear hb);(try clear hb2);(try clear hk);(try clear hi)))
   go_ret
   exact ⟨zt_,zl_ HB⟩
  ·replace c5 := Bool.eq_false_iff.mpr c5
   subst c5
   have H1 : (some false) = some r := by rw [if_neg (show ¬ (false = true) by decide)] at H;exact H
   clear H
   have H := H1
   clear H1
   obtain rfl := Option.some.inj H
   go_enter Try.func20,Try.ntmps20
   go_wp2_with (first | ((with_reducible refine gate_dst (N := 2) rfl ?_);refine zbx (N := 2) (cs := #[.string a0_0,.slice A0_1 l0_1.length c0_1]) (t := 39) ?_;intro gb342 hg w12 hbox hb;have BK342 := am_ (hbox);have GW342 := zw_ HB hg;have GE342 := zw_ HB hg;replace HB := zs_ HB hb;clear hb hbox hg) | ((with_reducible refine gate_dst (N := 3) rfl ?_);refine zbx (N := 3) (cs := #[.string a1_0,.slice A1_1 l1_1.length c1_1]) (t := 39) ?_;intro gb343 hg w13 hbox hb;have BK343 := am_ (hbox);have GW343 := zw_ HB hg;have GE343 := zw_ HB hg;replace HB := zs_ HB hb;have NB342_343 := zl hg BK342;have NB343_342 := zg hg BK342;replace BK342 := zb BK342 hb;clear hb hbox hg;have hnb14 := NB342_343.out;have hnc14 := NB343_342.out;obtain ⟨hcz15_0,hcz15_1,hfz15_0,hfz15_1⟩ := zc2 BK342;obtain ⟨hcz16_0,hcz16_1,hfz16_0,hfz16_1⟩ := zc2 BK343) | ((with_reducible refine gate_callee (f := 42) rfl ?_);refine zgl (some 14) Try.func42 #[.slice A0_1 l0_1.length c0_1,.slice A1_1 l1_1.length c1_1] ?_;(with_reducible refine (laws_eqMessageS.calls k _ _ l0_1 _ _ l1_1 false _ ?side1 ?side2 ?side3 ?side4 A4.out).mono ?_);(case side1 => exact zc_ HR0_1 HB);(case side2 => exact HC0_1.out);(case side3 => exact zc_ HR1_1 HB);(case side4 => exact HC1_1.out);rintro e w17 ⟨rfl,hb⟩;refine ⟨_,rfl,?_⟩;replace HB := zs_ HB hb;(try clear hb);(try clear hb2);(try clear hk);(try clear hi)))
   go_ret
   exact ⟨zt_,zl_ HB⟩
 ·rw [if_neg c3] at H
  have c3b0 : (a0_0.toList == a1_0.toList) = false := beq_eq_false_iff_ne.mpr c3
  have c3b1 : (a0_0.toList != a1_0.toList) = true := bne_iff_ne.mpr c3
  obtain rfl := Option.some.inj H
  go_enter Try.func20,Try.ntmps20
  go_wp2_with (first | ((with_reducible refine gate_dst (N := 2) rfl ?_);refine zbx (N := 2) (cs := #[.string a0_0,.slice A0_1 l0_1.length c0_1]) (t := 39) ?_;intro gb342 hg w18 hbox hb;have BK342 := am_ (hbox);have GW342 := zw_ HB hg;have GE342 := zw_ HB hg;replace HB := zs_ HB hb;clear hb hbox hg) | ((with_reducible refine gate_dst (N := 3) rfl ?_);refine zbx (N := 3) (cs := #[.string a1_0,.slice A1_1 l1_1.length c1_1]) (t := 39) ?_;intro gb343 hg w19 hbox hb;have BK343 := am_ (hbox);have GW343 := zw_ HB hg;have GE343 := zw_ HB hg;replace HB := zs_ HB hb;have NB342_343 := zl hg BK342;have NB343_342 := zg hg BK342;replace BK342 := zb BK342 hb;clear hb hbox hg;have hnb20 := NB342_343.out;have hnc20 := NB343_342.out;obtain ⟨hcz21_0,hcz21_1,hfz21_0,hfz21_1⟩ := zc2 BK342;obtain ⟨hcz22_0,hcz22_1,hfz22_0,hfz22_1⟩ := zc2 BK343))
  go_ret
  exact ⟨zt_,zl_ HB⟩
set_option maxHeartbeats 8000000 in
set_option maxRecDepth 100000 in
theorem laws_markText.calls (k : Nat) (a0 : Int) (r : ByteArray) (w : World) (h : laws_markText.f k a0 = some r) :
  Calls Try.prog 36 #[.int .i64 a0] w fun e w' => e = .returned (.string r) ∧ Below w.heap.size w w' := by
 have HB := am_ (Below.refl w.heap.size w)
 have H : (if a0 ≤ 0 then (some (⟨#[109,48]⟩ : ByteArray)) else (laws_markText.l0 k a0 (⟨#[]⟩ : ByteArray))) = some r := h
 clear h
 by_cases c2 : a0 ≤ 0
 ·rw [if_pos c2] at H
  have c2b0 : decide (a0 ≤ 0) = true := decide_eq_true c2
  clear c2
  obtain rfl := Option.some.inj H
  go_enter Try.func36,Try.ntmps36
  go_wp2
  go_ret
  exact ⟨zt_,zl_ HB⟩
 ·rw [if_neg c2] at H
  have c2b0 : decide (a0 ≤ 0) = false := decide_eq_false c2
  clear c2
  have H' := am_ H
  clear H
  go_enter Try.func36,Try.ntmps36
  go_wp2
  go_loopg [0,3] k (fun kq v0 v3 w' => ∃ (x0_1 : Int) (x3_1 : ByteArray),v0 = .int .i64 x0_1 ∧ v3 = .string x3_1 ∧ Aside0 (laws_markText.l0 kq x0_1 x3_1 = some r) ∧ Aside0 (kq ≤ k) ∧ Aside0 (Below w.heap.size w w'))
  case atStart => exact ⟨(a0),((⟨#[]⟩ : ByteArray)),(by first | rfl | (simp;done) | (simp [*];done)),(by first | rfl | (simp;done) | (simp [*];done)),H',⟨Nat.le_refl _⟩,⟨zl_ HB⟩⟩
  case round =>
   clear H'
   try clear c2
   try clear c2b0
   try clear p2
   obtain ⟨x0_1,x3_1,rfl,rfl,HA,HK1,HB⟩ := hrel
   cases gk with
   | zero => exact absurd HA.out (by simp [laws_markText.l0])
   | succ k1 =>
    have H := HA.out
    clear HA
    simp only [laws_markText.l0] at H
    by_cases c3 : x0_1 > 0
    ·rw [if_pos c3] at H
     have c3b0 : decide (0 < x0_1) = true := decide_eq_true c3
     clear c3
     obtain ⟨y147,hy147⟩ : ∃ y_ : List Int,y_ = (([(wrap64 (48 + (Int.tmod x0_1 10))) % 256] : List Int)) := ⟨_,rfl⟩
     replace H : (if (strOfNums y147).size + x3_1.size ≤ 9223372036854775807 then (laws_markText.l0 k1 (wrap64 (Int.tdiv x0_1 10)) ((strOfNums y147) ++ x3_1)) else (none)) = some r := by first | (rw [hy147];with_reducible exact H) | (have H2_ := (Option.bind_some _ _).symm.trans H;rw [hy147];with_reducible exact H2_) | (have H2_ := (Option.bind_some _ _).symm.trans H;with_reducible exact H2_) | with_reducible exact H | (rw [hy147];exact H) | exact H
     have Ny147 := am_ hy147
     clear hy147
     by_cases c4 : (strOfNums y147).size + x3_1.size ≤ 9223372036854775807
     ·rw [if_pos c4] at H
      have c4b0 := eq_true c4
      have c4b1 : decide ((strOfNums y147).size + x3_1.size ≤ 9223372036854775807) = true := decide_eq_true c4
      try have c4b2 : (9223372036854775807 < (strOfNums y147).size + x3_1.size) = False := eq_false (Nat.not_lt.2 c4)
      have H' := am_ H
      clear H
      go_wp2_with (first | ((with_reducible refine gate_dst (N := 12) rfl ?_);refine Kd.R_lit (Kd.int .u8) _ 5 ?hg (N := 12) ?hd (xs := ([(wrap64 (48 + (Int.tmod x0_1 10))) % 256] : List Int)) (inner := [.int .u8 ((wrap64 (48 + (Int.tmod x0_1 10))) % 256)]) (ok := fun _ => True) (okp := fun _ => True) ?hr ?hp (fun _ hk => hk) trivial (Below.refl _ _) (Nat.le_refl _) (by simp) ?_;(case hd => rfl);(case hg => rfl);(case hr => first | (go_simp;done) | (go_simp;rfl));(case hp => exact (Reps.one (show Kd.M (Kd.int .u8) _ _ _ ((wrap64 (48 + (Int.tmod x0_1 10))) % 256) [.int .u8 ((wrap64 (48 + (Int.tmod x0_1 10))) % 256)] from rfl) (Reps.none _ _)));intro v148 w5 ho6 hb hg_ hnew_;clear hg_ hnew_;(first | rw [← Ny147.out] at ho6 | (simp only [Int.reduceToNat] at ho6;rw [← Ny147.out] at ho6));have HO149 := am_ (Kd.R_lower ho6 (below_size (zl_ HB)));replace HB := zs_ HB hb;clear hb ho6;have hcv7 := own_string (P := Try.prog) Try.underlying24 Try.underlying5 Try.underlying9 (Kd.own_of_R HO149.out)))
      go_roundg k1
      case measure => have := HK1.out;omega
      case rel => exact ⟨(wrap64 (Int.tdiv x0_1 10)),((strOfNums y147) ++ x3_1),(by first | rfl | (simp;done) | (simp [*];done)),(by first | rfl | (simp;done) | (simp [*];done)),H',⟨by have := HK1.out;omega⟩,⟨zl_ HB⟩⟩
     ·rw [if_neg c4] at H
      exact absurd H (by simp)
    ·rw [if_neg c3] at H
     have c3b0 : decide (0 < x0_1) = false := decide_eq_false c3
     clear c3
     by_cases c8 : 1 + x3_1.size ≤ 9223372036854775807
     ·rw [if_pos c8] at H
      have c8b0 := eq_true c8
      have c8b1 : decide (1 + x3_1.size ≤ 9223372036854775807) = true := decide_eq_true c8
      try have c8b2 : (9223372036854775807 < 1 + x3_1.size) = False := eq_false (Nat.not_lt.2 c8)
      obtain rfl := Option.some.inj H
      go_wp2
      go_ret
      exact ⟨zt_,zl_ HB⟩
     ·rw [if_neg c8] at H
      exact absurd H (by simp)
def laws_heldMessageS.T16 : Bool × List (List Nat × List Nat) := (true,[([],[]),([],[]),([0,1],[0,1]),([2],[2]),([3],[3]),([],[]),([5],[5]),([4,6],[4,6])])
def laws_heldMessageS.B16 : List Nat := [0,0,3,7,15,0,32,127]
theorem laws_heldMessageS.tab16 : rtab .any (opsOf Try.f46 16) = laws_heldMessageS.T16 := by kernel_rfl
theorem laws_heldMessageS.bits16 : waitsOk laws_heldMessageS.T16.2 laws_heldMessageS.B16 = true := by kernel_rfl
def laws_heldMessageS.T19 : Bool × List (List Nat × List Nat) := (true,[([],[]),([],[]),([0,1],[0,1]),([2],[2]),([3],[3]),([],[]),([5],[5]),([4,6],[4,6])])
def laws_heldMessageS.B19 : List Nat := [0,0,3,7,15,0,32,127]
theorem laws_heldMessageS.tab19 : rtab .any (opsOf Try.f46 19) = laws_heldMessageS.T19 := by kernel_rfl
theorem laws_heldMessageS.bits19 : waitsOk laws_heldMessageS.T19.2 laws_heldMessageS.B19 = true := by kernel_rfl
def laws_heldMessageS.T22 : Bool × List (List Nat × List Nat) := (true,[([],[]),([],[]),([0,1],[0,1]),([2],[2]),([3],[3]),([],[]),([5],[5]),([4,6],[4,6])])
def laws_heldMessageS.B22 : List Nat := [0,0,3,7,15,0,32,127]
theorem laws_heldMessageS.tab22 : rtab .any (opsOf Try.f46 22) = laws_heldMessageS.T22 := by kernel_rfl
theorem laws_heldMessageS.bits22 : waitsOk laws_heldMessageS.T22.2 laws_heldMessageS.B22 = true := by kernel_rfl
set_option maxHeartbeats 8000000 in
set_option maxRecDepth 100000 in
theorem laws_heldMessageS.calls (k : Nat) (A0 : Option Addr) (c0 : Nat) (l0 : List (S63)) (a1 : Int) (r : Int) (w : World) (hr0 : Kd.C k63 w A0 l0.length l0) (hc0 : l0.length ≤ c0) (h : laws_heldMessageS.f k l0 a1 = some r) :
  Calls Try.prog 46 #[.slice A0 l0.length c0,.int .i64 a1] w fun e w' => e = .returned (.int .i64 r) ∧ Below w.heap.size w w' := by
 have HR0 := am_ hr0
 have HC0 := am_ hc0
 clear hr0 hc0
 have HB := am_ (Below.refl w.heap.size w)
 have H : (laws_heldMessageS.l0 k l0 a1 0) = some r := h
 clear h
 have H' := am_ H
 clear H
 go_enter Try.func46,Try.ntmps46
 go_wp2
 go_loopg [1,5] k (fun kq v1 v5 w' => ∃ (x1_1 : Int) (x5_1 : Int),v1 = .int .i64 x1_1 ∧ v5 = .int .i64 x5_1 ∧ Aside0 (laws_heldMessageS.l0 kq l0 x1_1 x5_1 = some r) ∧ Aside0 (kq ≤ k) ∧ Aside0 (Below w.heap.size w w'))
 case atStart => exact ⟨(a1),(0),(by first | rfl | (simp;done) | (simp [*];done)),(by first | rfl | (simp;done) | (simp [*];done)),H',⟨Nat.le_refl _⟩,⟨zl_ HB⟩⟩
 case round =>
  clear H'
  try clear p2
  obtain ⟨x1_1,x5_1,rfl,rfl,HA,HK1,HB⟩ := hrel
  cases gk with
  | zero => exact absurd HA.out (by simp [laws_heldMessageS.l0])
  | succ k1 =>
   have H := HA.out
   clear HA
   simp only [laws_heldMessageS.l0] at H
   by_cases c3 : x5_1 < (l0.length : Int)
   ·rw [if_pos c3] at H
    have c3b0 : decide (x5_1 < (l0.length : Int)) = true := decide_eq_true c3
    clear c3
    by_cases c4 : 0 ≤ x5_1
    ·rw [if_pos c4] at H
     have c4b0 : decide (0 ≤ x5_1) = true := decide_eq_true c4
     clear c4
     by_cases c5 : ((rd_T63 l0 x5_1).f0) = x1_1
     ·rw [if_pos c5] at H
      have c5b0 : (((rd_T63 l0 x5_1).f0) == x1_1) = true := beq_iff_eq.mpr c5
      have c5b1 : (((rd_T63 l0 x5_1).f0) != x1_1) = false := bne_eq_false_iff_eq.mpr c5
      clear c5
      by_cases c6 : ((rd_T63 l0 x5_1).f1) = (wrap64 (x1_1 + 1))
      ·rw [if_pos c6] at H
       have c6b0 : (((rd_T63 l0 x5_1).f1) == (wrap64 (x1_1 + 1))) = true := beq_iff_eq.mpr c6
       have c6b1 : (((rd_T63 l0 x5_1).f1) != (wrap64 (x1_1 + 1))) = false := bne_eq_false_iff_eq.mpr c6
       clear c6
       by_cases c7 : ((rd_T63 l0 x5_1).f2) = (wrap64 ((wrap64 (x1_1 + 1)) + 1))
       ·rw [if_pos c7] at H
        have c7b0 : (((rd_T63 l0 x5_1).f2) == (wrap64 ((wrap64 (x1_1 + 1)) + 1))) = true := beq_iff_eq.mpr c7
        have c7b1 : (((rd_T63 l0 x5_1).f2) != (wrap64 ((wrap64 (x1_1 + 1)) + 1))) = false := bne_eq_false_iff_eq.mpr c7
        clear c7
        by_cases c8 : ((rd_T63 l0 x5_1).f3) = (wrap64 ((wrap64 ((wrap64 (x1_1 + 1)) + 1)) + 1))
        ·rw [if_pos c8] at H
         have c8b0 : (((rd_T63 l0 x5_1).f3) == (wrap64 ((wrap64 ((wrap64 (x1_1 + 1)) + 1)) + 1))) = true := beq_iff_eq.mpr c8
         have c8b1 : (((rd_T63 l0 x5_1).f3) != (wrap64 ((wrap64 ((wrap64 (x1_1 + 1)) + 1)) + 1))) = false := bne_eq_false_iff_eq.mpr c8
         clear c8
         replace H := Option.bind_eq_some_iff.mp H
         obtain ⟨t552,A90,H⟩ := H
         try dsimp only at H
         have A9 := am_ A90
         clear A90
         by_cases c10 : ((rd_T63 l0 x5_1).f4).toList = t552.toList
         ·rw [if_pos c10] at H
          have c10b0 : (((rd_T63 l0 x5_1).f4).toList == t552.toList) = true := beq_iff_eq.mpr c10
          have c10b1 : (((rd_T63 l0 x5_1).f4).toList != t552.toList) = false := bne_eq_false_iff_eq.mpr c10
          clear c10
          replace H := Option.bind_eq_some_iff.mp H
          obtain ⟨t554,A110,H⟩ := H
          try dsimp only at H
          have A11 := am_ A110
          clear A110
          by_cases c12 : ((rd_T63 l0 x5_1).f5).toList = t554.toList
          ·rw [if_pos c12] at H
           have c12b0 : (((rd_T63 l0 x5_1).f5).toList == t554.toList) = true := beq_iff_eq.mpr c12
           have c12b1 : (((rd_T63 l0 x5_1).f5).toList != t554.toList) = false := bne_eq_false_iff_eq.mpr c12
           clear c12
           replace H := Option.bind_eq_some_iff.mp H
           obtain ⟨t556,A130,H⟩ := H
           try dsimp only at H
           have A13 := am_ A130
           clear A130
           by_cases c14 : ((rd_T63 l0 x5_1).f6).toList = t556.toList
           ·rw [if_pos c14] at H
            have c14b0 : (((rd_T63 l0 x5_1).f6).toList == t556.toList) = true := beq_iff_eq.mpr c14
            have c14b1 : (((rd_T63 l0 x5_1).f6).toList != t556.toList) = false := bne_eq_false_iff_eq.mpr c14
            clear c14
            have H' := am_ H
            clear H
            have p547 : 0 ≤ (x5_1 : Int) := zo_
            have q547 : x5_1 < (l0.length : Int) := zo_
            obtain ⟨ad547,e547,hx547_0,hx547_1,hx547_2,hx547_3,hx547_4,hx547_5,hx547_6⟩ := at_T63 HR0.out x5_1 p547 q547
            cases e547
            replace hx547_0 := zx_ HB hx547_0
            replace hx547_1 := zx_ HB hx547_1
            replace hx547_2 := zx_ HB hx547_2
            replace hx547_3 := zx_ HB hx547_3
            replace hx547_4 := zx_ HB hx547_4
            replace hx547_5 := zx_ HB hx547_5
            replace hx547_6 := zx_ HB hx547_6
            replace p547 := eq_true p547
            replace q547 := eq_true q547
            have p548 : 0 ≤ (x5_1 : Int) := zo_
            have q548 : x5_1 < (l0.length : Int) := zo_
            obtain ⟨ad548,e548,hx548_0,hx548_1,hx548_2,hx548_3,hx548_4,hx548_5,hx548_6⟩ := at_T63 HR0.out x5_1 p548 q548
            obtain rfl : ad547 = ad548 := (by injection e548)
            replace hx548_0 := zx_ HB hx548_0
            replace hx548_1 := zx_ HB hx548_1
            replace hx548_2 := zx_ HB hx548_2
            replace hx548_3 := zx_ HB hx548_3
            replace hx548_4 := zx_ HB hx548_4
            replace hx548_5 := zx_ HB hx548_5
            replace hx548_6 := zx_ HB hx548_6
            replace p548 := eq_true p548
            replace q548 := eq_true q548
            have p549 : 0 ≤ (x5_1 : Int) := zo_
            have q549 : x5_1 < (l0.length : Int) := zo_
            obtain ⟨ad549,e549,hx549_0,hx549_1,hx549_2,hx549_3,hx549_4,hx549_5,hx549_6⟩ := at_T63 HR0.out x5_1 p549 q549
            obtain rfl : ad547 = ad549 := (by injection e549)
            replace hx549_0 := zx_ HB hx549_0
            replace hx549_1 := zx_ HB hx549_1
            replace hx549_2 := zx_ HB hx549_2
            replace hx549_3 := zx_ HB hx549_3
            replace hx549_4 := zx_ HB hx549_4
            replace hx549_5 := zx_ HB hx549_5
            replace hx549_6 := zx_ HB hx549_6
            replace p549 := eq_true p549
            replace q549 := eq_true q549
            have p550 : 0 ≤ (x5_1 : Int) := zo_
            have q550 : x5_1 < (l0.length : Int) := zo_
            obtain ⟨ad550,e550,hx550_0,hx550_1,hx550_2,hx550_3,hx550_4,hx550_5,hx550_6⟩ := at_T63 HR0.out x5_1 p550 q550
            obtain rfl : ad547 = ad550 := (by injection e550)
            replace hx550_0 := zx_ HB hx550_0
            replace hx550_1 := zx_ HB hx550_1
            replace hx550_2 := zx_ HB hx550_2
            replace hx550_3 := zx_ HB hx550_3
            replace hx550_4 := zx_ HB hx550_4
            replace hx550_5 := zx_ HB hx550_5
            replace hx550_6 := zx_ HB hx550_6
            replace p550 := eq_true p550
            replace q550 := eq_true q550
            try go_wp2
            replace HB := am_ (below_drew1 HB.out)
            have p551 : 0 ≤ (x5_1 : Int) := zo_
            have q551 : x5_1 < (l0.length : Int) := zo_
            obtain ⟨ad551,e551,hx551_0,hx551_1,hx551_2,hx551_3,hx551_4,hx551_5,hx551_6⟩ := at_T63 HR0.out x5_1 p551 q551
            have hw551_6 := hx551_6
            have hw551_5 := hx551_5
            have hw551_4 := hx551_4
            have hw551_3 := hx551_3
            have hw551_2 := hx551_2
            have hw551_1 := hx551_1
            have hw551_0 := hx551_0
            obtain rfl : ad547 = ad551 := (by injection e551)
            replace hx551_0 := zx_ HB hx551_0
            replace hx551_1 := zx_ HB hx551_1
            replace hx551_2 := zx_ HB hx551_2
            replace hx551_3 := zx_ HB hx551_3
            replace hx551_4 := zx_ HB hx551_4
            replace hx551_5 := zx_ HB hx551_5
            replace hx551_6 := zx_ HB hx551_6
            replace p551 := eq_true p551
            replace q551 := eq_true q551
            refine start_ (n := 8) (S := fun w' => w'.cell? (ad547.add ((x5_1).toNat * 7)) = some (.int .i64 ((rd_T63 l0 x5_1).f0)) ∧ w'.cell? ⟨(ad547.add ((x5_1).toNat * 7)).block,(ad547.add ((x5_1).toNat * 7)).off + 1,none⟩ = some (.int .i64 ((rd_T63 l0 x5_1).f1)) ∧ w'.cell? ⟨(ad547.add ((x5_1).toNat * 7)).block,(ad547.add ((x5_1).toNat * 7)).off + 2,none⟩ = some (.int .i64 ((rd_T63 l0 x5_1).f2)) ∧ w'.cell? ⟨(ad547.add ((x5_1).toNat * 7)).block,(ad547.add ((x5_1).toNat * 7)).off + 3,none⟩ = some (.int .i64 ((rd_T63 l0 x5_1).f3)) ∧ w'.cell? ⟨(ad547.add ((x5_1).toNat * 7)).block,(ad547.add ((x5_1).toNat * 7)).off + 4,none⟩ = some (.string ((rd_T63 l0 x5_1).f4)) ∧ w'.cell? ⟨(ad547.add ((x5_1).toNat * 7)).block,(ad547.add ((x5_1).toNat * 7)).off + 5,none⟩ = some (.string ((rd_T63 l0 x5_1).f5)) ∧ w'.cell? ⟨(ad547.add ((x5_1).toNat * 7)).block,(ad547.add ((x5_1).toNat * 7)).off + 6,none⟩ = some (.string ((rd_T63 l0 x5_1).f6))) (ds := []) #[false,false,false,false,false,false,false,false] (by kernel_rfl) rfl rfl ⟨(zx_ HB hw551_0),(zx_ HB hw551_1),(zx_ HB hw551_2),(zx_ HB hw551_3),(zx_ HB hw551_4),(zx_ HB hw551_5),(zx_ HB hw551_6)⟩ (fun hHeld => ?_);refine with_tabW laws_heldMessageS.tab16 laws_heldMessageS.bits16 (fun HT_ HW_ => ?_)
            generalize wr.drew = w15 at HB hx551_0 hx551_1 hx551_2 hx551_3 hx551_4 hx551_5 hx551_6 hHeld ⊢
            refine zpu 0 (N := some 48) HT_ ?_
            refine zpu 1 (N := some 49) HT_ ?_
            refine zpu 2 (N := some 50) HT_ ?_
            refine zpu 3 (N := some 51) HT_ ?_
            refine zpu 5 (N := some 53) HT_ ?_
            refine ztk 4 (N := some 52) HT_ HW_ hHeld ?_
            refine zon 6 (N := some 54) HT_ (fun K hK => ?_)
            refine zgo Try.func36 #[.int .i64 (wrap64 ((wrap64 ((wrap64 ((wrap64 (x1_1 + 1)) + 1)) + 1)) + 1))] ?_
            with_reducible refine (laws_markText.calls k1 (wrap64 ((wrap64 ((wrap64 ((wrap64 (x1_1 + 1)) + 1)) + 1)) + 1)) t552 _ A9.out).mono ?_
            rintro e w16 ⟨rfl,hb⟩
            refine ⟨_,rfl,?_⟩
            replace HB := zs_ HB hb
            (try clear hb)
            (try clear hb2)
            (try clear hk)
            (try clear hi)
            refine hK.out _ _ ⟨(zx_ HB hw551_0),(zx_ HB hw551_1),(zx_ HB hw551_2),(zx_ HB hw551_3),(zx_ HB hw551_4),(zx_ HB hw551_5),(zx_ HB hw551_6)⟩ (fun hHeld => ?_)
            clear hK K
            refine norm_ (a' := ?_) ?_ ?_
            rotate_left
            ·show Act.put _ (some 54) _ = _
             simp only [Act.put,p1_,p2_,p3_,i64_w,i32_w]
             rfl
            refine zpu 7 (N := some 55) HT_ ?_
            refine done_ (done_of HT_.out (by kernel_rfl)) ?_
            try go_wp2
            replace HB := am_ (below_drew1 HB.out)
            have p553 : 0 ≤ (x5_1 : Int) := zo_
            have q553 : x5_1 < (l0.length : Int) := zo_
            obtain ⟨ad553,e553,hx553_0,hx553_1,hx553_2,hx553_3,hx553_4,hx553_5,hx553_6⟩ := at_T63 HR0.out x5_1 p553 q553
            have hw553_6 := hx553_6
            have hw553_5 := hx553_5
            have hw553_4 := hx553_4
            have hw553_3 := hx553_3
            have hw553_2 := hx553_2
            have hw553_1 := hx553_1
            have hw553_0 := hx553_0
            obtain rfl : ad547 = ad553 := (by injection e553)
            replace hx553_0 := zx_ HB hx553_0
            replace hx553_1 := zx_ HB hx553_1
            replace hx553_2 := zx_ HB hx553_2
            replace hx553_3 := zx_ HB hx553_3
            replace hx553_4 := zx_ HB hx553_4
            replace hx553_5 := zx_ HB hx553_5
            replace hx553_6 := zx_ HB hx553_6
            replace p553 := eq_true p553
            replace q553 := eq_true q553
            refine start_ (n := 8) (S := fun w' => w'.cell? (ad547.add ((x5_1).toNat * 7)) = some (.int .i64 ((rd_T63 l0 x5_1).f0)) ∧ w'.cell? ⟨(ad547.add ((x5_1).toNat * 7)).block,(ad547.add ((x5_1).toNat * 7)).off + 1,none⟩ = some (.int .i64 ((rd_T63 l0 x5_1).f1)) ∧ w'.cell? ⟨(ad547.add ((x5_1).toNat * 7)).block,(ad547.add ((x5_1).toNat * 7)).off + 2,none⟩ = some (.int .i64 ((rd_T63 l0 x5_1).f2)) ∧ w'.cell? ⟨(ad547.add ((x5_1).toNat * 7)).block,(ad547.add ((x5_1).toNat * 7)).off + 3,none⟩ = some (.int .i64 ((rd_T63 l0 x5_1).f3)) ∧ w'.cell? ⟨(ad547.add ((x5_1).toNat * 7)).block,(ad547.add ((x5_1).toNat * 7)).off + 4,none⟩ = some (.string ((rd_T63 l0 x5_1).f4)) ∧ w'.cell? ⟨(ad547.add ((x5_1).toNat * 7)).block,(ad547.add ((x5_1).toNat * 7)).off + 5,none⟩ = some (.string ((rd_T63 l0 x5_1).f5)) ∧ w'.cell? ⟨(ad547.add ((x5_1).toNat * 7)).block,(ad547.add ((x5_1).toNat * 7)).off + 6,none⟩ = some (.string ((rd_T63 l0 x5_1).f6))) (ds := []) #[false,false,false,false,false,false,false,false] (by kernel_rfl) rfl rfl ⟨(zx_ HB hw553_0),(zx_ HB hw553_1),(zx_ HB hw553_2),(zx_ HB hw553_3),(zx_ HB hw553_4),(zx_ HB hw553_5),(zx_ HB hw553_6)⟩ (fun hHeld => ?_);refine with_tabW laws_heldMessageS.tab19 laws_heldMessageS.bits19 (fun HT_ HW_ => ?_)
            generalize w16.drew = w17 at HB hx553_0 hx553_1 hx553_2 hx553_3 hx553_4 hx553_5 hx553_6 hHeld ⊢
            refine zpu 0 (N := some 58) HT_ ?_
            refine zpu 1 (N := some 59) HT_ ?_
            refine zpu 2 (N := some 60) HT_ ?_
            refine zpu 3 (N := some 61) HT_ ?_
            refine zpu 5 (N := some 63) HT_ ?_
            refine ztk 4 (N := some 62) HT_ HW_ hHeld ?_
            refine zon 6 (N := some 64) HT_ (fun K hK => ?_)
            refine zgo Try.func36 #[.int .i64 (wrap64 ((wrap64 ((wrap64 ((wrap64 ((wrap64 (x1_1 + 1)) + 1)) + 1)) + 1)) + 1))] ?_
            with_reducible refine (laws_markText.calls k1 (wrap64 ((wrap64 ((wrap64 ((wrap64 ((wrap64 (x1_1 + 1)) + 1)) + 1)) + 1)) + 1)) t554 _ A11.out).mono ?_
            rintro e w18 ⟨rfl,hb⟩
            refine ⟨_,rfl,?_⟩
            replace HB := zs_ HB hb
            (try clear hb)
            (try clear hb2)
            (try clear hk)
            (try clear hi)
            refine hK.out _ _ ⟨(zx_ HB hw553_0),(zx_ HB hw553_1),(zx_ HB hw553_2),(zx_ HB hw553_3),(zx_ HB hw553_4),(zx_ HB hw553_5),(zx_ HB hw553_6)⟩ (fun hHeld => ?_)
            clear hK K
            refine norm_ (a' := ?_) ?_ ?_
            rotate_left
            ·show Act.put _ (some 64) _ = _
             simp only [Act.put,p1_,p2_,p3_,i64_w,i32_w]
             rfl
            refine zpu 7 (N := some 65) HT_ ?_
            refine done_ (done_of HT_.out (by kernel_rfl)) ?_
            try go_wp2
            replace HB := am_ (below_drew1 HB.out)
            have p555 : 0 ≤ (x5_1 : Int) := zo_
            have q555 : x5_1 < (l0.length : Int) := zo_
            obtain ⟨ad555,e555,hx555_0,hx555_1,hx555_2,hx555_3,hx555_4,hx555_5,hx555_6⟩ := at_T63 HR0.out x5_1 p555 q555
            have hw555_6 := hx555_6
            have hw555_5 := hx555_5
            have hw555_4 := hx555_4
            have hw555_3 := hx555_3
            have hw555_2 := hx555_2
            have hw555_1 := hx555_1
            have hw555_0 := hx555_0
            obtain rfl : ad547 = ad555 := (by injection e555)
            replace hx555_0 := zx_ HB hx555_0
            replace hx555_1 := zx_ HB hx555_1
            replace hx555_2 := zx_ HB hx555_2
            replace hx555_3 := zx_ HB hx555_3
            replace hx555_4 := zx_ HB hx555_4
            replace hx555_5 := zx_ HB hx555_5
            replace hx555_6 := zx_ HB hx555_6
            replace p555 := eq_true p555
            replace q555 := eq_true q555
            refine start_ (n := 8) (S := fun w' => w'.cell? (ad547.add ((x5_1).toNat * 7)) = some (.int .i64 ((rd_T63 l0 x5_1).f0)) ∧ w'.cell? ⟨(ad547.add ((x5_1).toNat * 7)).block,(ad547.add ((x5_1).toNat * 7)).off + 1,none⟩ = some (.int .i64 ((rd_T63 l0 x5_1).f1)) ∧ w'.cell? ⟨(ad547.add ((x5_1).toNat * 7)).block,(ad547.add ((x5_1).toNat * 7)).off + 2,none⟩ = some (.int .i64 ((rd_T63 l0 x5_1).f2)) ∧ w'.cell? ⟨(ad547.add ((x5_1).toNat * 7)).block,(ad547.add ((x5_1).toNat * 7)).off + 3,none⟩ = some (.int .i64 ((rd_T63 l0 x5_1).f3)) ∧ w'.cell? ⟨(ad547.add ((x5_1).toNat * 7)).block,(ad547.add ((x5_1).toNat * 7)).off + 4,none⟩ = some (.string ((rd_T63 l0 x5_1).f4)) ∧ w'.cell? ⟨(ad547.add ((x5_1).toNat * 7)).block,(ad547.add ((x5_1).toNat * 7)).off + 5,none⟩ = some (.string ((rd_T63 l0 x5_1).f5)) ∧ w'.cell? ⟨(ad547.add ((x5_1).toNat * 7)).block,(ad547.add ((x5_1).toNat * 7)).off + 6,none⟩ = some (.string ((rd_T63 l0 x5_1).f6))) (ds := []) #[false,false,false,false,false,false,false,false] (by kernel_rfl) rfl rfl ⟨(zx_ HB hw555_0),(zx_ HB hw555_1),(zx_ HB hw555_2),(zx_ HB hw555_3),(zx_ HB hw555_4),(zx_ HB hw555_5),(zx_ HB hw555_6)⟩ (fun hHeld => ?_);refine with_tabW laws_heldMessageS.tab22 laws_heldMessageS.bits22 (fun HT_ HW_ => ?_)
            generalize w18.drew = w19 at HB hx555_0 hx555_1 hx555_2 hx555_3 hx555_4 hx555_5 hx555_6 hHeld ⊢
            refine zpu 0 (N := some 68) HT_ ?_
            refine zpu 1 (N := some 69) HT_ ?_
            refine zpu 2 (N := some 70) HT_ ?_
            refine zpu 3 (N := some 71) HT_ ?_
            refine zpu 5 (N := some 73) HT_ ?_
            refine ztk 4 (N := some 72) HT_ HW_ hHeld ?_
            refine zon 6 (N := some 74) HT_ (fun K hK => ?_)
            refine zgo Try.func36 #[.int .i64 (wrap64 ((wrap64 ((wrap64 ((wrap64 ((wrap64 ((wrap64 (x1_1 + 1)) + 1)) + 1)) + 1)) + 1)) + 1))] ?_
            with_reducible refine (laws_markText.calls k1 (wrap64 ((wrap64 ((wrap64 ((wrap64 ((wrap64 ((wrap64 (x1_1 + 1)) + 1)) + 1)) + 1)) + 1)) + 1)) t556 _ A13.out).mono ?_
            rintro e w20 ⟨rfl,hb⟩
            refine ⟨_,rfl,?_⟩
            replace HB := zs_ HB hb
            (try clear hb)
            (try clear hb2)
            (try clear hk)
            (try clear hi)
            refine hK.out _ _ ⟨(zx_ HB hw555_0),(zx_ HB hw555_1),(zx_ HB hw555_2),(zx_ HB hw555_3),(zx_ HB hw555_4),(zx_ HB hw555_5),(zx_ HB hw555_6)⟩ (fun hHeld => ?_)
            clear hK K
            refine norm_ (a' := ?_) ?_ ?_
            rotate_left
            ·show Act.put _ (some 74) _ = _
             simp only [Act.put,p1_,p2_,p3_,i64_w,i32_w]
             rfl
            refine zpu 7 (N := some 75) HT_ ?_
            refine done_ (done_of HT_.out (by kernel_rfl)) ?_
            try go_wp2
            go_roundg k1
            case measure => have := HK1.out;omega
            case rel => exact ⟨(wrap64 ((wrap64 ((wrap64 ((wrap64 ((wrap64 ((wrap64 ((wrap64 (x1_1 + 1)) + 1)) + 1)) + 1)) + 1)) + 1)) + 1)),(wrap64 (x5_1 + 1)),(by first | rfl | (simp;done) | (simp [*];done)),(by first | rfl | (simp;done) | (simp [*];done)),H',⟨by have := HK1.out;omega⟩,⟨zl_ HB⟩⟩
           ·rw [if_neg c14] at H
            have c14b0 : (((rd_T63 l0 x5_1).f6).toList == t556.toList) = false := beq_eq_false_iff_ne.mpr c14
            have c14b1 : (((rd_T63 l0 x5_1).f6).toList != t556.toList) = true := bne_iff_ne.mpr c14
            obtain rfl := Option.some.inj H
            have p547 : 0 ≤ (x5_1 : Int) := zo_
            have q547 : x5_1 < (l0.length : Int) := zo_
            obtain ⟨ad547,e547,hx547_0,hx547_1,hx547_2,hx547_3,hx547_4,hx547_5,hx547_6⟩ := at_T63 HR0.out x5_1 p547 q547
            cases e547
            replace hx547_0 := zx_ HB hx547_0
            replace hx547_1 := zx_ HB hx547_1
            replace hx547_2 := zx_ HB hx547_2
            replace hx547_3 := zx_ HB hx547_3
            replace hx547_4 := zx_ HB hx547_4
            replace hx547_5 := zx_ HB hx547_5
            replace hx547_6 := zx_ HB hx547_6
            replace p547 := eq_true p547
            replace q547 := eq_true q547
            have p548 : 0 ≤ (x5_1 : Int) := zo_
            have q548 : x5_1 < (l0.length : Int) := zo_
            obtain ⟨ad548,e548,hx548_0,hx548_1,hx548_2,hx548_3,hx548_4,hx548_5,hx548_6⟩ := at_T63 HR0.out x5_1 p548 q548
            obtain rfl : ad547 = ad548 := (by injection e548)
            replace hx548_0 := zx_ HB hx548_0
            replace hx548_1 := zx_ HB hx548_1
            replace hx548_2 := zx_ HB hx548_2
            replace hx548_3 := zx_ HB hx548_3
            replace hx548_4 := zx_ HB hx548_4
            replace hx548_5 := zx_ HB hx548_5
            replace hx548_6 := zx_ HB hx548_6
            replace p548 := eq_true p548
            replace q548 := eq_true q548
            have p549 : 0 ≤ (x5_1 : Int) := zo_
            have q549 : x5_1 < (l0.length : Int) := zo_
            obtain ⟨ad549,e549,hx549_0,hx549_1,hx549_2,hx549_3,hx549_4,hx549_5,hx549_6⟩ := at_T63 HR0.out x5_1 p549 q549
            obtain rfl : ad547 = ad549 := (by injection e549)
            replace hx549_0 := zx_ HB hx549_0
            replace hx549_1 := zx_ HB hx549_1
            replace hx549_2 := zx_ HB hx549_2
            replace hx549_3 := zx_ HB hx549_3
            replace hx549_4 := zx_ HB hx549_4
            replace hx549_5 := zx_ HB hx549_5
            replace hx549_6 := zx_ HB hx549_6
            replace p549 := eq_true p549
            replace q549 := eq_true q549
            have p550 : 0 ≤ (x5_1 : Int) := zo_
            have q550 : x5_1 < (l0.length : Int) := zo_
            obtain ⟨ad550,e550,hx550_0,hx550_1,hx550_2,hx550_3,hx550_4,hx550_5,hx550_6⟩ := at_T63 HR0.out x5_1 p550 q550
            obtain rfl : ad547 = ad550 := (by injection e550)
            replace hx550_0 := zx_ HB hx550_0
            replace hx550_1 := zx_ HB hx550_1
            replace hx550_2 := zx_ HB hx550_2
            replace hx550_3 := zx_ HB hx550_3
            replace hx550_4 := zx_ HB hx550_4
            replace hx550_5 := zx_ HB hx550_5
            replace hx550_6 := zx_ HB hx550_6
            replace p550 := eq_true p550
            replace q550 := eq_true q550
            try go_wp2
            replace HB := am_ (below_drew1 HB.out)
            have p551 : 0 ≤ (x5_1 : Int) := zo_
            have q551 : x5_1 < (l0.length : Int) := zo_
            obtain ⟨ad551,e551,hx551_0,hx551_1,hx551_2,hx551_3,hx551_4,hx551_5,hx551_6⟩ := at_T63 HR0.out x5_1 p551 q551
            have hw551_6 := hx551_6
            have hw551_5 := hx551_5
            have hw551_4 := hx551_4
            have hw551_3 := hx551_3
            have hw551_2 := hx551_2
            have hw551_1 := hx551_1
            have hw551_0 := hx551_0
            obtain rfl : ad547 = ad551 := (by injection e551)
            replace hx551_0 := zx_ HB hx551_0
            replace hx551_1 := zx_ HB hx551_1
            replace hx551_2 := zx_ HB hx551_2
            replace hx551_3 := zx_ HB hx551_3
            replace hx551_4 := zx_ HB hx551_4
            replace hx551_5 := zx_ HB hx551_5
            replace hx551_6 := zx_ HB hx551_6
            replace p551 := eq_true p551
            replace q551 := eq_true q551
            refine start_ (n := 8) (S := fun w' => w'.cell? (ad547.add ((x5_1).toNat * 7)) = some (.int .i64 ((rd_T63 l0 x5_1).f0)) ∧ w'.cell? ⟨(ad547.add ((x5_1).toNat * 7)).block,(ad547.add ((x5_1).toNat * 7)).off + 1,none⟩ = some (.int .i64 ((rd_T63 l0 x5_1).f1)) ∧ w'.cell? ⟨(ad547.add ((x5_1).toNat * 7)).block,(ad547.add ((x5_1).toNat * 7)).off + 2,none⟩ = some (.int .i64 ((rd_T63 l0 x5_1).f2)) ∧ w'.cell? ⟨(ad547.add ((x5_1).toNat * 7)).block,(ad547.add ((x5_1).toNat * 7)).off + 3,none⟩ = some (.int .i64 ((rd_T63 l0 x5_1).f3)) ∧ w'.cell? ⟨(ad547.add ((x5_1).toNat * 7)).block,(ad547.add ((x5_1).toNat * 7)).off + 4,none⟩ = some (.string ((rd_T63 l0 x5_1).f4)) ∧ w'.cell? ⟨(ad547.add ((x5_1).toNat * 7)).block,(ad547.add ((x5_1).toNat * 7)).off + 5,none⟩ = some (.string ((rd_T63 l0 x5_1).f5)) ∧ w'.cell? ⟨(ad547.add ((x5_1).toNat * 7)).block,(ad547.add ((x5_1).toNat * 7)).off + 6,none⟩ = some (.string ((rd_T63 l0 x5_1).f6))) (ds := []) #[false,false,false,false,false,false,false,false] (by kernel_rfl) rfl rfl ⟨(zx_ HB hw551_0),(zx_ HB hw551_1),(zx_ HB hw551_2),(zx_ HB hw551_3),(zx_ HB hw551_4),(zx_ HB hw551_5),(zx_ HB hw551_6)⟩ (fun hHeld => ?_);refine with_tabW laws_heldMessageS.tab16 laws_heldMessageS.bits16 (fun HT_ HW_ => ?_)
            generalize wr.drew = w21 at HB hx551_0 hx551_1 hx551_2 hx551_3 hx551_4 hx551_5 hx551_6 hHeld ⊢
            refine zpu 0 (N := some 48) HT_ ?_
            refine zpu 1 (N := some 49) HT_ ?_
            refine zpu 2 (N := some 50) HT_ ?_
            refine zpu 3 (N := some 51) HT_ ?_
            refine zpu 5 (N := some 53) HT_ ?_
            refine ztk 4 (N := some 52) HT_ HW_ hHeld ?_
            refine zon 6 (N := some 54) HT_ (fun K hK => ?_)
            refine zgo Try.func36 #[.int .i64 (wrap64 ((wrap64 ((wrap64 ((wrap64 (x1_1 + 1)) + 1)) + 1)) + 1))] ?_
            with_reducible refine (laws_markText.calls k1 (wrap64 ((wrap64 ((wrap64 ((wrap64 (x1_1 + 1)) + 1)) + 1)) + 1)) t552 _ A9.out).mono ?_
            rintro e w22 ⟨rfl,hb⟩
            refine ⟨_,rfl,?_⟩
            replace HB := zs_ HB hb
            (try clear hb)
            (try clear hb2)
            (try clear hk)
            (try clear hi)
            refine hK.out _ _ ⟨(zx_ HB hw551_0),(zx_ HB hw551_1),(zx_ HB hw551_2),(zx_ HB hw551_3),(zx_ HB hw551_4),(zx_ HB hw551_5),(zx_ HB hw551_6)⟩ (fun hHeld => ?_)
            clear hK K
            refine norm_ (a' := ?_) ?_ ?_
            rotate_left
            ·show Act.put _ (some 54) _ = _
             simp only [Act.put,p1_,p2_,p3_,i64_w,i32_w]
             rfl
            refine zpu 7 (N := some 55) HT_ ?_
            refine done_ (done_of HT_.out (by kernel_rfl)) ?_
            try go_wp2
            replace HB := am_ (below_drew1 HB.out)
            have p553 : 0 ≤ (x5_1 : Int) := zo_
            have q553 : x5_1 < (l0.length : Int) := zo_
            obtain ⟨ad553,e553,hx553_0,hx553_1,hx553_2,hx553_3,hx553_4,hx553_5,hx553_6⟩ := at_T63 HR0.out x5_1 p553 q553
            have hw553_6 := hx553_6
            have hw553_5 := hx553_5
            have hw553_4 := hx553_4
            have hw553_3 := hx553_3
            have hw553_2 := hx553_2
            have hw553_1 := hx553_1
            have hw553_0 := hx553_0
            obtain rfl : ad547 = ad553 := (by injection e553)
            replace hx553_0 := zx_ HB hx553_0
            replace hx553_1 := zx_ HB hx553_1
            replace hx553_2 := zx_ HB hx553_2
            replace hx553_3 := zx_ HB hx553_3
            replace hx553_4 := zx_ HB hx553_4
            replace hx553_5 := zx_ HB hx553_5
            replace hx553_6 := zx_ HB hx553_6
            replace p553 := eq_true p553
            replace q553 := eq_true q553
            refine start_ (n := 8) (S := fun w' => w'.cell? (ad547.add ((x5_1).toNat * 7)) = some (.int .i64 ((rd_T63 l0 x5_1).f0)) ∧ w'.cell? ⟨(ad547.add ((x5_1).toNat * 7)).block,(ad547.add ((x5_1).toNat * 7)).off + 1,none⟩ = some (.int .i64 ((rd_T63 l0 x5_1).f1)) ∧ w'.cell? ⟨(ad547.add ((x5_1).toNat * 7)).block,(ad547.add ((x5_1).toNat * 7)).off + 2,none⟩ = some (.int .i64 ((rd_T63 l0 x5_1).f2)) ∧ w'.cell? ⟨(ad547.add ((x5_1).toNat * 7)).block,(ad547.add ((x5_1).toNat * 7)).off + 3,none⟩ = some (.int .i64 ((rd_T63 l0 x5_1).f3)) ∧ w'.cell? ⟨(ad547.add ((x5_1).toNat * 7)).block,(ad547.add ((x5_1).toNat * 7)).off + 4,none⟩ = some (.string ((rd_T63 l0 x5_1).f4)) ∧ w'.cell? ⟨(ad547.add ((x5_1).toNat * 7)).block,(ad547.add ((x5_1).toNat * 7)).off + 5,none⟩ = some (.string ((rd_T63 l0 x5_1).f5)) ∧ w'.cell? ⟨(ad547.add ((x5_1).toNat * 7)).block,(ad547.add ((x5_1).toNat * 7)).off + 6,none⟩ = some (.string ((rd_T63 l0 x5_1).f6))) (ds := []) #[false,false,false,false,false,false,false,false] (by kernel_rfl) rfl rfl ⟨(zx_ HB hw553_0),(zx_ HB hw553_1),(zx_ HB hw553_2),(zx_ HB hw553_3),(zx_ HB hw553_4),(zx_ HB hw553_5),(zx_ HB hw553_6)⟩ (fun hHeld => ?_);refine with_tabW laws_heldMessageS.tab19 laws_heldMessageS.bits19 (fun HT_ HW_ => ?_)
            generalize w22.drew = w23 at HB hx553_0 hx553_1 hx553_2 hx553_3 hx553_4 hx553_5 hx553_6 hHeld ⊢
            refine zpu 0 (N := some 58) HT_ ?_
            refine zpu 1 (N := some 59) HT_ ?_
            refine zpu 2 (N := some 60) HT_ ?_
            refine zpu 3 (N := some 61) HT_ ?_
            refine zpu 5 (N := some 63) HT_ ?_
            refine ztk 4 (N := some 62) HT_ HW_ hHeld ?_
            refine zon 6 (N := some 64) HT_ (fun K hK => ?_)
            refine zgo Try.func36 #[.int .i64 (wrap64 ((wrap64 ((wrap64 ((wrap64 ((wrap64 (x1_1 + 1)) + 1)) + 1)) + 1)) + 1))] ?_
            with_reducible refine (laws_markText.calls k1 (wrap64 ((wrap64 ((wrap64 ((wrap64 ((wrap64 (x1_1 + 1)) + 1)) + 1)) + 1)) + 1)) t554 _ A11.out).mono ?_
            rintro e w24 ⟨rfl,hb⟩
            refine ⟨_,rfl,?_⟩
            replace HB := zs_ HB hb
            (try clear hb)
            (try clear hb2)
            (try clear hk)
            (try clear hi)
            refine hK.out _ _ ⟨(zx_ HB hw553_0),(zx_ HB hw553_1),(zx_ HB hw553_2),(zx_ HB hw553_3),(zx_ HB hw553_4),(zx_ HB hw553_5),(zx_ HB hw553_6)⟩ (fun hHeld => ?_)
            clear hK K
            refine norm_ (a' := ?_) ?_ ?_
            rotate_left
            ·show Act.put _ (some 64) _ = _
             simp only [Act.put,p1_,p2_,p3_,i64_w,i32_w]
             rfl
            refine zpu 7 (N := some 65) HT_ ?_
            refine done_ (done_of HT_.out (by kernel_rfl)) ?_
            try go_wp2
            replace HB := am_ (below_drew1 HB.out)
            have p555 : 0 ≤ (x5_1 : Int) := zo_
            have q555 : x5_1 < (l0.length : Int) := zo_
            obtain ⟨ad555,e555,hx555_0,hx555_1,hx555_2,hx555_3,hx555_4,hx555_5,hx555_6⟩ := at_T63 HR0.out x5_1 p555 q555
            have hw555_6 := hx555_6
            have hw555_5 := hx555_5
            have hw555_4 := hx555_4
            have hw555_3 := hx555_3
            have hw555_2 := hx555_2
            have hw555_1 := hx555_1
            have hw555_0 := hx555_0
            obtain rfl : ad547 = ad555 := (by injection e555)
            replace hx555_0 := zx_ HB hx555_0
            replace hx555_1 := zx_ HB hx555_1
            replace hx555_2 := zx_ HB hx555_2
            replace hx555_3 := zx_ HB hx555_3
            replace hx555_4 := zx_ HB hx555_4
            replace hx555_5 := zx_ HB hx555_5
            replace hx555_6 := zx_ HB hx555_6
            replace p555 := eq_true p555
            replace q555 := eq_true q555
            refine start_ (n := 8) (S := fun w' => w'.cell? (ad547.add ((x5_1).toNat * 7)) = some (.int .i64 ((rd_T63 l0 x5_1).f0)) ∧ w'.cell? ⟨(ad547.add ((x5_1).toNat * 7)).block,(ad547.add ((x5_1).toNat * 7)).off + 1,none⟩ = some (.int .i64 ((rd_T63 l0 x5_1).f1)) ∧ w'.cell? ⟨(ad547.add ((x5_1).toNat * 7)).block,(ad547.add ((x5_1).toNat * 7)).off + 2,none⟩ = some (.int .i64 ((rd_T63 l0 x5_1).f2)) ∧ w'.cell? ⟨(ad547.add ((x5_1).toNat * 7)).block,(ad547.add ((x5_1).toNat * 7)).off + 3,none⟩ = some (.int .i64 ((rd_T63 l0 x5_1).f3)) ∧ w'.cell? ⟨(ad547.add ((x5_1).toNat * 7)).block,(ad547.add ((x5_1).toNat * 7)).off + 4,none⟩ = some (.string ((rd_T63 l0 x5_1).f4)) ∧ w'.cell? ⟨(ad547.add ((x5_1).toNat * 7)).block,(ad547.add ((x5_1).toNat * 7)).off + 5,none⟩ = some (.string ((rd_T63 l0 x5_1).f5)) ∧ w'.cell? ⟨(ad547.add ((x5_1).toNat * 7)).block,(ad547.add ((x5_1).toNat * 7)).off + 6,none⟩ = some (.string ((rd_T63 l0 x5_1).f6))) (ds := []) #[false,false,false,false,false,false,false,false] (by kernel_rfl) rfl rfl ⟨(zx_ HB hw555_0),(zx_ HB hw555_1),(zx_ HB hw555_2),(zx_ HB hw555_3),(zx_ HB hw555_4),(zx_ HB hw555_5),(zx_ HB hw555_6)⟩ (fun hHeld => ?_);refine with_tabW laws_heldMessageS.tab22 laws_heldMessageS.bits22 (fun HT_ HW_ => ?_)
            generalize w24.drew = w25 at HB hx555_0 hx555_1 hx555_2 hx555_3 hx555_4 hx555_5 hx555_6 hHeld ⊢
            refine zpu 0 (N := some 68) HT_ ?_
            refine zpu 1 (N := some 69) HT_ ?_
            refine zpu 2 (N := some 70) HT_ ?_
            refine zpu 3 (N := some 71) HT_ ?_
            refine zpu 5 (N := some 73) HT_ ?_
            refine ztk 4 (N := some 72) HT_ HW_ hHeld ?_
            refine zon 6 (N := some 74) HT_ (fun K hK => ?_)
            refine zgo Try.func36 #[.int .i64 (wrap64 ((wrap64 ((wrap64 ((wrap64 ((wrap64 ((wrap64 (x1_1 + 1)) + 1)) + 1)) + 1)) + 1)) + 1))] ?_
            with_reducible refine (laws_markText.calls k1 (wrap64 ((wrap64 ((wrap64 ((wrap64 ((wrap64 ((wrap64 (x1_1 + 1)) + 1)) + 1)) + 1)) + 1)) + 1)) t556 _ A13.out).mono ?_
            rintro e w26 ⟨rfl,hb⟩
            refine ⟨_,rfl,?_⟩
            replace HB := zs_ HB hb
            (try clear hb)
            (try clear hb2)
            (try clear hk)
            (try clear hi)
            refine hK.out _ _ ⟨(zx_ HB hw555_0),(zx_ HB hw555_1),(zx_ HB hw555_2),(zx_ HB hw555_3),(zx_ HB hw555_4),(zx_ HB hw555_5),(zx_ HB hw555_6)⟩ (fun hHeld => ?_)
            clear hK K
            refine norm_ (a' := ?_) ?_ ?_
            rotate_left
            ·show Act.put _ (some 74) _ = _
             simp only [Act.put,p1_,p2_,p3_,i64_w,i32_w]
             rfl
            refine zpu 7 (N := some 75) HT_ ?_
            refine done_ (done_of HT_.out (by kernel_rfl)) ?_
            try go_wp2
            go_ret
            exact ⟨zt_,zl_ HB⟩
          ·rw [if_neg c12] at H
           have c12b0 : (((rd_T63 l0 x5_1).f5).toList == t554.toList) = false := beq_eq_false_iff_ne.mpr c12
           have c12b1 : (((rd_T63 l0 x5_1).f5).toList != t554.toList) = true := bne_iff_ne.mpr c12
           obtain rfl := Option.some.inj H
           have p547 : 0 ≤ (x5_1 : Int) := zo_
           have q547 : x5_1 < (l0.length : Int) := zo_
           obtain ⟨ad547,e547,hx547_0,hx547_1,hx547_2,hx547_3,hx547_4,hx547_5,hx547_6⟩ := at_T63 HR0.out x5_1 p547 q547
           cases e547
           replace hx547_0 := zx_ HB hx547_0
           replace hx547_1 := zx_ HB hx547_1
           replace hx547_2 := zx_ HB hx547_2
           replace hx547_3 := zx_ HB hx547_3
           replace hx547_4 := zx_ HB hx547_4
           replace hx547_5 := zx_ HB hx547_5
           replace hx547_6 := zx_ HB hx547_6
           replace p547 := eq_true p547
           replace q547 := eq_true q547
           have p548 : 0 ≤ (x5_1 : Int) := zo_
           have q548 : x5_1 < (l0.length : Int) := zo_
           obtain ⟨ad548,e548,hx548_0,hx548_1,hx548_2,hx548_3,hx548_4,hx548_5,hx548_6⟩ := at_T63 HR0.out x5_1 p548 q548
           obtain rfl : ad547 = ad548 := (by injection e548)
           replace hx548_0 := zx_ HB hx548_0
           replace hx548_1 := zx_ HB hx548_1
           replace hx548_2 := zx_ HB hx548_2
           replace hx548_3 := zx_ HB hx548_3
           replace hx548_4 := zx_ HB hx548_4
           replace hx548_5 := zx_ HB hx548_5
           replace hx548_6 := zx_ HB hx548_6
           replace p548 := eq_true p548
           replace q548 := eq_true q548
           have p549 : 0 ≤ (x5_1 : Int) := zo_
           have q549 : x5_1 < (l0.length : Int) := zo_
           obtain ⟨ad549,e549,hx549_0,hx549_1,hx549_2,hx549_3,hx549_4,hx549_5,hx549_6⟩ := at_T63 HR0.out x5_1 p549 q549
           obtain rfl : ad547 = ad549 := (by injection e549)
           replace hx549_0 := zx_ HB hx549_0
           replace hx549_1 := zx_ HB hx549_1
           replace hx549_2 := zx_ HB hx549_2
           replace hx549_3 := zx_ HB hx549_3
           replace hx549_4 := zx_ HB hx549_4
           replace hx549_5 := zx_ HB hx549_5
           replace hx549_6 := zx_ HB hx549_6
           replace p549 := eq_true p549
           replace q549 := eq_true q549
           have p550 : 0 ≤ (x5_1 : Int) := zo_
           have q550 : x5_1 < (l0.length : Int) := zo_
           obtain ⟨ad550,e550,hx550_0,hx550_1,hx550_2,hx550_3,hx550_4,hx550_5,hx550_6⟩ := at_T63 HR0.out x5_1 p550 q550
           obtain rfl : ad547 = ad550 := (by injection e550)
           replace hx550_0 := zx_ HB hx550_0
           replace hx550_1 := zx_ HB hx550_1
           replace hx550_2 := zx_ HB hx550_2
           replace hx550_3 := zx_ HB hx550_3
           replace hx550_4 := zx_ HB hx550_4
           replace hx550_5 := zx_ HB hx550_5
           replace hx550_6 := zx_ HB hx550_6
           replace p550 := eq_true p550
           replace q550 := eq_true q550
           try go_wp2
           replace HB := am_ (below_drew1 HB.out)
           have p551 : 0 ≤ (x5_1 : Int) := zo_
           have q551 : x5_1 < (l0.length : Int) := zo_
           obtain ⟨ad551,e551,hx551_0,hx551_1,hx551_2,hx551_3,hx551_4,hx551_5,hx551_6⟩ := at_T63 HR0.out x5_1 p551 q551
           have hw551_6 := hx551_6
           have hw551_5 := hx551_5
           have hw551_4 := hx551_4
           have hw551_3 := hx551_3
           have hw551_2 := hx551_2
           have hw551_1 := hx551_1
           have hw551_0 := hx551_0
           obtain rfl : ad547 = ad551 := (by injection e551)
           replace hx551_0 := zx_ HB hx551_0
           replace hx551_1 := zx_ HB hx551_1
           replace hx551_2 := zx_ HB hx551_2
           replace hx551_3 := zx_ HB hx551_3
           replace hx551_4 := zx_ HB hx551_4
           replace hx551_5 := zx_ HB hx551_5
           replace hx551_6 := zx_ HB hx551_6
           replace p551 := eq_true p551
           replace q551 := eq_true q551
           refine start_ (n := 8) (S := fun w' => w'.cell? (ad547.add ((x5_1).toNat * 7)) = some (.int .i64 ((rd_T63 l0 x5_1).f0)) ∧ w'.cell? ⟨(ad547.add ((x5_1).toNat * 7)).block,(ad547.add ((x5_1).toNat * 7)).off + 1,none⟩ = some (.int .i64 ((rd_T63 l0 x5_1).f1)) ∧ w'.cell? ⟨(ad547.add ((x5_1).toNat * 7)).block,(ad547.add ((x5_1).toNat * 7)).off + 2,none⟩ = some (.int .i64 ((rd_T63 l0 x5_1).f2)) ∧ w'.cell? ⟨(ad547.add ((x5_1).toNat * 7)).block,(ad547.add ((x5_1).toNat * 7)).off + 3,none⟩ = some (.int .i64 ((rd_T63 l0 x5_1).f3)) ∧ w'.cell? ⟨(ad547.add ((x5_1).toNat * 7)).block,(ad547.add ((x5_1).toNat * 7)).off + 4,none⟩ = some (.string ((rd_T63 l0 x5_1).f4)) ∧ w'.cell? ⟨(ad547.add ((x5_1).toNat * 7)).block,(ad547.add ((x5_1).toNat * 7)).off + 5,none⟩ = some (.string ((rd_T63 l0 x5_1).f5)) ∧ w'.cell? ⟨(ad547.add ((x5_1).toNat * 7)).block,(ad547.add ((x5_1).toNat * 7)).off + 6,none⟩ = some (.string ((rd_T63 l0 x5_1).f6))) (ds := []) #[false,false,false,false,false,false,false,false] (by kernel_rfl) rfl rfl ⟨(zx_ HB hw551_0),(zx_ HB hw551_1),(zx_ HB hw551_2),(zx_ HB hw551_3),(zx_ HB hw551_4),(zx_ HB hw551_5),(zx_ HB hw551_6)⟩ (fun hHeld => ?_);refine with_tabW laws_heldMessageS.tab16 laws_heldMessageS.bits16 (fun HT_ HW_ => ?_)
           generalize wr.drew = w27 at HB hx551_0 hx551_1 hx551_2 hx551_3 hx551_4 hx551_5 hx551_6 hHeld ⊢
           refine zpu 0 (N := some 48) HT_ ?_
           refine zpu 1 (N := some 49) HT_ ?_
           refine zpu 2 (N := some 50) HT_ ?_
           refine zpu 3 (N := some 51) HT_ ?_
           refine zpu 5 (N := some 53) HT_ ?_
           refine ztk 4 (N := some 52) HT_ HW_ hHeld ?_
           refine zon 6 (N := some 54) HT_ (fun K hK => ?_)
           refine zgo Try.func36 #[.int .i64 (wrap64 ((wrap64 ((wrap64 ((wrap64 (x1_1 + 1)) + 1)) + 1)) + 1))] ?_
           with_reducible refine (laws_markText.calls k1 (wrap64 ((wrap64 ((wrap64 ((wrap64 (x1_1 + 1)) + 1)) + 1)) + 1)) t552 _ A9.out).mono ?_
           rintro e w28 ⟨rfl,hb⟩
           refine ⟨_,rfl,?_⟩
           replace HB := zs_ HB hb
           (try clear hb)
           (try clear hb2)
           (try clear hk)
           (try clear hi)
           refine hK.out _ _ ⟨(zx_ HB hw551_0),(zx_ HB hw551_1),(zx_ HB hw551_2),(zx_ HB hw551_3),(zx_ HB hw551_4),(zx_ HB hw551_5),(zx_ HB hw551_6)⟩ (fun hHeld => ?_)
           clear hK K
           refine norm_ (a' := ?_) ?_ ?_
           rotate_left
           ·show Act.put _ (some 54) _ = _
            simp only [Act.put,p1_,p2_,p3_,i64_w,i32_w]
            rfl
           refine zpu 7 (N := some 55) HT_ ?_
           refine done_ (done_of HT_.out (by kernel_rfl)) ?_
           try go_wp2
           replace HB := am_ (below_drew1 HB.out)
           have p553 : 0 ≤ (x5_1 : Int) := zo_
           have q553 : x5_1 < (l0.length : Int) := zo_
           obtain ⟨ad553,e553,hx553_0,hx553_1,hx553_2,hx553_3,hx553_4,hx553_5,hx553_6⟩ := at_T63 HR0.out x5_1 p553 q553
           have hw553_6 := hx553_6
           have hw553_5 := hx553_5
           have hw553_4 := hx553_4
           have hw553_3 := hx553_3
           have hw553_2 := hx553_2
           have hw553_1 := hx553_1
           have hw553_0 := hx553_0
           obtain rfl : ad547 = ad553 := (by injection e553)
           replace hx553_0 := zx_ HB hx553_0
           replace hx553_1 := zx_ HB hx553_1
           replace hx553_2 := zx_ HB hx553_2
           replace hx553_3 := zx_ HB hx553_3
           replace hx553_4 := zx_ HB hx553_4
           replace hx553_5 := zx_ HB hx553_5
           replace hx553_6 := zx_ HB hx553_6
           replace p553 := eq_true p553
           replace q553 := eq_true q553
           refine start_ (n := 8) (S := fun w' => w'.cell? (ad547.add ((x5_1).toNat * 7)) = some (.int .i64 ((rd_T63 l0 x5_1).f0)) ∧ w'.cell? ⟨(ad547.add ((x5_1).toNat * 7)).block,(ad547.add ((x5_1).toNat * 7)).off + 1,none⟩ = some (.int .i64 ((rd_T63 l0 x5_1).f1)) ∧ w'.cell? ⟨(ad547.add ((x5_1).toNat * 7)).block,(ad547.add ((x5_1).toNat * 7)).off + 2,none⟩ = some (.int .i64 ((rd_T63 l0 x5_1).f2)) ∧ w'.cell? ⟨(ad547.add ((x5_1).toNat * 7)).block,(ad547.add ((x5_1).toNat * 7)).off + 3,none⟩ = some (.int .i64 ((rd_T63 l0 x5_1).f3)) ∧ w'.cell? ⟨(ad547.add ((x5_1).toNat * 7)).block,(ad547.add ((x5_1).toNat * 7)).off + 4,none⟩ = some (.string ((rd_T63 l0 x5_1).f4)) ∧ w'.cell? ⟨(ad547.add ((x5_1).toNat * 7)).block,(ad547.add ((x5_1).toNat * 7)).off + 5,none⟩ = some (.string ((rd_T63 l0 x5_1).f5)) ∧ w'.cell? ⟨(ad547.add ((x5_1).toNat * 7)).block,(ad547.add ((x5_1).toNat * 7)).off + 6,none⟩ = some (.string ((rd_T63 l0 x5_1).f6))) (ds := []) #[false,false,false,false,false,false,false,false] (by kernel_rfl) rfl rfl ⟨(zx_ HB hw553_0),(zx_ HB hw553_1),(zx_ HB hw553_2),(zx_ HB hw553_3),(zx_ HB hw553_4),(zx_ HB hw553_5),(zx_ HB hw553_6)⟩ (fun hHeld => ?_);refine with_tabW laws_heldMessageS.tab19 laws_heldMessageS.bits19 (fun HT_ HW_ => ?_)
           generalize w28.drew = w29 at HB hx553_0 hx553_1 hx553_2 hx553_3 hx553_4 hx553_5 hx553_6 hHeld ⊢
           refine zpu 0 (N := some 58) HT_ ?_
           refine zpu 1 (N := some 59) HT_ ?_
           refine zpu 2 (N := some 60) HT_ ?_
           refine zpu 3 (N := some 61) HT_ ?_
           refine zpu 5 (N := some 63) HT_ ?_
           refine ztk 4 (N := some 62) HT_ HW_ hHeld ?_
           refine zon 6 (N := some 64) HT_ (fun K hK => ?_)
           refine zgo Try.func36 #[.int .i64 (wrap64 ((wrap64 ((wrap64 ((wrap64 ((wrap64 (x1_1 + 1)) + 1)) + 1)) + 1)) + 1))] ?_
           with_reducible refine (laws_markText.calls k1 (wrap64 ((wrap64 ((wrap64 ((wrap64 ((wrap64 (x1_1 + 1)) + 1)) + 1)) + 1)) + 1)) t554 _ A11.out).mono ?_
           rintro e w30 ⟨rfl,hb⟩
           refine ⟨_,rfl,?_⟩
           replace HB := zs_ HB hb
           (try clear hb)
           (try clear hb2)
           (try clear hk)
           (try clear hi)
           refine hK.out _ _ ⟨(zx_ HB hw553_0),(zx_ HB hw553_1),(zx_ HB hw553_2),(zx_ HB hw553_3),(zx_ HB hw553_4),(zx_ HB hw553_5),(zx_ HB hw553_6)⟩ (fun hHeld => ?_)
           clear hK K
           refine norm_ (a' := ?_) ?_ ?_
           rotate_left
           ·show Act.put _ (some 64) _ = _
            simp only [Act.put,p1_,p2_,p3_,i64_w,i32_w]
            rfl
           refine zpu 7 (N := some 65) HT_ ?_
           refine done_ (done_of HT_.out (by kernel_rfl)) ?_
           try go_wp2
           go_ret
           exact ⟨zt_,zl_ HB⟩
         ·rw [if_neg c10] at H
          have c10b0 : (((rd_T63 l0 x5_1).f4).toList == t552.toList) = false := beq_eq_false_iff_ne.mpr c10
          have c10b1 : (((rd_T63 l0 x5_1).f4).toList != t552.toList) = true := bne_iff_ne.mpr c10
          obtain rfl := Option.some.inj H
          have p547 : 0 ≤ (x5_1 : Int) := zo_
          have q547 : x5_1 < (l0.length : Int) := zo_
          obtain ⟨ad547,e547,hx547_0,hx547_1,hx547_2,hx547_3,hx547_4,hx547_5,hx547_6⟩ := at_T63 HR0.out x5_1 p547 q547
          cases e547
          replace hx547_0 := zx_ HB hx547_0
          replace hx547_1 := zx_ HB hx547_1
          replace hx547_2 := zx_ HB hx547_2
          replace hx547_3 := zx_ HB hx547_3
          replace hx547_4 := zx_ HB hx547_4
          replace hx547_5 := zx_ HB hx547_5
          replace hx547_6 := zx_ HB hx547_6
          replace p547 := eq_true p547
          replace q547 := eq_true q547
          have p548 : 0 ≤ (x5_1 : Int) := zo_
          have q548 : x5_1 < (l0.length : Int) := zo_
          obtain ⟨ad548,e548,hx548_0,hx548_1,hx548_2,hx548_3,hx548_4,hx548_5,hx548_6⟩ := at_T63 HR0.out x5_1 p548 q548
          obtain rfl : ad547 = ad548 := (by injection e548)
          replace hx548_0 := zx_ HB hx548_0
          replace hx548_1 := zx_ HB hx548_1
          replace hx548_2 := zx_ HB hx548_2
          replace hx548_3 := zx_ HB hx548_3
          replace hx548_4 := zx_ HB hx548_4
          replace hx548_5 := zx_ HB hx548_5
          replace hx548_6 := zx_ HB hx548_6
          replace p548 := eq_true p548
          replace q548 := eq_true q548
          have p549 : 0 ≤ (x5_1 : Int) := zo_
          have q549 : x5_1 < (l0.length : Int) := zo_
          obtain ⟨ad549,e549,hx549_0,hx549_1,hx549_2,hx549_3,hx549_4,hx549_5,hx549_6⟩ := at_T63 HR0.out x5_1 p549 q549
          obtain rfl : ad547 = ad549 := (by injection e549)
          replace hx549_0 := zx_ HB hx549_0
          replace hx549_1 := zx_ HB hx549_1
          replace hx549_2 := zx_ HB hx549_2
          replace hx549_3 := zx_ HB hx549_3
          replace hx549_4 := zx_ HB hx549_4
          replace hx549_5 := zx_ HB hx549_5
          replace hx549_6 := zx_ HB hx549_6
          replace p549 := eq_true p549
          replace q549 := eq_true q549
          have p550 : 0 ≤ (x5_1 : Int) := zo_
          have q550 : x5_1 < (l0.length : Int) := zo_
          obtain ⟨ad550,e550,hx550_0,hx550_1,hx550_2,hx550_3,hx550_4,hx550_5,hx550_6⟩ := at_T63 HR0.out x5_1 p550 q550
          obtain rfl : ad547 = ad550 := (by injection e550)
          replace hx550_0 := zx_ HB hx550_0
          replace hx550_1 := zx_ HB hx550_1
          replace hx550_2 := zx_ HB hx550_2
          replace hx550_3 := zx_ HB hx550_3
          replace hx550_4 := zx_ HB hx550_4
          replace hx550_5 := zx_ HB hx550_5
          replace hx550_6 := zx_ HB hx550_6
          replace p550 := eq_true p550
          replace q550 := eq_true q550
          try go_wp2
          replace HB := am_ (below_drew1 HB.out)
          have p551 : 0 ≤ (x5_1 : Int) := zo_
          have q551 : x5_1 < (l0.length : Int) := zo_
          obtain ⟨ad551,e551,hx551_0,hx551_1,hx551_2,hx551_3,hx551_4,hx551_5,hx551_6⟩ := at_T63 HR0.out x5_1 p551 q551
          have hw551_6 := hx551_6
          have hw551_5 := hx551_5
          have hw551_4 := hx551_4
          have hw551_3 := hx551_3
          have hw551_2 := hx551_2
          have hw551_1 := hx551_1
          have hw551_0 := hx551_0
          obtain rfl : ad547 = ad551 := (by injection e551)
          replace hx551_0 := zx_ HB hx551_0
          replace hx551_1 := zx_ HB hx551_1
          replace hx551_2 := zx_ HB hx551_2
          replace hx551_3 := zx_ HB hx551_3
          replace hx551_4 := zx_ HB hx551_4
          replace hx551_5 := zx_ HB hx551_5
          replace hx551_6 := zx_ HB hx551_6
          replace p551 := eq_true p551
          replace q551 := eq_true q551
          refine start_ (n := 8) (S := fun w' => w'.cell? (ad547.add ((x5_1).toNat * 7)) = some (.int .i64 ((rd_T63 l0 x5_1).f0)) ∧ w'.cell? ⟨(ad547.add ((x5_1).toNat * 7)).block,(ad547.add ((x5_1).toNat * 7)).off + 1,none⟩ = some (.int .i64 ((rd_T63 l0 x5_1).f1)) ∧ w'.cell? ⟨(ad547.add ((x5_1).toNat * 7)).block,(ad547.add ((x5_1).toNat * 7)).off + 2,none⟩ = some (.int .i64 ((rd_T63 l0 x5_1).f2)) ∧ w'.cell? ⟨(ad547.add ((x5_1).toNat * 7)).block,(ad547.add ((x5_1).toNat * 7)).off + 3,none⟩ = some (.int .i64 ((rd_T63 l0 x5_1).f3)) ∧ w'.cell? ⟨(ad547.add ((x5_1).toNat * 7)).block,(ad547.add ((x5_1).toNat * 7)).off + 4,none⟩ = some (.string ((rd_T63 l0 x5_1).f4)) ∧ w'.cell? ⟨(ad547.add ((x5_1).toNat * 7)).block,(ad547.add ((x5_1).toNat * 7)).off + 5,none⟩ = some (.string ((rd_T63 l0 x5_1).f5)) ∧ w'.cell? ⟨(ad547.add ((x5_1).toNat * 7)).block,(ad547.add ((x5_1).toNat * 7)).off + 6,none⟩ = some (.string ((rd_T63 l0 x5_1).f6))) (ds := []) #[false,false,false,false,false,false,false,false] (by kernel_rfl) rfl rfl ⟨(zx_ HB hw551_0),(zx_ HB hw551_1),(zx_ HB hw551_2),(zx_ HB hw551_3),(zx_ HB hw551_4),(zx_ HB hw551_5),(zx_ HB hw551_6)⟩ (fun hHeld => ?_);refine with_tabW laws_heldMessageS.tab16 laws_heldMessageS.bits16 (fun HT_ HW_ => ?_)
          generalize wr.drew = w31 at HB hx551_0 hx551_1 hx551_2 hx551_3 hx551_4 hx551_5 hx551_6 hHeld ⊢
          refine zpu 0 (N := some 48) HT_ ?_
          refine zpu 1 (N := some 49) HT_ ?_
          refine zpu 2 (N := some 50) HT_ ?_
          refine zpu 3 (N := some 51) HT_ ?_
          refine zpu 5 (N := some 53) HT_ ?_
          refine ztk 4 (N := some 52) HT_ HW_ hHeld ?_
          refine zon 6 (N := some 54) HT_ (fun K hK => ?_)
          refine zgo Try.func36 #[.int .i64 (wrap64 ((wrap64 ((wrap64 ((wrap64 (x1_1 + 1)) + 1)) + 1)) + 1))] ?_
          with_reducible refine (laws_markText.calls k1 (wrap64 ((wrap64 ((wrap64 ((wrap64 (x1_1 + 1)) + 1)) + 1)) + 1)) t552 _ A9.out).mono ?_
          rintro e w32 ⟨rfl,hb⟩
          refine ⟨_,rfl,?_⟩
          replace HB := zs_ HB hb
          (try clear hb)
          (try clear hb2)
          (try clear hk)
          (try clear hi)
          refine hK.out _ _ ⟨(zx_ HB hw551_0),(zx_ HB hw551_1),(zx_ HB hw551_2),(zx_ HB hw551_3),(zx_ HB hw551_4),(zx_ HB hw551_5),(zx_ HB hw551_6)⟩ (fun hHeld => ?_)
          clear hK K
          refine norm_ (a' := ?_) ?_ ?_
          rotate_left
          ·show Act.put _ (some 54) _ = _
           simp only [Act.put,p1_,p2_,p3_,i64_w,i32_w]
           rfl
          refine zpu 7 (N := some 55) HT_ ?_
          refine done_ (done_of HT_.out (by kernel_rfl)) ?_
          try go_wp2
          go_ret
          exact ⟨zt_,zl_ HB⟩
        ·rw [if_neg c8] at H
         have c8b0 : (((rd_T63 l0 x5_1).f3) == (wrap64 ((wrap64 ((wrap64 (x1_1 + 1)) + 1)) + 1))) = false := beq_eq_false_iff_ne.mpr c8
         have c8b1 : (((rd_T63 l0 x5_1).f3) != (wrap64 ((wrap64 ((wrap64 (x1_1 + 1)) + 1)) + 1))) = true := bne_iff_ne.mpr c8
         obtain rfl := Option.some.inj H
         have p547 : 0 ≤ (x5_1 : Int) := zo_
         have q547 : x5_1 < (l0.length : Int) := zo_
         obtain ⟨ad547,e547,hx547_0,hx547_1,hx547_2,hx547_3,hx547_4,hx547_5,hx547_6⟩ := at_T63 HR0.out x5_1 p547 q547
         cases e547
         replace hx547_0 := zx_ HB hx547_0
         replace hx547_1 := zx_ HB hx547_1
         replace hx547_2 := zx_ HB hx547_2
         replace hx547_3 := zx_ HB hx547_3
         replace hx547_4 := zx_ HB hx547_4
         replace hx547_5 := zx_ HB hx547_5
         replace hx547_6 := zx_ HB hx547_6
         replace p547 := eq_true p547
         replace q547 := eq_true q547
         have p548 : 0 ≤ (x5_1 : Int) := zo_
         have q548 : x5_1 < (l0.length : Int) := zo_
         obtain ⟨ad548,e548,hx548_0,hx548_1,hx548_2,hx548_3,hx548_4,hx548_5,hx548_6⟩ := at_T63 HR0.out x5_1 p548 q548
         obtain rfl : ad547 = ad548 := (by injection e548)
         replace hx548_0 := zx_ HB hx548_0
         replace hx548_1 := zx_ HB hx548_1
         replace hx548_2 := zx_ HB hx548_2
         replace hx548_3 := zx_ HB hx548_3
         replace hx548_4 := zx_ HB hx548_4
         replace hx548_5 := zx_ HB hx548_5
         replace hx548_6 := zx_ HB hx548_6
         replace p548 := eq_true p548
         replace q548 := eq_true q548
         have p549 : 0 ≤ (x5_1 : Int) := zo_
         have q549 : x5_1 < (l0.length : Int) := zo_
         obtain ⟨ad549,e549,hx549_0,hx549_1,hx549_2,hx549_3,hx549_4,hx549_5,hx549_6⟩ := at_T63 HR0.out x5_1 p549 q549
         obtain rfl : ad547 = ad549 := (by injection e549)
         replace hx549_0 := zx_ HB hx549_0
         replace hx549_1 := zx_ HB hx549_1
         replace hx549_2 := zx_ HB hx549_2
         replace hx549_3 := zx_ HB hx549_3
         replace hx549_4 := zx_ HB hx549_4
         replace hx549_5 := zx_ HB hx549_5
         replace hx549_6 := zx_ HB hx549_6
         replace p549 := eq_true p549
         replace q549 := eq_true q549
         have p550 : 0 ≤ (x5_1 : Int) := zo_
         have q550 : x5_1 < (l0.length : Int) := zo_
         obtain ⟨ad550,e550,hx550_0,hx550_1,hx550_2,hx550_3,hx550_4,hx550_5,hx550_6⟩ := at_T63 HR0.out x5_1 p550 q550
         obtain rfl : ad547 = ad550 := (by injection e550)
         replace hx550_0 := zx_ HB hx550_0
         replace hx550_1 := zx_ HB hx550_1
         replace hx550_2 := zx_ HB hx550_2
         replace hx550_3 := zx_ HB hx550_3
         replace hx550_4 := zx_ HB hx550_4
         replace hx550_5 := zx_ HB hx550_5
         replace hx550_6 := zx_ HB hx550_6
         replace p550 := eq_true p550
         replace q550 := eq_true q550
         go_wp2
         go_ret
         exact ⟨zt_,zl_ HB⟩
       ·rw [if_neg c7] at H
        have c7b0 : (((rd_T63 l0 x5_1).f2) == (wrap64 ((wrap64 (x1_1 + 1)) + 1))) = false := beq_eq_false_iff_ne.mpr c7
        have c7b1 : (((rd_T63 l0 x5_1).f2) != (wrap64 ((wrap64 (x1_1 + 1)) + 1))) = true := bne_iff_ne.mpr c7
        obtain rfl := Option.some.inj H
        have p547 : 0 ≤ (x5_1 : Int) := zo_
        have q547 : x5_1 < (l0.length : Int) := zo_
        obtain ⟨ad547,e547,hx547_0,hx547_1,hx547_2,hx547_3,hx547_4,hx547_5,hx547_6⟩ := at_T63 HR0.out x5_1 p547 q547
        cases e547
        replace hx547_0 := zx_ HB hx547_0
        replace hx547_1 := zx_ HB hx547_1
        replace hx547_2 := zx_ HB hx547_2
        replace hx547_3 := zx_ HB hx547_3
        replace hx547_4 := zx_ HB hx547_4
        replace hx547_5 := zx_ HB hx547_5
        replace hx547_6 := zx_ HB hx547_6
        replace p547 := eq_true p547
        replace q547 := eq_true q547
        have p548 : 0 ≤ (x5_1 : Int) := zo_
        have q548 : x5_1 < (l0.length : Int) := zo_
        obtain ⟨ad548,e548,hx548_0,hx548_1,hx548_2,hx548_3,hx548_4,hx548_5,hx548_6⟩ := at_T63 HR0.out x5_1 p548 q548
        obtain rfl : ad547 = ad548 := (by injection e548)
        replace hx548_0 := zx_ HB hx548_0
        replace hx548_1 := zx_ HB hx548_1
        replace hx548_2 := zx_ HB hx548_2
        replace hx548_3 := zx_ HB hx548_3
        replace hx548_4 := zx_ HB hx548_4
        replace hx548_5 := zx_ HB hx548_5
        replace hx548_6 := zx_ HB hx548_6
        replace p548 := eq_true p548
        replace q548 := eq_true q548
        have p549 : 0 ≤ (x5_1 : Int) := zo_
        have q549 : x5_1 < (l0.length : Int) := zo_
        obtain ⟨ad549,e549,hx549_0,hx549_1,hx549_2,hx549_3,hx549_4,hx549_5,hx549_6⟩ := at_T63 HR0.out x5_1 p549 q549
        obtain rfl : ad547 = ad549 := (by injection e549)
        replace hx549_0 := zx_ HB hx549_0
        replace hx549_1 := zx_ HB hx549_1
        replace hx549_2 := zx_ HB hx549_2
        replace hx549_3 := zx_ HB hx549_3
        replace hx549_4 := zx_ HB hx549_4
        replace hx549_5 := zx_ HB hx549_5
        replace hx549_6 := zx_ HB hx549_6
        replace p549 := eq_true p549
        replace q549 := eq_true q549
        go_wp2
        go_ret
        exact ⟨zt_,zl_ HB⟩
      ·rw [if_neg c6] at H
       have c6b0 : (((rd_T63 l0 x5_1).f1) == (wrap64 (x1_1 + 1))) = false := beq_eq_false_iff_ne.mpr c6
       have c6b1 : (((rd_T63 l0 x5_1).f1) != (wrap64 (x1_1 + 1))) = true := bne_iff_ne.mpr c6
       obtain rfl := Option.some.inj H
       have p547 : 0 ≤ (x5_1 : Int) := zo_
       have q547 : x5_1 < (l0.length : Int) := zo_
       obtain ⟨ad547,e547,hx547_0,hx547_1,hx547_2,hx547_3,hx547_4,hx547_5,hx547_6⟩ := at_T63 HR0.out x5_1 p547 q547
       cases e547
       replace hx547_0 := zx_ HB hx547_0
       replace hx547_1 := zx_ HB hx547_1
       replace hx547_2 := zx_ HB hx547_2
       replace hx547_3 := zx_ HB hx547_3
       replace hx547_4 := zx_ HB hx547_4
       replace hx547_5 := zx_ HB hx547_5
       replace hx547_6 := zx_ HB hx547_6
       replace p547 := eq_true p547
       replace q547 := eq_true q547
       have p548 : 0 ≤ (x5_1 : Int) := zo_
       have q548 : x5_1 < (l0.length : Int) := zo_
       obtain ⟨ad548,e548,hx548_0,hx548_1,hx548_2,hx548_3,hx548_4,hx548_5,hx548_6⟩ := at_T63 HR0.out x5_1 p548 q548
       obtain rfl : ad547 = ad548 := (by injection e548)
       replace hx548_0 := zx_ HB hx548_0
       replace hx548_1 := zx_ HB hx548_1
       replace hx548_2 := zx_ HB hx548_2
       replace hx548_3 := zx_ HB hx548_3
       replace hx548_4 := zx_ HB hx548_4
       replace hx548_5 := zx_ HB hx548_5
       replace hx548_6 := zx_ HB hx548_6
       replace p548 := eq_true p548
       replace q548 := eq_true q548
       go_wp2
       go_ret
       exact ⟨zt_,zl_ HB⟩
     ·rw [if_neg c5] at H
      have c5b0 : (((rd_T63 l0 x5_1).f0) == x1_1) = false := beq_eq_false_iff_ne.mpr c5
      have c5b1 : (((rd_T63 l0 x5_1).f0) != x1_1) = true := bne_iff_ne.mpr c5
      obtain rfl := Option.some.inj H
      have p547 : 0 ≤ (x5_1 : Int) := zo_
      have q547 : x5_1 < (l0.length : Int) := zo_
      obtain ⟨ad547,e547,hx547_0,hx547_1,hx547_2,hx547_3,hx547_4,hx547_5,hx547_6⟩ := at_T63 HR0.out x5_1 p547 q547
      cases e547
      replace hx547_0 := zx_ HB hx547_0
      replace hx547_1 := zx_ HB hx547_1
      replace hx547_2 := zx_ HB hx547_2
      replace hx547_3 := zx_ HB hx547_3
      replace hx547_4 := zx_ HB hx547_4
      replace hx547_5 := zx_ HB hx547_5
      replace hx547_6 := zx_ HB hx547_6
      replace p547 := eq_true p547
      replace q547 := eq_true q547
      go_wp2
      go_ret
      exact ⟨zt_,zl_ HB⟩
    ·rw [if_neg c4] at H
     exact absurd H (by simp)
   ·rw [if_neg c3] at H
    have c3b0 : decide (x5_1 < (l0.length : Int)) = false := decide_eq_false c3
    clear c3
    obtain rfl := Option.some.inj H
    go_wp2
    go_ret
    exact ⟨zt_,zl_ HB⟩
set_option maxHeartbeats 8000000 in
set_option maxRecDepth 100000 in
theorem laws_heldCert.calls (k : Nat) (a0_0 : ByteArray) (A0_1 : Option Addr) (c0_1 : Nat) (l0_1 : List (S63)) (a1 : Int) (r : Int) (w : World) (hr0_1 : Kd.C k63 w A0_1 l0_1.length l0_1) (hc0_1 : l0_1.length ≤ c0_1) (h : laws_heldCert.f k a0_0 l0_1 a1 = some r) :
  Calls Try.prog 25 #[.agg #[.string a0_0,.slice A0_1 l0_1.length c0_1],.int .i64 a1] w fun e w' => e = .returned (.int .i64 r) ∧ Below w.heap.size w w' := by
 have hu39 := Try.underlying39
 have HR0_1 := am_ hr0_1
 have HC0_1 := am_ hc0_1
 clear hr0_1 hc0_1
 have HB := am_ (Below.refl w.heap.size w)
 have H : ((laws_heldMessageS.f k l0_1 a1).bind fun t558 => (if t558 < 0 then (some (-1)) else (some t558))) = some r := h
 clear h
 replace H := Option.bind_eq_some_iff.mp H
 obtain ⟨t558,A30,H⟩ := H
 try dsimp only at H
 have A3 := am_ A30
 clear A30
 by_cases c4 : t558 < 0
 ·rw [if_pos c4] at H
  have c4b0 : decide (t558 < 0) = true := decide_eq_true c4
  clear c4
  obtain rfl := Option.some.inj H
  go_enter Try.func25,Try.ntmps25
  go_wp2_with (first | ((with_reducible refine gate_dst (N := 2) rfl ?_);refine zbx (N := 2) (cs := #[.string a0_0,.slice A0_1 l0_1.length c0_1]) (t := 39) ?_;intro gb557 hg w5 hbox hb;have BK557 := am_ (hbox);have GW557 := zw_ HB hg;have GE557 := zw_ HB hg;replace HB := zs_ HB hb;clear hb hbox hg;obtain ⟨hcz6_0,hcz6_1,hfz6_0,hfz6_1⟩ := zc2 BK557) | ((with_reducible refine gate_callee (f := 46) rfl ?_);refine zgl (some 8) Try.func46 #[.slice A0_1 l0_1.length c0_1,.int .i64 a1] ?_;(with_reducible refine (laws_heldMessageS.calls k _ _ l0_1 a1 t558 _ ?side1 ?side2 A3.out).mono ?_);(case side1 => exact zc_ HR0_1 HB);(case side2 => exact HC0_1.out);rintro e w7 ⟨rfl,hb⟩;refine ⟨_,rfl,?_⟩;replace BK557 := zb BK557 hb;replace HB := zs_ HB hb;(try clear hb);(try clear hb2);(try clear hk);(try clear hi)))
  go_ret
  exact ⟨zt_,zl_ HB⟩
 ·rw [if_neg c4] at H
  have c4b0 : decide (t558 < 0) = false := decide_eq_false c4
  clear c4
  obtain rfl := Option.some.inj H
  go_enter Try.func25,Try.ntmps25
  go_wp2_with (first | ((with_reducible refine gate_dst (N := 2) rfl ?_);refine zbx (N := 2) (cs := #[.string a0_0,.slice A0_1 l0_1.length c0_1]) (t := 39) ?_;intro gb557 hg w8 hbox hb;have BK557 := am_ (hbox);have GW557 := zw_ HB hg;have GE557 := zw_ HB hg;replace HB := zs_ HB hb;clear hb hbox hg;obtain ⟨hcz9_0,hcz9_1,hfz9_0,hfz9_1⟩ := zc2 BK557) | ((with_reducible refine gate_callee (f := 46) rfl ?_);refine zgl (some 8) Try.func46 #[.slice A0_1 l0_1.length c0_1,.int .i64 a1] ?_;(with_reducible refine (laws_heldMessageS.calls k _ _ l0_1 a1 t558 _ ?side1 ?side2 A3.out).mono ?_);(case side1 => exact zc_ HR0_1 HB);(case side2 => exact HC0_1.out);rintro e w10 ⟨rfl,hb⟩;refine ⟨_,rfl,?_⟩;replace HB := zs_ HB hb;(try clear hb);(try clear hb2);(try clear hk);(try clear hi)))
  go_ret
  exact ⟨zt_,zl_ HB⟩
set_option maxHeartbeats 8000000 in
set_option maxRecDepth 100000 in
theorem laws_markByteS.calls (k : Nat) (P0_ : Nat → Prop) (u9000_ : Value) (l0 : List Int) (a1 : Int) (r1 : Int) (r2 : List Int) (w0 w : World) (hB : Below w0.heap.size w0 w) (ho0 : Kd.R (Kd.int .u8) 5 w w0.heap.size P0_ u9000_ l0) (h : laws_markByteS.f k l0 a1 = some (r1,r2)) :
  Calls Try.prog 14 #[u9000_,.int .i64 a1] w fun e w' => e = .returned (.int .i64 r1) ∧ Kd.R (Kd.int .u8) 5 w' w0.heap.size (fun k_ => (P0_ k_ ∨ w.heap.size ≤ k_)) u9000_ r2 ∧ Below w0.heap.size w0 w' ∧ Kept w w' (fun k_ => P0_ k_) := by
 have HO0 := am_ (show Kd.R (Kd.int .u8) 5 w w0.heap.size (fun k_ => (P0_ k_ ∨ w.heap.size ≤ k_)) u9000_ l0 from Kd.R_mono ho0 (fun k_ hk => (.inl hk)))
 have HK := am_ (Kept.refl w (fun k_ => P0_ k_))
 have HW0 := am_ hB.size
 have HB := am_ hB
 clear hB
 have H : (laws_markByteS.l0 k l0 a1 0) = some (r1,r2) := h
 clear h
 have H' := am_ H
 clear H
 go_enter Try.func14,Try.ntmps14
 go_wp2
 go_loopg [1,5] k (fun kq v1 v5 w' => ∃ (x0_1 : List Int) (x1_1 : Int) (x5_1 : Int),v1 = .int .i64 x1_1 ∧ v5 = .int .i64 x5_1 ∧ Aside0 (laws_markByteS.l0 kq x0_1 x1_1 x5_1 = some (r1,r2)) ∧ Aside0 (kq ≤ k) ∧ Aside0 (Kd.R (Kd.int .u8) 5 w' w0.heap.size (fun k_ => (P0_ k_ ∨ w.heap.size ≤ k_)) u9000_ x0_1) ∧ Aside0 (Kept w w' (fun k_ => P0_ k_)) ∧ Aside0 (Below w0.heap.size w0 w'))
 case atStart => exact ⟨(l0),(a1),(0),(by first | rfl | (simp;done) | (simp [*];done)),(by first | rfl | (simp;done) | (simp [*];done)),H',⟨Nat.le_refl _⟩,⟨zr HO0⟩,⟨by repeat (first | (with_reducible first | exact HK.out | apply Kept.alloc | apply Kept.drewN | apply Kept.drew) | exact HK.out)⟩,⟨zl_ HB⟩⟩
 case round =>
  clear H'
  try clear c1
  try clear p2
  obtain ⟨x0_1,x1_1,x5_1,rfl,rfl,HA,HK1,HO_0,HK,HB⟩ := hrel
  cases gk with
  | zero => exact absurd HA.out (by simp [laws_markByteS.l0])
  | succ k1 =>
   have H := HA.out
   clear HA
   simp only [laws_markByteS.l0] at H
   by_cases c3 : x5_1 < (x0_1.length : Int)
   ·rw [if_pos c3] at H
    have c3b0 : decide (x5_1 < (x0_1.length : Int)) = true := decide_eq_true c3
    clear c3
    by_cases c4 : 0 ≤ x5_1
    ·rw [if_pos c4] at H
     have c4b0 : decide (0 ≤ x5_1) = true := decide_eq_true c4
     clear c4
     obtain ⟨y152,hy152⟩ : ∃ y_ : List Int,y_ = (x0_1.set (x5_1 : Int).toNat ((x1_1) % 256)) := ⟨_,rfl⟩
     replace H : (laws_markByteS.l0 k1 y152 (wrap64 (x1_1 + 1)) (wrap64 (x5_1 + 1))) = some (r1,r2) := by first | (rw [hy152];with_reducible exact H) | (have H2_ := (Option.bind_some _ _).symm.trans H;rw [hy152];with_reducible exact H2_) | (have H2_ := (Option.bind_some _ _).symm.trans H;with_reducible exact H2_) | with_reducible exact H | (rw [hy152];exact H) | exact H
     have Ny152 := am_ hy152
     clear hy152
     have H' := am_ H
     clear H
     obtain ⟨Ao6,co6,eo6⟩ := Kd.R_slice HO_0.out
     subst eo6
     have p5 : 0 ≤ (x5_1 : Int) := zo_
     have q5 : (x5_1 : Int) < ((x0_1.length : Int) : Int) := zo_
     obtain ⟨go5,co5,eo5,gb5,gl5,cl5,HG5⟩ := Kd.R_form HO_0.out (by omega)
     (first | cases eo5 | (injection eo5 with ea_ en_ ec_;(first | subst ea_ | (injection ea_ with ea_;subst ea_));subst ec_;clear en_))
     have GB5 := am_ gb5
     have GG5 := am_ HG5
     clear gb5 gl5 HG5
     have HMgo5 := am_ (show (P0_ go5 ∨ w.heap.size ≤ go5) from (HO_0.out.1 _ rfl))
     obtain ⟨hx5_0,hf5_0⟩ := Kd.R_celln 0 HO_0.out (x5_1 : Int) p5 q5
     replace p5 := eq_true p5
     replace q5 := eq_true q5
     have HP7 := Kd.R_putg HO_0.out (x5_1 : Int) ((x1_1) % 256)
     go_wp2_with (first | ((with_reducible refine gate_store (t := 5) (p := 16) rfl ?_);refine store_event (t := 5) (p := 16) (v := ?vo_w8) (w1 := (wr.setCell ⟨go5,(x5_1 : Int).toNat,none⟩ (.int .u8 ((x1_1) % 256)))) ?hg ?ho ?hn ?hr ?_;(case ho => rfl);(case hg => rfl);(case hn => rfl);(case hr => first | (go_simp;done) | (go_simp;rfl));intro w8 hw;have hg : wr.grownBy w8 (some go5) := (by rw [hw];exact HP7.2);have hp_ : Kd.R (Kd.int .u8) 5 w8 w0.heap.size (fun k_ => (P0_ k_ ∨ w.heap.size ≤ k_)) (.slice (some ⟨go5,0,none⟩) x0_1.length co6) y152 := (by rw [hw,Ny152.out];exact HP7.1);clear HP7;replace HB := am_ ((by rw [hw];exact below_set (HB.out) GB5.out : Below w0.heap.size w0 w8));replace HK := am_ (Kept.of_grown (S := (fun k_ => P0_ k_)) hg (by repeat (first | (with_reducible first | exact HK.out | apply Kept.alloc | apply Kept.drewN | apply Kept.drew) | exact HK.out)) (fun k_ e_ => (HO_0.out.1 k_ e_)));replace HO_0 := am_ (hp_);clear hg hw hp_))
     go_roundg k1
     case measure => have := HK1.out;omega
     case rel => exact ⟨(y152),(wrap64 (x1_1 + 1)),(wrap64 (x5_1 + 1)),(by first | rfl | (simp;done) | (simp [*];done)),(by first | rfl | (simp;done) | (simp [*];done)),H',⟨by have := HK1.out;omega⟩,⟨zr HO_0⟩,⟨by repeat (first | (with_reducible first | exact HK.out | apply Kept.alloc | apply Kept.drewN | apply Kept.drew) | exact HK.out)⟩,⟨zl_ HB⟩⟩
    ·rw [if_neg c4] at H
     exact absurd H (by simp)
   ·rw [if_neg c3] at H
    have c3b0 : decide (x5_1 < (x0_1.length : Int)) = false := decide_eq_false c3
    clear c3
    simp only [Option.some.injEq,Prod.mk.injEq] at H
    obtain ⟨rfl,rfl⟩ := H
    obtain ⟨Ao9,co9,eo9⟩ := Kd.R_slice HO_0.out
    subst eo9
    go_wp2
    go_ret
    exact ⟨zt_,zr HO_0,zl_ HB,by repeat (first | (with_reducible first | exact HK.out | apply Kept.alloc | apply Kept.drewN | apply Kept.drew) | exact HK.out)⟩
end Go.Proofs.Ytadablpppkjdbaa.A
end
