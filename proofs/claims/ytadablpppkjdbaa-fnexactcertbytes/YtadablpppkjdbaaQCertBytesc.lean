/- A part of the proof that FnExactCertBytes returns true at every input: plain functions, contracts and lemmas. No conditions. -/
import Derived.Test.YtadablpppkjdbaaQCertBytesb
import Derived.Lib.SlBy
import Derived.Lib.Walk
set_option linter.unusedVariables false
set_option linter.unusedSimpArgs false
set_option linter.unusedSectionVars false
section
namespace Go.Proofs.Ytadablpppkjdbaa.A
open Go.RowKit Go.Proofs.YtadablpppkjdbaaW.PrintWords Go.Proofs.YtadablpppkjdbaaW.PrintLast Go.Proofs.YtadablpppkjdbaaW.PrintMore
abbrev k1_ := @blk_drewN
abbrev k2_ := @blk_drew
abbrev k3_ := @blk_alloc
abbrev r1_ := @Kd.R_alloc
abbrev r2_ := @Kd.R_drewN
abbrev r3_ := @Kd.R_drew
theorem d1_ {α : Type _} (l : List α) (i : Nat) : (l.drop i).length = l.length - i := List.length_drop
theorem d2_ {α : Type _} (l : List α) (i : Nat) : (l.take i).length = min i l.length := List.length_take
theorem o1_ {p : Prop} [Decidable p] (h : decide p = true) : p := of_decide_eq_true h
theorem am_ {p : Prop} (h : p) : Aside0 p := ⟨h⟩
theorem p1_ {α : Type _} (l : List α) (i : Nat) (a : α) : l.toArray.setIfInBounds i a = (l.set i a).toArray := List.setIfInBounds_toArray ..
theorem p2_ {α : Type _} (x : α) (xs : List α) (a : α) : (x :: xs).set 0 a = a :: xs := List.set_cons_zero
theorem p3_ {α : Type _} (x : α) (xs : List α) (i : Nat) (a : α) : (x :: xs).set (i + 1) a = x :: xs.set i a := List.set_cons_succ
theorem m1_ {α β : Type _} (f : α → β) (l : List α) : l.toArray.map f = (l.map f).toArray := List.map_toArray
theorem m2_ {α β : Type _} (f : α → β) (a : α) (l : List α) : (a :: l).map f = f a :: l.map f := List.map_cons
theorem m3_ {α β : Type _} (f : α → β) : ([] : List α).map f = [] := List.map_nil
attribute [local go_sem] max2_int min2_int max_two min_two max_three min_three max_four min_four
def errW : Option Int → Value
  | none => .nilIface
  | some c => .iface 0 (.int .i64 c)
theorem errW_none : errW none = .nilIface := rfl
theorem errW_some (c : Int) : errW (some c) = .iface 0 (.int .i64 c) := rfl
theorem info5 : (Try.prog.info? 5).map (fun i => (i.zero, i.size, i.bytes)) = some (some (.int .u8 0), 1, 1) := by kernel_rfl
theorem info9 : (Try.prog.info? 9).map (fun i => (i.zero, i.size, i.bytes)) = some (some (.string ⟨#[]⟩), 1, 16) := by kernel_rfl
theorem info63 : (Try.prog.info? 63).map (fun i => (i.zero, i.size, i.bytes)) = some (some (.agg #[(.int .i64 0), (.int .i64 0), (.int .i64 0), (.int .i64 0), (.string ⟨#[]⟩), (.string ⟨#[]⟩), (.string ⟨#[]⟩)]), 7, 80) := by kernel_rfl
def k90 : Kd S90 := Kd.iso (Kd.pair (Kd.int .i64) (Kd.pair (Kd.int .i64) (Kd.pair (Kd.int .i64) (Kd.pair (Kd.int .i64) (Kd.pair Kd.string (Kd.pair Kd.string Kd.string)))))) (fun x : S90 => (x.f0, x.f1, x.f2, x.f3, x.f4, x.f5, x.f6))
theorem k90_open {w : World} {x : S90} {cs : List Value} (h : k90.K w x cs) : cs = [.int .i64 x.f0, .int .i64 x.f1, .int .i64 x.f2, .int .i64 x.f3, .string x.f4, .string x.f5, .string x.f6] := by
  obtain ⟨_, _, rfl, rfl, ⟨_, _, rfl, rfl, ⟨_, _, rfl, rfl, ⟨_, _, rfl, rfl, ⟨_, _, rfl, rfl, ⟨_, _, rfl, rfl, rfl⟩⟩⟩⟩⟩⟩ := h
  exact rfl
theorem at_T90 {w : World} {A : Option Addr} {n : Nat} {xs : List S90} (h : Kd.C k90 w A n xs) (i : Int) (h0 : 0 ≤ i) (h1 : i < n) : ∃ ad , A = some ad ∧ w.cell? (ad.add (i.toNat * 7)) = some (.int .i64 (rd_T90 xs i).f0) ∧ w.cell? ⟨(ad.add (i.toNat * 7)).block, (ad.add (i.toNat * 7)).off + 1, none⟩ = some (.int .i64 (rd_T90 xs i).f1) ∧ w.cell? ⟨(ad.add (i.toNat * 7)).block, (ad.add (i.toNat * 7)).off + 2, none⟩ = some (.int .i64 (rd_T90 xs i).f2) ∧ w.cell? ⟨(ad.add (i.toNat * 7)).block, (ad.add (i.toNat * 7)).off + 3, none⟩ = some (.int .i64 (rd_T90 xs i).f3) ∧ w.cell? ⟨(ad.add (i.toNat * 7)).block, (ad.add (i.toNat * 7)).off + 4, none⟩ = some (.string (rd_T90 xs i).f4) ∧ w.cell? ⟨(ad.add (i.toNat * 7)).block, (ad.add (i.toNat * 7)).off + 5, none⟩ = some (.string (rd_T90 xs i).f5) ∧ w.cell? ⟨(ad.add (i.toNat * 7)).block, (ad.add (i.toNat * 7)).off + 6, none⟩ = some (.string (rd_T90 xs i).f6) := by
  obtain ⟨ad, c, e, _, hK, hc0⟩ := Kd.C_get h z90 i h0 h1
  have hc : ∀ j u, c[j]? = some u → w.cell? (ad.add (i.toNat * 7 + j)) = some u := hc0
  obtain rfl := k90_open hK
  exact ⟨ad, e, hc 0 _ rfl, by rw [← add_field _ _ 1 (by omega)]; exact hc 1 _ rfl, by rw [← add_field _ _ 2 (by omega)]; exact hc 2 _ rfl, by rw [← add_field _ _ 3 (by omega)]; exact hc 3 _ rfl, by rw [← add_field _ _ 4 (by omega)]; exact hc 4 _ rfl, by rw [← add_field _ _ 5 (by omega)]; exact hc 5 _ rfl, by rw [← add_field _ _ 6 (by omega)]; exact hc 6 _ rfl⟩
def k63 : Kd S63 := Kd.iso (Kd.pair (Kd.int .i64) (Kd.pair (Kd.int .i64) (Kd.pair (Kd.int .i64) (Kd.pair (Kd.int .i64) (Kd.pair Kd.string (Kd.pair Kd.string Kd.string)))))) (fun x : S63 => (x.f0, x.f1, x.f2, x.f3, x.f4, x.f5, x.f6))
theorem k63_open {w : World} {x : S63} {cs : List Value} (h : k63.K w x cs) : cs = [.int .i64 x.f0, .int .i64 x.f1, .int .i64 x.f2, .int .i64 x.f3, .string x.f4, .string x.f5, .string x.f6] := by
  obtain ⟨_, _, rfl, rfl, ⟨_, _, rfl, rfl, ⟨_, _, rfl, rfl, ⟨_, _, rfl, rfl, ⟨_, _, rfl, rfl, ⟨_, _, rfl, rfl, rfl⟩⟩⟩⟩⟩⟩ := h
  exact rfl
theorem k63_openM {w : World} {base : Nat} {ok : Nat → Prop} {x : S63} {cs : List Value} (h : k63.M w base ok x cs) : cs = [.int .i64 x.f0, .int .i64 x.f1, .int .i64 x.f2, .int .i64 x.f3, .string x.f4, .string x.f5, .string x.f6] := by
  obtain ⟨_, _, rfl, rfl, ⟨_, _, rfl, rfl, ⟨_, _, rfl, rfl, ⟨_, _, rfl, rfl, ⟨_, _, rfl, rfl, ⟨_, _, rfl, rfl, rfl⟩⟩⟩⟩⟩⟩ := h
  exact rfl
theorem k63_mkM (w : World) (base : Nat) (ok : Nat → Prop) (x : S63)  : k63.M w base ok x [.int .i64 x.f0, .int .i64 x.f1, .int .i64 x.f2, .int .i64 x.f3, .string x.f4, .string x.f5, .string x.f6] := ⟨[.int .i64 x.f0], [.int .i64 x.f1, .int .i64 x.f2, .int .i64 x.f3, .string x.f4, .string x.f5, .string x.f6], rfl, rfl, ⟨[.int .i64 x.f1], [.int .i64 x.f2, .int .i64 x.f3, .string x.f4, .string x.f5, .string x.f6], rfl, rfl, ⟨[.int .i64 x.f2], [.int .i64 x.f3, .string x.f4, .string x.f5, .string x.f6], rfl, rfl, ⟨[.int .i64 x.f3], [.string x.f4, .string x.f5, .string x.f6], rfl, rfl, ⟨[.string x.f4], [.string x.f5, .string x.f6], rfl, rfl, ⟨[.string x.f5], [.string x.f6], rfl, rfl, rfl⟩⟩⟩⟩⟩⟩
theorem at_T63 {w : World} {A : Option Addr} {n : Nat} {xs : List S63} (h : Kd.C k63 w A n xs) (i : Int) (h0 : 0 ≤ i) (h1 : i < n) : ∃ ad , A = some ad ∧ w.cell? (ad.add (i.toNat * 7)) = some (.int .i64 (rd_T63 xs i).f0) ∧ w.cell? ⟨(ad.add (i.toNat * 7)).block, (ad.add (i.toNat * 7)).off + 1, none⟩ = some (.int .i64 (rd_T63 xs i).f1) ∧ w.cell? ⟨(ad.add (i.toNat * 7)).block, (ad.add (i.toNat * 7)).off + 2, none⟩ = some (.int .i64 (rd_T63 xs i).f2) ∧ w.cell? ⟨(ad.add (i.toNat * 7)).block, (ad.add (i.toNat * 7)).off + 3, none⟩ = some (.int .i64 (rd_T63 xs i).f3) ∧ w.cell? ⟨(ad.add (i.toNat * 7)).block, (ad.add (i.toNat * 7)).off + 4, none⟩ = some (.string (rd_T63 xs i).f4) ∧ w.cell? ⟨(ad.add (i.toNat * 7)).block, (ad.add (i.toNat * 7)).off + 5, none⟩ = some (.string (rd_T63 xs i).f5) ∧ w.cell? ⟨(ad.add (i.toNat * 7)).block, (ad.add (i.toNat * 7)).off + 6, none⟩ = some (.string (rd_T63 xs i).f6) := by
  obtain ⟨ad, c, e, _, hK, hc0⟩ := Kd.C_get h z63 i h0 h1
  have hc : ∀ j u, c[j]? = some u → w.cell? (ad.add (i.toNat * 7 + j)) = some u := hc0
  obtain rfl := k63_open hK
  exact ⟨ad, e, hc 0 _ rfl, by rw [← add_field _ _ 1 (by omega)]; exact hc 1 _ rfl, by rw [← add_field _ _ 2 (by omega)]; exact hc 2 _ rfl, by rw [← add_field _ _ 3 (by omega)]; exact hc 3 _ rfl, by rw [← add_field _ _ 4 (by omega)]; exact hc 4 _ rfl, by rw [← add_field _ _ 5 (by omega)]; exact hc 5 _ rfl, by rw [← add_field _ _ 6 (by omega)]; exact hc 6 _ rfl⟩
def k34 : Kd S34 := Kd.iso (Kd.pair Kd.string (Kd.slice 90 k90)) (fun x : S34 => (x.f0, x.f1))
theorem k34_open {w : World} {x : S34} {cs : List Value} (h : k34.K w x cs) : ∃ A1 c1, cs = [.string x.f0, .slice A1 x.f1.length c1] ∧ x.f1.length ≤ c1 ∧ k90.C w A1 x.f1.length x.f1 := by
  obtain ⟨_, _, rfl, rfl, ⟨A1, c1, rfl, l1, g1⟩⟩ := h
  exact ⟨A1, c1, rfl, l1, g1⟩
/-- A state of type 112 at block g of W; what its slices lead to came in by w0. -/
def IsS112 (w0 W : World) (g : Nat) (f0 : ByteArray) (f1 : Bool) : Prop := W.heap[g]? = some (.cells #[.string f0, .bool f1] 112 (0, 0)) ∧ w0.heap.size ≤ g
theorem IsS112.grown {w0 W : World} {g : Nat} {f0 : ByteArray} {f1 : Bool} {W1 : World} {row : Option Nat} (h : IsS112 w0 W g f0 f1) (hw : W.grownBy W1 row) (hne : some g ≠ row) : IsS112 w0 W1 g f0 f1 := by
  obtain ⟨hb, hg⟩ := h
  exact ⟨blk_grown hb hw hne, hg⟩
theorem IsS112.kept {w0 W : World} {g : Nat} {f0 : ByteArray} {f1 : Bool} {W1 : World} {S : Nat → Prop} (h : IsS112 w0 W g f0 f1) (hk : Kept W W1 S) (hne : ¬ S g) : IsS112 w0 W1 g f0 f1 := by
  obtain ⟨hb, hg⟩ := h
  exact ⟨blk_kept hb hk hne, hg⟩
theorem IsS112.below {w0 W : World} {g : Nat} {f0 : ByteArray} {f1 : Bool} {W1 : World} (h : IsS112 w0 W g f0 f1) (hw : Below W.heap.size W W1) : IsS112 w0 W1 g f0 f1 := h.grown (grown_of_below hw none) (by simp)
theorem IsS112.alloc {w0 W : World} {g : Nat} {f0 : ByteArray} {f1 : Bool} (h : IsS112 w0 W g f0 f1) (o : Obj) : IsS112 w0 (W.alloc o) g f0 f1 := h.below (below_alloc (Below.refl _ _) o)
theorem IsS112.drewN {w0 W : World} {g : Nat} {f0 : ByteArray} {f1 : Bool} (h : IsS112 w0 W g f0 f1) (m : Nat) : IsS112 w0 (W.drewN m) g f0 f1 := h
theorem IsS112.drew {w0 W : World} {g : Nat} {f0 : ByteArray} {f1 : Bool} (h : IsS112 w0 W g f0 f1) : IsS112 w0 W.drew g f0 f1 := h
theorem IsS112.at_ {w0 W : World} {g : Nat} {f0 : ByteArray} {f1 : Bool} {w' : World} {m : Nat} (hq : W.drewN m = w') (h : IsS112 w0 W g f0 f1) : IsS112 w0 w' g f0 f1 := by subst hq; exact IsS112.drewN h m
theorem IsS112.apart {w0 W : World} {g : Nat} {f0 : ByteArray} {f1 : Bool} {α : Type} {d : Kd α} {e : Nat} {base : Nat} {ok : Nat → Prop} {v : Value} {xs : List α} (h : IsS112 w0 W g f0 f1) (ho : d.R e W base ok v xs) (ht : ∀ q, q ∈ e :: d.E → q ≠ 112) : d.R e W base (fun k => ok k ∧ k ≠ g) v xs := by
  obtain ⟨hb, hg⟩ := h
  exact Kd.R_types ho hb ht
theorem IsS112.own_ne {w0 W : World} {g : Nat} {f0 : ByteArray} {f1 : Bool} {α : Type} {d : Kd α} {e : Nat} {base : Nat} {ok : Nat → Prop} {v : Value} {xs : List α} (h : IsS112 w0 W g f0 f1) (ho : d.R e W base ok v xs) (ht : e ≠ 112) : some g ≠ v.ownBlock := by
  obtain ⟨hb, hg⟩ := h
  exact Kd.R_ne ho hb ht
theorem IsS112.ge {w0 W : World} {g : Nat} {f0 : ByteArray} {f1 : Bool} (h : IsS112 w0 W g f0 f1) : w0.heap.size ≤ g := by
  obtain ⟨hb, hg⟩ := h
  exact hg
theorem zl_ {w W0 W : World} (b : Aside0 (Below w.heap.size w W0)) (h : Below w.heap.size w W := by repeat (first | (with_reducible first | exact HB.out | apply below_alloc | apply pw_below_drewN | apply below_drew1 | refine below_set ?_ (Aside0.out (by with_reducible assumption)) | refine below_set ?_ (IsS112.ge (Aside0.out (by with_reducible assumption)))) | exact HB.out)) : Below w.heap.size w W := h
theorem zs_ {w W0 W W1 : World} (b : Aside0 (Below w.heap.size w W0)) (hb : Below W.heap.size W W1) (h : Below w.heap.size w W := by repeat (first | (with_reducible first | exact HB.out | apply below_alloc | apply pw_below_drewN | apply below_drew1 | refine below_set ?_ (Aside0.out (by with_reducible assumption)) | refine below_set ?_ (IsS112.ge (Aside0.out (by with_reducible assumption)))) | exact HB.out)) : Aside0 (Below w.heap.size w W1) := ⟨below_step h hb⟩
theorem zw_ {w W0 W : World} {g : Nat} (b : Aside0 (Below w.heap.size w W0)) (hg : g = W.heap.size) (h : Below w.heap.size w W := by repeat (first | (with_reducible first | exact HB.out | apply below_alloc | apply pw_below_drewN | apply below_drew1 | refine below_set ?_ (Aside0.out (by with_reducible assumption)) | refine below_set ?_ (IsS112.ge (Aside0.out (by with_reducible assumption)))) | exact HB.out)) : Aside0 (w.heap.size ≤ g) := ⟨by rw [hg]; exact below_size h⟩
theorem zt_ {p : Prop} (h : p := by first | rfl | (simp [errW_none, errW_some] <;> rfl) | (simp [*, errW_none, errW_some] <;> rfl) | (simp [mp_beq_nil, mp_bne_nil]; done) | (simp [*, mp_beq_nil, mp_bne_nil]; done)) : p := h
theorem zc2 {w : World} {g : Nat} {t : TypeId} {a0 a1 : Value} (h : Aside0 (w.heap[g]? = some (.cells #[a0, a1] t (0, 0)))) : w.cell? ⟨g, 0, none⟩ = some a0 ∧ w.cell? ⟨g, 1, none⟩ = some a1 ∧ w.frozen? ⟨g, 0, none⟩ = false ∧ w.frozen? ⟨g, 1, none⟩ = false := ⟨(blk_cell h.out 0).trans rfl, (blk_cell h.out 1).trans rfl, blk_frozen h.out 0, blk_frozen h.out 1⟩
theorem zc7 {w : World} {g : Nat} {t : TypeId} {a0 a1 a2 a3 a4 a5 a6 : Value} (h : Aside0 (w.heap[g]? = some (.cells #[a0, a1, a2, a3, a4, a5, a6] t (0, 0)))) : w.cell? ⟨g, 0, none⟩ = some a0 ∧ w.cell? ⟨g, 1, none⟩ = some a1 ∧ w.cell? ⟨g, 2, none⟩ = some a2 ∧ w.cell? ⟨g, 3, none⟩ = some a3 ∧ w.cell? ⟨g, 4, none⟩ = some a4 ∧ w.cell? ⟨g, 5, none⟩ = some a5 ∧ w.cell? ⟨g, 6, none⟩ = some a6 ∧ w.frozen? ⟨g, 0, none⟩ = false ∧ w.frozen? ⟨g, 1, none⟩ = false ∧ w.frozen? ⟨g, 2, none⟩ = false ∧ w.frozen? ⟨g, 3, none⟩ = false ∧ w.frozen? ⟨g, 4, none⟩ = false ∧ w.frozen? ⟨g, 5, none⟩ = false ∧ w.frozen? ⟨g, 6, none⟩ = false := ⟨(blk_cell h.out 0).trans rfl, (blk_cell h.out 1).trans rfl, (blk_cell h.out 2).trans rfl, (blk_cell h.out 3).trans rfl, (blk_cell h.out 4).trans rfl, (blk_cell h.out 5).trans rfl, (blk_cell h.out 6).trans rfl, blk_frozen h.out 0, blk_frozen h.out 1, blk_frozen h.out 2, blk_frozen h.out 3, blk_frozen h.out 4, blk_frozen h.out 5, blk_frozen h.out 6⟩
end Go.Proofs.Ytadablpppkjdbaa.A
end

section
namespace Go.Proofs.Ytadablpppkjdbaa.A
open Go.RowKit Go.Proofs.YtadablpppkjdbaaW.PrintWords Go.Proofs.YtadablpppkjdbaaW.PrintLast Go.Proofs.YtadablpppkjdbaaW.PrintMore
attribute [local go_sem] max2_int min2_int max_two min_two max_three min_three max_four min_four
set_option maxHeartbeats 8000000 in
set_option maxRecDepth 100000 in
theorem impl_isHash.calls (a0 : ByteArray) (r : Bool) (w : World) (h : impl_isHash.f a0 = some r) :
  Calls Try.prog 95 #[.string a0] w fun e w' => e = .returned (.bool r) ∧ Drawn0 w w' := by
 have H : (some ((a0.size : Int) == 32)) = some r := h
 clear h
 obtain rfl := Option.some.inj H
 go_enter Try.func95,Try.ntmps95
 go_wp2
 go_ret
 exact ⟨by first | rfl | (simp;done) | (simp [*];done),by repeat (first | exact Drawn0.refl _ | apply Drawn0.step)⟩
set_option maxHeartbeats 8000000 in
set_option maxRecDepth 100000 in
theorem impl_within.calls (a0 : Int) (a1 : Int) (a2 : Int) (r : Bool) (w : World) (h : impl_within.f a0 a1 a2 = some r) :
  Calls Try.prog 51 #[.int .i64 a0,.int .i64 a1,.int .i64 a2] w fun e w' => e = .returned (.bool r) ∧ Drawn0 w w' := by
 have H : (if a0 ≥ a1 then (some (decide (a0 ≤ a2))) else (some false)) = some r := h
 clear h
 by_cases c4 : a0 ≥ a1
 ·rw [if_pos c4] at H
  have c4b0 : decide (a1 ≤ a0) = true := decide_eq_true c4
  clear c4
  obtain rfl := Option.some.inj H
  go_enter Try.func51,Try.ntmps51
  go_wp2
  go_ret
  exact ⟨by first | rfl | (simp;done) | (simp [*];done),by repeat (first | exact Drawn0.refl _ | apply Drawn0.step)⟩
 ·rw [if_neg c4] at H
  have c4b0 : decide (a1 ≤ a0) = false := decide_eq_false c4
  clear c4
  obtain rfl := Option.some.inj H
  go_enter Try.func51,Try.ntmps51
  go_wp2
  go_ret
  exact ⟨by first | rfl | (simp;done) | (simp [*];done),by repeat (first | exact Drawn0.refl _ | apply Drawn0.step)⟩
set_option maxHeartbeats 8000000 in
set_option maxRecDepth 100000 in
theorem impl_MessageOK.calls (k : Nat) (a0_0 : Int) (a0_1 : Int) (a0_2 : Int) (a0_3 : Int) (a0_4 : ByteArray) (a0_5 : ByteArray) (a0_6 : ByteArray) (r : Bool) (w : World) (h : impl_MessageOK.f k a0_0 a0_1 a0_2 a0_3 a0_4 a0_5 a0_6 = some r) :
  Calls Try.prog 83 #[.agg #[.int .i64 a0_0,.int .i64 a0_1,.int .i64 a0_2,.int .i64 a0_3,.string a0_4,.string a0_5,.string a0_6]] w fun e w' => e = .returned (.bool r) ∧ Below w.heap.size w w' := by
 have hu63 := Try.underlying63
 have HB := am_ (Below.refl w.heap.size w)
 have H : ((impl_within.f a0_1 0 20).bind fun t296 => (if t296 = true then ((impl_within.f a0_3 0 6).bind fun t297 => (if t297 = true then (if (a0_6.size : Int) = 8 then (impl_MessageOK.j0 k (decide ((a0_5.size : Int) > 20000)) a0_0 a0_1 a0_2 a0_3 a0_4 a0_5 a0_6) else (impl_MessageOK.j0 k true a0_0 a0_1 a0_2 a0_3 a0_4 a0_5 a0_6)) else (impl_MessageOK.j0 k true a0_0 a0_1 a0_2 a0_3 a0_4 a0_5 a0_6))) else (impl_MessageOK.j0 k true a0_0 a0_1 a0_2 a0_3 a0_4 a0_5 a0_6))) = some r := h
 clear h
 have HC2 := am_ H
 clear H
 go_enter Try.func83,Try.ntmps83
 go_upto_region 1 with (first | ((with_reducible refine gate_dst (N := 1) rfl ?_);(try (refine gate_guard (by rfl) ?_;dsimp only));refine zbx (N := 1) (cs := #[.int .i64 a0_0,.int .i64 a0_1,.int .i64 a0_2,.int .i64 a0_3,.string a0_4,.string a0_5,.string a0_6]) (t := 63) ?_;intro gb295 hg w3 hbox hb;have BK295 := am_ (hbox);have GW295 := zw_ HB hg;have GE295 := zw_ HB hg;replace HB := zs_ HB hb;clear hb hbox hg))
 (try simp only [Act.put,p1_,p2_,p3_])
 go_cut [24] (fun v24 wc => ∃ (kq : Nat) (x24_1 : Bool),v24 = .bool x24_1 ∧ Aside0 (impl_MessageOK.j0 kq x24_1 a0_0 a0_1 a0_2 a0_3 a0_4 a0_5 a0_6 = some r) ∧ Aside0 (kq ≤ k) ∧ Aside0 (wc.heap[gb295]? = some (.cells #[.int .i64 a0_0,.int .i64 a0_1,.int .i64 a0_2,.int .i64 a0_3,.string a0_4,.string a0_5,.string a0_6] 63 (0,0))) ∧ Aside0 (Below w.heap.size w wc))
 case first =>
  have H := HC2.out
  clear HC2
  replace H := Option.bind_eq_some_iff.mp H
  obtain ⟨t296,A40,H⟩ := H
  try dsimp only at H
  have A4 := am_ A40
  clear A40
  by_cases c5 : t296 = true
  ·subst c5
   have H1 : ((impl_within.f a0_3 0 6).bind fun t297 => (if t297 = true then (if (a0_6.size : Int) = 8 then (impl_MessageOK.j0 k (decide ((a0_5.size : Int) > 20000)) a0_0 a0_1 a0_2 a0_3 a0_4 a0_5 a0_6) else (impl_MessageOK.j0 k true a0_0 a0_1 a0_2 a0_3 a0_4 a0_5 a0_6)) else (impl_MessageOK.j0 k true a0_0 a0_1 a0_2 a0_3 a0_4 a0_5 a0_6))) = some r := by rw [if_pos rfl] at H;exact H
   clear H
   have H := H1
   clear H1
   replace H := Option.bind_eq_some_iff.mp H
   obtain ⟨t297,A60,H⟩ := H
   try dsimp only at H
   have A6 := am_ A60
   clear A60
   by_cases c7 : t297 = true
   ·subst c7
    have H1 : (if (a0_6.size : Int) = 8 then (impl_MessageOK.j0 k (decide ((a0_5.size : Int) > 20000)) a0_0 a0_1 a0_2 a0_3 a0_4 a0_5 a0_6) else (impl_MessageOK.j0 k true a0_0 a0_1 a0_2 a0_3 a0_4 a0_5 a0_6)) = some r := by rw [if_pos rfl] at H;exact H
    clear H
    have H := H1
    clear H1
    by_cases c8 : (a0_6.size : Int) = 8
    ·rw [if_pos c8] at H
     have c8b0 : ((a0_6.size : Int) == 8) = true := beq_iff_eq.mpr c8
     have c8b1 : ((a0_6.size : Int) != 8) = false := bne_eq_false_iff_eq.mpr c8
     clear c8
     (first | rw [c8b0] | (simp only [i64_w,i32_w];rw [c8b0]) | skip)
     have H' := am_ H
     clear H
     obtain ⟨hcz9_0,hcz9_1,hcz9_2,hcz9_3,hcz9_4,hcz9_5,hcz9_6,hfz9_0,hfz9_1,hfz9_2,hfz9_3,hfz9_4,hfz9_5,hfz9_6⟩ := zc7 BK295
     go_wp2_with (first | ((with_reducible refine gate_callee (f := 51) rfl ?_);refine zgl (some 5) Try.func51 #[.int .i64 a0_1,.int .i64 0,.int .i64 20] ?_;(with_reducible refine (impl_within.calls a0_1 0 20 true _ A4.out).mono ?_);rintro e w' ⟨rfl,⟨nd,rfl⟩⟩;refine ⟨_,rfl,?_⟩) | (go_at_call 51;(with_reducible refine (impl_within.calls a0_3 0 6 true _ A6.out).mono ?_);rintro e w' ⟨rfl,⟨nd,rfl⟩⟩))
     go_meet
     case rel => exact ⟨_,(decide ((a0_5.size : Int) > 20000)),(by first | rfl | (simp;done) | (simp [*];done)),H',⟨by first | omega | exact Nat.le_refl _⟩,⟨by (with_reducible repeat (first | apply k1_ | apply k2_ | apply k3_));exact BK295.out⟩,⟨zl_ HB⟩⟩
    ·rw [if_neg c8] at H
     have c8b0 : ((a0_6.size : Int) == 8) = false := beq_eq_false_iff_ne.mpr c8
     have c8b1 : ((a0_6.size : Int) != 8) = true := bne_iff_ne.mpr c8
     (first | rw [c8b0] | (simp only [i64_w,i32_w];rw [c8b0]) | skip)
     have H' := am_ H
     clear H
     obtain ⟨hcz10_0,hcz10_1,hcz10_2,hcz10_3,hcz10_4,hcz10_5,hcz10_6,hfz10_0,hfz10_1,hfz10_2,hfz10_3,hfz10_4,hfz10_5,hfz10_6⟩ := zc7 BK295
     go_wp2_with (first | ((with_reducible refine gate_callee (f := 51) rfl ?_);refine zgl (some 5) Try.func51 #[.int .i64 a0_1,.int .i64 0,.int .i64 20] ?_;(with_reducible refine (impl_within.calls a0_1 0 20 true _ A4.out).mono ?_);rintro e w' ⟨rfl,⟨nd,rfl⟩⟩;refine ⟨_,rfl,?_⟩) | (go_at_call 51;(with_reducible refine (impl_within.calls a0_3 0 6 true _ A6.out).mono ?_);rintro e w' ⟨rfl,⟨nd,rfl⟩⟩))
     go_meet
     case rel => exact ⟨_,(true),(by first | rfl | (simp;done) | (simp [*];done)),H',⟨by first | omega | exact Nat.le_refl _⟩,⟨by (with_reducible repeat (first | apply k1_ | apply k2_ | apply k3_));exact BK295.out⟩,⟨zl_ HB⟩⟩
   ·replace c7 := Bool.eq_false_iff.mpr c7
    subst c7
    have H1 : (impl_MessageOK.j0 k true a0_0 a0_1 a0_2 a0_3 a0_4 a0_5 a0_6) = some r := by rw [if_neg (show ¬ (false = true) by decide)] at H;exact H
    clear H
    have H := H1
    clear H1
    have H' := am_ H
    clear H
    obtain ⟨hcz11_0,hcz11_1,hcz11_2,hcz11_3,hcz11_4,hcz11_5,hcz11_6,hfz11_0,hfz11_1,hfz11_2,hfz11_3,hfz11_4,hfz11_5,hfz11_6⟩ := zc7 BK295
    go_wp2_with (first | ((with_reducible refine gate_callee (f := 51) rfl ?_);refine zgl (some 5) Try.func51 #[.int .i64 a0_1,.int .i64 0,.int .i64 20] ?_;(with_reducible refine (impl_within.calls a0_1 0 20 true _ A4.out).mono ?_);rintro e w' ⟨rfl,⟨nd,rfl⟩⟩;refine ⟨_,rfl,?_⟩) | (go_at_call 51;(with_reducible refine (impl_within.calls a0_3 0 6 false _ A6.out).mono ?_);rintro e w' ⟨rfl,⟨nd,rfl⟩⟩))
    go_meet
    case rel => exact ⟨_,(true),(by first | rfl | (simp;done) | (simp [*];done)),H',⟨by first | omega | exact Nat.le_refl _⟩,⟨by (with_reducible repeat (first | apply k1_ | apply k2_ | apply k3_));exact BK295.out⟩,⟨zl_ HB⟩⟩
  ·replace c5 := Bool.eq_false_iff.mpr c5
   subst c5
   have H1 : (impl_MessageOK.j0 k true a0_0 a0_1 a0_2 a0_3 a0_4 a0_5 a0_6) = some r := by rw [if_neg (show ¬ (false = true) by decide)] at H;exact H
   clear H
   have H := H1
   clear H1
   have H' := am_ H
   clear H
   obtain ⟨hcz12_0,hcz12_1,hcz12_2,hcz12_3,hcz12_4,hcz12_5,hcz12_6,hfz12_0,hfz12_1,hfz12_2,hfz12_3,hfz12_4,hfz12_5,hfz12_6⟩ := zc7 BK295
   go_wp2_with (first | ((with_reducible refine gate_callee (f := 51) rfl ?_);refine zgl (some 5) Try.func51 #[.int .i64 a0_1,.int .i64 0,.int .i64 20] ?_;(with_reducible refine (impl_within.calls a0_1 0 20 false _ A4.out).mono ?_);rintro e w' ⟨rfl,⟨nd,rfl⟩⟩;refine ⟨_,rfl,?_⟩))
   go_meet
   case rel => exact ⟨_,(true),(by first | rfl | (simp;done) | (simp [*];done)),H',⟨by first | omega | exact Nat.le_refl _⟩,⟨by (with_reducible repeat (first | apply k1_ | apply k2_ | apply k3_));exact BK295.out⟩,⟨zl_ HB⟩⟩
 case rest =>
  clear HC2
  try clear p2
  try clear c5
  try clear c7
  try clear c8
  try clear c8b0
  try clear c8b1
  try clear hcz10_0
  try clear hcz10_1
  try clear hcz10_2
  try clear hcz10_3
  try clear hcz10_4
  try clear hcz10_5
  try clear hcz10_6
  try clear hcz11_0
  try clear hcz11_1
  try clear hcz11_2
  try clear hcz11_3
  try clear hcz11_4
  try clear hcz11_5
  try clear hcz11_6
  try clear hcz12_0
  try clear hcz12_1
  try clear hcz12_2
  try clear hcz12_3
  try clear hcz12_4
  try clear hcz12_5
  try clear hcz12_6
  try clear hcz9_0
  try clear hcz9_1
  try clear hcz9_2
  try clear hcz9_3
  try clear hcz9_4
  try clear hcz9_5
  try clear hcz9_6
  try clear hfz10_0
  try clear hfz10_1
  try clear hfz10_2
  try clear hfz10_3
  try clear hfz10_4
  try clear hfz10_5
  try clear hfz10_6
  try clear hfz11_0
  try clear hfz11_1
  try clear hfz11_2
  try clear hfz11_3
  try clear hfz11_4
  try clear hfz11_5
  try clear hfz11_6
  try clear hfz12_0
  try clear hfz12_1
  try clear hfz12_2
  try clear hfz12_3
  try clear hfz12_4
  try clear hfz12_5
  try clear hfz12_6
  try clear hfz9_0
  try clear hfz9_1
  try clear hfz9_2
  try clear hfz9_3
  try clear hfz9_4
  try clear hfz9_5
  try clear hfz9_6
  obtain ⟨kq,x24_1,rfl,HA,HJ1,BK295,HB⟩ := hcut
  cases kq with
  | zero => exact absurd HA.out (by simp [impl_MessageOK.j0])
  | succ kj1 =>
   have H := HA.out
   clear HA
   simp only [impl_MessageOK.j0] at H
   by_cases c13 : x24_1 = true
   ·subst c13
    have H1 : (some false) = some r := by rw [if_pos rfl] at H;exact H
    clear H
    have H := H1
    clear H1
    obtain rfl := Option.some.inj H
    go_wp2
    go_ret
    exact ⟨zt_,zl_ HB⟩
   ·replace c13 := Bool.eq_false_iff.mpr c13
    subst c13
    have H1 : (if a0_0 = 1 then (impl_MessageOK.j1 kj1 a0_0 (a0_0 == 1) a0_0 a0_1 a0_2 a0_3 a0_4 a0_5 a0_6) else (if a0_0 = 2 then (impl_MessageOK.j1 kj1 a0_0 (a0_0 == 2) a0_0 a0_1 a0_2 a0_3 a0_4 a0_5 a0_6) else (impl_MessageOK.j1 kj1 a0_0 (a0_0 == 3) a0_0 a0_1 a0_2 a0_3 a0_4 a0_5 a0_6))) = some r := by rw [if_neg (show ¬ (false = true) by decide)] at H;exact H
    clear H
    have H := H1
    clear H1
    have HC14 := am_ H
    clear H
    obtain ⟨hcz15_0,hcz15_1,hcz15_2,hcz15_3,hcz15_4,hcz15_5,hcz15_6,hfz15_0,hfz15_1,hfz15_2,hfz15_3,hfz15_4,hfz15_5,hfz15_6⟩ := zc7 BK295
    go_upto_if 27 with (fail)
    go_cut [27] (fun v27 wc => ∃ (kq : Nat) (x27_13 : Bool),v27 = .bool x27_13 ∧ Aside0 (impl_MessageOK.j1 kq a0_0 x27_13 a0_0 a0_1 a0_2 a0_3 a0_4 a0_5 a0_6 = some r) ∧ Aside0 (kq ≤ kj1) ∧ Aside0 (wc.heap[gb295]? = some (.cells #[.int .i64 a0_0,.int .i64 a0_1,.int .i64 a0_2,.int .i64 a0_3,.string a0_4,.string a0_5,.string a0_6] 63 (0,0))) ∧ Aside0 (Below w.heap.size w wc))
    case first =>
     have H := HC14.out
     clear HC14
     by_cases c16 : a0_0 = 1
     ·rw [if_pos c16] at H
      have c16b0 : (a0_0 == 1) = true := beq_iff_eq.mpr c16
      have c16b1 : (a0_0 != 1) = false := bne_eq_false_iff_eq.mpr c16
      clear c16
      (first | rw [c16b0] | (simp only [i64_w,i32_w];rw [c16b0]) | skip)
      have H' := am_ H
      clear H
      go_wp2
      go_meet
      case rel => exact ⟨_,((a0_0 == 1)),(by first | rfl | (simp;done) | (simp [*];done)),H',⟨by have := HJ1.out;first | omega | exact Nat.le_refl _⟩,⟨by (with_reducible repeat (first | apply k1_ | apply k2_ | apply k3_));exact BK295.out⟩,⟨zl_ HB⟩⟩
     ·rw [if_neg c16] at H
      have c16b0 : (a0_0 == 1) = false := beq_eq_false_iff_ne.mpr c16
      have c16b1 : (a0_0 != 1) = true := bne_iff_ne.mpr c16
      (first | rw [c16b0] | (simp only [i64_w,i32_w];rw [c16b0]) | skip)
      by_cases c17 : a0_0 = 2
      ·rw [if_pos c17] at H
       have c17b0 : (a0_0 == 2) = true := beq_iff_eq.mpr c17
       have c17b1 : (a0_0 != 2) = false := bne_eq_false_iff_eq.mpr c17
       clear c17
       have H' := am_ H
       clear H
       go_wp2
       go_meet
       case rel => exact ⟨_,((a0_0 == 2)),(by first | rfl | (simp;done) | (simp [*];done)),H',⟨by have := HJ1.out;first | omega | exact Nat.le_refl _⟩,⟨by (with_reducible repeat (first | apply k1_ | apply k2_ | apply k3_));exact BK295.out⟩,⟨zl_ HB⟩⟩
      ·rw [if_neg c17] at H
       have c17b0 : (a0_0 == 2) = false := beq_eq_false_iff_ne.mpr c17
       have c17b1 : (a0_0 != 2) = true := bne_iff_ne.mpr c17
       have H' := am_ H
       clear H
       go_wp2
       go_meet
       case rel => exact ⟨_,((a0_0 == 3)),(by first | rfl | (simp;done) | (simp [*];done)),H',⟨by have := HJ1.out;first | omega | exact Nat.le_refl _⟩,⟨by (with_reducible repeat (first | apply k1_ | apply k2_ | apply k3_));exact BK295.out⟩,⟨zl_ HB⟩⟩
    case rest =>
     clear HC14
     try clear c1
     try clear p2
     try clear c5
     try clear c7
     try clear c8
     try clear c8b0
     try clear c8b1
     try clear c13
     try clear c16
     try clear c16b0
     try clear c16b1
     try clear c17
     try clear c17b0
     try clear c17b1
     try clear hcz10_0
     try clear hcz10_1
     try clear hcz10_2
     try clear hcz10_3
     try clear hcz10_4
     try clear hcz10_5
     try clear hcz10_6
     try clear hcz11_0
     try clear hcz11_1
     try clear hcz11_2
     try clear hcz11_3
     try clear hcz11_4
     try clear hcz11_5
     try clear hcz11_6
     try clear hcz12_0
     try clear hcz12_1
     try clear hcz12_2
     try clear hcz12_3
     try clear hcz12_4
     try clear hcz12_5
     try clear hcz12_6
     try clear hcz15_0
     try clear hcz15_1
     try clear hcz15_2
     try clear hcz15_3
     try clear hcz15_4
     try clear hcz15_5
     try clear hcz15_6
     try clear hcz9_0
     try clear hcz9_1
     try clear hcz9_2
     try clear hcz9_3
     try clear hcz9_4
     try clear hcz9_5
     try clear hcz9_6
     try clear hfz10_0
     try clear hfz10_1
     try clear hfz10_2
     try clear hfz10_3
     try clear hfz10_4
     try clear hfz10_5
     try clear hfz10_6
     try clear hfz11_0
     try clear hfz11_1
     try clear hfz11_2
     try clear hfz11_3
     try clear hfz11_4
     try clear hfz11_5
     try clear hfz11_6
     try clear hfz12_0
     try clear hfz12_1
     try clear hfz12_2
     try clear hfz12_3
     try clear hfz12_4
     try clear hfz12_5
     try clear hfz12_6
     try clear hfz15_0
     try clear hfz15_1
     try clear hfz15_2
     try clear hfz15_3
     try clear hfz15_4
     try clear hfz15_5
     try clear hfz15_6
     try clear hfz9_0
     try clear hfz9_1
     try clear hfz9_2
     try clear hfz9_3
     try clear hfz9_4
     try clear hfz9_5
     try clear hfz9_6
     try clear p2
     obtain ⟨kq,x27_13,rfl,HA,HJ13,BK295,HB⟩ := hcut
     cases kq with
     | zero => exact absurd HA.out (by simp [impl_MessageOK.j1])
     | succ kj13 =>
      have H := HA.out
      clear HA
      simp only [impl_MessageOK.j1] at H
      by_cases c18 : x27_13 = true
      ·subst c18
       have H1 : ((impl_within.f a0_2 1 8).bind fun t298 => (if t298 = true then ((impl_isHash.f a0_4).bind fun t299 => (if t299 = true then (some ((a0_5.toList != ([] : List UInt8)) == (a0_0 == 1))) else (some false))) else (some false))) = some r := by rw [if_pos rfl] at H;exact H
       clear H
       have H := H1
       clear H1
       replace H := Option.bind_eq_some_iff.mp H
       obtain ⟨t298,A190,H⟩ := H
       try dsimp only at H
       have A19 := am_ A190
       clear A190
       by_cases c20 : t298 = true
       ·subst c20
        have H1 : ((impl_isHash.f a0_4).bind fun t299 => (if t299 = true then (some ((a0_5.toList != ([] : List UInt8)) == (a0_0 == 1))) else (some false))) = some r := by rw [if_pos rfl] at H;exact H
        clear H
        have H := H1
        clear H1
        replace H := Option.bind_eq_some_iff.mp H
        obtain ⟨t299,A210,H⟩ := H
        try dsimp only at H
        have A21 := am_ A210
        clear A210
        by_cases c22 : t299 = true
        ·subst c22
         have H1 : (some ((a0_5.toList != ([] : List UInt8)) == (a0_0 == 1))) = some r := by rw [if_pos rfl] at H;exact H
         clear H
         have H := H1
         clear H1
         obtain rfl := Option.some.inj H
         obtain ⟨hcz23_0,hcz23_1,hcz23_2,hcz23_3,hcz23_4,hcz23_5,hcz23_6,hfz23_0,hfz23_1,hfz23_2,hfz23_3,hfz23_4,hfz23_5,hfz23_6⟩ := zc7 BK295
         go_wp2_with (first | ((with_reducible refine gate_callee (f := 51) rfl ?_);refine zgl (some 33) Try.func51 #[.int .i64 a0_2,.int .i64 1,.int .i64 8] ?_;(with_reducible refine (impl_within.calls a0_2 1 8 true _ A19.out).mono ?_);rintro e w' ⟨rfl,⟨nd,rfl⟩⟩;refine ⟨_,rfl,?_⟩) | (go_at_call 95;(with_reducible refine (impl_isHash.calls a0_4 true _ A21.out).mono ?_);rintro e w' ⟨rfl,⟨nd,rfl⟩⟩))
         go_ret
         exact ⟨zt_,zl_ HB⟩
        ·replace c22 := Bool.eq_false_iff.mpr c22
         subst c22
         have H1 : (some false) = some r := by rw [if_neg (show ¬ (false = true) by decide)] at H;exact H
         clear H
         have H := H1
         clear H1
         obtain rfl := Option.some.inj H
         obtain ⟨hcz24_0,hcz24_1,hcz24_2,hcz24_3,hcz24_4,hcz24_5,hcz24_6,hfz24_0,hfz24_1,hfz24_2,hfz24_3,hfz24_4,hfz24_5,hfz24_6⟩ := zc7 BK295
         go_wp2_with (first | ((with_reducible refine gate_callee (f := 51) rfl ?_);refine zgl (some 33) Try.func51 #[.int .i64 a0_2,.int .i64 1,.int .i64 8] ?_;(with_reducible refine (impl_within.calls a0_2 1 8 true _ A19.out).mono ?_);rintro e w' ⟨rfl,⟨nd,rfl⟩⟩;refine ⟨_,rfl,?_⟩) | (go_at_call 95;(with_reducible refine (impl_isHash.calls a0_4 false _ A21.out).mono ?_);rintro e w' ⟨rfl,⟨nd,rfl⟩⟩))
         go_ret
         exact ⟨zt_,zl_ HB⟩
       ·replace c20 := Bool.eq_false_iff.mpr c20
        subst c20
        have H1 : (some false) = some r := by rw [if_neg (show ¬ (false = true) by decide)] at H;exact H
        clear H
        have H := H1
        clear H1
        obtain rfl := Option.some.inj H
        obtain ⟨hcz25_0,hcz25_1,hcz25_2,hcz25_3,hcz25_4,hcz25_5,hcz25_6,hfz25_0,hfz25_1,hfz25_2,hfz25_3,hfz25_4,hfz25_5,hfz25_6⟩ := zc7 BK295
        go_wp2_with (first | ((with_reducible refine gate_callee (f := 51) rfl ?_);refine zgl (some 33) Try.func51 #[.int .i64 a0_2,.int .i64 1,.int .i64 8] ?_;(with_reducible refine (impl_within.calls a0_2 1 8 false _ A19.out).mono ?_);rintro e w' ⟨rfl,⟨nd,rfl⟩⟩;refine ⟨_,rfl,?_⟩))
        go_ret
        exact ⟨zt_,zl_ HB⟩
      ·replace c18 := Bool.eq_false_iff.mpr c18
       subst c18
       have H1 : (if a0_0 = 4 then (if a0_2 = 0 then (some (a0_4.toList == ([] : List UInt8))) else (some false)) else (if a0_0 = 5 then (if a0_2 = 0 then (some (a0_4.toList == ([] : List UInt8))) else (some false)) else (some false))) = some r := by rw [if_neg (show ¬ (false = true) by decide)] at H;exact H
       clear H
       have H := H1
       clear H1
       by_cases c26 : a0_0 = 4
       ·rw [if_pos c26] at H
        have c26b0 : (a0_0 == 4) = true := beq_iff_eq.mpr c26
        have c26b1 : (a0_0 != 4) = false := bne_eq_false_iff_eq.mpr c26
        clear c26
        by_cases c27 : a0_2 = 0
        ·rw [if_pos c27] at H
         have c27b0 : (a0_2 == 0) = true := beq_iff_eq.mpr c27
         have c27b1 : (a0_2 != 0) = false := bne_eq_false_iff_eq.mpr c27
         clear c27
         obtain rfl := Option.some.inj H
         obtain ⟨hcz28_0,hcz28_1,hcz28_2,hcz28_3,hcz28_4,hcz28_5,hcz28_6,hfz28_0,hfz28_1,hfz28_2,hfz28_3,hfz28_4,hfz28_5,hfz28_6⟩ := zc7 BK295
         go_wp2
         go_ret
         exact ⟨zt_,zl_ HB⟩
        ·rw [if_neg c27] at H
         have c27b0 : (a0_2 == 0) = false := beq_eq_false_iff_ne.mpr c27
         have c27b1 : (a0_2 != 0) = true := bne_iff_ne.mpr c27
         obtain rfl := Option.some.inj H
         obtain ⟨hcz29_0,hcz29_1,hcz29_2,hcz29_3,hcz29_4,hcz29_5,hcz29_6,hfz29_0,hfz29_1,hfz29_2,hfz29_3,hfz29_4,hfz29_5,hfz29_6⟩ := zc7 BK295
         go_wp2
         go_ret
         exact ⟨zt_,zl_ HB⟩
       ·rw [if_neg c26] at H
        have c26b0 : (a0_0 == 4) = false := beq_eq_false_iff_ne.mpr c26
        have c26b1 : (a0_0 != 4) = true := bne_iff_ne.mpr c26
        by_cases c30 : a0_0 = 5
        ·rw [if_pos c30] at H
         have c30b0 : (a0_0 == 5) = true := beq_iff_eq.mpr c30
         have c30b1 : (a0_0 != 5) = false := bne_eq_false_iff_eq.mpr c30
         clear c30
         by_cases c31 : a0_2 = 0
         ·rw [if_pos c31] at H
          have c31b0 : (a0_2 == 0) = true := beq_iff_eq.mpr c31
          have c31b1 : (a0_2 != 0) = false := bne_eq_false_iff_eq.mpr c31
          clear c31
          obtain rfl := Option.some.inj H
          obtain ⟨hcz32_0,hcz32_1,hcz32_2,hcz32_3,hcz32_4,hcz32_5,hcz32_6,hfz32_0,hfz32_1,hfz32_2,hfz32_3,hfz32_4,hfz32_5,hfz32_6⟩ := zc7 BK295
          go_wp2
          go_ret
          exact ⟨zt_,zl_ HB⟩
         ·rw [if_neg c31] at H
          have c31b0 : (a0_2 == 0) = false := beq_eq_false_iff_ne.mpr c31
          have c31b1 : (a0_2 != 0) = true := bne_iff_ne.mpr c31
          obtain rfl := Option.some.inj H
          obtain ⟨hcz33_0,hcz33_1,hcz33_2,hcz33_3,hcz33_4,hcz33_5,hcz33_6,hfz33_0,hfz33_1,hfz33_2,hfz33_3,hfz33_4,hfz33_5,hfz33_6⟩ := zc7 BK295
          go_wp2
          go_ret
          exact ⟨zt_,zl_ HB⟩
        ·rw [if_neg c30] at H
         have c30b0 : (a0_0 == 5) = false := beq_eq_false_iff_ne.mpr c30
         have c30b1 : (a0_0 != 5) = true := bne_iff_ne.mpr c30
         obtain rfl := Option.some.inj H
         go_wp2
         go_ret
         exact ⟨zt_,zl_ HB⟩
set_option maxHeartbeats 8000000 in
set_option maxRecDepth 100000 in
theorem impl_isPrepare.calls (k : Nat) (a0_0 : Int) (a0_1 : Int) (a0_2 : Int) (a0_3 : Int) (a0_4 : ByteArray) (a0_5 : ByteArray) (a0_6 : ByteArray) (r : Bool) (w : World) (h : impl_isPrepare.f k a0_0 a0_1 a0_2 a0_3 a0_4 a0_5 a0_6 = some r) :
  Calls Try.prog 68 #[.agg #[.int .i64 a0_0,.int .i64 a0_1,.int .i64 a0_2,.int .i64 a0_3,.string a0_4,.string a0_5,.string a0_6]] w fun e w' => e = .returned (.bool r) ∧ Below w.heap.size w w' := by
 have hu63 := Try.underlying63
 have HB := am_ (Below.refl w.heap.size w)
 have H : (if a0_0 = 2 then ((impl_MessageOK.f k a0_0 a0_1 a0_2 a0_3 a0_4 a0_5 a0_6).bind fun t301 => (some t301)) else (some false)) = some r := h
 clear h
 by_cases c2 : a0_0 = 2
 ·rw [if_pos c2] at H
  have c2b0 : (a0_0 == 2) = true := beq_iff_eq.mpr c2
  have c2b1 : (a0_0 != 2) = false := bne_eq_false_iff_eq.mpr c2
  clear c2
  replace H := Option.bind_eq_some_iff.mp H
  obtain ⟨t301,A30,H⟩ := H
  try dsimp only at H
  have A3 := am_ A30
  clear A30
  obtain rfl := Option.some.inj H
  go_enter Try.func68,Try.ntmps68
  go_wp2_with (first | ((with_reducible refine gate_dst (N := 1) rfl ?_);refine zbx (N := 1) (cs := #[.int .i64 a0_0,.int .i64 a0_1,.int .i64 a0_2,.int .i64 a0_3,.string a0_4,.string a0_5,.string a0_6]) (t := 63) ?_;intro gb300 hg w4 hbox hb;have BK300 := am_ (hbox);have GW300 := zw_ HB hg;have GE300 := zw_ HB hg;replace HB := zs_ HB hb;clear hb hbox hg;obtain ⟨hcz5_0,hcz5_1,hcz5_2,hcz5_3,hcz5_4,hcz5_5,hcz5_6,hfz5_0,hfz5_1,hfz5_2,hfz5_3,hfz5_4,hfz5_5,hfz5_6⟩ := zc7 BK300) | (go_at_call 83;(with_reducible refine (impl_MessageOK.calls k a0_0 a0_1 a0_2 a0_3 a0_4 a0_5 a0_6 t301 _ A3.out).mono ?_);rintro e w6 ⟨rfl,hb⟩;replace BK300 := zb BK300 hb;replace HB := zs_ HB hb;(try clear hb);(try clear hb2);(try clear hk);(try clear hi)))
  go_ret
  exact ⟨zt_,zl_ HB⟩
 ·rw [if_neg c2] at H
  have c2b0 : (a0_0 == 2) = false := beq_eq_false_iff_ne.mpr c2
  have c2b1 : (a0_0 != 2) = true := bne_iff_ne.mpr c2
  obtain rfl := Option.some.inj H
  go_enter Try.func68,Try.ntmps68
  go_wp2_with (first | ((with_reducible refine gate_dst (N := 1) rfl ?_);refine zbx (N := 1) (cs := #[.int .i64 a0_0,.int .i64 a0_1,.int .i64 a0_2,.int .i64 a0_3,.string a0_4,.string a0_5,.string a0_6]) (t := 63) ?_;intro gb300 hg w7 hbox hb;have BK300 := am_ (hbox);have GW300 := zw_ HB hg;have GE300 := zw_ HB hg;replace HB := zs_ HB hb;clear hb hbox hg;obtain ⟨hcz8_0,hcz8_1,hcz8_2,hcz8_3,hcz8_4,hcz8_5,hcz8_6,hfz8_0,hfz8_1,hfz8_2,hfz8_3,hfz8_4,hfz8_5,hfz8_6⟩ := zc7 BK300))
  go_ret
  exact ⟨zt_,zl_ HB⟩
set_option maxHeartbeats 8000000 in
set_option maxRecDepth 100000 in
theorem impl_number.calls (k : Nat) (a0 : Int) (a1 : Int) (r : ByteArray) (w : World) (h : impl_number.f k a0 a1 = some r) :
  Calls Try.prog 85 #[.int .i64 a0,.int .i64 a1] w fun e w' => e = .returned (.string r) ∧ Below w.heap.size w w' := by
 have HB := am_ (Below.refl w.heap.size w)
 have H : (if 0 ≤ a1 then (if (a1 : Int).toNat ≤ 281474976710656 then (impl_number.l0 k a0 (List.replicate (a1 : Int).toNat 0) (wrap64 (a1 - 1))) else (none)) else (none)) = some r := h
 clear h
 by_cases c3 : 0 ≤ a1
 ·rw [if_pos c3] at H
  have c3b0 := eq_true c3
  have c3b1 : decide (0 ≤ a1) = true := decide_eq_true c3
  clear c3
  by_cases c4 : (a1 : Int).toNat ≤ 281474976710656
  ·rw [if_pos c4] at H
   have c4b0 := eq_true c4
   have c4b1 : decide ((a1 : Int).toNat ≤ 281474976710656) = true := decide_eq_true c4
   clear c4
   obtain ⟨y302,hy302⟩ : ∃ y_ : List Int,y_ = (List.replicate (a1 : Int).toNat 0) := ⟨_,rfl⟩
   replace H : (impl_number.l0 k a0 y302 (wrap64 (a1 - 1))) = some r := by first | (rw [hy302];with_reducible exact H) | (have H2_ := (Option.bind_some _ _).symm.trans H;rw [hy302];with_reducible exact H2_) | (have H2_ := (Option.bind_some _ _).symm.trans H;with_reducible exact H2_) | with_reducible exact H | (rw [hy302];exact H) | exact H
   have Ny302 := am_ hy302
   clear hy302
   have H' := am_ H
   clear H
   go_enter Try.func85,Try.ntmps85
   go_wp2_with (first | ((with_reducible refine gate_dst (N := 8) rfl ?_);refine Kd.R_make (Kd.int .u8) _ 5 rfl (N := 8) rfl 24 _ _ rfl a1 rfl rfl Try.underlying24 (.int .u8 0) 1 info5 rfl (by decide) (by omega) 0 (ok := fun _ => True) (okp := fun _ => True) rfl (fun _ hk => hk) trivial (zo_) (Nat.le_trans (Nat.mul_le_mul_right _ (zo_ : a1.toNat ≤ 281474976710656)) (by omega)) (Below.refl _ _) (Nat.le_refl _) ?_;intro v303 w5 ho6 hb hg_ hnew_;clear hg_ hnew_;(first | rw [← Ny302.out] at ho6 | (simp only [Int.reduceToNat] at ho6;rw [← Ny302.out] at ho6));have HO304 := am_ (Kd.R_lower ho6 (below_size (zl_ HB)));replace HB := zs_ HB hb;clear hb ho6))
   go_loopg [0,6] k (fun kq v0 v6 w' => ∃ (x0_1 : Int) (x5_1 : List Int) (x6_1 : Int),v0 = .int .i64 x0_1 ∧ v6 = .int .i64 x6_1 ∧ Aside0 (impl_number.l0 kq x0_1 x5_1 x6_1 = some r) ∧ Aside0 (kq ≤ k) ∧ Aside0 (Kd.R (Kd.int .u8) 5 w' w.heap.size (fun _ => True) v303 x5_1) ∧ Aside0 (Below w.heap.size w w'))
   case atStart => exact ⟨(a0),(y302),(wrap64 (a1 - 1)),(by first | rfl | (simp;done) | (simp [*];done)),(by first | rfl | (simp;done) | (simp [*];done)),H',⟨Nat.le_refl _⟩,⟨zr HO304⟩,⟨zl_ HB⟩⟩
   case round =>
    clear H'
    try clear p2
    try clear c3
    try clear c3b0
    try clear c3b1
    try clear c4
    try clear c4b0
    try clear c4b1
    try clear p6
    obtain ⟨x0_1,x5_1,x6_1,rfl,rfl,HA,HK1,HO_5,HB⟩ := hrel
    cases gk with
    | zero => exact absurd HA.out (by simp [impl_number.l0])
    | succ k1 =>
     have H := HA.out
     clear HA
     simp only [impl_number.l0] at H
     by_cases c7 : x6_1 ≥ 0
     ·rw [if_pos c7] at H
      have c7b0 : decide (0 ≤ x6_1) = true := decide_eq_true c7
      clear c7
      by_cases c8 : 0 ≤ x6_1
      ·rw [if_pos c8] at H
       have c8b0 : decide (0 ≤ x6_1) = true := decide_eq_true c8
       clear c8
       by_cases c9 : x6_1 < (x5_1.length : Int)
       ·rw [if_pos c9] at H
        have c9b0 : decide (x6_1 < (x5_1.length : Int)) = true := decide_eq_true c9
        clear c9
        obtain ⟨y305,hy305⟩ : ∃ y_ : List Int,y_ = (x5_1.set (x6_1 : Int).toNat ((x0_1) % 256)) := ⟨_,rfl⟩
        replace H : (impl_number.l0 k1 (x0_1 / 256) y305 (wrap64 (x6_1 - 1))) = some r := by first | (rw [hy305];with_reducible exact H) | (have H2_ := (Option.bind_some _ _).symm.trans H;rw [hy305];with_reducible exact H2_) | (have H2_ := (Option.bind_some _ _).symm.trans H;with_reducible exact H2_) | with_reducible exact H | (rw [hy305];exact H) | exact H
        have Ny305 := am_ hy305
        clear hy305
        have H' := am_ H
        clear H
        have p10 : 0 ≤ (x6_1 : Int) := zo_
        have q10 : (x6_1 : Int) < ((x5_1.length : Int) : Int) := zo_
        obtain ⟨go10,co10,eo10,gb10,gl10,cl10,HG10⟩ := Kd.R_form HO_5.out (by omega)
        (first | cases eo10 | (injection eo10 with ea_ en_ ec_;(first | subst ea_ | (injection ea_ with ea_;subst ea_));subst ec_;clear en_))
        have GB10 := am_ gb10
        have GG10 := am_ HG10
        clear gb10 gl10 HG10
        obtain ⟨hx10_0,hf10_0⟩ := Kd.R_celln 0 HO_5.out (x6_1 : Int) p10 q10
        replace p10 := eq_true p10
        replace q10 := eq_true q10
        have HP11 := Kd.R_putg HO_5.out (x6_1 : Int) ((x0_1) % 256)
        go_wp2_with (first | ((with_reducible refine gate_store (t := 5) (p := 19) rfl ?_);refine store_event (t := 5) (p := 19) (v := ?vo_w12) (w1 := (wr.setCell ⟨go10,(x6_1 : Int).toNat,none⟩ (.int .u8 ((x0_1) % 256)))) ?hg ?ho ?hn ?hr ?_;(case ho => rfl);(case hg => rfl);(case hn => rfl);(case hr => first | (go_simp;done) | (go_simp;rfl));intro w12 hw;have hg : wr.grownBy w12 (some go10) := (by rw [hw];exact HP11.2);have hp_ : Kd.R (Kd.int .u8) 5 w12 w.heap.size (fun _ => True) (.slice (some ⟨go10,0,none⟩) x5_1.length co10) y305 := (by rw [hw,Ny305.out];exact HP11.1);clear HP11;replace HO_5 := am_ (hp_);replace HB := am_ ((by rw [hw];exact below_set (HB.out) GB10.out : Below w.heap.size w w12));clear hg hw hp_))
        go_roundg k1
        case measure => have := HK1.out;omega
        case rel => exact ⟨(x0_1 / 256),(y305),(wrap64 (x6_1 - 1)),(by first | rfl | (simp;done) | (simp [*];done)),(by first | rfl | (simp;done) | (simp [*];done)),H',⟨by have := HK1.out;omega⟩,⟨zr HO_5⟩,⟨zl_ HB⟩⟩
       ·rw [if_neg c9] at H
        exact absurd H (by simp)
      ·rw [if_neg c8] at H
       exact absurd H (by simp)
     ·rw [if_neg c7] at H
      have c7b0 : decide (0 ≤ x6_1) = false := decide_eq_false c7
      clear c7
      obtain rfl := Option.some.inj H
      have hcv13 := own_string (P := Try.prog) Try.underlying24 Try.underlying5 Try.underlying9 (Kd.own_of_R HO_5.out)
      go_wp2
      go_ret
      exact ⟨zt_,zl_ HB⟩
  ·rw [if_neg c4] at H
   exact absurd H (by simp)
 ·rw [if_neg c3] at H
  exact absurd H (by simp)
set_option maxHeartbeats 8000000 in
set_option maxRecDepth 100000 in
theorem impl_listText.calls (k : Nat) (A0 : Option Addr) (c0 : Nat) (l0 : List ByteArray) (r1 : ByteArray) (r2 : Int) (w : World) (hr0 : Kd.C Kd.string w A0 l0.length l0) (hc0 : l0.length ≤ c0) (h : impl_listText.f k l0 = some (r1,r2)) :
  Calls Try.prog 70 #[.slice A0 l0.length c0] w fun e w' => e = .returned (.tuple #[.string r1,.int .i64 r2]) ∧ Below w.heap.size w w' := by
 have HR0 := am_ hr0
 have HC0 := am_ hc0
 clear hr0 hc0
 have HB := am_ (Below.refl w.heap.size w)
 have H : (if (l0.length : Int) > 100 then (some ((⟨#[]⟩ : ByteArray),1)) else ((impl_number.f k (l0.length : Int) 1).bind fun t315 => (impl_listText.l0 k t315 l0 (l0.length : Int) 0))) = some (r1,r2) := h
 clear h
 by_cases c2 : (l0.length : Int) > 100
 ·rw [if_pos c2] at H
  have c2b0 : decide (100 < (l0.length : Int)) = true := decide_eq_true c2
  have c2b1 : decide (100 < l0.length) = true := decide_eq_true (by omega)
  clear c2
  simp only [Option.some.injEq,Prod.mk.injEq] at H
  obtain ⟨rfl,rfl⟩ := H
  go_enter Try.func70,Try.ntmps70
  go_wp2
  go_ret2
  exact ⟨zt_,zl_ HB⟩
 ·rw [if_neg c2] at H
  have c2b0 : decide (100 < (l0.length : Int)) = false := decide_eq_false c2
  have c2b1 : decide (100 < l0.length) = false := decide_eq_false (by omega)
  clear c2
  replace H := Option.bind_eq_some_iff.mp H
  obtain ⟨t315,A30,H⟩ := H
  try dsimp only at H
  have A3 := am_ A30
  clear A30
  have H' := am_ H
  clear H
  go_enter Try.func70,Try.ntmps70
  go_wp2_with (first | ((with_reducible refine gate_callee (f := 85) rfl ?_);refine zgl (some 12) Try.func85 #[.int .i64 (l0.length : Int),.int .i64 1] ?_;(with_reducible refine (impl_number.calls k (l0.length : Int) 1 t315 _ A3.out).mono ?_);rintro e w4 ⟨rfl,hb⟩;refine ⟨_,rfl,?_⟩;replace HB := zs_ HB hb;(try clear hb);(try clear hb2);(try clear hk);(try clear hi)))
  go_loopg [4,15] k (fun kq v4 v15 w' => ∃ (x4_1 : ByteArray) (x15_1 : Int),v4 = .string x4_1 ∧ v15 = .int .i64 x15_1 ∧ Aside0 (impl_listText.l0 kq x4_1 l0 (l0.length : Int) x15_1 = some (r1,r2)) ∧ Aside0 (kq ≤ k) ∧ Aside0 (Below w.heap.size w w'))
  case atStart => exact ⟨(t315),(0),(by first | rfl | (simp;done) | (simp [*];done)),(by first | rfl | (simp;done) | (simp [*];done)),H',⟨Nat.le_refl _⟩,⟨zl_ HB⟩⟩
  case round =>
   clear H'
   try clear c2
   try clear c2b0
   try clear c2b1
   try clear p2
   obtain ⟨x4_1,x15_1,rfl,rfl,HA,HK1,HB⟩ := hrel
   cases gk with
   | zero => exact absurd HA.out (by simp [impl_listText.l0])
   | succ k1 =>
    have H := HA.out
    clear HA
    simp only [impl_listText.l0] at H
    by_cases c5 : x15_1 < (l0.length : Int)
    ·rw [if_pos c5] at H
     have c5b0 : decide (x15_1 < (l0.length : Int)) = true := decide_eq_true c5
     clear c5
     by_cases c6 : 0 ≤ x15_1
     ·rw [if_pos c6] at H
      have c6b0 : decide (0 ≤ x15_1) = true := decide_eq_true c6
      clear c6
      by_cases c7 : x15_1 < (l0.length : Int)
      ·rw [if_pos c7] at H
       have c7b0 : decide (x15_1 < (l0.length : Int)) = true := decide_eq_true c7
       clear c7
       by_cases c8 : ((rdOf ByteArray.empty l0 x15_1).size : Int) > 20000
       ·rw [if_pos c8] at H
        have c8b0 : decide (20000 < ((rdOf ByteArray.empty l0 x15_1).size : Int)) = true := decide_eq_true c8
        have c8b1 : decide (20000 < (rdOf ByteArray.empty l0 x15_1).size) = true := decide_eq_true (by omega)
        clear c8
        simp only [Option.some.injEq,Prod.mk.injEq] at H
        obtain ⟨rfl,rfl⟩ := H
        have p316 : 0 ≤ (x15_1 : Int) := zo_
        have q316 : x15_1 < (l0.length : Int) := zo_
        obtain ⟨ad316,e316,hx316_0⟩ := Kd.at_string HR0.out x15_1 p316 q316
        cases e316
        replace hx316_0 := zx_ HB hx316_0
        replace p316 := eq_true p316
        replace q316 := eq_true q316
        go_wp2
        go_ret2
        exact ⟨zt_,zl_ HB⟩
       ·rw [if_neg c8] at H
        have c8b0 : decide (20000 < ((rdOf ByteArray.empty l0 x15_1).size : Int)) = false := decide_eq_false c8
        have c8b1 : decide (20000 < (rdOf ByteArray.empty l0 x15_1).size) = false := decide_eq_false (by omega)
        clear c8
        replace H := Option.bind_eq_some_iff.mp H
        obtain ⟨t317,A90,H⟩ := H
        try dsimp only at H
        have A9 := am_ A90
        clear A90
        by_cases c10 : t317.size + (rdOf ByteArray.empty l0 x15_1).size ≤ 9223372036854775807
        ·rw [if_pos c10] at H
         have c10b0 := eq_true c10
         have c10b1 : decide (t317.size + (rdOf ByteArray.empty l0 x15_1).size ≤ 9223372036854775807) = true := decide_eq_true c10
         try have c10b2 : (9223372036854775807 < t317.size + (rdOf ByteArray.empty l0 x15_1).size) = False := eq_false (Nat.not_lt.2 c10)
         by_cases c11 : x4_1.size + (t317 ++ (rdOf ByteArray.empty l0 x15_1)).size ≤ 9223372036854775807
         ·rw [if_pos c11] at H
          have c11b0 := eq_true c11
          have c11b1 : decide (x4_1.size + (t317 ++ (rdOf ByteArray.empty l0 x15_1)).size ≤ 9223372036854775807) = true := decide_eq_true c11
          try have c11b2 : (9223372036854775807 < x4_1.size + (t317 ++ (rdOf ByteArray.empty l0 x15_1)).size) = False := eq_false (Nat.not_lt.2 c11)
          (try have c11b3 := c11b2;simp only [ByteArray.size_append] at c11b3)
          by_cases c12 : ((x4_1 ++ (t317 ++ (rdOf ByteArray.empty l0 x15_1))).size : Int) > 65536
          ·rw [if_pos c12] at H
           have c12b0 : decide (65536 < ((x4_1 ++ (t317 ++ (rdOf ByteArray.empty l0 x15_1))).size : Int)) = true := decide_eq_true c12
           have c12b1 : decide (65536 < (x4_1 ++ (t317 ++ (rdOf ByteArray.empty l0 x15_1))).size) = true := decide_eq_true (by omega)
           (try have c12z0 := c12b0;simp only [ByteArray.size_append,Int.natCast_add] at c12z0)
           (try have c12z1 := c12b1;simp only [ByteArray.size_append,Int.natCast_add] at c12z1)
           clear c12
           simp only [Option.some.injEq,Prod.mk.injEq] at H
           obtain ⟨rfl,rfl⟩ := H
           have p316 : 0 ≤ (x15_1 : Int) := zo_
           have q316 : x15_1 < (l0.length : Int) := zo_
           obtain ⟨ad316,e316,hx316_0⟩ := Kd.at_string HR0.out x15_1 p316 q316
           cases e316
           replace hx316_0 := zx_ HB hx316_0
           replace p316 := eq_true p316
           replace q316 := eq_true q316
           go_wp2_with (first | ((with_reducible refine gate_callee (f := 85) rfl ?_);refine zgl (some 25) Try.func85 #[.int .i64 ((rdOf ByteArray.empty l0 x15_1).size : Int),.int .i64 2] ?_;(with_reducible refine (impl_number.calls k1 ((rdOf ByteArray.empty l0 x15_1).size : Int) 2 t317 _ A9.out).mono ?_);rintro e w13 ⟨rfl,hb⟩;refine ⟨_,rfl,?_⟩;replace HB := zs_ HB hb;(try clear hb);(try clear hb2);(try clear hk);(try clear hi)))
           go_ret2
           exact ⟨zt_,zl_ HB⟩
          ·rw [if_neg c12] at H
           have c12b0 : decide (65536 < ((x4_1 ++ (t317 ++ (rdOf ByteArray.empty l0 x15_1))).size : Int)) = false := decide_eq_false c12
           have c12b1 : decide (65536 < (x4_1 ++ (t317 ++ (rdOf ByteArray.empty l0 x15_1))).size) = false := decide_eq_false (by omega)
           (try have c12z0 := c12b0;simp only [ByteArray.size_append,Int.natCast_add] at c12z0)
           (try have c12z1 := c12b1;simp only [ByteArray.size_append,Int.natCast_add] at c12z1)
           clear c12
           have H' := am_ H
           clear H
           have p316 : 0 ≤ (x15_1 : Int) := zo_
           have q316 : x15_1 < (l0.length : Int) := zo_
           obtain ⟨ad316,e316,hx316_0⟩ := Kd.at_string HR0.out x15_1 p316 q316
           cases e316
           replace hx316_0 := zx_ HB hx316_0
           replace p316 := eq_true p316
           replace q316 := eq_true q316
           go_wp2_with (first | ((with_reducible refine gate_callee (f := 85) rfl ?_);refine zgl (some 25) Try.func85 #[.int .i64 ((rdOf ByteArray.empty l0 x15_1).size : Int),.int .i64 2] ?_;(with_reducible refine (impl_number.calls k1 ((rdOf ByteArray.empty l0 x15_1).size : Int) 2 t317 _ A9.out).mono ?_);rintro e w14 ⟨rfl,hb⟩;refine ⟨_,rfl,?_⟩;replace HB := zs_ HB hb;(try clear hb);(try clear hb2);(try clear hk);(try clear hi)))
           go_roundg k1
           case measure => have := HK1.out;omega
           case rel => exact ⟨(x4_1 ++ (t317 ++ (rdOf ByteArray.empty l0 x15_1))),(wrap64 (x15_1 + 1)),(by first | rfl | (simp;done) | (simp [*];done)),(by first | rfl | (simp;done) | (simp [*];done)),H',⟨by have := HK1.out;omega⟩,⟨zl_ HB⟩⟩
         ·rw [if_neg c11] at H
          exact absurd H (by simp)
        ·rw [if_neg c10] at H
         exact absurd H (by simp)
      ·rw [if_neg c7] at H
       exact absurd H (by simp)
     ·rw [if_neg c6] at H
      exact absurd H (by simp)
    ·rw [if_neg c5] at H
     have c5b0 : decide (x15_1 < (l0.length : Int)) = false := decide_eq_false c5
     clear c5
     simp only [Option.some.injEq,Prod.mk.injEq] at H
     obtain ⟨rfl,rfl⟩ := H
     go_wp2
     go_ret2
     exact ⟨zt_,zl_ HB⟩
def impl_bareText.T1 : Bool × List (List Nat × List Nat) := (true,[([],[]),([0],[0]),([1],[1]),([],[]),([3],[3]),([4,2],[4]),([2,5],[2,5]),([],[]),([7],[7]),([8,5],[8]),([6,9],[6,9]),([],[]),([11],[11]),([12,9],[12]),([10,13],[10,13]),([],[]),([15],[15]),([16],[16]),([17,13],[17]),([14,18],[14,18]),([],[]),([20],[20]),([19,21],[19,21]),([],[]),([23],[23]),([24],[24]),([25,18],[25]),([22,26],[22,26]),([],[]),([28],[28]),([27,29],[27,29]),([30,26,0,1,2,3,4,5,6,7,8,9,10,11,12,13,14,15,16,17,18,19,20,21,22,23,24,25,26,27,28,29,30],[30])])
def impl_bareText.B1 : List Nat := [0,1,3,0,8,31,63,0,128,447,1023,0,2048,7103,16383,0,32768,98304,244671,524287,0,1048576,4194303,0,8388608,25165824,59227071,134217727,0,268435456,1073741823,2147483647]
theorem impl_bareText.tab1 : rtab .any (opsOf Try.f84 1) = impl_bareText.T1 := by kernel_rfl
theorem impl_bareText.bits1 : waitsOk impl_bareText.T1.2 impl_bareText.B1 = true := by kernel_rfl
set_option maxHeartbeats 8000000 in
set_option maxRecDepth 100000 in
theorem impl_bareText.calls (k : Nat) (a0_0 : Int) (a0_1 : Int) (a0_2 : Int) (a0_3 : Int) (a0_4 : ByteArray) (a0_5 : ByteArray) (a0_6 : ByteArray) (r : ByteArray) (w : World) (h : impl_bareText.f k a0_0 a0_1 a0_2 a0_3 a0_4 a0_5 a0_6 = some r) :
  Calls Try.prog 84 #[.agg #[.int .i64 a0_0,.int .i64 a0_1,.int .i64 a0_2,.int .i64 a0_3,.string a0_4,.string a0_5,.string a0_6]] w fun e w' => e = .returned (.string r) ∧ Below w.heap.size w w' := by
 have hu63 := Try.underlying63
 have HB := am_ (Below.refl w.heap.size w)
 have H : ((impl_number.f k a0_0 1).bind fun t307 => ((impl_number.f k a0_1 1).bind fun t308 => (if t307.size + t308.size ≤ 9223372036854775807 then ((impl_number.f k a0_2 1).bind fun t309 => (if (t307 ++ t308).size + t309.size ≤ 9223372036854775807 then ((impl_number.f k a0_3 1).bind fun t310 => (if ((t307 ++ t308) ++ t309).size + t310.size ≤ 9223372036854775807 then ((impl_number.f k (a0_4.size : Int) 1).bind fun t311 => (if (((t307 ++ t308) ++ t309) ++ t310).size + t311.size ≤ 9223372036854775807 then (if ((((t307 ++ t308) ++ t309) ++ t310) ++ t311).size + a0_4.size ≤ 9223372036854775807 then ((impl_number.f k (a0_5.size : Int) 2).bind fun t312 => (if (((((t307 ++ t308) ++ t309) ++ t310) ++ t311) ++ a0_4).size + t312.size ≤ 9223372036854775807 then (if ((((((t307 ++ t308) ++ t309) ++ t310) ++ t311) ++ a0_4) ++ t312).size + a0_5.size ≤ 9223372036854775807 then (some (((((((t307 ++ t308) ++ t309) ++ t310) ++ t311) ++ a0_4) ++ t312) ++ a0_5)) else (none)) else (none))) else (none)) else (none))) else (none))) else (none))) else (none)))) = some r := h
 clear h
 replace H := Option.bind_eq_some_iff.mp H
 obtain ⟨t307,A20,H⟩ := H
 try dsimp only at H
 have A2 := am_ A20
 clear A20
 replace H := Option.bind_eq_some_iff.mp H
 obtain ⟨t308,A30,H⟩ := H
 try dsimp only at H
 have A3 := am_ A30
 clear A30
 by_cases c4 : t307.size + t308.size ≤ 9223372036854775807
 ·rw [if_pos c4] at H
  have c4b0 := eq_true c4
  have c4b1 : decide (t307.size + t308.size ≤ 9223372036854775807) = true := decide_eq_true c4
  try have c4b2 : (9223372036854775807 < t307.size + t308.size) = False := eq_false (Nat.not_lt.2 c4)
  replace H := Option.bind_eq_some_iff.mp H
  obtain ⟨t309,A50,H⟩ := H
  try dsimp only at H
  have A5 := am_ A50
  clear A50
  by_cases c6 : (t307 ++ t308).size + t309.size ≤ 9223372036854775807
  ·rw [if_pos c6] at H
   have c6b0 := eq_true c6
   have c6b1 : decide ((t307 ++ t308).size + t309.size ≤ 9223372036854775807) = true := decide_eq_true c6
   try have c6b2 : (9223372036854775807 < (t307 ++ t308).size + t309.size) = False := eq_false (Nat.not_lt.2 c6)
   (try have c6b3 := c6b2;simp only [ByteArray.size_append] at c6b3)
   replace H := Option.bind_eq_some_iff.mp H
   obtain ⟨t310,A70,H⟩ := H
   try dsimp only at H
   have A7 := am_ A70
   clear A70
   by_cases c8 : ((t307 ++ t308) ++ t309).size + t310.size ≤ 9223372036854775807
   ·rw [if_pos c8] at H
    have c8b0 := eq_true c8
    have c8b1 : decide (((t307 ++ t308) ++ t309).size + t310.size ≤ 9223372036854775807) = true := decide_eq_true c8
    try have c8b2 : (9223372036854775807 < ((t307 ++ t308) ++ t309).size + t310.size) = False := eq_false (Nat.not_lt.2 c8)
    (try have c8b3 := c8b2;simp only [ByteArray.size_append] at c8b3)
    replace H := Option.bind_eq_some_iff.mp H
    obtain ⟨t311,A90,H⟩ := H
    try dsimp only at H
    have A9 := am_ A90
    clear A90
    by_cases c10 : (((t307 ++ t308) ++ t309) ++ t310).size + t311.size ≤ 9223372036854775807
    ·rw [if_pos c10] at H
     have c10b0 := eq_true c10
     have c10b1 : decide ((((t307 ++ t308) ++ t309) ++ t310).size + t311.size ≤ 9223372036854775807) = true := decide_eq_true c10
     try have c10b2 : (9223372036854775807 < (((t307 ++ t308) ++ t309) ++ t310).size + t311.size) = False := eq_false (Nat.not_lt.2 c10)
     (try have c10b3 := c10b2;simp only [ByteArray.size_append] at c10b3)
     by_cases c11 : ((((t307 ++ t308) ++ t309) ++ t310) ++ t311).size + a0_4.size ≤ 9223372036854775807
     ·rw [if_pos c11] at H
      have c11b0 := eq_true c11
      have c11b1 : decide (((((t307 ++ t308) ++ t309) ++ t310) ++ t311).size + a0_4.size ≤ 9223372036854775807) = true := decide_eq_true c11
      try have c11b2 : (9223372036854775807 < ((((t307 ++ t308) ++ t309) ++ t310) ++ t311).size + a0_4.size) = False := eq_false (Nat.not_lt.2 c11)
      (try have c11b3 := c11b2;simp only [ByteArray.size_append] at c11b3)
      replace H := Option.bind_eq_some_iff.mp H
      obtain ⟨t312,A120,H⟩ := H
      try dsimp only at H
      have A12 := am_ A120
      clear A120
      by_cases c13 : (((((t307 ++ t308) ++ t309) ++ t310) ++ t311) ++ a0_4).size + t312.size ≤ 9223372036854775807
      ·rw [if_pos c13] at H
       have c13b0 := eq_true c13
       have c13b1 : decide ((((((t307 ++ t308) ++ t309) ++ t310) ++ t311) ++ a0_4).size + t312.size ≤ 9223372036854775807) = true := decide_eq_true c13
       try have c13b2 : (9223372036854775807 < (((((t307 ++ t308) ++ t309) ++ t310) ++ t311) ++ a0_4).size + t312.size) = False := eq_false (Nat.not_lt.2 c13)
       (try have c13b3 := c13b2;simp only [ByteArray.size_append] at c13b3)
       by_cases c14 : ((((((t307 ++ t308) ++ t309) ++ t310) ++ t311) ++ a0_4) ++ t312).size + a0_5.size ≤ 9223372036854775807
       ·rw [if_pos c14] at H
        have c14b0 := eq_true c14
        have c14b1 : decide (((((((t307 ++ t308) ++ t309) ++ t310) ++ t311) ++ a0_4) ++ t312).size + a0_5.size ≤ 9223372036854775807) = true := decide_eq_true c14
        try have c14b2 : (9223372036854775807 < ((((((t307 ++ t308) ++ t309) ++ t310) ++ t311) ++ a0_4) ++ t312).size + a0_5.size) = False := eq_false (Nat.not_lt.2 c14)
        (try have c14b3 := c14b2;simp only [ByteArray.size_append] at c14b3)
        obtain rfl := Option.some.inj H
        go_enter Try.func84,Try.ntmps84
        try go_wp2_with (first | ((with_reducible refine gate_dst (N := 1) rfl ?_);refine zbx (N := 1) (cs := #[.int .i64 a0_0,.int .i64 a0_1,.int .i64 a0_2,.int .i64 a0_3,.string a0_4,.string a0_5,.string a0_6]) (t := 63) ?_;intro gb306 hg w15 hbox hb;have BK306 := am_ (hbox);have GW306 := zw_ HB hg;have GE306 := zw_ HB hg;replace HB := zs_ HB hb;clear hb hbox hg))
        replace BK306 := am_ (blk_drew BK306.out)
        replace HB := am_ (below_drew1 HB.out)
        refine start_ (n := 32) (S := fun w' => w'.cell? ⟨gb306,0,none⟩ = some (.int .i64 a0_0) ∧ w'.cell? ⟨gb306,1,none⟩ = some (.int .i64 a0_1) ∧ w'.cell? ⟨gb306,2,none⟩ = some (.int .i64 a0_2) ∧ w'.cell? ⟨gb306,3,none⟩ = some (.int .i64 a0_3) ∧ w'.cell? ⟨gb306,4,none⟩ = some (.string a0_4) ∧ w'.cell? ⟨gb306,5,none⟩ = some (.string a0_5) ∧ w'.cell? ⟨gb306,6,none⟩ = some (.string a0_6)) (ds := []) #[false,false,false,false,false,false,false,false,false,false,false,false,false,false,false,false,false,false,false,false,false,false,false,false,false,false,false,false,false,false,false,false] (by kernel_rfl) rfl rfl ⟨(blk_cell BK306.out 0).trans rfl,(blk_cell BK306.out 1).trans rfl,(blk_cell BK306.out 2).trans rfl,(blk_cell BK306.out 3).trans rfl,(blk_cell BK306.out 4).trans rfl,(blk_cell BK306.out 5).trans rfl,(blk_cell BK306.out 6).trans rfl⟩ (fun hHeld => ?_);refine with_tabW impl_bareText.tab1 impl_bareText.bits1 (fun HT_ HW_ => ?_)
        generalize w15.drew = w16 at BK306 HB hHeld ⊢
        refine zpu 0 (N := some 3) HT_ ?_
        refine zpu 3 (N := some 6) HT_ ?_
        refine zpu 7 (N := some 10) HT_ ?_
        refine zpu 11 (N := some 14) HT_ ?_
        refine zpu 15 (N := some 18) HT_ ?_
        refine zpu 20 (N := some 23) HT_ ?_
        refine zpu 23 (N := some 26) HT_ ?_
        refine zpu 28 (N := some 31) HT_ ?_
        refine ztk 1 (N := some 4) HT_ HW_ hHeld ?_
        refine ztk 4 (N := some 7) HT_ HW_ hHeld ?_
        refine ztk 8 (N := some 11) HT_ HW_ hHeld ?_
        refine ztk 12 (N := some 15) HT_ HW_ hHeld ?_
        refine ztk 16 (N := some 19) HT_ HW_ hHeld ?_
        refine zpu 17 (N := some 20) HT_ ?_
        refine ztk 21 (N := some 24) HT_ HW_ hHeld ?_
        refine ztk 24 (N := some 27) HT_ HW_ hHeld ?_
        refine zpu 25 (N := some 28) HT_ ?_
        refine ztk 29 (N := some 32) HT_ HW_ hHeld ?_
        refine zon 2 (N := some 5) HT_ (fun K hK => ?_)
        refine zgo Try.func85 #[.int .i64 a0_0,.int .i64 1] ?_
        with_reducible refine (impl_number.calls k a0_0 1 t307 _ A2.out).mono ?_
        rintro e w17 ⟨rfl,hb⟩
        refine ⟨_,rfl,?_⟩
        replace BK306 := zb BK306 hb
        replace HB := zs_ HB hb
        (try clear hb)
        (try clear hb2)
        (try clear hk)
        (try clear hi)
        refine hK.out _ _ ⟨(blk_cell BK306.out 0).trans rfl,(blk_cell BK306.out 1).trans rfl,(blk_cell BK306.out 2).trans rfl,(blk_cell BK306.out 3).trans rfl,(blk_cell BK306.out 4).trans rfl,(blk_cell BK306.out 5).trans rfl,(blk_cell BK306.out 6).trans rfl⟩ (fun hHeld => ?_)
        clear hK K
        refine norm_ (a' := ?_) ?_ ?_
        rotate_left
        ·show Act.put _ (some 5) _ = _
         simp only [Act.put,p1_,p2_,p3_,i64_w,i32_w]
         rfl
        refine zon 5 (N := some 8) HT_ (fun K hK => ?_)
        refine zgo Try.func85 #[.int .i64 a0_1,.int .i64 1] ?_
        with_reducible refine (impl_number.calls k a0_1 1 t308 _ A3.out).mono ?_
        rintro e w18 ⟨rfl,hb⟩
        refine ⟨_,rfl,?_⟩
        replace BK306 := zb BK306 hb
        replace HB := zs_ HB hb
        (try clear hb)
        (try clear hb2)
        (try clear hk)
        (try clear hi)
        refine hK.out _ _ ⟨(blk_cell BK306.out 0).trans rfl,(blk_cell BK306.out 1).trans rfl,(blk_cell BK306.out 2).trans rfl,(blk_cell BK306.out 3).trans rfl,(blk_cell BK306.out 4).trans rfl,(blk_cell BK306.out 5).trans rfl,(blk_cell BK306.out 6).trans rfl⟩ (fun hHeld => ?_)
        clear hK K
        refine norm_ (a' := ?_) ?_ ?_
        rotate_left
        ·show Act.put _ (some 8) _ = _
         simp only [Act.put,p1_,p2_,p3_,i64_w,i32_w]
         rfl
        refine zpu 6 (N := some 9) HT_ ?_
        refine zon 9 (N := some 12) HT_ (fun K hK => ?_)
        refine zgo Try.func85 #[.int .i64 a0_2,.int .i64 1] ?_
        with_reducible refine (impl_number.calls k a0_2 1 t309 _ A5.out).mono ?_
        rintro e w19 ⟨rfl,hb⟩
        refine ⟨_,rfl,?_⟩
        replace BK306 := zb BK306 hb
        replace HB := zs_ HB hb
        (try clear hb)
        (try clear hb2)
        (try clear hk)
        (try clear hi)
        refine hK.out _ _ ⟨(blk_cell BK306.out 0).trans rfl,(blk_cell BK306.out 1).trans rfl,(blk_cell BK306.out 2).trans rfl,(blk_cell BK306.out 3).trans rfl,(blk_cell BK306.out 4).trans rfl,(blk_cell BK306.out 5).trans rfl,(blk_cell BK306.out 6).trans rfl⟩ (fun hHeld => ?_)
        clear hK K
        refine norm_ (a' := ?_) ?_ ?_
        rotate_left
        ·show Act.put _ (some 12) _ = _
         simp only [Act.put,p1_,p2_,p3_,i64_w,i32_w]
         rfl
        refine zpu 10 (N := some 13) HT_ ?_
        refine zon 13 (N := some 16) HT_ (fun K hK => ?_)
        refine zgo Try.func85 #[.int .i64 a0_3,.int .i64 1] ?_
        with_reducible refine (impl_number.calls k a0_3 1 t310 _ A7.out).mono ?_
        rintro e w20 ⟨rfl,hb⟩
        refine ⟨_,rfl,?_⟩
        replace BK306 := zb BK306 hb
        replace HB := zs_ HB hb
        (try clear hb)
        (try clear hb2)
        (try clear hk)
        (try clear hi)
        refine hK.out _ _ ⟨(blk_cell BK306.out 0).trans rfl,(blk_cell BK306.out 1).trans rfl,(blk_cell BK306.out 2).trans rfl,(blk_cell BK306.out 3).trans rfl,(blk_cell BK306.out 4).trans rfl,(blk_cell BK306.out 5).trans rfl,(blk_cell BK306.out 6).trans rfl⟩ (fun hHeld => ?_)
        clear hK K
        refine norm_ (a' := ?_) ?_ ?_
        rotate_left
        ·show Act.put _ (some 16) _ = _
         simp only [Act.put,p1_,p2_,p3_,i64_w,i32_w]
         rfl
        refine zpu 14 (N := some 17) HT_ ?_
        refine zon 18 (N := some 21) HT_ (fun K hK => ?_)
        refine zgo Try.func85 #[.int .i64 (a0_4.size : Int),.int .i64 1] ?_
        with_reducible refine (impl_number.calls k (a0_4.size : Int) 1 t311 _ A9.out).mono ?_
        rintro e w21 ⟨rfl,hb⟩
        refine ⟨_,rfl,?_⟩
        replace BK306 := zb BK306 hb
        replace HB := zs_ HB hb
        (try clear hb)
        (try clear hb2)
        (try clear hk)
        (try clear hi)
        refine hK.out _ _ ⟨(blk_cell BK306.out 0).trans rfl,(blk_cell BK306.out 1).trans rfl,(blk_cell BK306.out 2).trans rfl,(blk_cell BK306.out 3).trans rfl,(blk_cell BK306.out 4).trans rfl,(blk_cell BK306.out 5).trans rfl,(blk_cell BK306.out 6).trans rfl⟩ (fun hHeld => ?_)
        clear hK K
        refine norm_ (a' := ?_) ?_ ?_
        rotate_left
        ·show Act.put _ (some 21) _ = _
         simp only [Act.put,p1_,p2_,p3_,i64_w,i32_w]
         rfl
        refine zpu 19 (N := some 22) HT_ ?_
        refine zpu 22 (N := some 25) HT_ ?_
        refine zon 26 (N := some 29) HT_ (fun K hK => ?_)
        refine zgo Try.func85 #[.int .i64 (a0_5.size : Int),.int .i64 2] ?_
        with_reducible refine (impl_number.calls k (a0_5.size : Int) 2 t312 _ A12.out).mono ?_
        rintro e w22 ⟨rfl,hb⟩
        refine ⟨_,rfl,?_⟩
        replace BK306 := zb BK306 hb
        replace HB := zs_ HB hb
        (try clear hb)
        (try clear hb2)
        (try clear hk)
        (try clear hi)
        refine hK.out _ _ ⟨(blk_cell BK306.out 0).trans rfl,(blk_cell BK306.out 1).trans rfl,(blk_cell BK306.out 2).trans rfl,(blk_cell BK306.out 3).trans rfl,(blk_cell BK306.out 4).trans rfl,(blk_cell BK306.out 5).trans rfl,(blk_cell BK306.out 6).trans rfl⟩ (fun hHeld => ?_)
        clear hK K
        refine norm_ (a' := ?_) ?_ ?_
        rotate_left
        ·show Act.put _ (some 29) _ = _
         simp only [Act.put,p1_,p2_,p3_,i64_w,i32_w]
         rfl
        refine zpu 27 (N := some 30) HT_ ?_
        refine zpu 30 (N := some 33) HT_ ?_
        refine zpu 31 (N := some 2) HT_ ?_
        refine done_ (done_of HT_.out (by kernel_rfl)) ?_
        try go_wp2
        go_ret
        exact ⟨zt_,zl_ HB⟩
       ·rw [if_neg c14] at H
        exact absurd H (by simp)
      ·rw [if_neg c13] at H
       exact absurd H (by simp)
     ·rw [if_neg c11] at H
      exact absurd H (by simp)
    ·rw [if_neg c10] at H
     exact absurd H (by simp)
   ·rw [if_neg c8] at H
    exact absurd H (by simp)
  ·rw [if_neg c6] at H
   exact absurd H (by simp)
 ·rw [if_neg c4] at H
  exact absurd H (by simp)
set_option maxHeartbeats 8000000 in
set_option maxRecDepth 100000 in
theorem impl_messageText.calls (k : Nat) (a0_0 : Int) (a0_1 : Int) (a0_2 : Int) (a0_3 : Int) (a0_4 : ByteArray) (a0_5 : ByteArray) (a0_6 : ByteArray) (r : ByteArray) (w : World) (h : impl_messageText.f k a0_0 a0_1 a0_2 a0_3 a0_4 a0_5 a0_6 = some r) :
  Calls Try.prog 69 #[.agg #[.int .i64 a0_0,.int .i64 a0_1,.int .i64 a0_2,.int .i64 a0_3,.string a0_4,.string a0_5,.string a0_6]] w fun e w' => e = .returned (.string r) ∧ Below w.heap.size w w' := by
 have hu63 := Try.underlying63
 have HB := am_ (Below.refl w.heap.size w)
 have H : ((impl_bareText.f k a0_0 a0_1 a0_2 a0_3 a0_4 a0_5 a0_6).bind fun t314 => (if t314.size + a0_6.size ≤ 9223372036854775807 then (some (t314 ++ a0_6)) else (none))) = some r := h
 clear h
 replace H := Option.bind_eq_some_iff.mp H
 obtain ⟨t314,A20,H⟩ := H
 try dsimp only at H
 have A2 := am_ A20
 clear A20
 by_cases c3 : t314.size + a0_6.size ≤ 9223372036854775807
 ·rw [if_pos c3] at H
  have c3b0 := eq_true c3
  have c3b1 : decide (t314.size + a0_6.size ≤ 9223372036854775807) = true := decide_eq_true c3
  try have c3b2 : (9223372036854775807 < t314.size + a0_6.size) = False := eq_false (Nat.not_lt.2 c3)
  obtain rfl := Option.some.inj H
  go_enter Try.func69,Try.ntmps69
  try go_wp2_with (first | ((with_reducible refine gate_dst (N := 1) rfl ?_);refine zbx (N := 1) (cs := #[.int .i64 a0_0,.int .i64 a0_1,.int .i64 a0_2,.int .i64 a0_3,.string a0_4,.string a0_5,.string a0_6]) (t := 63) ?_;intro gb313 hg w4 hbox hb;have BK313 := am_ (hbox);have GW313 := zw_ HB hg;have GE313 := zw_ HB hg;replace HB := zs_ HB hb;clear hb hbox hg))
  replace BK313 := am_ (blk_drew BK313.out)
  replace HB := am_ (below_drew1 HB.out)
  refine start_ (n := 6) (S := fun w' => w'.cell? ⟨gb313,0,none⟩ = some (.int .i64 a0_0) ∧ w'.cell? ⟨gb313,1,none⟩ = some (.int .i64 a0_1) ∧ w'.cell? ⟨gb313,2,none⟩ = some (.int .i64 a0_2) ∧ w'.cell? ⟨gb313,3,none⟩ = some (.int .i64 a0_3) ∧ w'.cell? ⟨gb313,4,none⟩ = some (.string a0_4) ∧ w'.cell? ⟨gb313,5,none⟩ = some (.string a0_5) ∧ w'.cell? ⟨gb313,6,none⟩ = some (.string a0_6)) (ds := []) #[false,false,false,false,false,false] (by kernel_rfl) rfl rfl ⟨(blk_cell BK313.out 0).trans rfl,(blk_cell BK313.out 1).trans rfl,(blk_cell BK313.out 2).trans rfl,(blk_cell BK313.out 3).trans rfl,(blk_cell BK313.out 4).trans rfl,(blk_cell BK313.out 5).trans rfl,(blk_cell BK313.out 6).trans rfl⟩ (fun hHeld => ?_)
  generalize w4.drew = w5 at BK313 HB hHeld ⊢
  refine pure_ (i := 2) (N := some 5) (v := ?_) (a' := ?_) #[false,false,true,false,false,false] rfl rfl (by kernel_rfl) (fun _ _ _ h => h) (Or.inl ⟨by rfl,?_⟩) ?_ ?_
  rotate_left
  ·intro w'
   go_simp
   with_reducible rfl
  rotate_left
  ·simp only [Act.put,p1_,p2_,p3_,i64_w,i32_w]
   rfl
  refine take_ (i := 0) (N := some 3) (v := ?_) (a' := ?_) #[true,false,true,false,false,false] rfl rfl (by kernel_rfl) (fun _ _ _ h => h) (Or.inl ⟨by rfl,?_⟩) hHeld ?_ ?_
  rotate_left
  ·rintro w' ⟨s0,s1,s2,s3,s4,s5,s6⟩
   go_simp
   with_reducible rfl
  rotate_left
  ·simp only [Act.put,p1_,p2_,p3_,i64_w,i32_w]
   rfl
  refine take_ (i := 3) (N := some 6) (v := ?_) (a' := ?_) #[true,false,true,true,false,false] rfl rfl (by kernel_rfl) (fun _ _ _ h => h) (Or.inl ⟨by rfl,?_⟩) hHeld ?_ ?_
  rotate_left
  ·rintro w' ⟨s0,s1,s2,s3,s4,s5,s6⟩
   go_simp
   with_reducible rfl
  rotate_left
  ·simp only [Act.put,p1_,p2_,p3_,i64_w,i32_w]
   rfl
  refine one_ (i := 1) (N := some 4) #[true,true,true,true,false,false] rfl rfl (by kernel_rfl) (by decide) (fun K hK => ?_)
  refine zgo Try.func84 #[.agg #[.int .i64 a0_0,.int .i64 a0_1,.int .i64 a0_2,.int .i64 a0_3,.string a0_4,.string a0_5,.string a0_6]] ?_
  with_reducible refine (impl_bareText.calls k a0_0 a0_1 a0_2 a0_3 a0_4 a0_5 a0_6 t314 _ A2.out).mono ?_
  rintro e w6 ⟨rfl,hb⟩
  refine ⟨_,rfl,?_⟩
  replace BK313 := zb BK313 hb
  replace HB := zs_ HB hb
  (try clear hb)
  (try clear hb2)
  (try clear hk)
  (try clear hi)
  refine hK.out _ _ ⟨(blk_cell BK313.out 0).trans rfl,(blk_cell BK313.out 1).trans rfl,(blk_cell BK313.out 2).trans rfl,(blk_cell BK313.out 3).trans rfl,(blk_cell BK313.out 4).trans rfl,(blk_cell BK313.out 5).trans rfl,(blk_cell BK313.out 6).trans rfl⟩ (fun hHeld => ?_)
  clear hK K
  refine norm_ (a' := ?_) ?_ ?_
  rotate_left
  ·show Act.put _ (some 4) _ = _
   simp only [Act.put,p1_,p2_,p3_,i64_w,i32_w]
   rfl
  refine pure_ (i := 4) (N := some 7) (v := ?_) (a' := ?_) #[true,true,true,true,true,false] rfl rfl (by kernel_rfl) (fun _ _ _ h => h) (Or.inl ⟨by rfl,?_⟩) ?_ ?_
  rotate_left
  ·intro w'
   go_simp
   with_reducible rfl
  rotate_left
  ·simp only [Act.put,p1_,p2_,p3_,i64_w,i32_w]
   rfl
  refine pure_ (i := 5) (N := some 2) (v := ?_) (a' := ?_) #[true,true,true,true,true,true] rfl rfl (by kernel_rfl) (fun _ _ _ h => h) (Or.inl ⟨by rfl,?_⟩) ?_ ?_
  rotate_left
  ·intro w'
   go_simp
   with_reducible rfl
  rotate_left
  ·simp only [Act.put,p1_,p2_,p3_,i64_w,i32_w]
   rfl
  refine done_ (by kernel_rfl) ?_
  try go_wp2
  go_ret
  exact ⟨zt_,zl_ HB⟩
 ·rw [if_neg c3] at H
  exact absurd H (by simp)
set_option maxHeartbeats 8000000 in
set_option maxRecDepth 100000 in
theorem impl_certText.calls (k : Nat) (a0_0 : ByteArray) (A0_1 : Option Addr) (c0_1 : Nat) (l0_1 : List (S63)) (r1 : ByteArray) (r2 : Int) (w : World) (hr0_1 : Kd.C k63 w A0_1 l0_1.length l0_1) (hc0_1 : l0_1.length ≤ c0_1) (h : impl_certText.f k a0_0 l0_1 = some (r1,r2)) :
  Calls Try.prog 41 #[.agg #[.string a0_0,.slice A0_1 l0_1.length c0_1]] w fun e w' => e = .returned (.tuple #[.string r1,.int .i64 r2]) ∧ Below w.heap.size w w' := by
 have hu39 := Try.underlying39
 have hu63 := Try.underlying63
 have HR0_1 := am_ hr0_1
 have HC0_1 := am_ hc0_1
 clear hr0_1 hc0_1
 have HB := am_ (Below.refl w.heap.size w)
 have H : (if (l0_1.length : Int) > 7 then (impl_certText.j0 k true a0_0 l0_1) else (impl_certText.j0 k (decide ((a0_0.size : Int) > 20000)) a0_0 l0_1)) = some (r1,r2) := h
 clear h
 have HC2 := am_ H
 clear H
 go_enter Try.func41,Try.ntmps41
 go_upto_region 1 with (first | ((with_reducible refine gate_dst (N := 1) rfl ?_);(try (refine gate_guard (by rfl) ?_;dsimp only));refine zbx (N := 1) (cs := #[.string a0_0,.slice A0_1 l0_1.length c0_1]) (t := 39) ?_;intro gb318 hg w3 hbox hb;have BK318 := am_ (hbox);have GW318 := zw_ HB hg;have GE318 := zw_ HB hg;replace HB := zs_ HB hb;clear hb hbox hg))
 (try simp only [Act.put,p1_,p2_,p3_])
 go_cut [16] (fun v16 wc => ∃ (kq : Nat) (x16_1 : Bool),v16 = .bool x16_1 ∧ Aside0 (impl_certText.j0 kq x16_1 a0_0 l0_1 = some (r1,r2)) ∧ Aside0 (kq ≤ k) ∧ Aside0 (wc.heap[gb318]? = some (.cells #[.string a0_0,(.slice A0_1 l0_1.length c0_1)] 39 (0,0))) ∧ Aside0 (Below w.heap.size w wc))
 case first =>
  have H := HC2.out
  clear HC2
  by_cases c4 : (l0_1.length : Int) > 7
  ·rw [if_pos c4] at H
   have c4b0 : decide (7 < (l0_1.length : Int)) = true := decide_eq_true c4
   have c4b1 : decide (7 < l0_1.length) = true := decide_eq_true (by omega)
   clear c4
   (first | rw [c4b0] | (simp only [i64_w,i32_w];rw [c4b0]) | skip)
   have H' := am_ H
   clear H
   obtain ⟨hcz5_0,hcz5_1,hfz5_0,hfz5_1⟩ := zc2 BK318
   go_wp2
   go_meet
   case rel => exact ⟨_,(true),(by first | rfl | (simp;done) | (simp [*];done)),H',⟨by first | omega | exact Nat.le_refl _⟩,⟨by (with_reducible repeat (first | apply k1_ | apply k2_ | apply k3_));exact BK318.out⟩,⟨zl_ HB⟩⟩
  ·rw [if_neg c4] at H
   have c4b0 : decide (7 < (l0_1.length : Int)) = false := decide_eq_false c4
   have c4b1 : decide (7 < l0_1.length) = false := decide_eq_false (by omega)
   clear c4
   (first | rw [c4b0] | (simp only [i64_w,i32_w];rw [c4b0]) | skip)
   have H' := am_ H
   clear H
   obtain ⟨hcz6_0,hcz6_1,hfz6_0,hfz6_1⟩ := zc2 BK318
   go_wp2
   go_meet
   case rel => exact ⟨_,(decide ((a0_0.size : Int) > 20000)),(by first | rfl | (simp;done) | (simp [*];done)),H',⟨by first | omega | exact Nat.le_refl _⟩,⟨by (with_reducible repeat (first | apply k1_ | apply k2_ | apply k3_));exact BK318.out⟩,⟨zl_ HB⟩⟩
 case rest =>
  clear HC2
  try clear p2
  try clear c4
  try clear c4b0
  try clear c4b1
  try clear hcz5_0
  try clear hcz5_1
  try clear hcz6_0
  try clear hcz6_1
  try clear hfz5_0
  try clear hfz5_1
  try clear hfz6_0
  try clear hfz6_1
  obtain ⟨kq,x16_1,rfl,HA,HJ1,BK318,HB⟩ := hcut
  cases kq with
  | zero => exact absurd HA.out (by simp [impl_certText.j0])
  | succ kj1 =>
   have H := HA.out
   clear HA
   simp only [impl_certText.j0] at H
   by_cases c7 : x16_1 = true
   ·subst c7
    have H1 : (some ((⟨#[]⟩ : ByteArray),1)) = some (r1,r2) := by rw [if_pos rfl] at H;exact H
    clear H
    have H := H1
    clear H1
    simp only [Option.some.injEq,Prod.mk.injEq] at H
    obtain ⟨rfl,rfl⟩ := H
    go_wp2
    go_ret2
    exact ⟨zt_,zl_ HB⟩
   ·replace c7 := Bool.eq_false_iff.mpr c7
    subst c7
    have H1 : (impl_certText.l0 kj1 (([a0_0] : List ByteArray)) l0_1 (l0_1.length : Int) 0) = some (r1,r2) := by rw [if_neg (show ¬ (false = true) by decide)] at H;exact H
    clear H
    have H := H1
    clear H1
    obtain ⟨y319,hy319⟩ : ∃ y_ : List ByteArray,y_ = (([a0_0] : List ByteArray)) := ⟨_,rfl⟩
    replace H : (impl_certText.l0 kj1 y319 l0_1 (l0_1.length : Int) 0) = some (r1,r2) := by first | (rw [hy319];with_reducible exact H) | (have H2_ := (Option.bind_some _ _).symm.trans H;rw [hy319];with_reducible exact H2_) | (have H2_ := (Option.bind_some _ _).symm.trans H;with_reducible exact H2_) | with_reducible exact H | (rw [hy319];exact H) | exact H
    have Ny319 := am_ hy319
    clear hy319
    have H' := am_ H
    clear H
    obtain ⟨hcz8_0,hcz8_1,hfz8_0,hfz8_1⟩ := zc2 BK318
    go_wp2_with (first | ((with_reducible refine gate_dst (N := 19) rfl ?_);(try (refine gate_guard (by rfl) ?_;dsimp only));refine Kd.R_lit Kd.string _ 9 ?hg (N := 19) ?hd (xs := ([a0_0] : List ByteArray)) (inner := [.string a0_0]) (ok := fun _ => True) (okp := fun _ => True) ?hr ?hp (fun _ hk => hk) trivial (Below.refl _ _) (Nat.le_refl _) (by simp) ?_;(case hd => rfl);(case hg => rfl);(case hr => first | (go_simp;done) | (go_simp;rfl));(case hp => exact (Reps.one (show Kd.M Kd.string _ _ _ a0_0 [.string a0_0] from rfl) (Reps.none _ _)));intro v320 w9 ho10 hb hg_ hnew_;clear hg_ hnew_;(first | rw [← Ny319.out] at ho10 | (simp only [Int.reduceToNat] at ho10;rw [← Ny319.out] at ho10));have HO321 := am_ (Kd.R_lower ho10 (below_size (zl_ HB)));replace BK318 := zb BK318 hb;replace HB := zs_ HB hb;clear hb ho10;obtain ⟨hcz11_0,hcz11_1,hfz11_0,hfz11_1⟩ := zc2 BK318))
    go_loopg [4,23] kj1 (fun kq v4 v23 w' => ∃ (x4_2 : List ByteArray) (x23_2 : Int),v23 = .int .i64 x23_2 ∧ Aside0 (impl_certText.l0 kq x4_2 l0_1 (l0_1.length : Int) x23_2 = some (r1,r2)) ∧ Aside0 (kq ≤ kj1) ∧ Aside0 (Kd.R Kd.string 9 w' w.heap.size (fun _ => True) v4 x4_2) ∧ Aside0 (w'.heap[gb318]? = some (.cells #[.string a0_0,(.slice A0_1 l0_1.length c0_1)] 39 (0,0))) ∧ Aside0 (Below w.heap.size w w'))
    case atStart => exact ⟨(y319),(0),(by first | rfl | (simp;done) | (simp [*];done)),H',⟨Nat.le_refl _⟩,⟨zr HO321⟩,⟨by (with_reducible repeat (first | apply k1_ | apply k2_ | apply k3_));exact BK318.out⟩,⟨zl_ HB⟩⟩
    case round =>
     clear H'
     try clear p2
     try clear c4
     try clear c4b0
     try clear c4b1
     try clear c7
     try clear hcz11_0
     try clear hcz11_1
     try clear hcz5_0
     try clear hcz5_1
     try clear hcz6_0
     try clear hcz6_1
     try clear hcz8_0
     try clear hcz8_1
     try clear hfz11_0
     try clear hfz11_1
     try clear hfz5_0
     try clear hfz5_1
     try clear hfz6_0
     try clear hfz6_1
     try clear hfz8_0
     try clear hfz8_1
     try clear p2
     obtain ⟨x4_2,x23_2,rfl,HA,HK2,HO_4,BK318,HB⟩ := hrel
     cases gk with
     | zero => exact absurd HA.out (by simp [impl_certText.l0])
     | succ k2 =>
      have H := HA.out
      clear HA
      simp only [impl_certText.l0] at H
      by_cases c12 : x23_2 < (l0_1.length : Int)
      ·rw [if_pos c12] at H
       have c12b0 : decide (x23_2 < (l0_1.length : Int)) = true := decide_eq_true c12
       clear c12
       by_cases c13 : 0 ≤ x23_2
       ·rw [if_pos c13] at H
        have c13b0 : decide (0 ≤ x23_2) = true := decide_eq_true c13
        clear c13
        by_cases c14 : x23_2 < (l0_1.length : Int)
        ·rw [if_pos c14] at H
         have c14b0 : decide (x23_2 < (l0_1.length : Int)) = true := decide_eq_true c14
         clear c14
         replace H := Option.bind_eq_some_iff.mp H
         obtain ⟨t326,A150,H⟩ := H
         try dsimp only at H
         have A15 := am_ A150
         clear A150
         by_cases c16 : t326 = true
         ·subst c16
          have H1 : ((impl_messageText.f k2 ((rd_T63 l0_1 x23_2).f0) ((rd_T63 l0_1 x23_2).f1) ((rd_T63 l0_1 x23_2).f2) ((rd_T63 l0_1 x23_2).f3) ((rd_T63 l0_1 x23_2).f4) ((rd_T63 l0_1 x23_2).f5) ((rd_T63 l0_1 x23_2).f6)).bind fun t327 => (if x4_2.length < 8796093022208 then (impl_certText.l0 k2 (x4_2 ++ [t327]) l0_1 (l0_1.length : Int) (wrap64 (x23_2 + 1))) else (none))) = some (r1,r2) := by rw [if_pos rfl] at H;exact H
          clear H
          have H := H1
          clear H1
          replace H := Option.bind_eq_some_iff.mp H
          obtain ⟨t327,A170,H⟩ := H
          try dsimp only at H
          have A17 := am_ A170
          clear A170
          by_cases c18 : x4_2.length < 8796093022208
          ·rw [if_pos c18] at H
           have LMc18 := am_ c18
           clear c18
           obtain ⟨y328,hy328⟩ : ∃ y_ : List ByteArray,y_ = (x4_2 ++ [t327]) := ⟨_,rfl⟩
           replace H : (impl_certText.l0 k2 y328 l0_1 (l0_1.length : Int) (wrap64 (x23_2 + 1))) = some (r1,r2) := by first | (rw [hy328];with_reducible exact H) | (have H2_ := (Option.bind_some _ _).symm.trans H;rw [hy328];with_reducible exact H2_) | (have H2_ := (Option.bind_some _ _).symm.trans H;with_reducible exact H2_) | with_reducible exact H | (rw [hy328];exact H) | exact H
           have Ny328 := am_ hy328
           clear hy328
           have H' := am_ H
           clear H
           have p324 : 0 ≤ (x23_2 : Int) := zo_
           have q324 : x23_2 < (l0_1.length : Int) := zo_
           obtain ⟨ad324,e324,hx324_0,hx324_1,hx324_2,hx324_3,hx324_4,hx324_5,hx324_6⟩ := at_T63 HR0_1.out x23_2 p324 q324
           cases e324
           replace hx324_0 := zx_ HB hx324_0
           replace hx324_1 := zx_ HB hx324_1
           replace hx324_2 := zx_ HB hx324_2
           replace hx324_3 := zx_ HB hx324_3
           replace hx324_4 := zx_ HB hx324_4
           replace hx324_5 := zx_ HB hx324_5
           replace hx324_6 := zx_ HB hx324_6
           replace p324 := eq_true p324
           replace q324 := eq_true q324
           go_wp2_with (first | ((with_reducible refine gate_dst (N := 6) rfl ?_);(try (refine gate_guard (by rfl) ?_;dsimp only));refine zbx (N := 6) (cs := #[.int .i64 0,.int .i64 0,.int .i64 0,.int .i64 0,.string ⟨#[]⟩,.string ⟨#[]⟩,.string ⟨#[]⟩]) (t := 63) ?_;intro gb325 hg w19 hbox hb;replace HO_4 := zrb HO_4 hb;have BK325 := am_ (hbox);have GW325 := zw_ HB hg;have GE325 := zw_ HB hg;replace HB := zs_ HB hb;have NB318_325 := zl hg BK318;have NB325_318 := zg hg BK318;replace BK318 := zb BK318 hb;clear hb hbox hg;have hnb20 := NB325_318.out;have hnc20 := NB318_325.out;obtain ⟨hcz21_0,hcz21_1,hcz21_2,hcz21_3,hcz21_4,hcz21_5,hcz21_6,hfz21_0,hfz21_1,hfz21_2,hfz21_3,hfz21_4,hfz21_5,hfz21_6⟩ := zc7 BK325) | ((with_reducible refine gate_callee (f := 68) rfl ?_);refine zgl (some 28) Try.func68 #[.agg #[.int .i64 ((rd_T63 l0_1 x23_2).f0),.int .i64 ((rd_T63 l0_1 x23_2).f1),.int .i64 ((rd_T63 l0_1 x23_2).f2),.int .i64 ((rd_T63 l0_1 x23_2).f3),.string ((rd_T63 l0_1 x23_2).f4),.string ((rd_T63 l0_1 x23_2).f5),.string ((rd_T63 l0_1 x23_2).f6)]] ?_;(with_reducible refine (impl_isPrepare.calls k2 ((rd_T63 l0_1 x23_2).f0) ((rd_T63 l0_1 x23_2).f1) ((rd_T63 l0_1 x23_2).f2) ((rd_T63 l0_1 x23_2).f3) ((rd_T63 l0_1 x23_2).f4) ((rd_T63 l0_1 x23_2).f5) ((rd_T63 l0_1 x23_2).f6) true _ A15.out).mono ?_);rintro e w22 ⟨rfl,hb⟩;refine ⟨_,rfl,?_⟩;replace HO_4 := am_ (Kd.R_below (by (with_reducible repeat (first | apply r1_ | apply r2_ | apply r3_));exact (Kd.R_mono (zrf (Kd.R_types HO_4.out BK325.out (by decide))) (fun _ h_ => h_.1))) hb);replace BK318 := am_ (blk_below (g := gb318) (o := .cells #[.string a0_0,.slice (some ad324) l0_1.length c0_1] 39 (0,0)) (zq BK318) hb);replace BK325 := am_ (blk_below (g := gb325) (o := .cells #[.int .i64 ((rd_T63 l0_1 x23_2).f0),.int .i64 ((rd_T63 l0_1 x23_2).f1),.int .i64 ((rd_T63 l0_1 x23_2).f2),.int .i64 ((rd_T63 l0_1 x23_2).f3),.string ((rd_T63 l0_1 x23_2).f4),.string ((rd_T63 l0_1 x23_2).f5),.string ((rd_T63 l0_1 x23_2).f6)] 63 (0,0)) (zq BK325) hb);replace HB := zs_ HB hb;(try clear hb);(try clear hb2);(try clear hk);(try clear hi);obtain ⟨hcz23_0,hcz23_1,hcz23_2,hcz23_3,hcz23_4,hcz23_5,hcz23_6,hfz23_0,hfz23_1,hfz23_2,hfz23_3,hfz23_4,hfz23_5,hfz23_6⟩ := zc7 BK325) | ((with_reducible refine gate_callee (f := 69) rfl ?_);refine zgl (some 32) Try.func69 #[.agg #[.int .i64 ((rd_T63 l0_1 x23_2).f0),.int .i64 ((rd_T63 l0_1 x23_2).f1),.int .i64 ((rd_T63 l0_1 x23_2).f2),.int .i64 ((rd_T63 l0_1 x23_2).f3),.string ((rd_T63 l0_1 x23_2).f4),.string ((rd_T63 l0_1 x23_2).f5),.string ((rd_T63 l0_1 x23_2).f6)]] ?_;(with_reducible refine (impl_messageText.calls k2 ((rd_T63 l0_1 x23_2).f0) ((rd_T63 l0_1 x23_2).f1) ((rd_T63 l0_1 x23_2).f2) ((rd_T63 l0_1 x23_2).f3) ((rd_T63 l0_1 x23_2).f4) ((rd_T63 l0_1 x23_2).f5) ((rd_T63 l0_1 x23_2).f6) t327 _ A17.out).mono ?_);rintro e w24 ⟨rfl,hb⟩;refine ⟨_,rfl,?_⟩;replace HO_4 := zrb HO_4 hb;replace BK318 := zb BK318 hb;replace HB := zs_ HB hb;(try clear hb);(try clear hb2);(try clear hk);(try clear hi)) | ((with_reducible refine gate_builtin (b := .append) (xs := #[.tmp 30,.tmp 33]) rfl ?_);(try (refine gate_guard (by rfl) ?_;dsimp only));at_builtin;refine Kd.R_append Kd.string (w0 := w) w.heap.size rfl (.tmp 30) (.tmp 33) 22 9 (.string ⟨#[]⟩) 16 rfl Try.underlying22 info9 rfl (by decide) (by omega) u4 x4_2 t327 [.string t327] (fun _ => True) (fun _ => False) rfl rfl ?aP (fun _ hk => hk.elim) ?aF ?aO ?aB ?aS ?aL ?_;(case aP => exact rfl);(case aB => exact (zl_ HB));(case aF => exact (fun _ _ => trivial));(case aO => exact (zr HO_4));(case aS => exact (below_size (zl_ HB)));(case aL => have := LMc18.out;omega);intro v329 w25 ho hb hg hat;rw [← Ny328.out] at ho;replace BK318 := am_ (blk_grown (g := gb318) (o := .cells #[.string a0_0,.slice (some ad324) l0_1.length c0_1] 39 (0,0)) (zk BK318) hg (Kd.R_ne HO_4.out BK318.out (by decide)));replace HB := am_ (hb);have HO330 := am_ (ho);clear HO_4;clear ho hb hg hat))
           go_roundg k2
           case measure => have := HJ1.out;have := HK2.out;omega
           case rel => exact ⟨(y328),(wrap64 (x23_2 + 1)),(by first | rfl | (simp;done) | (simp [*];done)),H',⟨by have := HJ1.out;have := HK2.out;omega⟩,⟨zr HO330⟩,⟨by (with_reducible repeat (first | apply k1_ | apply k2_ | apply k3_));exact BK318.out⟩,⟨zl_ HB⟩⟩
          ·rw [if_neg c18] at H
           exact absurd H (by simp)
         ·replace c16 := Bool.eq_false_iff.mpr c16
          subst c16
          have H1 : (some ((⟨#[]⟩ : ByteArray),1)) = some (r1,r2) := by rw [if_neg (show ¬ (false = true) by decide)] at H;exact H
          clear H
          have H := H1
          clear H1
          simp only [Option.some.injEq,Prod.mk.injEq] at H
          obtain ⟨rfl,rfl⟩ := H
          have p324 : 0 ≤ (x23_2 : Int) := zo_
          have q324 : x23_2 < (l0_1.length : Int) := zo_
          obtain ⟨ad324,e324,hx324_0,hx324_1,hx324_2,hx324_3,hx324_4,hx324_5,hx324_6⟩ := at_T63 HR0_1.out x23_2 p324 q324
          cases e324
          replace hx324_0 := zx_ HB hx324_0
          replace hx324_1 := zx_ HB hx324_1
          replace hx324_2 := zx_ HB hx324_2
          replace hx324_3 := zx_ HB hx324_3
          replace hx324_4 := zx_ HB hx324_4
          replace hx324_5 := zx_ HB hx324_5
          replace hx324_6 := zx_ HB hx324_6
          replace p324 := eq_true p324
          replace q324 := eq_true q324
          go_wp2_with (first | ((with_reducible refine gate_dst (N := 6) rfl ?_);(try (refine gate_guard (by rfl) ?_;dsimp only));refine zbx (N := 6) (cs := #[.int .i64 0,.int .i64 0,.int .i64 0,.int .i64 0,.string ⟨#[]⟩,.string ⟨#[]⟩,.string ⟨#[]⟩]) (t := 63) ?_;intro gb325 hg w26 hbox hb;have BK325 := am_ (hbox);have GW325 := zw_ HB hg;have GE325 := zw_ HB hg;replace HB := zs_ HB hb;have NB318_325 := zl hg BK318;have NB325_318 := zg hg BK318;clear hb hbox hg;have hnb27 := NB325_318.out;have hnc27 := NB318_325.out;obtain ⟨hcz28_0,hcz28_1,hcz28_2,hcz28_3,hcz28_4,hcz28_5,hcz28_6,hfz28_0,hfz28_1,hfz28_2,hfz28_3,hfz28_4,hfz28_5,hfz28_6⟩ := zc7 BK325) | ((with_reducible refine gate_callee (f := 68) rfl ?_);refine zgl (some 28) Try.func68 #[.agg #[.int .i64 ((rd_T63 l0_1 x23_2).f0),.int .i64 ((rd_T63 l0_1 x23_2).f1),.int .i64 ((rd_T63 l0_1 x23_2).f2),.int .i64 ((rd_T63 l0_1 x23_2).f3),.string ((rd_T63 l0_1 x23_2).f4),.string ((rd_T63 l0_1 x23_2).f5),.string ((rd_T63 l0_1 x23_2).f6)]] ?_;(with_reducible refine (impl_isPrepare.calls k2 ((rd_T63 l0_1 x23_2).f0) ((rd_T63 l0_1 x23_2).f1) ((rd_T63 l0_1 x23_2).f2) ((rd_T63 l0_1 x23_2).f3) ((rd_T63 l0_1 x23_2).f4) ((rd_T63 l0_1 x23_2).f5) ((rd_T63 l0_1 x23_2).f6) false _ A15.out).mono ?_);rintro e w29 ⟨rfl,hb⟩;refine ⟨_,rfl,?_⟩;replace HB := zs_ HB hb;(try clear hb);(try clear hb2);(try clear hk);(try clear hi)))
          go_ret2
          exact ⟨zt_,zl_ HB⟩
        ·rw [if_neg c14] at H
         exact absurd H (by simp)
       ·rw [if_neg c13] at H
        exact absurd H (by simp)
      ·rw [if_neg c12] at H
       have c12b0 : decide (x23_2 < (l0_1.length : Int)) = false := decide_eq_false c12
       clear c12
       replace H := Option.bind_eq_some_iff.mp H
       obtain ⟨⟨t322,t323⟩,A300,H⟩ := H
       try dsimp only at H
       have A30 := am_ A300
       clear A300
       simp only [Option.some.injEq,Prod.mk.injEq] at H
       obtain ⟨rfl,rfl⟩ := H
       obtain ⟨Ao31,co31,eo31⟩ := Kd.R_slice HO_4.out
       subst eo31
       go_wp2_with (first | ((with_reducible refine gate_callee (f := 70) rfl ?_);refine zgl (some 37) Try.func70 #[.slice Ao31 x4_2.length co31] ?_;(with_reducible refine (impl_listText.calls k2 _ _ x4_2 t322 t323 _ ?side1 ?side2 A30.out).mono ?_);(case side1 => repeat (first | exact (Kd.R_reads' HO_4.out).2.2 | (with_reducible refine Kd.C_alloc ?_ _) | (with_reducible refine Kd.C_drewN ?_ _) | (with_reducible refine Kd.C_drew ?_)));(case side2 => exact (Kd.R_reads' HO_4.out).2.1);rintro e w32 ⟨rfl,hb⟩;refine ⟨_,rfl,?_⟩;replace HB := zs_ HB hb;(try clear hb);(try clear hb2);(try clear hk);(try clear hi)))
       go_ret2
       exact ⟨zt_,zl_ HB⟩
set_option maxHeartbeats 8000000 in
set_option maxRecDepth 100000 in
theorem impl_CertBytes.calls (k : Nat) (a0_0 : ByteArray) (A0_1 : Option Addr) (c0_1 : Nat) (l0_1 : List (S63)) (r1 : List Int) (r2 : Int) (w : World) (hr0_1 : Kd.C k63 w A0_1 l0_1.length l0_1) (hc0_1 : l0_1.length ≤ c0_1) (h : impl_CertBytes.f k a0_0 l0_1 = some (r1,r2)) :
  Calls Try.prog 19 #[.agg #[.string a0_0,.slice A0_1 l0_1.length c0_1]] w fun e w' => ∃ v0_ : Value,e = .returned (.tuple #[v0_,.int .i64 r2]) ∧ Kd.B 5 w' w.heap.size (fun k_ => (w.heap.size ≤ k_)) v0_ r1 ∧ Below w.heap.size w w' := by
 have hu39 := Try.underlying39
 have HR0_1 := am_ hr0_1
 have HC0_1 := am_ hc0_1
 clear hr0_1 hc0_1
 have HB := am_ (Below.refl w.heap.size w)
 have H : ((impl_certText.f k a0_0 l0_1).bind fun bt332 => (if bt332.2 = 0 then (if bt332.1.size ≤ 140737488355328 then (some ((bytesOf bt332.1),0)) else (none)) else (some (([] : List Int),bt332.2)))) = some (r1,r2) := h
 clear h
 replace H := Option.bind_eq_some_iff.mp H
 obtain ⟨⟨t332,t333⟩,A20,H⟩ := H
 try dsimp only at H
 have A2 := am_ A20
 clear A20
 by_cases c3 : t333 = 0
 ·rw [if_pos c3] at H
  have c3b0 : (t333 == 0) = true := beq_iff_eq.mpr c3
  have c3b1 : (t333 != 0) = false := bne_eq_false_iff_eq.mpr c3
  clear c3
  by_cases c4 : t332.size ≤ 140737488355328
  ·rw [if_pos c4] at H
   have c4b0 := eq_true c4
   have c4b1 : decide (t332.size ≤ 140737488355328) = true := decide_eq_true c4
   clear c4
   obtain ⟨y334,hy334⟩ : ∃ y_ : List Int,y_ = (bytesOf t332) := ⟨_,rfl⟩
   replace H : (some (y334,0)) = some (r1,r2) := by first | (rw [hy334];with_reducible exact H) | (have H2_ := (Option.bind_some _ _).symm.trans H;rw [hy334];with_reducible exact H2_) | (have H2_ := (Option.bind_some _ _).symm.trans H;with_reducible exact H2_) | with_reducible exact H | (rw [hy334];exact H) | exact H
   have Ny334 := am_ hy334
   clear hy334
   simp only [Option.some.injEq,Prod.mk.injEq] at H
   obtain ⟨rfl,rfl⟩ := H
   go_enter Try.func19,Try.ntmps19
   go_wp2_with (first | ((with_reducible refine gate_dst (N := 1) rfl ?_);refine zbx (N := 1) (cs := #[.string a0_0,.slice A0_1 l0_1.length c0_1]) (t := 39) ?_;intro gb331 hg w5 hbox hb;have BK331 := am_ (hbox);have GW331 := zw_ HB hg;have GE331 := zw_ HB hg;replace HB := zs_ HB hb;clear hb hbox hg;obtain ⟨hcz6_0,hcz6_1,hfz6_0,hfz6_1⟩ := zc2 BK331) | ((with_reducible refine gate_callee (f := 41) rfl ?_);refine zgl (some 8) Try.func41 #[.agg #[.string a0_0,.slice A0_1 l0_1.length c0_1]] ?_;(with_reducible refine (impl_certText.calls k a0_0 _ _ l0_1 t332 t333 _ ?side1 ?side2 A2.out).mono ?_);(case side1 => exact zc_ HR0_1 HB);(case side2 => exact HC0_1.out);rintro e w7 ⟨rfl,hb⟩;refine ⟨_,rfl,?_⟩;replace BK331 := zb BK331 hb;replace HB := zs_ HB hb;(try clear hb);(try clear hb2);(try clear hk);(try clear hi)) | ((with_reducible refine gate_dst (N := 15) rfl ?_);refine Kd.B_conv (Kd.int .u8) rfl _ 5 rfl (N := 15) rfl 9 24 _ rfl t332 rfl Try.underlying9 Try.underlying24 Try.underlying5 (ok := fun k_ => w7.heap.size ≤ k_) (okp := fun _ => False) (fun _ hk => hk.elim) (Nat.le_refl _) (by have := o1_ (by first | (with_reducible assumption) | assumption : decide (t332.size ≤ 140737488355328) = true);omega) (Below.refl _ _) (Nat.le_refl _) ?_;intro v335 w8 ho9 hb hg_ hnew_;clear hg_ hnew_;(first | rw [← Ny334.out] at ho9 | (simp only [Int.reduceToNat] at ho9;rw [← Ny334.out] at ho9));have HO336 := am_ (Kd.B_lower (Kd.B_mono (ok' := fun k_ => (w.heap.size ≤ k_) ∧ k_ ≠ gb331) ho9 (fun k_ hk_ => ⟨(Nat.le_trans (below_size (zl_ HB)) hk_),(Kd.freshB (g := gb331) (o := .cells #[.string a0_0,.slice A0_1 l0_1.length c0_1] 39 (0,0)) (zk BK331) k_ hk_)⟩)) (below_size (zl_ HB)));replace HB := zs_ HB hb;clear hb ho9))
   go_ret2
   exact ⟨_,zt_,by (with_reducible repeat (first | apply Kd.B_alloc | apply Kd.B_drewN | apply Kd.B_drew));exact Kd.B_mono HO336.out (fun _ hk => hk.1),zl_ HB⟩
  ·rw [if_neg c4] at H
   exact absurd H (by simp)
 ·rw [if_neg c3] at H
  have c3b0 : (t333 == 0) = false := beq_eq_false_iff_ne.mpr c3
  have c3b1 : (t333 != 0) = true := bne_iff_ne.mpr c3
  simp only [Option.some.injEq,Prod.mk.injEq] at H
  obtain ⟨rfl,rfl⟩ := H
  go_enter Try.func19,Try.ntmps19
  go_wp2_with (first | ((with_reducible refine gate_dst (N := 1) rfl ?_);refine zbx (N := 1) (cs := #[.string a0_0,.slice A0_1 l0_1.length c0_1]) (t := 39) ?_;intro gb331 hg w10 hbox hb;have BK331 := am_ (hbox);have GW331 := zw_ HB hg;have GE331 := zw_ HB hg;replace HB := zs_ HB hb;clear hb hbox hg;obtain ⟨hcz11_0,hcz11_1,hfz11_0,hfz11_1⟩ := zc2 BK331) | ((with_reducible refine gate_callee (f := 41) rfl ?_);refine zgl (some 8) Try.func41 #[.agg #[.string a0_0,.slice A0_1 l0_1.length c0_1]] ?_;(with_reducible refine (impl_certText.calls k a0_0 _ _ l0_1 t332 t333 _ ?side1 ?side2 A2.out).mono ?_);(case side1 => exact zc_ HR0_1 HB);(case side2 => exact HC0_1.out);rintro e w12 ⟨rfl,hb⟩;refine ⟨_,rfl,?_⟩;replace HB := zs_ HB hb;(try clear hb);(try clear hb2);(try clear hk);(try clear hi)))
  go_ret2
  exact ⟨_,zt_,(Kd.B_nil _ _ _ _),zl_ HB⟩
set_option maxHeartbeats 8000000 in
set_option maxRecDepth 100000 in
theorem laws_eqByteS.calls (k : Nat) (A0 : Option Addr) (c0 : Nat) (l0 : List Int) (A1 : Option Addr) (c1 : Nat) (l1 : List Int) (r : Bool) (w : World) (hr0 : Kd.C (Kd.int .u8) w A0 l0.length l0) (hc0 : l0.length ≤ c0) (hr1 : Kd.C (Kd.int .u8) w A1 l1.length l1) (hc1 : l1.length ≤ c1) (h : laws_eqByteS.f k l0 l1 = some r) :
  Calls Try.prog 11 #[.slice A0 l0.length c0,.slice A1 l1.length c1] w fun e w' => e = .returned (.bool r) ∧ Drawn0 w w' := by
 have HR0 := am_ hr0
 have HC0 := am_ hc0
 clear hr0 hc0
 have HR1 := am_ hr1
 have HC1 := am_ hc1
 clear hr1 hc1
 have H : (if (l0.length : Int) = (l1.length : Int) then (laws_eqByteS.l0 k l0 l1 0) else (some false)) = some r := h
 clear h
 by_cases c3 : (l0.length : Int) = (l1.length : Int)
 ·rw [if_pos c3] at H
  have c3b0 : ((l0.length : Int) == (l1.length : Int)) = true := beq_iff_eq.mpr c3
  have c3b1 : ((l0.length : Int) != (l1.length : Int)) = false := bne_eq_false_iff_eq.mpr c3
  have c3b2 : (l0.length == l1.length) = true := by first | simpa using c3 | (simp at c3 ⊢;omega)
  clear c3
  have H' := am_ H
  clear H
  go_enter Try.func11,Try.ntmps11
  go_wp2
  repeat (go_quiet (fail);try go_wp2)
  go_loopg [5] k (fun kq v5 w' => ∃ (x5_1 : Int),v5 = .int .i64 x5_1 ∧ Aside0 (laws_eqByteS.l0 kq l0 l1 x5_1 = some r) ∧ Aside0 (kq ≤ k) ∧ Drawn0 w w')
  case atStart => exact ⟨(0),(by first | rfl | (simp;done) | (simp [*];done)),H',⟨Nat.le_refl _⟩,by repeat (first | exact Drawn0.refl _ | apply Drawn0.step)⟩
  case round =>
   clear H'
   try clear c1
   try clear p2
   try clear c3
   try clear c3b0
   try clear c3b1
   try clear c3b2
   obtain ⟨x5_1,rfl,HA,HK1,⟨m1,rfl⟩⟩ := hrel
   cases gk with
   | zero => exact absurd HA.out (by simp [laws_eqByteS.l0])
   | succ k1 =>
    have H := HA.out
    clear HA
    simp only [laws_eqByteS.l0] at H
    by_cases c4 : x5_1 < (l0.length : Int)
    ·rw [if_pos c4] at H
     have c4b0 : decide (x5_1 < (l0.length : Int)) = true := decide_eq_true c4
     clear c4
     by_cases c5 : 0 ≤ x5_1
     ·rw [if_pos c5] at H
      have c5b0 : decide (0 ≤ x5_1) = true := decide_eq_true c5
      clear c5
      by_cases c6 : x5_1 < (l1.length : Int)
      ·rw [if_pos c6] at H
       have c6b0 : decide (x5_1 < (l1.length : Int)) = true := decide_eq_true c6
       clear c6
       by_cases c7 : (rd l0 x5_1) = (rd l1 x5_1)
       ·rw [if_pos c7] at H
        have c7b0 : ((rd l0 x5_1) == (rd l1 x5_1)) = true := beq_iff_eq.mpr c7
        have c7b1 : ((rd l0 x5_1) != (rd l1 x5_1)) = false := bne_eq_false_iff_eq.mpr c7
        clear c7
        have H' := am_ H
        clear H
        have p143 : 0 ≤ (x5_1 : Int) := zo_
        have q143 : x5_1 < (l0.length : Int) := zo_
        obtain ⟨ad143,e143,hx143_0⟩ := Kd.at_int HR0.out x5_1 p143 q143
        cases e143
        replace p143 := eq_true p143
        replace q143 := eq_true q143
        have p144 : 0 ≤ (x5_1 : Int) := zo_
        have q144 : x5_1 < (l1.length : Int) := zo_
        obtain ⟨ad144,e144,hx144_0⟩ := Kd.at_int HR1.out x5_1 p144 q144
        cases e144
        replace p144 := eq_true p144
        replace q144 := eq_true q144
        go_wp2
        repeat (go_quiet (fail);try go_wp2)
        go_roundg k1
        case measure => have := HK1.out;omega
        case rel => exact ⟨(wrap64 (x5_1 + 1)),(by first | rfl | (simp;done) | (simp [*];done)),H',⟨by have := HK1.out;omega⟩,by repeat (first | exact Drawn0.refl _ | apply Drawn0.step)⟩
       ·rw [if_neg c7] at H
        have c7b0 : ((rd l0 x5_1) == (rd l1 x5_1)) = false := beq_eq_false_iff_ne.mpr c7
        have c7b1 : ((rd l0 x5_1) != (rd l1 x5_1)) = true := bne_iff_ne.mpr c7
        obtain rfl := Option.some.inj H
        have p143 : 0 ≤ (x5_1 : Int) := zo_
        have q143 : x5_1 < (l0.length : Int) := zo_
        obtain ⟨ad143,e143,hx143_0⟩ := Kd.at_int HR0.out x5_1 p143 q143
        cases e143
        replace p143 := eq_true p143
        replace q143 := eq_true q143
        have p144 : 0 ≤ (x5_1 : Int) := zo_
        have q144 : x5_1 < (l1.length : Int) := zo_
        obtain ⟨ad144,e144,hx144_0⟩ := Kd.at_int HR1.out x5_1 p144 q144
        cases e144
        replace p144 := eq_true p144
        replace q144 := eq_true q144
        go_wp2
        repeat (go_quiet (fail);try go_wp2)
        go_ret
        exact ⟨by first | rfl | (simp;done) | (simp [*];done),by repeat (first | exact Drawn0.refl _ | apply Drawn0.step)⟩
      ·rw [if_neg c6] at H
       exact absurd H (by simp)
     ·rw [if_neg c5] at H
      exact absurd H (by simp)
    ·rw [if_neg c4] at H
     have c4b0 : decide (x5_1 < (l0.length : Int)) = false := decide_eq_false c4
     clear c4
     obtain rfl := Option.some.inj H
     go_wp2
     repeat (go_quiet (fail);try go_wp2)
     go_ret
     exact ⟨by first | rfl | (simp;done) | (simp [*];done),by repeat (first | exact Drawn0.refl _ | apply Drawn0.step)⟩
 ·rw [if_neg c3] at H
  have c3b0 : ((l0.length : Int) == (l1.length : Int)) = false := beq_eq_false_iff_ne.mpr c3
  have c3b1 : ((l0.length : Int) != (l1.length : Int)) = true := bne_iff_ne.mpr c3
  have c3b2 : (l0.length == l1.length) = false := by first | simpa using c3 | (simp at c3 ⊢;omega)
  obtain rfl := Option.some.inj H
  go_enter Try.func11,Try.ntmps11
  go_wp2
  repeat (go_quiet (fail);try go_wp2)
  go_ret
  exact ⟨by first | rfl | (simp;done) | (simp [*];done),by repeat (first | exact Drawn0.refl _ | apply Drawn0.step)⟩
set_option maxHeartbeats 8000000 in
set_option maxRecDepth 100000 in
theorem laws_eqMessage.calls (a0_0 : Int) (a0_1 : Int) (a0_2 : Int) (a0_3 : Int) (a0_4 : ByteArray) (a0_5 : ByteArray) (a0_6 : ByteArray) (a1_0 : Int) (a1_1 : Int) (a1_2 : Int) (a1_3 : Int) (a1_4 : ByteArray) (a1_5 : ByteArray) (a1_6 : ByteArray) (r : Bool) (w : World) (h : laws_eqMessage.f a0_0 a0_1 a0_2 a0_3 a0_4 a0_5 a0_6 a1_0 a1_1 a1_2 a1_3 a1_4 a1_5 a1_6 = some r) :
  Calls Try.prog 71 #[.agg #[.int .i64 a0_0,.int .i64 a0_1,.int .i64 a0_2,.int .i64 a0_3,.string a0_4,.string a0_5,.string a0_6],.agg #[.int .i64 a1_0,.int .i64 a1_1,.int .i64 a1_2,.int .i64 a1_3,.string a1_4,.string a1_5,.string a1_6]] w fun e w' => e = .returned (.bool r) ∧ Below w.heap.size w w' := by
 have hu63 := Try.underlying63
 have HB := am_ (Below.refl w.heap.size w)
 have H : (if a0_0 = a1_0 then (if a0_1 = a1_1 then (if a0_2 = a1_2 then (if a0_3 = a1_3 then (if a0_4.toList = a1_4.toList then (if a0_5.toList = a1_5.toList then (if a0_6.toList = a1_6.toList then (some true) else (some false)) else (some false)) else (some false)) else (some false)) else (some false)) else (some false)) else (some false)) = some r := h
 clear h
 by_cases c3 : a0_0 = a1_0
 ·rw [if_pos c3] at H
  have c3b0 : (a0_0 == a1_0) = true := beq_iff_eq.mpr c3
  have c3b1 : (a0_0 != a1_0) = false := bne_eq_false_iff_eq.mpr c3
  clear c3
  by_cases c4 : a0_1 = a1_1
  ·rw [if_pos c4] at H
   have c4b0 : (a0_1 == a1_1) = true := beq_iff_eq.mpr c4
   have c4b1 : (a0_1 != a1_1) = false := bne_eq_false_iff_eq.mpr c4
   clear c4
   by_cases c5 : a0_2 = a1_2
   ·rw [if_pos c5] at H
    have c5b0 : (a0_2 == a1_2) = true := beq_iff_eq.mpr c5
    have c5b1 : (a0_2 != a1_2) = false := bne_eq_false_iff_eq.mpr c5
    clear c5
    by_cases c6 : a0_3 = a1_3
    ·rw [if_pos c6] at H
     have c6b0 : (a0_3 == a1_3) = true := beq_iff_eq.mpr c6
     have c6b1 : (a0_3 != a1_3) = false := bne_eq_false_iff_eq.mpr c6
     clear c6
     by_cases c7 : a0_4.toList = a1_4.toList
     ·rw [if_pos c7] at H
      have c7b0 : (a0_4.toList == a1_4.toList) = true := beq_iff_eq.mpr c7
      have c7b1 : (a0_4.toList != a1_4.toList) = false := bne_eq_false_iff_eq.mpr c7
      clear c7
      by_cases c8 : a0_5.toList = a1_5.toList
      ·rw [if_pos c8] at H
       have c8b0 : (a0_5.toList == a1_5.toList) = true := beq_iff_eq.mpr c8
       have c8b1 : (a0_5.toList != a1_5.toList) = false := bne_eq_false_iff_eq.mpr c8
       clear c8
       by_cases c9 : a0_6.toList = a1_6.toList
       ·rw [if_pos c9] at H
        have c9b0 : (a0_6.toList == a1_6.toList) = true := beq_iff_eq.mpr c9
        have c9b1 : (a0_6.toList != a1_6.toList) = false := bne_eq_false_iff_eq.mpr c9
        clear c9
        obtain rfl := Option.some.inj H
        go_enter Try.func71,Try.ntmps71
        go_wp2_with (first | ((with_reducible refine gate_dst (N := 2) rfl ?_);refine zbx (N := 2) (cs := #[.int .i64 a0_0,.int .i64 a0_1,.int .i64 a0_2,.int .i64 a0_3,.string a0_4,.string a0_5,.string a0_6]) (t := 63) ?_;intro gb337 hg w10 hbox hb;have BK337 := am_ (hbox);have GW337 := zw_ HB hg;have GE337 := zw_ HB hg;replace HB := zs_ HB hb;clear hb hbox hg) | ((with_reducible refine gate_dst (N := 3) rfl ?_);refine zbx (N := 3) (cs := #[.int .i64 a1_0,.int .i64 a1_1,.int .i64 a1_2,.int .i64 a1_3,.string a1_4,.string a1_5,.string a1_6]) (t := 63) ?_;intro gb338 hg w11 hbox hb;have BK338 := am_ (hbox);have GW338 := zw_ HB hg;have GE338 := zw_ HB hg;replace HB := zs_ HB hb;have NB337_338 := zl hg BK337;have NB338_337 := zg hg BK337;replace BK337 := zb BK337 hb;clear hb hbox hg;have hnb12 := NB337_338.out;have hnc12 := NB338_337.out;obtain ⟨hcz13_0,hcz13_1,hcz13_2,hcz13_3,hcz13_4,hcz13_5,hcz13_6,hfz13_0,hfz13_1,hfz13_2,hfz13_3,hfz13_4,hfz13_5,hfz13_6⟩ := zc7 BK337;obtain ⟨hcz14_0,hcz14_1,hcz14_2,hcz14_3,hcz14_4,hcz14_5,hcz14_6,hfz14_0,hfz14_1,hfz14_2,hfz14_3,hfz14_4,hfz14_5,hfz14_6⟩ := zc7 BK338))
        go_ret
        exact ⟨zt_,zl_ HB⟩
       ·rw [if_neg c9] at H
        have c9b0 : (a0_6.toList == a1_6.toList) = false := beq_eq_false_iff_ne.mpr c9
        have c9b1 : (a0_6.toList != a1_6.toList) = true := bne_iff_ne.mpr c9
        obtain rfl := Option.some.inj H
        go_enter Try.func71,Try.ntmps71
        go_wp2_with (first | ((with_reducible refine gate_dst (N := 2) rfl ?_);refine zbx (N := 2) (cs := #[.int .i64 a0_0,.int .i64 a0_1,.int .i64 a0_2,.int .i64 a0_3,.string a0_4,.string a0_5,.string a0_6]) (t := 63) ?_;intro gb337 hg w15 hbox hb;have BK337 := am_ (hbox);have GW337 := zw_ HB hg;have GE337 := zw_ HB hg;replace HB := zs_ HB hb;clear hb hbox hg) | ((with_reducible refine gate_dst (N := 3) rfl ?_);refine zbx (N := 3) (cs := #[.int .i64 a1_0,.int .i64 a1_1,.int .i64 a1_2,.int .i64 a1_3,.string a1_4,.string a1_5,.string a1_6]) (t := 63) ?_;intro gb338 hg w16 hbox hb;have BK338 := am_ (hbox);have GW338 := zw_ HB hg;have GE338 := zw_ HB hg;replace HB := zs_ HB hb;have NB337_338 := zl hg BK337;have NB338_337 := zg hg BK337;replace BK337 := zb BK337 hb;clear hb hbox hg;have hnb17 := NB337_338.out;have hnc17 := NB338_337.out;obtain ⟨hcz18_0,hcz18_1,hcz18_2,hcz18_3,hcz18_4,hcz18_5,hcz18_6,hfz18_0,hfz18_1,hfz18_2,hfz18_3,hfz18_4,hfz18_5,hfz18_6⟩ := zc7 BK337;obtain ⟨hcz19_0,hcz19_1,hcz19_2,hcz19_3,hcz19_4,hcz19_5,hcz19_6,hfz19_0,hfz19_1,hfz19_2,hfz19_3,hfz19_4,hfz19_5,hfz19_6⟩ := zc7 BK338))
        go_ret
        exact ⟨zt_,zl_ HB⟩
      ·rw [if_neg c8] at H
       have c8b0 : (a0_5.toList == a1_5.toList) = false := beq_eq_false_iff_ne.mpr c8
       have c8b1 : (a0_5.toList != a1_5.toList) = true := bne_iff_ne.mpr c8
       obtain rfl := Option.some.inj H
       go_enter Try.func71,Try.ntmps71
       go_wp2_with (first | ((with_reducible refine gate_dst (N := 2) rfl ?_);refine zbx (N := 2) (cs := #[.int .i64 a0_0,.int .i64 a0_1,.int .i64 a0_2,.int .i64 a0_3,.string a0_4,.string a0_5,.string a0_6]) (t := 63) ?_;intro gb337 hg w20 hbox hb;have BK337 := am_ (hbox);have GW337 := zw_ HB hg;have GE337 := zw_ HB hg;replace HB := zs_ HB hb;clear hb hbox hg) | ((with_reducible refine gate_dst (N := 3) rfl ?_);refine zbx (N := 3) (cs := #[.int .i64 a1_0,.int .i64 a1_1,.int .i64 a1_2,.int .i64 a1_3,.string a1_4,.string a1_5,.string a1_6]) (t := 63) ?_;intro gb338 hg w21 hbox hb;have BK338 := am_ (hbox);have GW338 := zw_ HB hg;have GE338 := zw_ HB hg;replace HB := zs_ HB hb;have NB337_338 := zl hg BK337;have NB338_337 := zg hg BK337;replace BK337 := zb BK337 hb;clear hb hbox hg;have hnb22 := NB337_338.out;have hnc22 := NB338_337.out;obtain ⟨hcz23_0,hcz23_1,hcz23_2,hcz23_3,hcz23_4,hcz23_5,hcz23_6,hfz23_0,hfz23_1,hfz23_2,hfz23_3,hfz23_4,hfz23_5,hfz23_6⟩ := zc7 BK337;obtain ⟨hcz24_0,hcz24_1,hcz24_2,hcz24_3,hcz24_4,hcz24_5,hcz24_6,hfz24_0,hfz24_1,hfz24_2,hfz24_3,hfz24_4,hfz24_5,hfz24_6⟩ := zc7 BK338))
       go_ret
       exact ⟨zt_,zl_ HB⟩
     ·rw [if_neg c7] at H
      have c7b0 : (a0_4.toList == a1_4.toList) = false := beq_eq_false_iff_ne.mpr c7
      have c7b1 : (a0_4.toList != a1_4.toList) = true := bne_iff_ne.mpr c7
      obtain rfl := Option.some.inj H
      go_enter Try.func71,Try.ntmps71
      go_wp2_with (first | ((with_reducible refine gate_dst (N := 2) rfl ?_);refine zbx (N := 2) (cs := #[.int .i64 a0_0,.int .i64 a0_1,.int .i64 a0_2,.int .i64 a0_3,.string a0_4,.string a0_5,.string a0_6]) (t := 63) ?_;intro gb337 hg w25 hbox hb;have BK337 := am_ (hbox);have GW337 := zw_ HB hg;have GE337 := zw_ HB hg;replace HB := zs_ HB hb;clear hb hbox hg) | ((with_reducible refine gate_dst (N := 3) rfl ?_);refine zbx (N := 3) (cs := #[.int .i64 a1_0,.int .i64 a1_1,.int .i64 a1_2,.int .i64 a1_3,.string a1_4,.string a1_5,.string a1_6]) (t := 63) ?_;intro gb338 hg w26 hbox hb;have BK338 := am_ (hbox);have GW338 := zw_ HB hg;have GE338 := zw_ HB hg;replace HB := zs_ HB hb;have NB337_338 := zl hg BK337;have NB338_337 := zg hg BK337;replace BK337 := zb BK337 hb;clear hb hbox hg;have hnb27 := NB337_338.out;have hnc27 := NB338_337.out;obtain ⟨hcz28_0,hcz28_1,hcz28_2,hcz28_3,hcz28_4,hcz28_5,hcz28_6,hfz28_0,hfz28_1,hfz28_2,hfz28_3,hfz28_4,hfz28_5,hfz28_6⟩ := zc7 BK337;obtain ⟨hcz29_0,hcz29_1,hcz29_2,hcz29_3,hcz29_4,hcz29_5,hcz29_6,hfz29_0,hfz29_1,hfz29_2,hfz29_3,hfz29_4,hfz29_5,hfz29_6⟩ := zc7 BK338))
      go_ret
      exact ⟨zt_,zl_ HB⟩
    ·rw [if_neg c6] at H
     have c6b0 : (a0_3 == a1_3) = false := beq_eq_false_iff_ne.mpr c6
     have c6b1 : (a0_3 != a1_3) = true := bne_iff_ne.mpr c6
     obtain rfl := Option.some.inj H
     go_enter Try.func71,Try.ntmps71
     go_wp2_with (first | ((with_reducible refine gate_dst (N := 2) rfl ?_);refine zbx (N := 2) (cs := #[.int .i64 a0_0,.int .i64 a0_1,.int .i64 a0_2,.int .i64 a0_3,.string a0_4,.string a0_5,.string a0_6]) (t := 63) ?_;intro gb337 hg w30 hbox hb;have BK337 := am_ (hbox);have GW337 := zw_ HB hg;have GE337 := zw_ HB hg;replace HB := zs_ HB hb;clear hb hbox hg) | ((with_reducible refine gate_dst (N := 3) rfl ?_);refine zbx (N := 3) (cs := #[.int .i64 a1_0,.int .i64 a1_1,.int .i64 a1_2,.int .i64 a1_3,.string a1_4,.string a1_5,.string a1_6]) (t := 63) ?_;intro gb338 hg w31 hbox hb;have BK338 := am_ (hbox);have GW338 := zw_ HB hg;have GE338 := zw_ HB hg;replace HB := zs_ HB hb;have NB337_338 := zl hg BK337;have NB338_337 := zg hg BK337;replace BK337 := zb BK337 hb;clear hb hbox hg;have hnb32 := NB337_338.out;have hnc32 := NB338_337.out;obtain ⟨hcz33_0,hcz33_1,hcz33_2,hcz33_3,hcz33_4,hcz33_5,hcz33_6,hfz33_0,hfz33_1,hfz33_2,hfz33_3,hfz33_4,hfz33_5,hfz33_6⟩ := zc7 BK337;obtain ⟨hcz34_0,hcz34_1,hcz34_2,hcz34_3,hcz34_4,hcz34_5,hcz34_6,hfz34_0,hfz34_1,hfz34_2,hfz34_3,hfz34_4,hfz34_5,hfz34_6⟩ := zc7 BK338))
     go_ret
     exact ⟨zt_,zl_ HB⟩
   ·rw [if_neg c5] at H
    have c5b0 : (a0_2 == a1_2) = false := beq_eq_false_iff_ne.mpr c5
    have c5b1 : (a0_2 != a1_2) = true := bne_iff_ne.mpr c5
    obtain rfl := Option.some.inj H
    go_enter Try.func71,Try.ntmps71
    go_wp2_with (first | ((with_reducible refine gate_dst (N := 2) rfl ?_);refine zbx (N := 2) (cs := #[.int .i64 a0_0,.int .i64 a0_1,.int .i64 a0_2,.int .i64 a0_3,.string a0_4,.string a0_5,.string a0_6]) (t := 63) ?_;intro gb337 hg w35 hbox hb;have BK337 := am_ (hbox);have GW337 := zw_ HB hg;have GE337 := zw_ HB hg;replace HB := zs_ HB hb;clear hb hbox hg) | ((with_reducible refine gate_dst (N := 3) rfl ?_);refine zbx (N := 3) (cs := #[.int .i64 a1_0,.int .i64 a1_1,.int .i64 a1_2,.int .i64 a1_3,.string a1_4,.string a1_5,.string a1_6]) (t := 63) ?_;intro gb338 hg w36 hbox hb;have BK338 := am_ (hbox);have GW338 := zw_ HB hg;have GE338 := zw_ HB hg;replace HB := zs_ HB hb;have NB337_338 := zl hg BK337;have NB338_337 := zg hg BK337;replace BK337 := zb BK337 hb;clear hb hbox hg;have hnb37 := NB337_338.out;have hnc37 := NB338_337.out;obtain ⟨hcz38_0,hcz38_1,hcz38_2,hcz38_3,hcz38_4,hcz38_5,hcz38_6,hfz38_0,hfz38_1,hfz38_2,hfz38_3,hfz38_4,hfz38_5,hfz38_6⟩ := zc7 BK337;obtain ⟨hcz39_0,hcz39_1,hcz39_2,hcz39_3,hcz39_4,hcz39_5,hcz39_6,hfz39_0,hfz39_1,hfz39_2,hfz39_3,hfz39_4,hfz39_5,hfz39_6⟩ := zc7 BK338))
    go_ret
    exact ⟨zt_,zl_ HB⟩
  ·rw [if_neg c4] at H
   have c4b0 : (a0_1 == a1_1) = false := beq_eq_false_iff_ne.mpr c4
   have c4b1 : (a0_1 != a1_1) = true := bne_iff_ne.mpr c4
   obtain rfl := Option.some.inj H
   go_enter Try.func71,Try.ntmps71
   go_wp2_with (first | ((with_reducible refine gate_dst (N := 2) rfl ?_);refine zbx (N := 2) (cs := #[.int .i64 a0_0,.int .i64 a0_1,.int .i64 a0_2,.int .i64 a0_3,.string a0_4,.string a0_5,.string a0_6]) (t := 63) ?_;intro gb337 hg w40 hbox hb;have BK337 := am_ (hbox);have GW337 := zw_ HB hg;have GE337 := zw_ HB hg;replace HB := zs_ HB hb;clear hb hbox hg) | ((with_reducible refine gate_dst (N := 3) rfl ?_);refine zbx (N := 3) (cs := #[.int .i64 a1_0,.int .i64 a1_1,.int .i64 a1_2,.int .i64 a1_3,.string a1_4,.string a1_5,.string a1_6]) (t := 63) ?_;intro gb338 hg w41 hbox hb;have BK338 := am_ (hbox);have GW338 := zw_ HB hg;have GE338 := zw_ HB hg;replace HB := zs_ HB hb;have NB337_338 := zl hg BK337;have NB338_337 := zg hg BK337;replace BK337 := zb BK337 hb;clear hb hbox hg;have hnb42 := NB337_338.out;have hnc42 := NB338_337.out;obtain ⟨hcz43_0,hcz43_1,hcz43_2,hcz43_3,hcz43_4,hcz43_5,hcz43_6,hfz43_0,hfz43_1,hfz43_2,hfz43_3,hfz43_4,hfz43_5,hfz43_6⟩ := zc7 BK337;obtain ⟨hcz44_0,hcz44_1,hcz44_2,hcz44_3,hcz44_4,hcz44_5,hcz44_6,hfz44_0,hfz44_1,hfz44_2,hfz44_3,hfz44_4,hfz44_5,hfz44_6⟩ := zc7 BK338))
   go_ret
   exact ⟨zt_,zl_ HB⟩
 ·rw [if_neg c3] at H
  have c3b0 : (a0_0 == a1_0) = false := beq_eq_false_iff_ne.mpr c3
  have c3b1 : (a0_0 != a1_0) = true := bne_iff_ne.mpr c3
  obtain rfl := Option.some.inj H
  go_enter Try.func71,Try.ntmps71
  go_wp2_with (first | ((with_reducible refine gate_dst (N := 2) rfl ?_);refine zbx (N := 2) (cs := #[.int .i64 a0_0,.int .i64 a0_1,.int .i64 a0_2,.int .i64 a0_3,.string a0_4,.string a0_5,.string a0_6]) (t := 63) ?_;intro gb337 hg w45 hbox hb;have BK337 := am_ (hbox);have GW337 := zw_ HB hg;have GE337 := zw_ HB hg;replace HB := zs_ HB hb;clear hb hbox hg) | ((with_reducible refine gate_dst (N := 3) rfl ?_);refine zbx (N := 3) (cs := #[.int .i64 a1_0,.int .i64 a1_1,.int .i64 a1_2,.int .i64 a1_3,.string a1_4,.string a1_5,.string a1_6]) (t := 63) ?_;intro gb338 hg w46 hbox hb;have BK338 := am_ (hbox);have GW338 := zw_ HB hg;have GE338 := zw_ HB hg;replace HB := zs_ HB hb;have NB337_338 := zl hg BK337;have NB338_337 := zg hg BK337;replace BK337 := zb BK337 hb;clear hb hbox hg;have hnb47 := NB337_338.out;have hnc47 := NB338_337.out;obtain ⟨hcz48_0,hcz48_1,hcz48_2,hcz48_3,hcz48_4,hcz48_5,hcz48_6,hfz48_0,hfz48_1,hfz48_2,hfz48_3,hfz48_4,hfz48_5,hfz48_6⟩ := zc7 BK337;obtain ⟨hcz49_0,hcz49_1,hcz49_2,hcz49_3,hcz49_4,hcz49_5,hcz49_6,hfz49_0,hfz49_1,hfz49_2,hfz49_3,hfz49_4,hfz49_5,hfz49_6⟩ := zc7 BK338))
  go_ret
  exact ⟨zt_,zl_ HB⟩
def laws_eqMessageS.T6 : Bool × List (List Nat × List Nat) := (true,[([],[]),([],[]),([0,1],[0,1]),([2],[2]),([],[]),([],[]),([4,5],[4,5]),([6],[6]),([3,7],[3,7]),([8],[8])])
def laws_eqMessageS.B6 : List Nat := [0,0,3,7,0,0,48,112,255,511]
theorem laws_eqMessageS.tab6 : rtab .any (opsOf Try.f42 6) = laws_eqMessageS.T6 := by kernel_rfl
theorem laws_eqMessageS.bits6 : waitsOk laws_eqMessageS.T6.2 laws_eqMessageS.B6 = true := by kernel_rfl
set_option maxHeartbeats 8000000 in
set_option maxRecDepth 100000 in
theorem laws_eqMessageS.calls (k : Nat) (A0 : Option Addr) (c0 : Nat) (l0 : List (S63)) (A1 : Option Addr) (c1 : Nat) (l1 : List (S63)) (r : Bool) (w : World) (hr0 : Kd.C k63 w A0 l0.length l0) (hc0 : l0.length ≤ c0) (hr1 : Kd.C k63 w A1 l1.length l1) (hc1 : l1.length ≤ c1) (h : laws_eqMessageS.f k l0 l1 = some r) :
  Calls Try.prog 42 #[.slice A0 l0.length c0,.slice A1 l1.length c1] w fun e w' => e = .returned (.bool r) ∧ Below w.heap.size w w' := by
 have hu63 := Try.underlying63
 have HR0 := am_ hr0
 have HC0 := am_ hc0
 clear hr0 hc0
 have HR1 := am_ hr1
 have HC1 := am_ hc1
 clear hr1 hc1
 have HB := am_ (Below.refl w.heap.size w)
 have H : (if (l0.length : Int) = (l1.length : Int) then (laws_eqMessageS.l0 k l0 l1 0) else (some false)) = some r := h
 clear h
 by_cases c3 : (l0.length : Int) = (l1.length : Int)
 ·rw [if_pos c3] at H
  have c3b0 : ((l0.length : Int) == (l1.length : Int)) = true := beq_iff_eq.mpr c3
  have c3b1 : ((l0.length : Int) != (l1.length : Int)) = false := bne_eq_false_iff_eq.mpr c3
  have c3b2 : (l0.length == l1.length) = true := by first | simpa using c3 | (simp at c3 ⊢;omega)
  clear c3
  have H' := am_ H
  clear H
  go_enter Try.func42,Try.ntmps42
  go_wp2
  go_loopg [5] k (fun kq v5 w' => ∃ (x5_1 : Int),v5 = .int .i64 x5_1 ∧ Aside0 (laws_eqMessageS.l0 kq l0 l1 x5_1 = some r) ∧ Aside0 (kq ≤ k) ∧ Aside0 (Below w.heap.size w w'))
  case atStart => exact ⟨(0),(by first | rfl | (simp;done) | (simp [*];done)),H',⟨Nat.le_refl _⟩,⟨zl_ HB⟩⟩
  case round =>
   clear H'
   try clear c1
   try clear p2
   try clear c3
   try clear c3b0
   try clear c3b1
   try clear c3b2
   obtain ⟨x5_1,rfl,HA,HK1,HB⟩ := hrel
   cases gk with
   | zero => exact absurd HA.out (by simp [laws_eqMessageS.l0])
   | succ k1 =>
    have H := HA.out
    clear HA
    simp only [laws_eqMessageS.l0] at H
    by_cases c4 : x5_1 < (l0.length : Int)
    ·rw [if_pos c4] at H
     have c4b0 : decide (x5_1 < (l0.length : Int)) = true := decide_eq_true c4
     clear c4
     by_cases c5 : 0 ≤ x5_1
     ·rw [if_pos c5] at H
      have c5b0 : decide (0 ≤ x5_1) = true := decide_eq_true c5
      clear c5
      by_cases c6 : x5_1 < (l1.length : Int)
      ·rw [if_pos c6] at H
       have c6b0 : decide (x5_1 < (l1.length : Int)) = true := decide_eq_true c6
       clear c6
       replace H := Option.bind_eq_some_iff.mp H
       obtain ⟨t341,A70,H⟩ := H
       try dsimp only at H
       have A7 := am_ A70
       clear A70
       by_cases c8 : t341 = true
       ·subst c8
        have H1 : (laws_eqMessageS.l0 k1 l0 l1 (wrap64 (x5_1 + 1))) = some r := by rw [if_pos rfl] at H;exact H
        clear H
        have H := H1
        clear H1
        have H' := am_ H
        clear H
        try go_wp2
        replace HB := am_ (below_drew1 HB.out)
        have p339 : 0 ≤ (x5_1 : Int) := zo_
        have q339 : x5_1 < (l0.length : Int) := zo_
        obtain ⟨ad339,e339,hx339_0,hx339_1,hx339_2,hx339_3,hx339_4,hx339_5,hx339_6⟩ := at_T63 HR0.out x5_1 p339 q339
        have hw339_6 := hx339_6
        have hw339_5 := hx339_5
        have hw339_4 := hx339_4
        have hw339_3 := hx339_3
        have hw339_2 := hx339_2
        have hw339_1 := hx339_1
        have hw339_0 := hx339_0
        cases e339
        replace hx339_0 := zx_ HB hx339_0
        replace hx339_1 := zx_ HB hx339_1
        replace hx339_2 := zx_ HB hx339_2
        replace hx339_3 := zx_ HB hx339_3
        replace hx339_4 := zx_ HB hx339_4
        replace hx339_5 := zx_ HB hx339_5
        replace hx339_6 := zx_ HB hx339_6
        replace p339 := eq_true p339
        replace q339 := eq_true q339
        have p340 : 0 ≤ (x5_1 : Int) := zo_
        have q340 : x5_1 < (l1.length : Int) := zo_
        obtain ⟨ad340,e340,hx340_0,hx340_1,hx340_2,hx340_3,hx340_4,hx340_5,hx340_6⟩ := at_T63 HR1.out x5_1 p340 q340
        have hw340_6 := hx340_6
        have hw340_5 := hx340_5
        have hw340_4 := hx340_4
        have hw340_3 := hx340_3
        have hw340_2 := hx340_2
        have hw340_1 := hx340_1
        have hw340_0 := hx340_0
        cases e340
        replace hx340_0 := zx_ HB hx340_0
        replace hx340_1 := zx_ HB hx340_1
        replace hx340_2 := zx_ HB hx340_2
        replace hx340_3 := zx_ HB hx340_3
        replace hx340_4 := zx_ HB hx340_4
        replace hx340_5 := zx_ HB hx340_5
        replace hx340_6 := zx_ HB hx340_6
        replace p340 := eq_true p340
        replace q340 := eq_true q340
        refine start_ (n := 10) (S := fun w' => w'.cell? (ad339.add ((x5_1).toNat * 7)) = some (.int .i64 ((rd_T63 l0 x5_1).f0)) ∧ w'.cell? ⟨(ad339.add ((x5_1).toNat * 7)).block,(ad339.add ((x5_1).toNat * 7)).off + 1,none⟩ = some (.int .i64 ((rd_T63 l0 x5_1).f1)) ∧ w'.cell? ⟨(ad339.add ((x5_1).toNat * 7)).block,(ad339.add ((x5_1).toNat * 7)).off + 2,none⟩ = some (.int .i64 ((rd_T63 l0 x5_1).f2)) ∧ w'.cell? ⟨(ad339.add ((x5_1).toNat * 7)).block,(ad339.add ((x5_1).toNat * 7)).off + 3,none⟩ = some (.int .i64 ((rd_T63 l0 x5_1).f3)) ∧ w'.cell? ⟨(ad339.add ((x5_1).toNat * 7)).block,(ad339.add ((x5_1).toNat * 7)).off + 4,none⟩ = some (.string ((rd_T63 l0 x5_1).f4)) ∧ w'.cell? ⟨(ad339.add ((x5_1).toNat * 7)).block,(ad339.add ((x5_1).toNat * 7)).off + 5,none⟩ = some (.string ((rd_T63 l0 x5_1).f5)) ∧ w'.cell? ⟨(ad339.add ((x5_1).toNat * 7)).block,(ad339.add ((x5_1).toNat * 7)).off + 6,none⟩ = some (.string ((rd_T63 l0 x5_1).f6)) ∧ w'.cell? (ad340.add ((x5_1).toNat * 7)) = some (.int .i64 ((rd_T63 l1 x5_1).f0)) ∧ w'.cell? ⟨(ad340.add ((x5_1).toNat * 7)).block,(ad340.add ((x5_1).toNat * 7)).off + 1,none⟩ = some (.int .i64 ((rd_T63 l1 x5_1).f1)) ∧ w'.cell? ⟨(ad340.add ((x5_1).toNat * 7)).block,(ad340.add ((x5_1).toNat * 7)).off + 2,none⟩ = some (.int .i64 ((rd_T63 l1 x5_1).f2)) ∧ w'.cell? ⟨(ad340.add ((x5_1).toNat * 7)).block,(ad340.add ((x5_1).toNat * 7)).off + 3,none⟩ = some (.int .i64 ((rd_T63 l1 x5_1).f3)) ∧ w'.cell? ⟨(ad340.add ((x5_1).toNat * 7)).block,(ad340.add ((x5_1).toNat * 7)).off + 4,none⟩ = some (.string ((rd_T63 l1 x5_1).f4)) ∧ w'.cell? ⟨(ad340.add ((x5_1).toNat * 7)).block,(ad340.add ((x5_1).toNat * 7)).off + 5,none⟩ = some (.string ((rd_T63 l1 x5_1).f5)) ∧ w'.cell? ⟨(ad340.add ((x5_1).toNat * 7)).block,(ad340.add ((x5_1).toNat * 7)).off + 6,none⟩ = some (.string ((rd_T63 l1 x5_1).f6))) (ds := []) #[false,false,false,false,false,false,false,false,false,false] (by kernel_rfl) rfl rfl ⟨(zx_ HB hw339_0),(zx_ HB hw339_1),(zx_ HB hw339_2),(zx_ HB hw339_3),(zx_ HB hw339_4),(zx_ HB hw339_5),(zx_ HB hw339_6),(zx_ HB hw340_0),(zx_ HB hw340_1),(zx_ HB hw340_2),(zx_ HB hw340_3),(zx_ HB hw340_4),(zx_ HB hw340_5),(zx_ HB hw340_6)⟩ (fun hHeld => ?_);refine with_tabW laws_eqMessageS.tab6 laws_eqMessageS.bits6 (fun HT_ HW_ => ?_)
        generalize wr.drew = w9 at HB hx339_0 hx339_1 hx339_2 hx339_3 hx339_4 hx339_5 hx339_6 hx340_0 hx340_1 hx340_2 hx340_3 hx340_4 hx340_5 hx340_6 hHeld ⊢
        refine zpu 0 (N := some 17) HT_ ?_
        refine zpu 1 (N := some 18) HT_ ?_
        refine zpu 2 (N := some 19) HT_ ?_
        refine zpu 4 (N := some 21) HT_ ?_
        refine zpu 5 (N := some 22) HT_ ?_
        refine zpu 6 (N := some 23) HT_ ?_
        refine ztk 3 (N := some 20) HT_ HW_ hHeld ?_
        refine ztk 7 (N := some 24) HT_ HW_ hHeld ?_
        refine zon 8 (N := some 25) HT_ (fun K hK => ?_)
        refine zgo Try.func71 #[.agg #[.int .i64 ((rd_T63 l0 x5_1).f0),.int .i64 ((rd_T63 l0 x5_1).f1),.int .i64 ((rd_T63 l0 x5_1).f2),.int .i64 ((rd_T63 l0 x5_1).f3),.string ((rd_T63 l0 x5_1).f4),.string ((rd_T63 l0 x5_1).f5),.string ((rd_T63 l0 x5_1).f6)],.agg #[.int .i64 ((rd_T63 l1 x5_1).f0),.int .i64 ((rd_T63 l1 x5_1).f1),.int .i64 ((rd_T63 l1 x5_1).f2),.int .i64 ((rd_T63 l1 x5_1).f3),.string ((rd_T63 l1 x5_1).f4),.string ((rd_T63 l1 x5_1).f5),.string ((rd_T63 l1 x5_1).f6)]] ?_
        with_reducible refine (laws_eqMessage.calls ((rd_T63 l0 x5_1).f0) ((rd_T63 l0 x5_1).f1) ((rd_T63 l0 x5_1).f2) ((rd_T63 l0 x5_1).f3) ((rd_T63 l0 x5_1).f4) ((rd_T63 l0 x5_1).f5) ((rd_T63 l0 x5_1).f6) ((rd_T63 l1 x5_1).f0) ((rd_T63 l1 x5_1).f1) ((rd_T63 l1 x5_1).f2) ((rd_T63 l1 x5_1).f3) ((rd_T63 l1 x5_1).f4) ((rd_T63 l1 x5_1).f5) ((rd_T63 l1 x5_1).f6) true _ A7.out).mono ?_
        rintro e w10 ⟨rfl,hb⟩
        refine ⟨_,rfl,?_⟩
        replace HB := zs_ HB hb
        (try clear hb)
        (try clear hb2)
        (try clear hk)
        (try clear hi)
        refine hK.out _ _ ⟨(zx_ HB hw339_0),(zx_ HB hw339_1),(zx_ HB hw339_2),(zx_ HB hw339_3),(zx_ HB hw339_4),(zx_ HB hw339_5),(zx_ HB hw339_6),(zx_ HB hw340_0),(zx_ HB hw340_1),(zx_ HB hw340_2),(zx_ HB hw340_3),(zx_ HB hw340_4),(zx_ HB hw340_5),(zx_ HB hw340_6)⟩ (fun hHeld => ?_)
        clear hK K
        refine norm_ (a' := ?_) ?_ ?_
        rotate_left
        ·show Act.put _ (some 25) _ = _
         simp only [Act.put,p1_,p2_,p3_,i64_w,i32_w]
         rfl
        refine zpu 9 (N := some 26) HT_ ?_
        refine done_ (done_of HT_.out (by kernel_rfl)) ?_
        try go_wp2
        go_roundg k1
        case measure => have := HK1.out;omega
        case rel => exact ⟨(wrap64 (x5_1 + 1)),(by first | rfl | (simp;done) | (simp [*];done)),H',⟨by have := HK1.out;omega⟩,⟨zl_ HB⟩⟩
       ·replace c8 := Bool.eq_false_iff.mpr c8
        subst c8
        have H1 : (some false) = some r := by rw [if_neg (show ¬ (false = true) by decide)] at H;exact H
        clear H
        have H := H1
        clear H1
        obtain rfl := Option.some.inj H
        try go_wp2
        replace HB := am_ (below_drew1 HB.out)
        have p339 : 0 ≤ (x5_1 : Int) := zo_
        have q339 : x5_1 < (l0.length : Int) := zo_
        obtain ⟨ad339,e339,hx339_0,hx339_1,hx339_2,hx339_3,hx339_4,hx339_5,hx339_6⟩ := at_T63 HR0.out x5_1 p339 q339
        have hw339_6 := hx339_6
        have hw339_5 := hx339_5
        have hw339_4 := hx339_4
        have hw339_3 := hx339_3
        have hw339_2 := hx339_2
        have hw339_1 := hx339_1
        have hw339_0 := hx339_0
        cases e339
        replace hx339_0 := zx_ HB hx339_0
        replace hx339_1 := zx_ HB hx339_1
        replace hx339_2 := zx_ HB hx339_2
        replace hx339_3 := zx_ HB hx339_3
        replace hx339_4 := zx_ HB hx339_4
        replace hx339_5 := zx_ HB hx339_5
        replace hx339_6 := zx_ HB hx339_6
        replace p339 := eq_true p339
        replace q339 := eq_true q339
        have p340 : 0 ≤ (x5_1 : Int) := zo_
        have q340 : x5_1 < (l1.length : Int) := zo_
        obtain ⟨ad340,e340,hx340_0,hx340_1,hx340_2,hx340_3,hx340_4,hx340_5,hx340_6⟩ := at_T63 HR1.out x5_1 p340 q340
        have hw340_6 := hx340_6
        have hw340_5 := hx340_5
        have hw340_4 := hx340_4
        have hw340_3 := hx340_3
        have hw340_2 := hx340_2
        have hw340_1 := hx340_1
        have hw340_0 := hx340_0
        cases e340
        replace hx340_0 := zx_ HB hx340_0
        replace hx340_1 := zx_ HB hx340_1
        replace hx340_2 := zx_ HB hx340_2
        replace hx340_3 := zx_ HB hx340_3
        replace hx340_4 := zx_ HB hx340_4
        replace hx340_5 := zx_ HB hx340_5
        replace hx340_6 := zx_ HB hx340_6
        replace p340 := eq_true p340
        replace q340 := eq_true q340
        refine start_ (n := 10) (S := fun w' => w'.cell? (ad339.add ((x5_1).toNat * 7)) = some (.int .i64 ((rd_T63 l0 x5_1).f0)) ∧ w'.cell? ⟨(ad339.add ((x5_1).toNat * 7)).block,(ad339.add ((x5_1).toNat * 7)).off + 1,none⟩ = some (.int .i64 ((rd_T63 l0 x5_1).f1)) ∧ w'.cell? ⟨(ad339.add ((x5_1).toNat * 7)).block,(ad339.add ((x5_1).toNat * 7)).off + 2,none⟩ = some (.int .i64 ((rd_T63 l0 x5_1).f2)) ∧ w'.cell? ⟨(ad339.add ((x5_1).toNat * 7)).block,(ad339.add ((x5_1).toNat * 7)).off + 3,none⟩ = some (.int .i64 ((rd_T63 l0 x5_1).f3)) ∧ w'.cell? ⟨(ad339.add ((x5_1).toNat * 7)).block,(ad339.add ((x5_1).toNat * 7)).off + 4,none⟩ = some (.string ((rd_T63 l0 x5_1).f4)) ∧ w'.cell? ⟨(ad339.add ((x5_1).toNat * 7)).block,(ad339.add ((x5_1).toNat * 7)).off + 5,none⟩ = some (.string ((rd_T63 l0 x5_1).f5)) ∧ w'.cell? ⟨(ad339.add ((x5_1).toNat * 7)).block,(ad339.add ((x5_1).toNat * 7)).off + 6,none⟩ = some (.string ((rd_T63 l0 x5_1).f6)) ∧ w'.cell? (ad340.add ((x5_1).toNat * 7)) = some (.int .i64 ((rd_T63 l1 x5_1).f0)) ∧ w'.cell? ⟨(ad340.add ((x5_1).toNat * 7)).block,(ad340.add ((x5_1).toNat * 7)).off + 1,none⟩ = some (.int .i64 ((rd_T63 l1 x5_1).f1)) ∧ w'.cell? ⟨(ad340.add ((x5_1).toNat * 7)).block,(ad340.add ((x5_1).toNat * 7)).off + 2,none⟩ = some (.int .i64 ((rd_T63 l1 x5_1).f2)) ∧ w'.cell? ⟨(ad340.add ((x5_1).toNat * 7)).block,(ad340.add ((x5_1).toNat * 7)).off + 3,none⟩ = some (.int .i64 ((rd_T63 l1 x5_1).f3)) ∧ w'.cell? ⟨(ad340.add ((x5_1).toNat * 7)).block,(ad340.add ((x5_1).toNat * 7)).off + 4,none⟩ = some (.string ((rd_T63 l1 x5_1).f4)) ∧ w'.cell? ⟨(ad340.add ((x5_1).toNat * 7)).block,(ad340.add ((x5_1).toNat * 7)).off + 5,none⟩ = some (.string ((rd_T63 l1 x5_1).f5)) ∧ w'.cell? ⟨(ad340.add ((x5_1).toNat * 7)).block,(ad340.add ((x5_1).toNat * 7)).off + 6,none⟩ = some (.string ((rd_T63 l1 x5_1).f6))) (ds := []) #[false,false,false,false,false,false,false,false,false,false] (by kernel_rfl) rfl rfl ⟨(zx_ HB hw339_0),(zx_ HB hw339_1),(zx_ HB hw339_2),(zx_ HB hw339_3),(zx_ HB hw339_4),(zx_ HB hw339_5),(zx_ HB hw339_6),(zx_ HB hw340_0),(zx_ HB hw340_1),(zx_ HB hw340_2),(zx_ HB hw340_3),(zx_ HB hw340_4),(zx_ HB hw340_5),(zx_ HB hw340_6)⟩ (fun hHeld => ?_);refine with_tabW laws_eqMessageS.tab6 laws_eqMessageS.bits6 (fun HT_ HW_ => ?_)
        generalize wr.drew = w11 at HB hx339_0 hx339_1 hx339_2 hx339_3 hx339_4 hx339_5 hx339_6 hx340_0 hx340_1 hx340_2 hx340_3 hx340_4 hx340_5 hx340_6 hHeld ⊢
        refine zpu 0 (N := some 17) HT_ ?_
        refine zpu 1 (N := some 18) HT_ ?_
        refine zpu 2 (N := some 19) HT_ ?_
        refine zpu 4 (N := some 21) HT_ ?_
        refine zpu 5 (N := some 22) HT_ ?_
        refine zpu 6 (N := some 23) HT_ ?_
        refine ztk 3 (N := some 20) HT_ HW_ hHeld ?_
        refine ztk 7 (N := some 24) HT_ HW_ hHeld ?_
        refine zon 8 (N := some 25) HT_ (fun K hK => ?_)
        refine zgo Try.func71 #[.agg #[.int .i64 ((rd_T63 l0 x5_1).f0),.int .i64 ((rd_T63 l0 x5_1).f1),.int .i64 ((rd_T63 l0 x5_1).f2),.int .i64 ((rd_T63 l0 x5_1).f3),.string ((rd_T63 l0 x5_1).f4),.string ((rd_T63 l0 x5_1).f5),.string ((rd_T63 l0 x5_1).f6)],.agg #[.int .i64 ((rd_T63 l1 x5_1).f0),.int .i64 ((rd_T63 l1 x5_1).f1),.int .i64 ((rd_T63 l1 x5_1).f2),.int .i64 ((rd_T63 l1 x5_1).f3),.string ((rd_T63 l1 x5_1).f4),.string ((rd_T63 l1 x5_1).f5),.string ((rd_T63 l1 x5_1).f6)]] ?_
        with_reducible refine (laws_eqMessage.calls ((rd_T63 l0 x5_1).f0) ((rd_T63 l0 x5_1).f1) ((rd_T63 l0 x5_1).f2) ((rd_T63 l0 x5_1).f3) ((rd_T63 l0 x5_1).f4) ((rd_T63 l0 x5_1).f5) ((rd_T63 l0 x5_1).f6) ((rd_T63 l1 x5_1).f0) ((rd_T63 l1 x5_1).f1) ((rd_T63 l1 x5_1).f2) ((rd_T63 l1 x5_1).f3) ((rd_T63 l1 x5_1).f4) ((rd_T63 l1 x5_1).f5) ((rd_T63 l1 x5_1).f6) false _ A7.out).mono ?_
        rintro e w12 ⟨rfl,hb⟩
        refine ⟨_,rfl,?_⟩
        replace HB := zs_ HB hb
        (try clear hb)
        (try clear hb2)
        (try clear hk)
        (try clear hi)
        refine hK.out _ _ ⟨(zx_ HB hw339_0),(zx_ HB hw339_1),(zx_ HB hw339_2),(zx_ HB hw339_3),(zx_ HB hw339_4),(zx_ HB hw339_5),(zx_ HB hw339_6),(zx_ HB hw340_0),(zx_ HB hw340_1),(zx_ HB hw340_2),(zx_ HB hw340_3),(zx_ HB hw340_4),(zx_ HB hw340_5),(zx_ HB hw340_6)⟩ (fun hHeld => ?_)
        clear hK K
        refine norm_ (a' := ?_) ?_ ?_
        rotate_left
        ·show Act.put _ (some 25) _ = _
         simp only [Act.put,p1_,p2_,p3_,i64_w,i32_w]
         rfl
        refine zpu 9 (N := some 26) HT_ ?_
        refine done_ (done_of HT_.out (by kernel_rfl)) ?_
        try go_wp2
        go_ret
        exact ⟨zt_,zl_ HB⟩
      ·rw [if_neg c6] at H
       exact absurd H (by simp)
     ·rw [if_neg c5] at H
      exact absurd H (by simp)
    ·rw [if_neg c4] at H
     have c4b0 : decide (x5_1 < (l0.length : Int)) = false := decide_eq_false c4
     clear c4
     obtain rfl := Option.some.inj H
     go_wp2
     go_ret
     exact ⟨zt_,zl_ HB⟩
 ·rw [if_neg c3] at H
  have c3b0 : ((l0.length : Int) == (l1.length : Int)) = false := beq_eq_false_iff_ne.mpr c3
  have c3b1 : ((l0.length : Int) != (l1.length : Int)) = true := bne_iff_ne.mpr c3
  have c3b2 : (l0.length == l1.length) = false := by first | simpa using c3 | (simp at c3 ⊢;omega)
  obtain rfl := Option.some.inj H
  go_enter Try.func42,Try.ntmps42
  go_wp2
  go_ret
  exact ⟨zt_,zl_ HB⟩
set_option maxHeartbeats 8000000 in
set_option maxRecDepth 100000 in
theorem laws_eqCert.calls (k : Nat) (a0_0 : ByteArray) (A0_1 : Option Addr) (c0_1 : Nat) (l0_1 : List (S63)) (a1_0 : ByteArray) (A1_1 : Option Addr) (c1_1 : Nat) (l1_1 : List (S63)) (r : Bool) (w : World) (hr0_1 : Kd.C k63 w A0_1 l0_1.length l0_1) (hc0_1 : l0_1.length ≤ c0_1) (hr1_1 : Kd.C k63 w A1_1 l1_1.length l1_1) (hc1_1 : l1_1.length ≤ c1_1) (h : laws_eqCert.f k a0_0 l0_1 a1_0 l1_1 = some r) :
  Calls Try.prog 20 #[.agg #[.string a0_0,.slice A0_1 l0_1.length c0_1],.agg #[.string a1_0,.slice A1_1 l1_1.length c1_1]] w fun e w' => e = .returned (.bool r) ∧ Below w.heap.size w w' := by
 have hu39 := Try.underlying39
 have HR0_1 := am_ hr0_1
 have HC0_1 := am_ hc0_1
 clear hr0_1 hc0_1
 have HR1_1 := am_ hr1_1
 have HC1_1 := am_ hc1_1
 clear hr1_1 hc1_1
 have HB := am_ (Below.refl w.heap.size w)
 have H : (if a0_0.toList = a1_0.toList then ((laws_eqMessageS.f k l0_1 l1_1).bind fun t344 => (if t344 = true then (some true) else (some false))) else (some false)) = some r := h
 clear h
 by_cases c3 : a0_0.toList = a1_0.toList
 ·rw [if_pos c3] at H
  have c3b0 : (a0_0.toList == a1_0.toList) = true := beq_iff_eq.mpr c3
  have c3b1 : (a0_0.toList != a1_0.toList) = false := bne_eq_false_iff_eq.mpr c3
  clear c3
  replace H := Option.bind_eq_some_iff.mp H
  obtain ⟨t344,A40,H⟩ := H
  try dsimp only at H
  have A4 := am_ A40
  clear A40
  by_cases c5 : t344 = true
  ·subst c5
   have H1 : (some true) = some r := by rw [if_pos rfl] at H;exact H
   clear H
   have H := H1
   clear H1
   obtain rfl := Option.some.inj H
   go_enter Try.func20,Try.ntmps20
   go_wp2_with (first | ((with_reducible refine gate_dst (N := 2) rfl ?_);refine zbx (N := 2) (cs := #[.string a0_0,.slice A0_1 l0_1.length c0_1]) (t := 39) ?_;intro gb342 hg w6 hbox hb;have BK342 := am_ (hbox);have GW342 := zw_ HB hg;have GE342 := zw_ HB hg;replace HB := zs_ HB hb;clear hb hbox hg) | ((with_reducible refine gate_dst (N := 3) rfl ?_);refine zbx (N := 3) (cs := #[.string a1_0,.slice A1_1 l1_1.length c1_1]) (t := 39) ?_;intro gb343 hg w7 hbox hb;have BK343 := am_ (hbox);have GW343 := zw_ HB hg;have GE343 := zw_ HB hg;replace HB := zs_ HB hb;have NB342_343 := zl hg BK342;have NB343_342 := zg hg BK342;replace BK342 := zb BK342 hb;clear hb hbox hg;have hnb8 := NB342_343.out;have hnc8 := NB343_342.out;obtain ⟨hcz9_0,hcz9_1,hfz9_0,hfz9_1⟩ := zc2 BK342;obtain ⟨hcz10_0,hcz10_1,hfz10_0,hfz10_1⟩ := zc2 BK343) | ((with_reducible refine gate_callee (f := 42) rfl ?_);refine zgl (some 14) Try.func42 #[.slice A0_1 l0_1.length c0_1,.slice A1_1 l1_1.length c1_1] ?_;(with_reducible refine (laws_eqMessageS.calls k _ _ l0_1 _ _ l1_1 true _ ?side1 ?side2 ?side3 ?side4 A4.out).mono ?_);(case side1 => exact zc_ HR0_1 HB);(case side2 => exact HC0_1.out);(case side3 => exact zc_ HR1_1 HB);(case side4 => exact HC1_1.out);rintro e w11 ⟨rfl,hb⟩;refine ⟨_,rfl,?_⟩;replace BK342 := zb BK342 hb;replace BK343 := zb BK343 hb;replace HB := zs_ HB hb;(try clear hb);(try clear hb2);(try clear hk);(try clear hi)))
   go_ret
   exact ⟨zt_,zl_ HB⟩
  ·replace c5 := Bool.eq_false_iff.mpr c5
   subst c5
   have H1 : (some false) = some r := by rw [if_neg (show ¬ (false = true) by decide)] at H;exact H
   clear H
   have H := H1
   clear H1
   obtain rfl := Option.some.inj H
   go_enter Try.func20,Try.ntmps20
   go_wp2_with (first | ((with_reducible refine gate_dst (N := 2) rfl ?_);refine zbx (N := 2) (cs := #[.string a0_0,.slice A0_1 l0_1.length c0_1]) (t := 39) ?_;intro gb342 hg w12 hbox hb;have BK342 := am_ (hbox);have GW342 := zw_ HB hg;have GE342 := zw_ HB hg;replace HB := zs_ HB hb;clear hb hbox hg) | ((with_reducible refine gate_dst (N := 3) rfl ?_);refine zbx (N := 3) (cs := #[.string a1_0,.slice A1_1 l1_1.length c1_1]) (t := 39) ?_;intro gb343 hg w13 hbox hb;have BK343 := am_ (hbox);have GW343 := zw_ HB hg;have GE343 := zw_ HB hg;replace HB := zs_ HB hb;have NB342_343 := zl hg BK342;have NB343_342 := zg hg BK342;replace BK342 := zb BK342 hb;clear hb hbox hg;have hnb14 := NB342_343.out;have hnc14 := NB343_342.out;obtain ⟨hcz15_0,hcz15_1,hfz15_0,hfz15_1⟩ := zc2 BK342;obtain ⟨hcz16_0,hcz16_1,hfz16_0,hfz16_1⟩ := zc2 BK343) | ((with_reducible refine gate_callee (f := 42) rfl ?_);refine zgl (some 14) Try.func42 #[.slice A0_1 l0_1.length c0_1,.slice A1_1 l1_1.length c1_1] ?_;(with_reducible refine (laws_eqMessageS.calls k _ _ l0_1 _ _ l1_1 false _ ?side1 ?side2 ?side3 ?side4 A4.out).mono ?_);(case side1 => exact zc_ HR0_1 HB);(case side2 => exact HC0_1.out);(case side3 => exact zc_ HR1_1 HB);(case side4 => exact HC1_1.out);rintro e w17 ⟨rfl,hb⟩;refine ⟨_,rfl,?_⟩;replace HB := zs_ HB hb;(try clear hb);(try clear hb2);(try clear hk);(try clear hi)))
   go_ret
   exact ⟨zt_,zl_ HB⟩
 ·rw [if_neg c3] at H
  have c3b0 : (a0_0.toList == a1_0.toList) = false := beq_eq_false_iff_ne.mpr c3
  have c3b1 : (a0_0.toList != a1_0.toList) = true := bne_iff_ne.mpr c3
  obtain rfl := Option.some.inj H
  go_enter Try.func20,Try.ntmps20
  go_wp2_with (first | ((with_reducible refine gate_dst (N := 2) rfl ?_);refine zbx (N := 2) (cs := #[.string a0_0,.slice A0_1 l0_1.length c0_1]) (t := 39) ?_;intro gb342 hg w18 hbox hb;have BK342 := am_ (hbox);have GW342 := zw_ HB hg;have GE342 := zw_ HB hg;replace HB := zs_ HB hb;clear hb hbox hg) | ((with_reducible refine gate_dst (N := 3) rfl ?_);refine zbx (N := 3) (cs := #[.string a1_0,.slice A1_1 l1_1.length c1_1]) (t := 39) ?_;intro gb343 hg w19 hbox hb;have BK343 := am_ (hbox);have GW343 := zw_ HB hg;have GE343 := zw_ HB hg;replace HB := zs_ HB hb;have NB342_343 := zl hg BK342;have NB343_342 := zg hg BK342;replace BK342 := zb BK342 hb;clear hb hbox hg;have hnb20 := NB342_343.out;have hnc20 := NB343_342.out;obtain ⟨hcz21_0,hcz21_1,hfz21_0,hfz21_1⟩ := zc2 BK342;obtain ⟨hcz22_0,hcz22_1,hfz22_0,hfz22_1⟩ := zc2 BK343))
  go_ret
  exact ⟨zt_,zl_ HB⟩
set_option maxHeartbeats 8000000 in
set_option maxRecDepth 100000 in
theorem laws_heldByteS.calls (k : Nat) (A0 : Option Addr) (c0 : Nat) (l0 : List Int) (a1 : Int) (r : Int) (w : World) (hr0 : Kd.C (Kd.int .u8) w A0 l0.length l0) (hc0 : l0.length ≤ c0) (h : laws_heldByteS.f k l0 a1 = some r) :
  Calls Try.prog 15 #[.slice A0 l0.length c0,.int .i64 a1] w fun e w' => e = .returned (.int .i64 r) ∧ Drawn0 w w' := by
 have HR0 := am_ hr0
 have HC0 := am_ hc0
 clear hr0 hc0
 have H : (laws_heldByteS.l0 k l0 a1 0) = some r := h
 clear h
 have H' := am_ H
 clear H
 go_enter Try.func15,Try.ntmps15
 go_wp2
 go_loopg [1,5] k (fun kq v1 v5 w' => ∃ (x1_1 : Int) (x5_1 : Int),v1 = .int .i64 x1_1 ∧ v5 = .int .i64 x5_1 ∧ Aside0 (laws_heldByteS.l0 kq l0 x1_1 x5_1 = some r) ∧ Aside0 (kq ≤ k) ∧ Drawn0 w w')
 case atStart => exact ⟨(a1),(0),(by first | rfl | (simp;done) | (simp [*];done)),(by first | rfl | (simp;done) | (simp [*];done)),H',⟨Nat.le_refl _⟩,by repeat (first | exact Drawn0.refl _ | apply Drawn0.step)⟩
 case round =>
  clear H'
  try clear c1
  try clear p2
  obtain ⟨x1_1,x5_1,rfl,rfl,HA,HK1,⟨m1,rfl⟩⟩ := hrel
  cases gk with
  | zero => exact absurd HA.out (by simp [laws_heldByteS.l0])
  | succ k1 =>
   have H := HA.out
   clear HA
   simp only [laws_heldByteS.l0] at H
   by_cases c3 : x5_1 < (l0.length : Int)
   ·rw [if_pos c3] at H
    have c3b0 : decide (x5_1 < (l0.length : Int)) = true := decide_eq_true c3
    clear c3
    by_cases c4 : 0 ≤ x5_1
    ·rw [if_pos c4] at H
     have c4b0 : decide (0 ≤ x5_1) = true := decide_eq_true c4
     clear c4
     by_cases c5 : (rd l0 x5_1) = ((x1_1) % 256)
     ·rw [if_pos c5] at H
      have c5b0 : ((rd l0 x5_1) == ((x1_1) % 256)) = true := beq_iff_eq.mpr c5
      have c5b1 : ((rd l0 x5_1) != ((x1_1) % 256)) = false := bne_eq_false_iff_eq.mpr c5
      clear c5
      have H' := am_ H
      clear H
      have p153 : 0 ≤ (x5_1 : Int) := zo_
      have q153 : x5_1 < (l0.length : Int) := zo_
      obtain ⟨ad153,e153,hx153_0⟩ := Kd.at_int HR0.out x5_1 p153 q153
      cases e153
      replace p153 := eq_true p153
      replace q153 := eq_true q153
      go_wp2
      go_roundg k1
      case measure => have := HK1.out;omega
      case rel => exact ⟨(wrap64 (x1_1 + 1)),(wrap64 (x5_1 + 1)),(by first | rfl | (simp;done) | (simp [*];done)),(by first | rfl | (simp;done) | (simp [*];done)),H',⟨by have := HK1.out;omega⟩,by repeat (first | exact Drawn0.refl _ | apply Drawn0.step)⟩
     ·rw [if_neg c5] at H
      have c5b0 : ((rd l0 x5_1) == ((x1_1) % 256)) = false := beq_eq_false_iff_ne.mpr c5
      have c5b1 : ((rd l0 x5_1) != ((x1_1) % 256)) = true := bne_iff_ne.mpr c5
      obtain rfl := Option.some.inj H
      have p153 : 0 ≤ (x5_1 : Int) := zo_
      have q153 : x5_1 < (l0.length : Int) := zo_
      obtain ⟨ad153,e153,hx153_0⟩ := Kd.at_int HR0.out x5_1 p153 q153
      cases e153
      replace p153 := eq_true p153
      replace q153 := eq_true q153
      go_wp2
      go_ret
      exact ⟨by first | rfl | (simp;done) | (simp [*];done),by repeat (first | exact Drawn0.refl _ | apply Drawn0.step)⟩
    ·rw [if_neg c4] at H
     exact absurd H (by simp)
   ·rw [if_neg c3] at H
    have c3b0 : decide (x5_1 < (l0.length : Int)) = false := decide_eq_false c3
    clear c3
    obtain rfl := Option.some.inj H
    go_wp2
    go_ret
    exact ⟨by first | rfl | (simp;done) | (simp [*];done),by repeat (first | exact Drawn0.refl _ | apply Drawn0.step)⟩
set_option maxHeartbeats 8000000 in
set_option maxRecDepth 100000 in
theorem laws_markByteS.callsB (k : Nat) (P0_ : Nat → Prop) (u9000_ : Value) (l0 : List Int) (a1 : Int) (r1 : Int) (r2 : List Int) (w0 w : World) (hB : Below w0.heap.size w0 w) (ho0 : Kd.B 5 w w0.heap.size P0_ u9000_ l0) (h : laws_markByteS.f k l0 a1 = some (r1,r2)) :
  Calls Try.prog 14 #[u9000_,.int .i64 a1] w fun e w' => e = .returned (.int .i64 r1) ∧ Kd.B 5 w' w0.heap.size (fun k_ => (P0_ k_ ∨ w.heap.size ≤ k_)) u9000_ r2 ∧ Below w0.heap.size w0 w' ∧ Kept w w' (fun k_ => P0_ k_) := by
 have HO0 := am_ (show Kd.B 5 w w0.heap.size (fun k_ => (P0_ k_ ∨ w.heap.size ≤ k_)) u9000_ l0 from Kd.B_mono ho0 (fun k_ hk => (.inl hk)))
 have HK := am_ (Kept.refl w (fun k_ => P0_ k_))
 have HW0 := am_ hB.size
 have HB := am_ hB
 clear hB
 have H : (laws_markByteS.l0 k l0 a1 0) = some (r1,r2) := h
 clear h
 have H' := am_ H
 clear H
 go_enter Try.func14,Try.ntmps14
 go_wp2
 go_loopg [1,5] k (fun kq v1 v5 w' => ∃ (x0_1 : List Int) (x1_1 : Int) (x5_1 : Int),v1 = .int .i64 x1_1 ∧ v5 = .int .i64 x5_1 ∧ Aside0 (laws_markByteS.l0 kq x0_1 x1_1 x5_1 = some (r1,r2)) ∧ Aside0 (kq ≤ k) ∧ Aside0 (Kd.B 5 w' w0.heap.size (fun k_ => (P0_ k_ ∨ w.heap.size ≤ k_)) u9000_ x0_1) ∧ Aside0 (Kept w w' (fun k_ => P0_ k_)) ∧ Aside0 (Below w0.heap.size w0 w'))
 case atStart => exact ⟨(l0),(a1),(0),(by first | rfl | (simp;done) | (simp [*];done)),(by first | rfl | (simp;done) | (simp [*];done)),H',⟨Nat.le_refl _⟩,⟨Kd.zrB HO0⟩,⟨by repeat (first | (with_reducible first | exact HK.out | apply Kept.alloc | apply Kept.drewN | apply Kept.drew) | exact HK.out)⟩,⟨zl_ HB⟩⟩
 case round =>
  clear H'
  try clear c1
  try clear p2
  obtain ⟨x0_1,x1_1,x5_1,rfl,rfl,HA,HK1,HO_0,HK,HB⟩ := hrel
  cases gk with
  | zero => exact absurd HA.out (by simp [laws_markByteS.l0])
  | succ k1 =>
   have H := HA.out
   clear HA
   simp only [laws_markByteS.l0] at H
   by_cases c3 : x5_1 < (x0_1.length : Int)
   ·rw [if_pos c3] at H
    have c3b0 : decide (x5_1 < (x0_1.length : Int)) = true := decide_eq_true c3
    clear c3
    by_cases c4 : 0 ≤ x5_1
    ·rw [if_pos c4] at H
     have c4b0 : decide (0 ≤ x5_1) = true := decide_eq_true c4
     clear c4
     obtain ⟨y152,hy152⟩ : ∃ y_ : List Int,y_ = (x0_1.set (x5_1 : Int).toNat ((x1_1) % 256)) := ⟨_,rfl⟩
     replace H : (laws_markByteS.l0 k1 y152 (wrap64 (x1_1 + 1)) (wrap64 (x5_1 + 1))) = some (r1,r2) := by first | (rw [hy152];with_reducible exact H) | (have H2_ := (Option.bind_some _ _).symm.trans H;rw [hy152];with_reducible exact H2_) | (have H2_ := (Option.bind_some _ _).symm.trans H;with_reducible exact H2_) | with_reducible exact H | (rw [hy152];exact H) | exact H
     have Ny152 := am_ hy152
     clear hy152
     have H' := am_ H
     clear H
     obtain ⟨Ao6,co6,eo6⟩ := Kd.B_slice HO_0.out
     subst eo6
     have p5 : 0 ≤ (x5_1 : Int) := zo_
     have q5 : (x5_1 : Int) < ((x0_1.length : Int) : Int) := zo_
     obtain ⟨go5,co5,eo5,gb5,gl5⟩ := Kd.B_form HO_0.out (by omega)
     (first | cases eo5 | (injection eo5 with ea_ en_ ec_;(first | subst ea_ | (injection ea_ with ea_;subst ea_));subst ec_;clear en_))
     have GB5 := am_ gb5
     clear gb5 gl5
     have HMgo5 := am_ (show (P0_ go5 ∨ w.heap.size ≤ go5) from (HO_0.out.1 _ rfl))
     obtain ⟨hx5_0,hf5_0⟩ := Kd.B_celln HO_0.out (x5_1 : Int) p5 q5
     replace p5 := eq_true p5
     replace q5 := eq_true q5
     have HP7 := Kd.B_putg HO_0.out (x5_1 : Int) ((x1_1) % 256)
     go_wp2_with (first | ((with_reducible refine gate_store (t := 5) (p := 16) rfl ?_);refine store_event (t := 5) (p := 16) (v := ?vo_w8) (w1 := (wr.setCell ⟨go5,(x5_1 : Int).toNat,none⟩ (.int .u8 ((x1_1) % 256)))) ?hg ?ho ?hn ?hr ?_;(case ho => rfl);(case hg => rfl);(case hn => rfl);(case hr => first | (go_simp;done) | (go_simp;rfl));intro w8 hw;have hg : wr.grownBy w8 (some go5) := (by rw [hw];exact HP7.2);have hp_ : Kd.B 5 w8 w0.heap.size (fun k_ => (P0_ k_ ∨ w.heap.size ≤ k_)) (.slice (some ⟨go5,0,none⟩) x0_1.length co6) y152 := (by rw [hw,Ny152.out];exact HP7.1);clear HP7;replace HB := am_ ((by rw [hw];exact below_set (HB.out) GB5.out : Below w0.heap.size w0 w8));replace HK := am_ (Kept.of_grown (S := (fun k_ => P0_ k_)) hg (by repeat (first | (with_reducible first | exact HK.out | apply Kept.alloc | apply Kept.drewN | apply Kept.drew) | exact HK.out)) (fun k_ e_ => (HO_0.out.1 k_ e_)));replace HO_0 := am_ (hp_);clear hg hw hp_))
     go_roundg k1
     case measure => have := HK1.out;omega
     case rel => exact ⟨(y152),(wrap64 (x1_1 + 1)),(wrap64 (x5_1 + 1)),(by first | rfl | (simp;done) | (simp [*];done)),(by first | rfl | (simp;done) | (simp [*];done)),H',⟨by have := HK1.out;omega⟩,⟨Kd.zrB HO_0⟩,⟨by repeat (first | (with_reducible first | exact HK.out | apply Kept.alloc | apply Kept.drewN | apply Kept.drew) | exact HK.out)⟩,⟨zl_ HB⟩⟩
    ·rw [if_neg c4] at H
     exact absurd H (by simp)
   ·rw [if_neg c3] at H
    have c3b0 : decide (x5_1 < (x0_1.length : Int)) = false := decide_eq_false c3
    clear c3
    simp only [Option.some.injEq,Prod.mk.injEq] at H
    obtain ⟨rfl,rfl⟩ := H
    obtain ⟨Ao9,co9,eo9⟩ := Kd.B_slice HO_0.out
    subst eo9
    go_wp2
    go_ret
    exact ⟨zt_,Kd.zrB HO_0,zl_ HB,by repeat (first | (with_reducible first | exact HK.out | apply Kept.alloc | apply Kept.drewN | apply Kept.drew) | exact HK.out)⟩
set_option maxHeartbeats 8000000 in
set_option maxRecDepth 100000 in
theorem laws_markText.calls (k : Nat) (a0 : Int) (r : ByteArray) (w : World) (h : laws_markText.f k a0 = some r) :
  Calls Try.prog 36 #[.int .i64 a0] w fun e w' => e = .returned (.string r) ∧ Below w.heap.size w w' := by
 have HB := am_ (Below.refl w.heap.size w)
 have H : (if a0 ≤ 0 then (some (⟨#[109,48]⟩ : ByteArray)) else (laws_markText.l0 k a0 (⟨#[]⟩ : ByteArray))) = some r := h
 clear h
 by_cases c2 : a0 ≤ 0
 ·rw [if_pos c2] at H
  have c2b0 : decide (a0 ≤ 0) = true := decide_eq_true c2
  clear c2
  obtain rfl := Option.some.inj H
  go_enter Try.func36,Try.ntmps36
  go_wp2
  go_ret
  exact ⟨zt_,zl_ HB⟩
 ·rw [if_neg c2] at H
  have c2b0 : decide (a0 ≤ 0) = false := decide_eq_false c2
  clear c2
  have H' := am_ H
  clear H
  go_enter Try.func36,Try.ntmps36
  go_wp2
  go_loopg [0,3] k (fun kq v0 v3 w' => ∃ (x0_1 : Int) (x3_1 : ByteArray),v0 = .int .i64 x0_1 ∧ v3 = .string x3_1 ∧ Aside0 (laws_markText.l0 kq x0_1 x3_1 = some r) ∧ Aside0 (kq ≤ k) ∧ Aside0 (Below w.heap.size w w'))
  case atStart => exact ⟨(a0),((⟨#[]⟩ : ByteArray)),(by first | rfl | (simp;done) | (simp [*];done)),(by first | rfl | (simp;done) | (simp [*];done)),H',⟨Nat.le_refl _⟩,⟨zl_ HB⟩⟩
  case round =>
   clear H'
   try clear c2
   try clear c2b0
   try clear p2
   obtain ⟨x0_1,x3_1,rfl,rfl,HA,HK1,HB⟩ := hrel
   cases gk with
   | zero => exact absurd HA.out (by simp [laws_markText.l0])
   | succ k1 =>
    have H := HA.out
    clear HA
    simp only [laws_markText.l0] at H
    by_cases c3 : x0_1 > 0
    ·rw [if_pos c3] at H
     have c3b0 : decide (0 < x0_1) = true := decide_eq_true c3
     clear c3
     obtain ⟨y147,hy147⟩ : ∃ y_ : List Int,y_ = (([(wrap64 (48 + (Int.tmod x0_1 10))) % 256] : List Int)) := ⟨_,rfl⟩
     replace H : (if (strOfNums y147).size + x3_1.size ≤ 9223372036854775807 then (laws_markText.l0 k1 (wrap64 (Int.tdiv x0_1 10)) ((strOfNums y147) ++ x3_1)) else (none)) = some r := by first | (rw [hy147];with_reducible exact H) | (have H2_ := (Option.bind_some _ _).symm.trans H;rw [hy147];with_reducible exact H2_) | (have H2_ := (Option.bind_some _ _).symm.trans H;with_reducible exact H2_) | with_reducible exact H | (rw [hy147];exact H) | exact H
     have Ny147 := am_ hy147
     clear hy147
     by_cases c4 : (strOfNums y147).size + x3_1.size ≤ 9223372036854775807
     ·rw [if_pos c4] at H
      have c4b0 := eq_true c4
      have c4b1 : decide ((strOfNums y147).size + x3_1.size ≤ 9223372036854775807) = true := decide_eq_true c4
      try have c4b2 : (9223372036854775807 < (strOfNums y147).size + x3_1.size) = False := eq_false (Nat.not_lt.2 c4)
      have H' := am_ H
      clear H
      go_wp2_with (first | ((with_reducible refine gate_dst (N := 12) rfl ?_);refine Kd.R_lit (Kd.int .u8) _ 5 ?hg (N := 12) ?hd (xs := ([(wrap64 (48 + (Int.tmod x0_1 10))) % 256] : List Int)) (inner := [.int .u8 ((wrap64 (48 + (Int.tmod x0_1 10))) % 256)]) (ok := fun _ => True) (okp := fun _ => True) ?hr ?hp (fun _ hk => hk) trivial (Below.refl _ _) (Nat.le_refl _) (by simp) ?_;(case hd => rfl);(case hg => rfl);(case hr => first | (go_simp;done) | (go_simp;rfl));(case hp => exact (Reps.one (show Kd.M (Kd.int .u8) _ _ _ ((wrap64 (48 + (Int.tmod x0_1 10))) % 256) [.int .u8 ((wrap64 (48 + (Int.tmod x0_1 10))) % 256)] from rfl) (Reps.none _ _)));intro v148 w5 ho6 hb hg_ hnew_;clear hg_ hnew_;(first | rw [← Ny147.out] at ho6 | (simp only [Int.reduceToNat] at ho6;rw [← Ny147.out] at ho6));have HO149 := am_ (Kd.R_lower ho6 (below_size (zl_ HB)));replace HB := zs_ HB hb;clear hb ho6;have hcv7 := own_string (P := Try.prog) Try.underlying24 Try.underlying5 Try.underlying9 (Kd.own_of_R HO149.out)))
      go_roundg k1
      case measure => have := HK1.out;omega
      case rel => exact ⟨(wrap64 (Int.tdiv x0_1 10)),((strOfNums y147) ++ x3_1),(by first | rfl | (simp;done) | (simp [*];done)),(by first | rfl | (simp;done) | (simp [*];done)),H',⟨by have := HK1.out;omega⟩,⟨zl_ HB⟩⟩
     ·rw [if_neg c4] at H
      exact absurd H (by simp)
    ·rw [if_neg c3] at H
     have c3b0 : decide (0 < x0_1) = false := decide_eq_false c3
     clear c3
     by_cases c8 : 1 + x3_1.size ≤ 9223372036854775807
     ·rw [if_pos c8] at H
      have c8b0 := eq_true c8
      have c8b1 : decide (1 + x3_1.size ≤ 9223372036854775807) = true := decide_eq_true c8
      try have c8b2 : (9223372036854775807 < 1 + x3_1.size) = False := eq_false (Nat.not_lt.2 c8)
      obtain rfl := Option.some.inj H
      go_wp2
      go_ret
      exact ⟨zt_,zl_ HB⟩
     ·rw [if_neg c8] at H
      exact absurd H (by simp)
set_option maxHeartbeats 8000000 in
set_option maxRecDepth 100000 in
theorem laws_markMessageS.calls (k : Nat) (P0_ : Nat → Prop) (u9000_ : Value) (l0 : List (S63)) (a1 : Int) (r1 : Int) (r2 : List (S63)) (w0 w : World) (hB : Below w0.heap.size w0 w) (ho0 : Kd.R k63 63 w w0.heap.size P0_ u9000_ l0) (h : laws_markMessageS.f k l0 a1 = some (r1,r2)) :
  Calls Try.prog 43 #[u9000_,.int .i64 a1] w fun e w' => e = .returned (.int .i64 r1) ∧ Kd.R k63 63 w' w0.heap.size (fun k_ => (P0_ k_ ∨ w.heap.size ≤ k_)) u9000_ r2 ∧ Below w0.heap.size w0 w' ∧ Kept w w' (fun k_ => P0_ k_) := by
 have HO0 := am_ (show Kd.R k63 63 w w0.heap.size (fun k_ => (P0_ k_ ∨ w.heap.size ≤ k_)) u9000_ l0 from Kd.R_mono ho0 (fun k_ hk => (.inl hk)))
 have HK := am_ (Kept.refl w (fun k_ => P0_ k_))
 have HW0 := am_ hB.size
 have HB := am_ hB
 clear hB
 have H : (laws_markMessageS.l0 k l0 a1 0) = some (r1,r2) := h
 clear h
 have H' := am_ H
 clear H
 go_enter Try.func43,Try.ntmps43
 go_wp2
 go_loopg [1,5] k (fun kq v1 v5 w' => ∃ (x0_1 : List (S63)) (x1_1 : Int) (x5_1 : Int),v1 = .int .i64 x1_1 ∧ v5 = .int .i64 x5_1 ∧ Aside0 (laws_markMessageS.l0 kq x0_1 x1_1 x5_1 = some (r1,r2)) ∧ Aside0 (kq ≤ k) ∧ Aside0 (Kd.R k63 63 w' w0.heap.size (fun k_ => (P0_ k_ ∨ w.heap.size ≤ k_)) u9000_ x0_1) ∧ Aside0 (Kept w w' (fun k_ => P0_ k_)) ∧ Aside0 (Below w0.heap.size w0 w'))
 case atStart => exact ⟨(l0),(a1),(0),(by first | rfl | (simp;done) | (simp [*];done)),(by first | rfl | (simp;done) | (simp [*];done)),H',⟨Nat.le_refl _⟩,⟨zr HO0⟩,⟨by repeat (first | (with_reducible first | exact HK.out | apply Kept.alloc | apply Kept.drewN | apply Kept.drew) | exact HK.out)⟩,⟨zl_ HB⟩⟩
 case round =>
  clear H'
  try clear p2
  obtain ⟨x0_1,x1_1,x5_1,rfl,rfl,HA,HK1,HO_0,HK,HB⟩ := hrel
  cases gk with
  | zero => exact absurd HA.out (by simp [laws_markMessageS.l0])
  | succ k1 =>
   have H := HA.out
   clear HA
   simp only [laws_markMessageS.l0] at H
   by_cases c3 : x5_1 < (x0_1.length : Int)
   ·rw [if_pos c3] at H
    have c3b0 : decide (x5_1 < (x0_1.length : Int)) = true := decide_eq_true c3
    clear c3
    by_cases c4 : 0 ≤ x5_1
    ·rw [if_pos c4] at H
     have c4b0 : decide (0 ≤ x5_1) = true := decide_eq_true c4
     clear c4
     obtain ⟨y345,hy345⟩ : ∃ y_ : List (S63),y_ = (x0_1.set (x5_1 : Int).toNat (⟨x1_1,(rd_T63 x0_1 x5_1).f1,(rd_T63 x0_1 x5_1).f2,(rd_T63 x0_1 x5_1).f3,(rd_T63 x0_1 x5_1).f4,(rd_T63 x0_1 x5_1).f5,(rd_T63 x0_1 x5_1).f6⟩ : S63)) := ⟨_,rfl⟩
     replace H : ((some (y345.set (x5_1 : Int).toNat (⟨(rd_T63 y345 x5_1).f0,wrap64 (x1_1 + 1),(rd_T63 y345 x5_1).f2,(rd_T63 y345 x5_1).f3,(rd_T63 y345 x5_1).f4,(rd_T63 y345 x5_1).f5,(rd_T63 y345 x5_1).f6⟩ : S63) : List (S63))).bind fun y346 => ((some (y346.set (x5_1 : Int).toNat (⟨(rd_T63 y346 x5_1).f0,(rd_T63 y346 x5_1).f1,wrap64 ((wrap64 (x1_1 + 1)) + 1),(rd_T63 y346 x5_1).f3,(rd_T63 y346 x5_1).f4,(rd_T63 y346 x5_1).f5,(rd_T63 y346 x5_1).f6⟩ : S63) : List (S63))).bind fun y347 => ((some (y347.set (x5_1 : Int).toNat (⟨(rd_T63 y347 x5_1).f0,(rd_T63 y347 x5_1).f1,(rd_T63 y347 x5_1).f2,wrap64 ((wrap64 ((wrap64 (x1_1 + 1)) + 1)) + 1),(rd_T63 y347 x5_1).f4,(rd_T63 y347 x5_1).f5,(rd_T63 y347 x5_1).f6⟩ : S63) : List (S63))).bind fun y348 => ((laws_markText.f k1 (wrap64 ((wrap64 ((wrap64 ((wrap64 (x1_1 + 1)) + 1)) + 1)) + 1))).bind fun t349 => ((some (y348.set (x5_1 : Int).toNat (⟨(rd_T63 y348 x5_1).f0,(rd_T63 y348 x5_1).f1,(rd_T63 y348 x5_1).f2,(rd_T63 y348 x5_1).f3,t349,(rd_T63 y348 x5_1).f5,(rd_T63 y348 x5_1).f6⟩ : S63) : List (S63))).bind fun y350 => ((laws_markText.f k1 (wrap64 ((wrap64 ((wrap64 ((wrap64 ((wrap64 (x1_1 + 1)) + 1)) + 1)) + 1)) + 1))).bind fun t351 => ((some (y350.set (x5_1 : Int).toNat (⟨(rd_T63 y350 x5_1).f0,(rd_T63 y350 x5_1).f1,(rd_T63 y350 x5_1).f2,(rd_T63 y350 x5_1).f3,(rd_T63 y350 x5_1).f4,t351,(rd_T63 y350 x5_1).f6⟩ : S63) : List (S63))).bind fun y352 => ((laws_markText.f k1 (wrap64 ((wrap64 ((wrap64 ((wrap64 ((wrap64 ((wrap64 (x1_1 + 1)) + 1)) + 1)) + 1)) + 1)) + 1))).bind fun t353 => (laws_markMessageS.l0 k1 (y352.set (x5_1 : Int).toNat (⟨(rd_T63 y352 x5_1).f0,(rd_T63 y352 x5_1).f1,(rd_T63 y352 x5_1).f2,(rd_T63 y352 x5_1).f3,(rd_T63 y352 x5_1).f4,(rd_T63 y352 x5_1).f5,t353⟩ : S63)) (wrap64 ((wrap64 ((wrap64 ((wrap64 ((wrap64 ((wrap64 ((wrap64 (x1_1 + 1)) + 1)) + 1)) + 1)) + 1)) + 1)) + 1)) (wrap64 (x5_1 + 1))))))))))) = some (r1,r2) := by first | (rw [hy345];with_reducible exact H) | (have H2_ := (Option.bind_some _ _).symm.trans H;rw [hy345];with_reducible exact H2_) | (have H2_ := (Option.bind_some _ _).symm.trans H;with_reducible exact H2_) | with_reducible exact H | (rw [hy345];exact H) | exact H
     have Ny345 := am_ hy345
     clear hy345
     obtain ⟨y346,hy346⟩ : ∃ y_ : List (S63),y_ = (y345.set (x5_1 : Int).toNat (⟨(rd_T63 y345 x5_1).f0,wrap64 (x1_1 + 1),(rd_T63 y345 x5_1).f2,(rd_T63 y345 x5_1).f3,(rd_T63 y345 x5_1).f4,(rd_T63 y345 x5_1).f5,(rd_T63 y345 x5_1).f6⟩ : S63)) := ⟨_,rfl⟩
     replace H : ((some (y346.set (x5_1 : Int).toNat (⟨(rd_T63 y346 x5_1).f0,(rd_T63 y346 x5_1).f1,wrap64 ((wrap64 (x1_1 + 1)) + 1),(rd_T63 y346 x5_1).f3,(rd_T63 y346 x5_1).f4,(rd_T63 y346 x5_1).f5,(rd_T63 y346 x5_1).f6⟩ : S63) : List (S63))).bind fun y347 => ((some (y347.set (x5_1 : Int).toNat (⟨(rd_T63 y347 x5_1).f0,(rd_T63 y347 x5_1).f1,(rd_T63 y347 x5_1).f2,wrap64 ((wrap64 ((wrap64 (x1_1 + 1)) + 1)) + 1),(rd_T63 y347 x5_1).f4,(rd_T63 y347 x5_1).f5,(rd_T63 y347 x5_1).f6⟩ : S63) : List (S63))).bind fun y348 => ((laws_markText.f k1 (wrap64 ((wrap64 ((wrap64 ((wrap64 (x1_1 + 1)) + 1)) + 1)) + 1))).bind fun t349 => ((some (y348.set (x5_1 : Int).toNat (⟨(rd_T63 y348 x5_1).f0,(rd_T63 y348 x5_1).f1,(rd_T63 y348 x5_1).f2,(rd_T63 y348 x5_1).f3,t349,(rd_T63 y348 x5_1).f5,(rd_T63 y348 x5_1).f6⟩ : S63) : List (S63))).bind fun y350 => ((laws_markText.f k1 (wrap64 ((wrap64 ((wrap64 ((wrap64 ((wrap64 (x1_1 + 1)) + 1)) + 1)) + 1)) + 1))).bind fun t351 => ((some (y350.set (x5_1 : Int).toNat (⟨(rd_T63 y350 x5_1).f0,(rd_T63 y350 x5_1).f1,(rd_T63 y350 x5_1).f2,(rd_T63 y350 x5_1).f3,(rd_T63 y350 x5_1).f4,t351,(rd_T63 y350 x5_1).f6⟩ : S63) : List (S63))).bind fun y352 => ((laws_markText.f k1 (wrap64 ((wrap64 ((wrap64 ((wrap64 ((wrap64 ((wrap64 (x1_1 + 1)) + 1)) + 1)) + 1)) + 1)) + 1))).bind fun t353 => (laws_markMessageS.l0 k1 (y352.set (x5_1 : Int).toNat (⟨(rd_T63 y352 x5_1).f0,(rd_T63 y352 x5_1).f1,(rd_T63 y352 x5_1).f2,(rd_T63 y352 x5_1).f3,(rd_T63 y352 x5_1).f4,(rd_T63 y352 x5_1).f5,t353⟩ : S63)) (wrap64 ((wrap64 ((wrap64 ((wrap64 ((wrap64 ((wrap64 ((wrap64 (x1_1 + 1)) + 1)) + 1)) + 1)) + 1)) + 1)) + 1)) (wrap64 (x5_1 + 1)))))))))) = some (r1,r2) := by first | (rw [hy346];with_reducible exact H) | (have H2_ := (Option.bind_some _ _).symm.trans H;rw [hy346];with_reducible exact H2_) | (have H2_ := (Option.bind_some _ _).symm.trans H;with_reducible exact H2_) | with_reducible exact H | (rw [hy346];exact H) | exact H
     have Ny346 := am_ hy346
     clear hy346
     obtain ⟨y347,hy347⟩ : ∃ y_ : List (S63),y_ = (y346.set (x5_1 : Int).toNat (⟨(rd_T63 y346 x5_1).f0,(rd_T63 y346 x5_1).f1,wrap64 ((wrap64 (x1_1 + 1)) + 1),(rd_T63 y346 x5_1).f3,(rd_T63 y346 x5_1).f4,(rd_T63 y346 x5_1).f5,(rd_T63 y346 x5_1).f6⟩ : S63)) := ⟨_,rfl⟩
     replace H : ((some (y347.set (x5_1 : Int).toNat (⟨(rd_T63 y347 x5_1).f0,(rd_T63 y347 x5_1).f1,(rd_T63 y347 x5_1).f2,wrap64 ((wrap64 ((wrap64 (x1_1 + 1)) + 1)) + 1),(rd_T63 y347 x5_1).f4,(rd_T63 y347 x5_1).f5,(rd_T63 y347 x5_1).f6⟩ : S63) : List (S63))).bind fun y348 => ((laws_markText.f k1 (wrap64 ((wrap64 ((wrap64 ((wrap64 (x1_1 + 1)) + 1)) + 1)) + 1))).bind fun t349 => ((some (y348.set (x5_1 : Int).toNat (⟨(rd_T63 y348 x5_1).f0,(rd_T63 y348 x5_1).f1,(rd_T63 y348 x5_1).f2,(rd_T63 y348 x5_1).f3,t349,(rd_T63 y348 x5_1).f5,(rd_T63 y348 x5_1).f6⟩ : S63) : List (S63))).bind fun y350 => ((laws_markText.f k1 (wrap64 ((wrap64 ((wrap64 ((wrap64 ((wrap64 (x1_1 + 1)) + 1)) + 1)) + 1)) + 1))).bind fun t351 => ((some (y350.set (x5_1 : Int).toNat (⟨(rd_T63 y350 x5_1).f0,(rd_T63 y350 x5_1).f1,(rd_T63 y350 x5_1).f2,(rd_T63 y350 x5_1).f3,(rd_T63 y350 x5_1).f4,t351,(rd_T63 y350 x5_1).f6⟩ : S63) : List (S63))).bind fun y352 => ((laws_markText.f k1 (wrap64 ((wrap64 ((wrap64 ((wrap64 ((wrap64 ((wrap64 (x1_1 + 1)) + 1)) + 1)) + 1)) + 1)) + 1))).bind fun t353 => (laws_markMessageS.l0 k1 (y352.set (x5_1 : Int).toNat (⟨(rd_T63 y352 x5_1).f0,(rd_T63 y352 x5_1).f1,(rd_T63 y352 x5_1).f2,(rd_T63 y352 x5_1).f3,(rd_T63 y352 x5_1).f4,(rd_T63 y352 x5_1).f5,t353⟩ : S63)) (wrap64 ((wrap64 ((wrap64 ((wrap64 ((wrap64 ((wrap64 ((wrap64 (x1_1 + 1)) + 1)) + 1)) + 1)) + 1)) + 1)) + 1)) (wrap64 (x5_1 + 1))))))))) = some (r1,r2) := by first | (rw [hy347];with_reducible exact H) | (have H2_ := (Option.bind_some _ _).symm.trans H;rw [hy347];with_reducible exact H2_) | (have H2_ := (Option.bind_some _ _).symm.trans H;with_reducible exact H2_) | with_reducible exact H | (rw [hy347];exact H) | exact H
     have Ny347 := am_ hy347
     clear hy347
     obtain ⟨y348,hy348⟩ : ∃ y_ : List (S63),y_ = (y347.set (x5_1 : Int).toNat (⟨(rd_T63 y347 x5_1).f0,(rd_T63 y347 x5_1).f1,(rd_T63 y347 x5_1).f2,wrap64 ((wrap64 ((wrap64 (x1_1 + 1)) + 1)) + 1),(rd_T63 y347 x5_1).f4,(rd_T63 y347 x5_1).f5,(rd_T63 y347 x5_1).f6⟩ : S63)) := ⟨_,rfl⟩
     replace H : ((laws_markText.f k1 (wrap64 ((wrap64 ((wrap64 ((wrap64 (x1_1 + 1)) + 1)) + 1)) + 1))).bind fun t349 => ((some (y348.set (x5_1 : Int).toNat (⟨(rd_T63 y348 x5_1).f0,(rd_T63 y348 x5_1).f1,(rd_T63 y348 x5_1).f2,(rd_T63 y348 x5_1).f3,t349,(rd_T63 y348 x5_1).f5,(rd_T63 y348 x5_1).f6⟩ : S63) : List (S63))).bind fun y350 => ((laws_markText.f k1 (wrap64 ((wrap64 ((wrap64 ((wrap64 ((wrap64 (x1_1 + 1)) + 1)) + 1)) + 1)) + 1))).bind fun t351 => ((some (y350.set (x5_1 : Int).toNat (⟨(rd_T63 y350 x5_1).f0,(rd_T63 y350 x5_1).f1,(rd_T63 y350 x5_1).f2,(rd_T63 y350 x5_1).f3,(rd_T63 y350 x5_1).f4,t351,(rd_T63 y350 x5_1).f6⟩ : S63) : List (S63))).bind fun y352 => ((laws_markText.f k1 (wrap64 ((wrap64 ((wrap64 ((wrap64 ((wrap64 ((wrap64 (x1_1 + 1)) + 1)) + 1)) + 1)) + 1)) + 1))).bind fun t353 => (laws_markMessageS.l0 k1 (y352.set (x5_1 : Int).toNat (⟨(rd_T63 y352 x5_1).f0,(rd_T63 y352 x5_1).f1,(rd_T63 y352 x5_1).f2,(rd_T63 y352 x5_1).f3,(rd_T63 y352 x5_1).f4,(rd_T63 y352 x5_1).f5,t353⟩ : S63)) (wrap64 ((wrap64 ((wrap64 ((wrap64 ((wrap64 ((wrap64 ((wrap64 (x1_1 + 1)) + 1)) + 1)) + 1)) + 1)) + 1)) + 1)) (wrap64 (x5_1 + 1)))))))) = some (r1,r2) := by first | (rw [hy348];with_reducible exact H) | (have H2_ := (Option.bind_some _ _).symm.trans H;rw [hy348];with_reducible exact H2_) | (have H2_ := (Option.bind_some _ _).symm.trans H;with_reducible exact H2_) | with_reducible exact H | (rw [hy348];exact H) | exact H
     have Ny348 := am_ hy348
     clear hy348
     replace H := Option.bind_eq_some_iff.mp H
     obtain ⟨t349,A90,H⟩ := H
     try dsimp only at H
     have A9 := am_ A90
     clear A90
     obtain ⟨y350,hy350⟩ : ∃ y_ : List (S63),y_ = (y348.set (x5_1 : Int).toNat (⟨(rd_T63 y348 x5_1).f0,(rd_T63 y348 x5_1).f1,(rd_T63 y348 x5_1).f2,(rd_T63 y348 x5_1).f3,t349,(rd_T63 y348 x5_1).f5,(rd_T63 y348 x5_1).f6⟩ : S63)) := ⟨_,rfl⟩
     replace H : ((laws_markText.f k1 (wrap64 ((wrap64 ((wrap64 ((wrap64 ((wrap64 (x1_1 + 1)) + 1)) + 1)) + 1)) + 1))).bind fun t351 => ((some (y350.set (x5_1 : Int).toNat (⟨(rd_T63 y350 x5_1).f0,(rd_T63 y350 x5_1).f1,(rd_T63 y350 x5_1).f2,(rd_T63 y350 x5_1).f3,(rd_T63 y350 x5_1).f4,t351,(rd_T63 y350 x5_1).f6⟩ : S63) : List (S63))).bind fun y352 => ((laws_markText.f k1 (wrap64 ((wrap64 ((wrap64 ((wrap64 ((wrap64 ((wrap64 (x1_1 + 1)) + 1)) + 1)) + 1)) + 1)) + 1))).bind fun t353 => (laws_markMessageS.l0 k1 (y352.set (x5_1 : Int).toNat (⟨(rd_T63 y352 x5_1).f0,(rd_T63 y352 x5_1).f1,(rd_T63 y352 x5_1).f2,(rd_T63 y352 x5_1).f3,(rd_T63 y352 x5_1).f4,(rd_T63 y352 x5_1).f5,t353⟩ : S63)) (wrap64 ((wrap64 ((wrap64 ((wrap64 ((wrap64 ((wrap64 ((wrap64 (x1_1 + 1)) + 1)) + 1)) + 1)) + 1)) + 1)) + 1)) (wrap64 (x5_1 + 1)))))) = some (r1,r2) := by first | (rw [hy350];with_reducible exact H) | (have H2_ := (Option.bind_some _ _).symm.trans H;rw [hy350];with_reducible exact H2_) | (have H2_ := (Option.bind_some _ _).symm.trans H;with_reducible exact H2_) | with_reducible exact H | (rw [hy350];exact H) | exact H
     have Ny350 := am_ hy350
     clear hy350
     replace H := Option.bind_eq_some_iff.mp H
     obtain ⟨t351,A110,H⟩ := H
     try dsimp only at H
     have A11 := am_ A110
     clear A110
     obtain ⟨y352,hy352⟩ : ∃ y_ : List (S63),y_ = (y350.set (x5_1 : Int).toNat (⟨(rd_T63 y350 x5_1).f0,(rd_T63 y350 x5_1).f1,(rd_T63 y350 x5_1).f2,(rd_T63 y350 x5_1).f3,(rd_T63 y350 x5_1).f4,t351,(rd_T63 y350 x5_1).f6⟩ : S63)) := ⟨_,rfl⟩
     replace H : ((laws_markText.f k1 (wrap64 ((wrap64 ((wrap64 ((wrap64 ((wrap64 ((wrap64 (x1_1 + 1)) + 1)) + 1)) + 1)) + 1)) + 1))).bind fun t353 => (laws_markMessageS.l0 k1 (y352.set (x5_1 : Int).toNat (⟨(rd_T63 y352 x5_1).f0,(rd_T63 y352 x5_1).f1,(rd_T63 y352 x5_1).f2,(rd_T63 y352 x5_1).f3,(rd_T63 y352 x5_1).f4,(rd_T63 y352 x5_1).f5,t353⟩ : S63)) (wrap64 ((wrap64 ((wrap64 ((wrap64 ((wrap64 ((wrap64 ((wrap64 (x1_1 + 1)) + 1)) + 1)) + 1)) + 1)) + 1)) + 1)) (wrap64 (x5_1 + 1)))) = some (r1,r2) := by first | (rw [hy352];with_reducible exact H) | (have H2_ := (Option.bind_some _ _).symm.trans H;rw [hy352];with_reducible exact H2_) | (have H2_ := (Option.bind_some _ _).symm.trans H;with_reducible exact H2_) | with_reducible exact H | (rw [hy352];exact H) | exact H
     have Ny352 := am_ hy352
     clear hy352
     replace H := Option.bind_eq_some_iff.mp H
     obtain ⟨t353,A130,H⟩ := H
     try dsimp only at H
     have A13 := am_ A130
     clear A130
     obtain ⟨y354,hy354⟩ : ∃ y_ : List (S63),y_ = (y352.set (x5_1 : Int).toNat (⟨(rd_T63 y352 x5_1).f0,(rd_T63 y352 x5_1).f1,(rd_T63 y352 x5_1).f2,(rd_T63 y352 x5_1).f3,(rd_T63 y352 x5_1).f4,(rd_T63 y352 x5_1).f5,t353⟩ : S63)) := ⟨_,rfl⟩
     replace H : (laws_markMessageS.l0 k1 y354 (wrap64 ((wrap64 ((wrap64 ((wrap64 ((wrap64 ((wrap64 ((wrap64 (x1_1 + 1)) + 1)) + 1)) + 1)) + 1)) + 1)) + 1)) (wrap64 (x5_1 + 1))) = some (r1,r2) := by first | (rw [hy354];with_reducible exact H) | (have H2_ := (Option.bind_some _ _).symm.trans H;rw [hy354];with_reducible exact H2_) | (have H2_ := (Option.bind_some _ _).symm.trans H;with_reducible exact H2_) | with_reducible exact H | (rw [hy354];exact H) | exact H
     have Ny354 := am_ hy354
     clear hy354
     have H' := am_ H
     clear H
     obtain ⟨Ao15,co15,eo15⟩ := Kd.R_slice HO_0.out
     subst eo15
     have p5 : 0 ≤ (x5_1 : Int) := zo_
     have q5 : (x5_1 : Int) < ((x0_1.length : Int) : Int) := zo_
     obtain ⟨go5,co5,eo5,gb5,gl5,cl5,HG5⟩ := Kd.R_form HO_0.out (by omega)
     (first | cases eo5 | (injection eo5 with ea_ en_ ec_;(first | subst ea_ | (injection ea_ with ea_;subst ea_));subst ec_;clear en_))
     have GB5 := am_ gb5
     have GG5 := am_ HG5
     clear gb5 gl5 HG5
     have HMgo5 := am_ (show (P0_ go5 ∨ w.heap.size ≤ go5) from (HO_0.out.1 _ rfl))
     obtain ⟨ce5,hcl5,hM5,hcc5,hfr5⟩ := Kd.R_elem HO_0.out z63 (x5_1 : Int) p5 q5
     obtain rfl := k63_openM hM5
     have hx5_0 : wr.cell? ⟨go5,(x5_1 : Int).toNat * 7,none⟩ = some (.int .i64 ((rd_T63 x0_1 x5_1).f0)) := hcc5 0 _ rfl
     have hx5_1 : wr.cell? ⟨go5,(x5_1 : Int).toNat * 7 + 1,none⟩ = some (.int .i64 ((rd_T63 x0_1 x5_1).f1)) := hcc5 1 _ rfl
     have hx5_2 : wr.cell? ⟨go5,(x5_1 : Int).toNat * 7 + 2,none⟩ = some (.int .i64 ((rd_T63 x0_1 x5_1).f2)) := hcc5 2 _ rfl
     have hx5_3 : wr.cell? ⟨go5,(x5_1 : Int).toNat * 7 + 3,none⟩ = some (.int .i64 ((rd_T63 x0_1 x5_1).f3)) := hcc5 3 _ rfl
     have hx5_4 : wr.cell? ⟨go5,(x5_1 : Int).toNat * 7 + 4,none⟩ = some (.string ((rd_T63 x0_1 x5_1).f4)) := hcc5 4 _ rfl
     have hx5_5 : wr.cell? ⟨go5,(x5_1 : Int).toNat * 7 + 5,none⟩ = some (.string ((rd_T63 x0_1 x5_1).f5)) := hcc5 5 _ rfl
     have hx5_6 : wr.cell? ⟨go5,(x5_1 : Int).toNat * 7 + 6,none⟩ = some (.string ((rd_T63 x0_1 x5_1).f6)) := hcc5 6 _ rfl
     have hf5_0 : wr.frozen? ⟨go5,(x5_1 : Int).toNat * 7,none⟩ = false := hfr5 0
     have hf5_1 : wr.frozen? ⟨go5,(x5_1 : Int).toNat * 7 + 1,none⟩ = false := hfr5 1
     have hf5_2 : wr.frozen? ⟨go5,(x5_1 : Int).toNat * 7 + 2,none⟩ = false := hfr5 2
     have hf5_3 : wr.frozen? ⟨go5,(x5_1 : Int).toNat * 7 + 3,none⟩ = false := hfr5 3
     have hf5_4 : wr.frozen? ⟨go5,(x5_1 : Int).toNat * 7 + 4,none⟩ = false := hfr5 4
     have hf5_5 : wr.frozen? ⟨go5,(x5_1 : Int).toNat * 7 + 5,none⟩ = false := hfr5 5
     have hf5_6 : wr.frozen? ⟨go5,(x5_1 : Int).toNat * 7 + 6,none⟩ = false := hfr5 6
     clear hcl5 hcc5 hfr5 hM5
     replace p5 := eq_true p5
     replace q5 := eq_true q5
     have HX16 := am_ (show Kd.R k63 63 wr w0.heap.size (fun k_ => (P0_ k_ ∨ w.heap.size ≤ k_)) (.slice (some ⟨go5,0,none⟩) x0_1.length co15) x0_1 from (zr HO_0))
     obtain ⟨ce16,hcl16,hM16,hcc16,hfr16⟩ := Kd.R_elem HX16.out z63 (x5_1 : Int) (zo_) (by have h_ : (x5_1 : Int) < ((x0_1.length : Int) : Int) := zo_;first | exact h_ | (have e_ := (Kd.R_reads' HO_0.out).1;omega) | simpa using h_)
     obtain rfl := k63_openM hM16
     have HP16 := Kd.R_seg HX16.out (x5_1 : Int) (zo_) (by have h_ : (x5_1 : Int) < ((x0_1.length : Int) : Int) := zo_;first | exact h_ | (have e_ := (Kd.R_reads' HO_0.out).1;omega) | simpa using h_) (seg := [.int .i64 x1_1]) (j := 0) hcl16 hcc16 (show 1 ≤ 7 from by decide) (x' := (⟨x1_1,(rd_T63 x0_1 x5_1).f1,(rd_T63 x0_1 x5_1).f2,(rd_T63 x0_1 x5_1).f3,(rd_T63 x0_1 x5_1).f4,(rd_T63 x0_1 x5_1).f5,(rd_T63 x0_1 x5_1).f6⟩ : S63)) (k63_mkM _ _ _ (⟨x1_1,(rd_T63 x0_1 x5_1).f1,(rd_T63 x0_1 x5_1).f2,(rd_T63 x0_1 x5_1).f3,(rd_T63 x0_1 x5_1).f4,(rd_T63 x0_1 x5_1).f5,(rd_T63 x0_1 x5_1).f6⟩ : S63) ) (fun _ hk => hk)
     have hx16_0 := hcc16 0 _ rfl
     (try simp only [show (k63).sz = 7 from rfl,Nat.mul_one,Nat.add_zero] at hx16_0)
     have hf16_0 := hfr16 0
     (try simp only [show (k63).sz = 7 from rfl,Nat.mul_one,Nat.add_zero] at hf16_0)
     clear hcl16 hcc16 hfr16 hM16
     go_wp2_with (first | ((with_reducible refine gate_store (t := 3) (p := 16) rfl ?_);refine store_event (t := 3) (p := 16) (v := ?vo_w17) (w1 := (wr.setCell ⟨go5,(x5_1 : Int).toNat * 7,none⟩ (.int .i64 x1_1))) ?hg ?ho ?hn ?hr ?_;(case ho => rfl);(case hg => rfl);(case hn => rfl);(case hr => first | (go_simp;done) | (go_simp;rfl));intro w17 hw;have hg : wr.grownBy w17 (some go5) := (by rw [hw];exact HP16.2);have hp_ : Kd.R k63 63 w17 w0.heap.size (fun k_ => (P0_ k_ ∨ w.heap.size ≤ k_)) (.slice (some ⟨go5,0,none⟩) x0_1.length co15) y345 := (by rw [hw,Ny345.out];exact HP16.1);clear HP16;replace HB := am_ ((by rw [hw];exact below_set (HB.out) GB5.out : Below w0.heap.size w0 w17));replace HK := am_ (Kept.of_grown (S := (fun k_ => P0_ k_)) hg (by repeat (first | (with_reducible first | exact HK.out | apply Kept.alloc | apply Kept.drewN | apply Kept.drew) | exact HK.out)) (fun k_ e_ => (HO_0.out.1 k_ e_)));replace HO_0 := am_ (hp_);clear hg hw hp_;have p6 : 0 ≤ (x5_1 : Int) := zo_;have q6 : (x5_1 : Int) < ((x0_1.length : Int) : Int) := zo_;obtain ⟨ce6,hcl6,hM6,hcc6,hfr6⟩ := Kd.R_elem HO_0.out z63 (x5_1 : Int) p6 q6;obtain rfl := k63_openM hM6;have hx6_0 : w17.cell? ⟨go5,(x5_1 : Int).toNat * 7,none⟩ = some (.int .i64 ((rd_T63 y345 x5_1).f0)) := hcc6 0 _ rfl;have hx6_1 : w17.cell? ⟨go5,(x5_1 : Int).toNat * 7 + 1,none⟩ = some (.int .i64 ((rd_T63 y345 x5_1).f1)) := hcc6 1 _ rfl;have hx6_2 : w17.cell? ⟨go5,(x5_1 : Int).toNat * 7 + 2,none⟩ = some (.int .i64 ((rd_T63 y345 x5_1).f2)) := hcc6 2 _ rfl;have hx6_3 : w17.cell? ⟨go5,(x5_1 : Int).toNat * 7 + 3,none⟩ = some (.int .i64 ((rd_T63 y345 x5_1).f3)) := hcc6 3 _ rfl;have hx6_4 : w17.cell? ⟨go5,(x5_1 : Int).toNat * 7 + 4,none⟩ = some (.string ((rd_T63 y345 x5_1).f4)) := hcc6 4 _ rfl;have hx6_5 : w17.cell? ⟨go5,(x5_1 : Int).toNat * 7 + 5,none⟩ = some (.string ((rd_T63 y345 x5_1).f5)) := hcc6 5 _ rfl;have hx6_6 : w17.cell? ⟨go5,(x5_1 : Int).toNat * 7 + 6,none⟩ = some (.string ((rd_T63 y345 x5_1).f6)) := hcc6 6 _ rfl;have hf6_0 : w17.frozen? ⟨go5,(x5_1 : Int).toNat * 7,none⟩ = false := hfr6 0;have hf6_1 : w17.frozen? ⟨go5,(x5_1 : Int).toNat * 7 + 1,none⟩ = false := hfr6 1;have hf6_2 : w17.frozen? ⟨go5,(x5_1 : Int).toNat * 7 + 2,none⟩ = false := hfr6 2;have hf6_3 : w17.frozen? ⟨go5,(x5_1 : Int).toNat * 7 + 3,none⟩ = false := hfr6 3;have hf6_4 : w17.frozen? ⟨go5,(x5_1 : Int).toNat * 7 + 4,none⟩ = false := hfr6 4;have hf6_5 : w17.frozen? ⟨go5,(x5_1 : Int).toNat * 7 + 5,none⟩ = false := hfr6 5;have hf6_6 : w17.frozen? ⟨go5,(x5_1 : Int).toNat * 7 + 6,none⟩ = false := hfr6 6;clear hcl6 hcc6 hfr6 hM6;replace p6 := eq_true p6;replace q6 := eq_true q6;have HX18 := am_ (show Kd.R k63 63 w17 w0.heap.size (fun k_ => (P0_ k_ ∨ w.heap.size ≤ k_)) (.slice (some ⟨go5,0,none⟩) x0_1.length co15) y345 from (zr HO_0));obtain ⟨ce18,hcl18,hM18,hcc18,hfr18⟩ := Kd.R_elem HX18.out z63 (x5_1 : Int) (zo_) (by have h_ : (x5_1 : Int) < ((x0_1.length : Int) : Int) := zo_;first | exact h_ | (have e_ := (Kd.R_reads' HO_0.out).1;omega) | simpa using h_);obtain rfl := k63_openM hM18;have HP18 := Kd.R_seg HX18.out (x5_1 : Int) (zo_) (by have h_ : (x5_1 : Int) < ((x0_1.length : Int) : Int) := zo_;first | exact h_ | (have e_ := (Kd.R_reads' HO_0.out).1;omega) | simpa using h_) (seg := [.int .i64 (wrap64 (x1_1 + 1))]) (j := 1) hcl18 hcc18 (show 2 ≤ 7 from by decide) (x' := (⟨(rd_T63 y345 x5_1).f0,wrap64 (x1_1 + 1),(rd_T63 y345 x5_1).f2,(rd_T63 y345 x5_1).f3,(rd_T63 y345 x5_1).f4,(rd_T63 y345 x5_1).f5,(rd_T63 y345 x5_1).f6⟩ : S63)) (k63_mkM _ _ _ (⟨(rd_T63 y345 x5_1).f0,wrap64 (x1_1 + 1),(rd_T63 y345 x5_1).f2,(rd_T63 y345 x5_1).f3,(rd_T63 y345 x5_1).f4,(rd_T63 y345 x5_1).f5,(rd_T63 y345 x5_1).f6⟩ : S63) ) (fun _ hk => hk);have hx18_1 := hcc18 1 _ rfl;(try simp only [show (k63).sz = 7 from rfl,Nat.mul_one,Nat.add_zero] at hx18_1);have hf18_1 := hfr18 1;(try simp only [show (k63).sz = 7 from rfl,Nat.mul_one,Nat.add_zero] at hf18_1);clear hcl18 hcc18 hfr18 hM18) | ((with_reducible refine gate_store (t := 3) (p := 23) rfl ?_);refine store_event (t := 3) (p := 23) (v := ?vo_w19) (w1 := (w17.setCell ⟨go5,(x5_1 : Int).toNat * 7 + 1,none⟩ (.int .i64 (wrap64 (x1_1 + 1))))) ?hg ?ho ?hn ?hr ?_;(case ho => rfl);(case hg => rfl);(case hn => rfl);(case hr => first | (go_simp;done) | (go_simp;rfl));intro w19 hw;have hg : w17.grownBy w19 (some go5) := (by rw [hw];exact HP18.2);have hp_ : Kd.R k63 63 w19 w0.heap.size (fun k_ => (P0_ k_ ∨ w.heap.size ≤ k_)) (.slice (some ⟨go5,0,none⟩) x0_1.length co15) y346 := (by rw [hw,Ny346.out];exact HP18.1);clear HP18;replace HB := am_ ((by rw [hw];exact below_set (HB.out) GB5.out : Below w0.heap.size w0 w19));replace HK := am_ (Kept.of_grown (S := (fun k_ => P0_ k_)) hg (by repeat (first | (with_reducible first | exact HK.out | apply Kept.alloc | apply Kept.drewN | apply Kept.drew) | exact HK.out)) (fun k_ e_ => (HO_0.out.1 k_ e_)));replace HO_0 := am_ (hp_);clear hg hw hp_;have p7 : 0 ≤ (x5_1 : Int) := zo_;have q7 : (x5_1 : Int) < ((x0_1.length : Int) : Int) := zo_;obtain ⟨ce7,hcl7,hM7,hcc7,hfr7⟩ := Kd.R_elem HO_0.out z63 (x5_1 : Int) p7 q7;obtain rfl := k63_openM hM7;have hx7_0 : w19.cell? ⟨go5,(x5_1 : Int).toNat * 7,none⟩ = some (.int .i64 ((rd_T63 y346 x5_1).f0)) := hcc7 0 _ rfl;have hx7_1 : w19.cell? ⟨go5,(x5_1 : Int).toNat * 7 + 1,none⟩ = some (.int .i64 ((rd_T63 y346 x5_1).f1)) := hcc7 1 _ rfl;have hx7_2 : w19.cell? ⟨go5,(x5_1 : Int).toNat * 7 + 2,none⟩ = some (.int .i64 ((rd_T63 y346 x5_1).f2)) := hcc7 2 _ rfl;have hx7_3 : w19.cell? ⟨go5,(x5_1 : Int).toNat * 7 + 3,none⟩ = some (.int .i64 ((rd_T63 y346 x5_1).f3)) := hcc7 3 _ rfl;have hx7_4 : w19.cell? ⟨go5,(x5_1 : Int).toNat * 7 + 4,none⟩ = some (.string ((rd_T63 y346 x5_1).f4)) := hcc7 4 _ rfl;have hx7_5 : w19.cell? ⟨go5,(x5_1 : Int).toNat * 7 + 5,none⟩ = some (.string ((rd_T63 y346 x5_1).f5)) := hcc7 5 _ rfl;have hx7_6 : w19.cell? ⟨go5,(x5_1 : Int).toNat * 7 + 6,none⟩ = some (.string ((rd_T63 y346 x5_1).f6)) := hcc7 6 _ rfl;have hf7_0 : w19.frozen? ⟨go5,(x5_1 : Int).toNat * 7,none⟩ = false := hfr7 0;have hf7_1 : w19.frozen? ⟨go5,(x5_1 : Int).toNat * 7 + 1,none⟩ = false := hfr7 1;have hf7_2 : w19.frozen? ⟨go5,(x5_1 : Int).toNat * 7 + 2,none⟩ = false := hfr7 2;have hf7_3 : w19.frozen? ⟨go5,(x5_1 : Int).toNat * 7 + 3,none⟩ = false := hfr7 3;have hf7_4 : w19.frozen? ⟨go5,(x5_1 : Int).toNat * 7 + 4,none⟩ = false := hfr7 4;have hf7_5 : w19.frozen? ⟨go5,(x5_1 : Int).toNat * 7 + 5,none⟩ = false := hfr7 5;have hf7_6 : w19.frozen? ⟨go5,(x5_1 : Int).toNat * 7 + 6,none⟩ = false := hfr7 6;clear hcl7 hcc7 hfr7 hM7;replace p7 := eq_true p7;replace q7 := eq_true q7;have HX20 := am_ (show Kd.R k63 63 w19 w0.heap.size (fun k_ => (P0_ k_ ∨ w.heap.size ≤ k_)) (.slice (some ⟨go5,0,none⟩) x0_1.length co15) y346 from (zr HO_0));obtain ⟨ce20,hcl20,hM20,hcc20,hfr20⟩ := Kd.R_elem HX20.out z63 (x5_1 : Int) (zo_) (by have h_ : (x5_1 : Int) < ((x0_1.length : Int) : Int) := zo_;first | exact h_ | (have e_ := (Kd.R_reads' HO_0.out).1;omega) | simpa using h_);obtain rfl := k63_openM hM20;have HP20 := Kd.R_seg HX20.out (x5_1 : Int) (zo_) (by have h_ : (x5_1 : Int) < ((x0_1.length : Int) : Int) := zo_;first | exact h_ | (have e_ := (Kd.R_reads' HO_0.out).1;omega) | simpa using h_) (seg := [.int .i64 (wrap64 ((wrap64 (x1_1 + 1)) + 1))]) (j := 2) hcl20 hcc20 (show 3 ≤ 7 from by decide) (x' := (⟨(rd_T63 y346 x5_1).f0,(rd_T63 y346 x5_1).f1,wrap64 ((wrap64 (x1_1 + 1)) + 1),(rd_T63 y346 x5_1).f3,(rd_T63 y346 x5_1).f4,(rd_T63 y346 x5_1).f5,(rd_T63 y346 x5_1).f6⟩ : S63)) (k63_mkM _ _ _ (⟨(rd_T63 y346 x5_1).f0,(rd_T63 y346 x5_1).f1,wrap64 ((wrap64 (x1_1 + 1)) + 1),(rd_T63 y346 x5_1).f3,(rd_T63 y346 x5_1).f4,(rd_T63 y346 x5_1).f5,(rd_T63 y346 x5_1).f6⟩ : S63) ) (fun _ hk => hk);have hx20_2 := hcc20 2 _ rfl;(try simp only [show (k63).sz = 7 from rfl,Nat.mul_one,Nat.add_zero] at hx20_2);have hf20_2 := hfr20 2;(try simp only [show (k63).sz = 7 from rfl,Nat.mul_one,Nat.add_zero] at hf20_2);clear hcl20 hcc20 hfr20 hM20) | ((with_reducible refine gate_store (t := 3) (p := 30) rfl ?_);refine store_event (t := 3) (p := 30) (v := ?vo_w21) (w1 := (w19.setCell ⟨go5,(x5_1 : Int).toNat * 7 + 2,none⟩ (.int .i64 (wrap64 ((wrap64 (x1_1 + 1)) + 1))))) ?hg ?ho ?hn ?hr ?_;(case ho => rfl);(case hg => rfl);(case hn => rfl);(case hr => first | (go_simp;done) | (go_simp;rfl));intro w21 hw;have hg : w19.grownBy w21 (some go5) := (by rw [hw];exact HP20.2);have hp_ : Kd.R k63 63 w21 w0.heap.size (fun k_ => (P0_ k_ ∨ w.heap.size ≤ k_)) (.slice (some ⟨go5,0,none⟩) x0_1.length co15) y347 := (by rw [hw,Ny347.out];exact HP20.1);clear HP20;replace HB := am_ ((by rw [hw];exact below_set (HB.out) GB5.out : Below w0.heap.size w0 w21));replace HK := am_ (Kept.of_grown (S := (fun k_ => P0_ k_)) hg (by repeat (first | (with_reducible first | exact HK.out | apply Kept.alloc | apply Kept.drewN | apply Kept.drew) | exact HK.out)) (fun k_ e_ => (HO_0.out.1 k_ e_)));replace HO_0 := am_ (hp_);clear hg hw hp_;have p8 : 0 ≤ (x5_1 : Int) := zo_;have q8 : (x5_1 : Int) < ((x0_1.length : Int) : Int) := zo_;obtain ⟨ce8,hcl8,hM8,hcc8,hfr8⟩ := Kd.R_elem HO_0.out z63 (x5_1 : Int) p8 q8;obtain rfl := k63_openM hM8;have hx8_0 : w21.cell? ⟨go5,(x5_1 : Int).toNat * 7,none⟩ = some (.int .i64 ((rd_T63 y347 x5_1).f0)) := hcc8 0 _ rfl;have hx8_1 : w21.cell? ⟨go5,(x5_1 : Int).toNat * 7 + 1,none⟩ = some (.int .i64 ((rd_T63 y347 x5_1).f1)) := hcc8 1 _ rfl;have hx8_2 : w21.cell? ⟨go5,(x5_1 : Int).toNat * 7 + 2,none⟩ = some (.int .i64 ((rd_T63 y347 x5_1).f2)) := hcc8 2 _ rfl;have hx8_3 : w21.cell? ⟨go5,(x5_1 : Int).toNat * 7 + 3,none⟩ = some (.int .i64 ((rd_T63 y347 x5_1).f3)) := hcc8 3 _ rfl;have hx8_4 : w21.cell? ⟨go5,(x5_1 : Int).toNat * 7 + 4,none⟩ = some (.string ((rd_T63 y347 x5_1).f4)) := hcc8 4 _ rfl;have hx8_5 : w21.cell? ⟨go5,(x5_1 : Int).toNat * 7 + 5,none⟩ = some (.string ((rd_T63 y347 x5_1).f5)) := hcc8 5 _ rfl;have hx8_6 : w21.cell? ⟨go5,(x5_1 : Int).toNat * 7 + 6,none⟩ = some (.string ((rd_T63 y347 x5_1).f6)) := hcc8 6 _ rfl;have hf8_0 : w21.frozen? ⟨go5,(x5_1 : Int).toNat * 7,none⟩ = false := hfr8 0;have hf8_1 : w21.frozen? ⟨go5,(x5_1 : Int).toNat * 7 + 1,none⟩ = false := hfr8 1;have hf8_2 : w21.frozen? ⟨go5,(x5_1 : Int).toNat * 7 + 2,none⟩ = false := hfr8 2;have hf8_3 : w21.frozen? ⟨go5,(x5_1 : Int).toNat * 7 + 3,none⟩ = false := hfr8 3;have hf8_4 : w21.frozen? ⟨go5,(x5_1 : Int).toNat * 7 + 4,none⟩ = false := hfr8 4;have hf8_5 : w21.frozen? ⟨go5,(x5_1 : Int).toNat * 7 + 5,none⟩ = false := hfr8 5;have hf8_6 : w21.frozen? ⟨go5,(x5_1 : Int).toNat * 7 + 6,none⟩ = false := hfr8 6;clear hcl8 hcc8 hfr8 hM8;replace p8 := eq_true p8;replace q8 := eq_true q8;have HX22 := am_ (show Kd.R k63 63 w21 w0.heap.size (fun k_ => (P0_ k_ ∨ w.heap.size ≤ k_)) (.slice (some ⟨go5,0,none⟩) x0_1.length co15) y347 from (zr HO_0));obtain ⟨ce22,hcl22,hM22,hcc22,hfr22⟩ := Kd.R_elem HX22.out z63 (x5_1 : Int) (zo_) (by have h_ : (x5_1 : Int) < ((x0_1.length : Int) : Int) := zo_;first | exact h_ | (have e_ := (Kd.R_reads' HO_0.out).1;omega) | simpa using h_);obtain rfl := k63_openM hM22;have HP22 := Kd.R_seg HX22.out (x5_1 : Int) (zo_) (by have h_ : (x5_1 : Int) < ((x0_1.length : Int) : Int) := zo_;first | exact h_ | (have e_ := (Kd.R_reads' HO_0.out).1;omega) | simpa using h_) (seg := [.int .i64 (wrap64 ((wrap64 ((wrap64 (x1_1 + 1)) + 1)) + 1))]) (j := 3) hcl22 hcc22 (show 4 ≤ 7 from by decide) (x' := (⟨(rd_T63 y347 x5_1).f0,(rd_T63 y347 x5_1).f1,(rd_T63 y347 x5_1).f2,wrap64 ((wrap64 ((wrap64 (x1_1 + 1)) + 1)) + 1),(rd_T63 y347 x5_1).f4,(rd_T63 y347 x5_1).f5,(rd_T63 y347 x5_1).f6⟩ : S63)) (k63_mkM _ _ _ (⟨(rd_T63 y347 x5_1).f0,(rd_T63 y347 x5_1).f1,(rd_T63 y347 x5_1).f2,wrap64 ((wrap64 ((wrap64 (x1_1 + 1)) + 1)) + 1),(rd_T63 y347 x5_1).f4,(rd_T63 y347 x5_1).f5,(rd_T63 y347 x5_1).f6⟩ : S63) ) (fun _ hk => hk);have hx22_3 := hcc22 3 _ rfl;(try simp only [show (k63).sz = 7 from rfl,Nat.mul_one,Nat.add_zero] at hx22_3);have hf22_3 := hfr22 3;(try simp only [show (k63).sz = 7 from rfl,Nat.mul_one,Nat.add_zero] at hf22_3);clear hcl22 hcc22 hfr22 hM22) | ((with_reducible refine gate_store (t := 3) (p := 37) rfl ?_);refine store_event (t := 3) (p := 37) (v := ?vo_w23) (w1 := (w21.setCell ⟨go5,(x5_1 : Int).toNat * 7 + 3,none⟩ (.int .i64 (wrap64 ((wrap64 ((wrap64 (x1_1 + 1)) + 1)) + 1))))) ?hg ?ho ?hn ?hr ?_;(case ho => rfl);(case hg => rfl);(case hn => rfl);(case hr => first | (go_simp;done) | (go_simp;rfl));intro w23 hw;have hg : w21.grownBy w23 (some go5) := (by rw [hw];exact HP22.2);have hp_ : Kd.R k63 63 w23 w0.heap.size (fun k_ => (P0_ k_ ∨ w.heap.size ≤ k_)) (.slice (some ⟨go5,0,none⟩) x0_1.length co15) y348 := (by rw [hw,Ny348.out];exact HP22.1);clear HP22;replace HB := am_ ((by rw [hw];exact below_set (HB.out) GB5.out : Below w0.heap.size w0 w23));replace HK := am_ (Kept.of_grown (S := (fun k_ => P0_ k_)) hg (by repeat (first | (with_reducible first | exact HK.out | apply Kept.alloc | apply Kept.drewN | apply Kept.drew) | exact HK.out)) (fun k_ e_ => (HO_0.out.1 k_ e_)));replace HO_0 := am_ (hp_);clear hg hw hp_) | ((with_reducible refine gate_callee (f := 36) rfl ?_);refine zgl (some 43) Try.func36 #[.int .i64 (wrap64 ((wrap64 ((wrap64 ((wrap64 (x1_1 + 1)) + 1)) + 1)) + 1))] ?_;(with_reducible refine (laws_markText.calls k1 (wrap64 ((wrap64 ((wrap64 ((wrap64 (x1_1 + 1)) + 1)) + 1)) + 1)) t349 _ A9.out).mono ?_);rintro e w24 ⟨rfl,hb⟩;refine ⟨_,rfl,?_⟩;replace HO_0 := zrb HO_0 hb;replace HK := am_ (Kept.below (S := (fun k_ => P0_ k_)) (by repeat (first | (with_reducible first | exact HK.out | apply Kept.alloc | apply Kept.drewN | apply Kept.drew) | exact HK.out)) hb);replace HB := zs_ HB hb;(try clear hb);(try clear hb2);(try clear hk);(try clear hi);have p10 : 0 ≤ (x5_1 : Int) := zo_;have q10 : (x5_1 : Int) < ((x0_1.length : Int) : Int) := zo_;obtain ⟨ce10,hcl10,hM10,hcc10,hfr10⟩ := Kd.R_elem HO_0.out z63 (x5_1 : Int) p10 q10;obtain rfl := k63_openM hM10;have hx10_0 : w24.cell? ⟨go5,(x5_1 : Int).toNat * 7,none⟩ = some (.int .i64 ((rd_T63 y348 x5_1).f0)) := hcc10 0 _ rfl;have hx10_1 : w24.cell? ⟨go5,(x5_1 : Int).toNat * 7 + 1,none⟩ = some (.int .i64 ((rd_T63 y348 x5_1).f1)) := hcc10 1 _ rfl;have hx10_2 : w24.cell? ⟨go5,(x5_1 : Int).toNat * 7 + 2,none⟩ = some (.int .i64 ((rd_T63 y348 x5_1).f2)) := hcc10 2 _ rfl;have hx10_3 : w24.cell? ⟨go5,(x5_1 : Int).toNat * 7 + 3,none⟩ = some (.int .i64 ((rd_T63 y348 x5_1).f3)) := hcc10 3 _ rfl;have hx10_4 : w24.cell? ⟨go5,(x5_1 : Int).toNat * 7 + 4,none⟩ = some (.string ((rd_T63 y348 x5_1).f4)) := hcc10 4 _ rfl;have hx10_5 : w24.cell? ⟨go5,(x5_1 : Int).toNat * 7 + 5,none⟩ = some (.string ((rd_T63 y348 x5_1).f5)) := hcc10 5 _ rfl;have hx10_6 : w24.cell? ⟨go5,(x5_1 : Int).toNat * 7 + 6,none⟩ = some (.string ((rd_T63 y348 x5_1).f6)) := hcc10 6 _ rfl;have hf10_0 : w24.frozen? ⟨go5,(x5_1 : Int).toNat * 7,none⟩ = false := hfr10 0;have hf10_1 : w24.frozen? ⟨go5,(x5_1 : Int).toNat * 7 + 1,none⟩ = false := hfr10 1;have hf10_2 : w24.frozen? ⟨go5,(x5_1 : Int).toNat * 7 + 2,none⟩ = false := hfr10 2;have hf10_3 : w24.frozen? ⟨go5,(x5_1 : Int).toNat * 7 + 3,none⟩ = false := hfr10 3;have hf10_4 : w24.frozen? ⟨go5,(x5_1 : Int).toNat * 7 + 4,none⟩ = false := hfr10 4;have hf10_5 : w24.frozen? ⟨go5,(x5_1 : Int).toNat * 7 + 5,none⟩ = false := hfr10 5;have hf10_6 : w24.frozen? ⟨go5,(x5_1 : Int).toNat * 7 + 6,none⟩ = false := hfr10 6;clear hcl10 hcc10 hfr10 hM10;replace p10 := eq_true p10;replace q10 := eq_true q10;have HX25 := am_ (show Kd.R k63 63 w24 w0.heap.size (fun k_ => (P0_ k_ ∨ w.heap.size ≤ k_)) (.slice (some ⟨go5,0,none⟩) x0_1.length co15) y348 from (zr HO_0));obtain ⟨ce25,hcl25,hM25,hcc25,hfr25⟩ := Kd.R_elem HX25.out z63 (x5_1 : Int) (zo_) (by have h_ : (x5_1 : Int) < ((x0_1.length : Int) : Int) := zo_;first | exact h_ | (have e_ := (Kd.R_reads' HO_0.out).1;omega) | simpa using h_);obtain rfl := k63_openM hM25;have HP25 := Kd.R_seg HX25.out (x5_1 : Int) (zo_) (by have h_ : (x5_1 : Int) < ((x0_1.length : Int) : Int) := zo_;first | exact h_ | (have e_ := (Kd.R_reads' HO_0.out).1;omega) | simpa using h_) (seg := [.string t349]) (j := 4) hcl25 hcc25 (show 5 ≤ 7 from by decide) (x' := (⟨(rd_T63 y348 x5_1).f0,(rd_T63 y348 x5_1).f1,(rd_T63 y348 x5_1).f2,(rd_T63 y348 x5_1).f3,t349,(rd_T63 y348 x5_1).f5,(rd_T63 y348 x5_1).f6⟩ : S63)) (k63_mkM _ _ _ (⟨(rd_T63 y348 x5_1).f0,(rd_T63 y348 x5_1).f1,(rd_T63 y348 x5_1).f2,(rd_T63 y348 x5_1).f3,t349,(rd_T63 y348 x5_1).f5,(rd_T63 y348 x5_1).f6⟩ : S63) ) (fun _ hk => hk);have hx25_4 := hcc25 4 _ rfl;(try simp only [show (k63).sz = 7 from rfl,Nat.mul_one,Nat.add_zero] at hx25_4);have hf25_4 := hfr25 4;(try simp only [show (k63).sz = 7 from rfl,Nat.mul_one,Nat.add_zero] at hf25_4);clear hcl25 hcc25 hfr25 hM25) | ((with_reducible refine gate_store (t := 9) (p := 45) rfl ?_);refine store_event (t := 9) (p := 45) (v := ?vo_w26) (w1 := (w24.setCell ⟨go5,(x5_1 : Int).toNat * 7 + 4,none⟩ (.string t349))) ?hg ?ho ?hn ?hr ?_;(case ho => rfl);(case hg => rfl);(case hn => rfl);(case hr => first | (go_simp;done) | (go_simp;rfl));intro w26 hw;have hg : w24.grownBy w26 (some go5) := (by rw [hw];exact HP25.2);have hp_ : Kd.R k63 63 w26 w0.heap.size (fun k_ => (P0_ k_ ∨ w.heap.size ≤ k_)) (.slice (some ⟨go5,0,none⟩) x0_1.length co15) y350 := (by rw [hw,Ny350.out];exact HP25.1);clear HP25;replace HB := am_ ((by rw [hw];exact below_set (HB.out) GB5.out : Below w0.heap.size w0 w26));replace HK := am_ (Kept.of_grown (S := (fun k_ => P0_ k_)) hg (by repeat (first | (with_reducible first | exact HK.out | apply Kept.alloc | apply Kept.drewN | apply Kept.drew) | exact HK.out)) (fun k_ e_ => (HO_0.out.1 k_ e_)));replace HO_0 := am_ (hp_);clear hg hw hp_) | ((with_reducible refine gate_callee (f := 36) rfl ?_);refine zgl (some 51) Try.func36 #[.int .i64 (wrap64 ((wrap64 ((wrap64 ((wrap64 ((wrap64 (x1_1 + 1)) + 1)) + 1)) + 1)) + 1))] ?_;(with_reducible refine (laws_markText.calls k1 (wrap64 ((wrap64 ((wrap64 ((wrap64 ((wrap64 (x1_1 + 1)) + 1)) + 1)) + 1)) + 1)) t351 _ A11.out).mono ?_);rintro e w27 ⟨rfl,hb⟩;refine ⟨_,rfl,?_⟩;replace HO_0 := zrb HO_0 hb;replace HK := am_ (Kept.below (S := (fun k_ => P0_ k_)) (by repeat (first | (with_reducible first | exact HK.out | apply Kept.alloc | apply Kept.drewN | apply Kept.drew) | exact HK.out)) hb);replace HB := zs_ HB hb;(try clear hb);(try clear hb2);(try clear hk);(try clear hi);have p12 : 0 ≤ (x5_1 : Int) := zo_;have q12 : (x5_1 : Int) < ((x0_1.length : Int) : Int) := zo_;obtain ⟨ce12,hcl12,hM12,hcc12,hfr12⟩ := Kd.R_elem HO_0.out z63 (x5_1 : Int) p12 q12;obtain rfl := k63_openM hM12;have hx12_0 : w27.cell? ⟨go5,(x5_1 : Int).toNat * 7,none⟩ = some (.int .i64 ((rd_T63 y350 x5_1).f0)) := hcc12 0 _ rfl;have hx12_1 : w27.cell? ⟨go5,(x5_1 : Int).toNat * 7 + 1,none⟩ = some (.int .i64 ((rd_T63 y350 x5_1).f1)) := hcc12 1 _ rfl;have hx12_2 : w27.cell? ⟨go5,(x5_1 : Int).toNat * 7 + 2,none⟩ = some (.int .i64 ((rd_T63 y350 x5_1).f2)) := hcc12 2 _ rfl;have hx12_3 : w27.cell? ⟨go5,(x5_1 : Int).toNat * 7 + 3,none⟩ = some (.int .i64 ((rd_T63 y350 x5_1).f3)) := hcc12 3 _ rfl;have hx12_4 : w27.cell? ⟨go5,(x5_1 : Int).toNat * 7 + 4,none⟩ = some (.string ((rd_T63 y350 x5_1).f4)) := hcc12 4 _ rfl;have hx12_5 : w27.cell? ⟨go5,(x5_1 : Int).toNat * 7 + 5,none⟩ = some (.string ((rd_T63 y350 x5_1).f5)) := hcc12 5 _ rfl;have hx12_6 : w27.cell? ⟨go5,(x5_1 : Int).toNat * 7 + 6,none⟩ = some (.string ((rd_T63 y350 x5_1).f6)) := hcc12 6 _ rfl;have hf12_0 : w27.frozen? ⟨go5,(x5_1 : Int).toNat * 7,none⟩ = false := hfr12 0;have hf12_1 : w27.frozen? ⟨go5,(x5_1 : Int).toNat * 7 + 1,none⟩ = false := hfr12 1;have hf12_2 : w27.frozen? ⟨go5,(x5_1 : Int).toNat * 7 + 2,none⟩ = false := hfr12 2;have hf12_3 : w27.frozen? ⟨go5,(x5_1 : Int).toNat * 7 + 3,none⟩ = false := hfr12 3;have hf12_4 : w27.frozen? ⟨go5,(x5_1 : Int).toNat * 7 + 4,none⟩ = false := hfr12 4;have hf12_5 : w27.frozen? ⟨go5,(x5_1 : Int).toNat * 7 + 5,none⟩ = false := hfr12 5;have hf12_6 : w27.frozen? ⟨go5,(x5_1 : Int).toNat * 7 + 6,none⟩ = false := hfr12 6;clear hcl12 hcc12 hfr12 hM12;replace p12 := eq_true p12;replace q12 := eq_true q12;have HX28 := am_ (show Kd.R k63 63 w27 w0.heap.size (fun k_ => (P0_ k_ ∨ w.heap.size ≤ k_)) (.slice (some ⟨go5,0,none⟩) x0_1.length co15) y350 from (zr HO_0));obtain ⟨ce28,hcl28,hM28,hcc28,hfr28⟩ := Kd.R_elem HX28.out z63 (x5_1 : Int) (zo_) (by have h_ : (x5_1 : Int) < ((x0_1.length : Int) : Int) := zo_;first | exact h_ | (have e_ := (Kd.R_reads' HO_0.out).1;omega) | simpa using h_);obtain rfl := k63_openM hM28;have HP28 := Kd.R_seg HX28.out (x5_1 : Int) (zo_) (by have h_ : (x5_1 : Int) < ((x0_1.length : Int) : Int) := zo_;first | exact h_ | (have e_ := (Kd.R_reads' HO_0.out).1;omega) | simpa using h_) (seg := [.string t351]) (j := 5) hcl28 hcc28 (show 6 ≤ 7 from by decide) (x' := (⟨(rd_T63 y350 x5_1).f0,(rd_T63 y350 x5_1).f1,(rd_T63 y350 x5_1).f2,(rd_T63 y350 x5_1).f3,(rd_T63 y350 x5_1).f4,t351,(rd_T63 y350 x5_1).f6⟩ : S63)) (k63_mkM _ _ _ (⟨(rd_T63 y350 x5_1).f0,(rd_T63 y350 x5_1).f1,(rd_T63 y350 x5_1).f2,(rd_T63 y350 x5_1).f3,(rd_T63 y350 x5_1).f4,t351,(rd_T63 y350 x5_1).f6⟩ : S63) ) (fun _ hk => hk);have hx28_5 := hcc28 5 _ rfl;(try simp only [show (k63).sz = 7 from rfl,Nat.mul_one,Nat.add_zero] at hx28_5);have hf28_5 := hfr28 5;(try simp only [show (k63).sz = 7 from rfl,Nat.mul_one,Nat.add_zero] at hf28_5);clear hcl28 hcc28 hfr28 hM28) | ((with_reducible refine gate_store (t := 9) (p := 53) rfl ?_);refine store_event (t := 9) (p := 53) (v := ?vo_w29) (w1 := (w27.setCell ⟨go5,(x5_1 : Int).toNat * 7 + 5,none⟩ (.string t351))) ?hg ?ho ?hn ?hr ?_;(case ho => rfl);(case hg => rfl);(case hn => rfl);(case hr => first | (go_simp;done) | (go_simp;rfl));intro w29 hw;have hg : w27.grownBy w29 (some go5) := (by rw [hw];exact HP28.2);have hp_ : Kd.R k63 63 w29 w0.heap.size (fun k_ => (P0_ k_ ∨ w.heap.size ≤ k_)) (.slice (some ⟨go5,0,none⟩) x0_1.length co15) y352 := (by rw [hw,Ny352.out];exact HP28.1);clear HP28;replace HB := am_ ((by rw [hw];exact below_set (HB.out) GB5.out : Below w0.heap.size w0 w29));replace HK := am_ (Kept.of_grown (S := (fun k_ => P0_ k_)) hg (by repeat (first | (with_reducible first | exact HK.out | apply Kept.alloc | apply Kept.drewN | apply Kept.drew) | exact HK.out)) (fun k_ e_ => (HO_0.out.1 k_ e_)));replace HO_0 := am_ (hp_);clear hg hw hp_) | ((with_reducible refine gate_callee (f := 36) rfl ?_);refine zgl (some 59) Try.func36 #[.int .i64 (wrap64 ((wrap64 ((wrap64 ((wrap64 ((wrap64 ((wrap64 (x1_1 + 1)) + 1)) + 1)) + 1)) + 1)) + 1))] ?_;(with_reducible refine (laws_markText.calls k1 (wrap64 ((wrap64 ((wrap64 ((wrap64 ((wrap64 ((wrap64 (x1_1 + 1)) + 1)) + 1)) + 1)) + 1)) + 1)) t353 _ A13.out).mono ?_);rintro e w30 ⟨rfl,hb⟩;refine ⟨_,rfl,?_⟩;replace HO_0 := zrb HO_0 hb;replace HK := am_ (Kept.below (S := (fun k_ => P0_ k_)) (by repeat (first | (with_reducible first | exact HK.out | apply Kept.alloc | apply Kept.drewN | apply Kept.drew) | exact HK.out)) hb);replace HB := zs_ HB hb;(try clear hb);(try clear hb2);(try clear hk);(try clear hi);have p14 : 0 ≤ (x5_1 : Int) := zo_;have q14 : (x5_1 : Int) < ((x0_1.length : Int) : Int) := zo_;obtain ⟨ce14,hcl14,hM14,hcc14,hfr14⟩ := Kd.R_elem HO_0.out z63 (x5_1 : Int) p14 q14;obtain rfl := k63_openM hM14;have hx14_0 : w30.cell? ⟨go5,(x5_1 : Int).toNat * 7,none⟩ = some (.int .i64 ((rd_T63 y352 x5_1).f0)) := hcc14 0 _ rfl;have hx14_1 : w30.cell? ⟨go5,(x5_1 : Int).toNat * 7 + 1,none⟩ = some (.int .i64 ((rd_T63 y352 x5_1).f1)) := hcc14 1 _ rfl;have hx14_2 : w30.cell? ⟨go5,(x5_1 : Int).toNat * 7 + 2,none⟩ = some (.int .i64 ((rd_T63 y352 x5_1).f2)) := hcc14 2 _ rfl;have hx14_3 : w30.cell? ⟨go5,(x5_1 : Int).toNat * 7 + 3,none⟩ = some (.int .i64 ((rd_T63 y352 x5_1).f3)) := hcc14 3 _ rfl;have hx14_4 : w30.cell? ⟨go5,(x5_1 : Int).toNat * 7 + 4,none⟩ = some (.string ((rd_T63 y352 x5_1).f4)) := hcc14 4 _ rfl;have hx14_5 : w30.cell? ⟨go5,(x5_1 : Int).toNat * 7 + 5,none⟩ = some (.string ((rd_T63 y352 x5_1).f5)) := hcc14 5 _ rfl;have hx14_6 : w30.cell? ⟨go5,(x5_1 : Int).toNat * 7 + 6,none⟩ = some (.string ((rd_T63 y352 x5_1).f6)) := hcc14 6 _ rfl;have hf14_0 : w30.frozen? ⟨go5,(x5_1 : Int).toNat * 7,none⟩ = false := hfr14 0;have hf14_1 : w30.frozen? ⟨go5,(x5_1 : Int).toNat * 7 + 1,none⟩ = false := hfr14 1;have hf14_2 : w30.frozen? ⟨go5,(x5_1 : Int).toNat * 7 + 2,none⟩ = false := hfr14 2;have hf14_3 : w30.frozen? ⟨go5,(x5_1 : Int).toNat * 7 + 3,none⟩ = false := hfr14 3;have hf14_4 : w30.frozen? ⟨go5,(x5_1 : Int).toNat * 7 + 4,none⟩ = false := hfr14 4;have hf14_5 : w30.frozen? ⟨go5,(x5_1 : Int).toNat * 7 + 5,none⟩ = false := hfr14 5;have hf14_6 : w30.frozen? ⟨go5,(x5_1 : Int).toNat * 7 + 6,none⟩ = false := hfr14 6;clear hcl14 hcc14 hfr14 hM14;replace p14 := eq_true p14;replace q14 := eq_true q14;have HX31 := am_ (show Kd.R k63 63 w30 w0.heap.size (fun k_ => (P0_ k_ ∨ w.heap.size ≤ k_)) (.slice (some ⟨go5,0,none⟩) x0_1.length co15) y352 from (zr HO_0));obtain ⟨ce31,hcl31,hM31,hcc31,hfr31⟩ := Kd.R_elem HX31.out z63 (x5_1 : Int) (zo_) (by have h_ : (x5_1 : Int) < ((x0_1.length : Int) : Int) := zo_;first | exact h_ | (have e_ := (Kd.R_reads' HO_0.out).1;omega) | simpa using h_);obtain rfl := k63_openM hM31;have HP31 := Kd.R_seg HX31.out (x5_1 : Int) (zo_) (by have h_ : (x5_1 : Int) < ((x0_1.length : Int) : Int) := zo_;first | exact h_ | (have e_ := (Kd.R_reads' HO_0.out).1;omega) | simpa using h_) (seg := [.string t353]) (j := 6) hcl31 hcc31 (show 7 ≤ 7 from by decide) (x' := (⟨(rd_T63 y352 x5_1).f0,(rd_T63 y352 x5_1).f1,(rd_T63 y352 x5_1).f2,(rd_T63 y352 x5_1).f3,(rd_T63 y352 x5_1).f4,(rd_T63 y352 x5_1).f5,t353⟩ : S63)) (k63_mkM _ _ _ (⟨(rd_T63 y352 x5_1).f0,(rd_T63 y352 x5_1).f1,(rd_T63 y352 x5_1).f2,(rd_T63 y352 x5_1).f3,(rd_T63 y352 x5_1).f4,(rd_T63 y352 x5_1).f5,t353⟩ : S63) ) (fun _ hk => hk);have hx31_6 := hcc31 6 _ rfl;(try simp only [show (k63).sz = 7 from rfl,Nat.mul_one,Nat.add_zero] at hx31_6);have hf31_6 := hfr31 6;(try simp only [show (k63).sz = 7 from rfl,Nat.mul_one,Nat.add_zero] at hf31_6);clear hcl31 hcc31 hfr31 hM31) | ((with_reducible refine gate_store (t := 9) (p := 61) rfl ?_);refine store_event (t := 9) (p := 61) (v := ?vo_w32) (w1 := (w30.setCell ⟨go5,(x5_1 : Int).toNat * 7 + 6,none⟩ (.string t353))) ?hg ?ho ?hn ?hr ?_;(case ho => rfl);(case hg => rfl);(case hn => rfl);(case hr => first | (go_simp;done) | (go_simp;rfl));intro w32 hw;have hg : w30.grownBy w32 (some go5) := (by rw [hw];exact HP31.2);have hp_ : Kd.R k63 63 w32 w0.heap.size (fun k_ => (P0_ k_ ∨ w.heap.size ≤ k_)) (.slice (some ⟨go5,0,none⟩) x0_1.length co15) y354 := (by rw [hw,Ny354.out];exact HP31.1);clear HP31;replace HB := am_ ((by rw [hw];exact below_set (HB.out) GB5.out : Below w0.heap.size w0 w32));replace HK := am_ (Kept.of_grown (S := (fun k_ => P0_ k_)) hg (by repeat (first | (with_reducible first | exact HK.out | apply Kept.alloc | apply Kept.drewN | apply Kept.drew) | exact HK.out)) (fun k_ e_ => (HO_0.out.1 k_ e_)));replace HO_0 := am_ (hp_);clear hg hw hp_))
     go_roundg k1
     case measure => have := HK1.out;omega
     case rel => exact ⟨(y354),(wrap64 ((wrap64 ((wrap64 ((wrap64 ((wrap64 ((wrap64 ((wrap64 (x1_1 + 1)) + 1)) + 1)) + 1)) + 1)) + 1)) + 1)),(wrap64 (x5_1 + 1)),(by first | rfl | (simp;done) | (simp [*];done)),(by first | rfl | (simp;done) | (simp [*];done)),H',⟨by have := HK1.out;omega⟩,⟨zr HO_0⟩,⟨by repeat (first | (with_reducible first | exact HK.out | apply Kept.alloc | apply Kept.drewN | apply Kept.drew) | exact HK.out)⟩,⟨zl_ HB⟩⟩
    ·rw [if_neg c4] at H
     exact absurd H (by simp)
   ·rw [if_neg c3] at H
    have c3b0 : decide (x5_1 < (x0_1.length : Int)) = false := decide_eq_false c3
    clear c3
    simp only [Option.some.injEq,Prod.mk.injEq] at H
    obtain ⟨rfl,rfl⟩ := H
    obtain ⟨Ao33,co33,eo33⟩ := Kd.R_slice HO_0.out
    subst eo33
    go_wp2
    go_ret
    exact ⟨zt_,zr HO_0,zl_ HB,by repeat (first | (with_reducible first | exact HK.out | apply Kept.alloc | apply Kept.drewN | apply Kept.drew) | exact HK.out)⟩
set_option maxHeartbeats 8000000 in
set_option maxRecDepth 100000 in
theorem laws_markCert.calls (k : Nat) (a0_0 : ByteArray) (P0_1_ : Nat → Prop) (u9000_ : Value) (l0_1 : List (S63)) (a1 : Int) (r1 : Int) (r2 : List (S63)) (w0 w : World) (hB : Below w0.heap.size w0 w) (ho0_1 : Kd.R k63 63 w w0.heap.size P0_1_ u9000_ l0_1) (h : laws_markCert.f k a0_0 l0_1 a1 = some (r1,r2)) :
  Calls Try.prog 21 #[.agg #[.string a0_0,u9000_],.int .i64 a1] w fun e w' => e = .returned (.int .i64 r1) ∧ Kd.R k63 63 w' w0.heap.size (fun k_ => (P0_1_ k_ ∨ w.heap.size ≤ k_)) u9000_ r2 ∧ Below w0.heap.size w0 w' ∧ Kept w w' (fun k_ => P0_1_ k_) := by
 have hu39 := Try.underlying39
 have HO0_1 := am_ (show Kd.R k63 63 w w0.heap.size (fun k_ => (P0_1_ k_ ∨ w.heap.size ≤ k_)) u9000_ l0_1 from Kd.R_mono ho0_1 (fun k_ hk => (.inl hk)))
 have HK := am_ (Kept.refl w (fun k_ => P0_1_ k_))
 have HW0 := am_ hB.size
 have HB := am_ hB
 clear hB
 have H : ((laws_markMessageS.f k l0_1 a1).bind fun bt356 => (some (bt356.1,bt356.2))) = some (r1,r2) := h
 clear h
 replace H := Option.bind_eq_some_iff.mp H
 obtain ⟨⟨t356,t357⟩,A30,H⟩ := H
 try dsimp only at H
 have A3 := am_ A30
 clear A30
 simp only [Option.some.injEq,Prod.mk.injEq] at H
 obtain ⟨rfl,rfl⟩ := H
 obtain ⟨Ao4,co4,eo4⟩ := Kd.R_slice HO0_1.out
 subst eo4
 go_enter Try.func21,Try.ntmps21
 go_wp2_with (first | ((with_reducible refine gate_dst (N := 2) rfl ?_);refine zbx (N := 2) (cs := #[.string a0_0,.slice Ao4 l0_1.length co4]) (t := 39) ?_;intro gb355 hg w5 hbox hb;replace HO0_1 := am_ (Kd.R_below (by (with_reducible repeat (first | apply r1_ | apply r2_ | apply r3_));exact HO0_1.out) hb);have BK355 := am_ (hbox);have GW355 := am_ ((by rw [hg];exact (by first | exact HK.out.1 | exact (show Kept w _ (fun k_ => P0_1_ k_) from by repeat (first | (with_reducible first | exact HK.out | apply Kept.alloc | apply Kept.drewN | apply Kept.drew) | exact HK.out)).1) : w.heap.size ≤ gb355));replace HK := am_ (Kept.below (S := (fun k_ => P0_1_ k_)) (by repeat (first | (with_reducible first | exact HK.out | apply Kept.alloc | apply Kept.drewN | apply Kept.drew) | exact HK.out)) hb);have GE355 := am_ ((by rw [hg];exact (below_size (zl_ HB)) : w0.heap.size ≤ gb355));replace HB := zs_ HB hb;clear hb hbox hg;obtain ⟨hcz6_0,hcz6_1,hfz6_0,hfz6_1⟩ := zc2 BK355) | ((with_reducible refine gate_callee (f := 43) rfl ?_);refine zgl (some 8) Try.func43 #[.slice Ao4 l0_1.length co4,.int .i64 a1] ?_;(with_reducible refine (laws_markMessageS.calls k (fun k_ => some k_ = (.slice Ao4 l0_1.length co4 : Value).ownBlock) (.slice Ao4 l0_1.length co4) l0_1 a1 t356 t357 w0 _ ?side1 ?side2 A3.out).mono ?_);(case side1 => exact zl_ HB);(case side2 => exact Kd.R_tight rfl HO0_1.out);rintro e w7 ⟨rfl,hy0,hb,hkp⟩;refine ⟨_,rfl,?_⟩;replace HK := am_ (Kept.then_ (S := (fun k_ => P0_1_ k_)) (by repeat (first | (with_reducible first | exact HK.out | apply Kept.alloc | apply Kept.drewN | apply Kept.drew | refine Kept.setCell ?_ (.inr GW355.out) _) | exact HK.out)) hkp (fun k_ hs_ => (fun e_ => (HO0_1.out.1 k_ e_.symm)) hs_));replace HO0_1 := am_ (Kd.R_reok rfl hy0 (fun k_ e_ => HO0_1.out.1 k_ e_));replace HB := am_ (hb);(try clear hb);(try clear hkp);(try clear hy0)))
 go_ret
 exact ⟨zt_,by (with_reducible repeat (first | apply r1_ | apply r2_ | apply r3_));exact HO0_1.out,zl_ HB,by repeat (first | (with_reducible first | exact HK.out | apply Kept.alloc | apply Kept.drewN | apply Kept.drew | refine Kept.setCell ?_ (.inr GW355.out) _) | exact HK.out)⟩
set_option maxHeartbeats 8000000 in
set_option maxRecDepth 100000 in
theorem laws_szMessage.calls (a0_0 : Int) (a0_1 : Int) (a0_2 : Int) (a0_3 : Int) (a0_4 : ByteArray) (a0_5 : ByteArray) (a0_6 : ByteArray) (a1 : Int) (r : Int) (w : World) (h : laws_szMessage.f a0_0 a0_1 a0_2 a0_3 a0_4 a0_5 a0_6 a1 = some r) :
  Calls Try.prog 64 #[.agg #[.int .i64 a0_0,.int .i64 a0_1,.int .i64 a0_2,.int .i64 a0_3,.string a0_4,.string a0_5,.string a0_6],.int .i64 a1] w fun e w' => e = .returned (.int .i64 r) ∧ Below w.heap.size w w' := by
 have hu90 := Try.underlying90
 have HB := am_ (Below.refl w.heap.size w)
 have H : (if (wrap64 (a1 - (a0_4.size : Int))) < 0 then (some (-1)) else (if (wrap64 ((wrap64 (a1 - (a0_4.size : Int))) - (a0_5.size : Int))) < 0 then (some (-1)) else (if (wrap64 ((wrap64 ((wrap64 (a1 - (a0_4.size : Int))) - (a0_5.size : Int))) - (a0_6.size : Int))) < 0 then (some (-1)) else (some (wrap64 ((wrap64 ((wrap64 (a1 - (a0_4.size : Int))) - (a0_5.size : Int))) - (a0_6.size : Int))))))) = some r := h
 clear h
 by_cases c3 : (wrap64 (a1 - (a0_4.size : Int))) < 0
 ·rw [if_pos c3] at H
  have c3b0 : decide ((wrap64 (a1 - (a0_4.size : Int))) < 0) = true := decide_eq_true c3
  clear c3
  obtain rfl := Option.some.inj H
  go_enter Try.func64,Try.ntmps64
  go_wp2_with (first | ((with_reducible refine gate_dst (N := 2) rfl ?_);refine zbx (N := 2) (cs := #[.int .i64 a0_0,.int .i64 a0_1,.int .i64 a0_2,.int .i64 a0_3,.string a0_4,.string a0_5,.string a0_6]) (t := 90) ?_;intro gb189 hg w4 hbox hb;have BK189 := am_ (hbox);have GW189 := zw_ HB hg;have GE189 := zw_ HB hg;replace HB := zs_ HB hb;clear hb hbox hg;obtain ⟨hcz5_0,hcz5_1,hcz5_2,hcz5_3,hcz5_4,hcz5_5,hcz5_6,hfz5_0,hfz5_1,hfz5_2,hfz5_3,hfz5_4,hfz5_5,hfz5_6⟩ := zc7 BK189))
  go_ret
  exact ⟨zt_,zl_ HB⟩
 ·rw [if_neg c3] at H
  have c3b0 : decide ((wrap64 (a1 - (a0_4.size : Int))) < 0) = false := decide_eq_false c3
  clear c3
  by_cases c6 : (wrap64 ((wrap64 (a1 - (a0_4.size : Int))) - (a0_5.size : Int))) < 0
  ·rw [if_pos c6] at H
   have c6b0 : decide ((wrap64 ((wrap64 (a1 - (a0_4.size : Int))) - (a0_5.size : Int))) < 0) = true := decide_eq_true c6
   clear c6
   obtain rfl := Option.some.inj H
   go_enter Try.func64,Try.ntmps64
   go_wp2_with (first | ((with_reducible refine gate_dst (N := 2) rfl ?_);refine zbx (N := 2) (cs := #[.int .i64 a0_0,.int .i64 a0_1,.int .i64 a0_2,.int .i64 a0_3,.string a0_4,.string a0_5,.string a0_6]) (t := 90) ?_;intro gb189 hg w7 hbox hb;have BK189 := am_ (hbox);have GW189 := zw_ HB hg;have GE189 := zw_ HB hg;replace HB := zs_ HB hb;clear hb hbox hg;obtain ⟨hcz8_0,hcz8_1,hcz8_2,hcz8_3,hcz8_4,hcz8_5,hcz8_6,hfz8_0,hfz8_1,hfz8_2,hfz8_3,hfz8_4,hfz8_5,hfz8_6⟩ := zc7 BK189))
   go_ret
   exact ⟨zt_,zl_ HB⟩
  ·rw [if_neg c6] at H
   have c6b0 : decide ((wrap64 ((wrap64 (a1 - (a0_4.size : Int))) - (a0_5.size : Int))) < 0) = false := decide_eq_false c6
   clear c6
   by_cases c9 : (wrap64 ((wrap64 ((wrap64 (a1 - (a0_4.size : Int))) - (a0_5.size : Int))) - (a0_6.size : Int))) < 0
   ·rw [if_pos c9] at H
    have c9b0 : decide ((wrap64 ((wrap64 ((wrap64 (a1 - (a0_4.size : Int))) - (a0_5.size : Int))) - (a0_6.size : Int))) < 0) = true := decide_eq_true c9
    clear c9
    obtain rfl := Option.some.inj H
    go_enter Try.func64,Try.ntmps64
    go_wp2_with (first | ((with_reducible refine gate_dst (N := 2) rfl ?_);refine zbx (N := 2) (cs := #[.int .i64 a0_0,.int .i64 a0_1,.int .i64 a0_2,.int .i64 a0_3,.string a0_4,.string a0_5,.string a0_6]) (t := 90) ?_;intro gb189 hg w10 hbox hb;have BK189 := am_ (hbox);have GW189 := zw_ HB hg;have GE189 := zw_ HB hg;replace HB := zs_ HB hb;clear hb hbox hg;obtain ⟨hcz11_0,hcz11_1,hcz11_2,hcz11_3,hcz11_4,hcz11_5,hcz11_6,hfz11_0,hfz11_1,hfz11_2,hfz11_3,hfz11_4,hfz11_5,hfz11_6⟩ := zc7 BK189))
    go_ret
    exact ⟨zt_,zl_ HB⟩
   ·rw [if_neg c9] at H
    have c9b0 : decide ((wrap64 ((wrap64 ((wrap64 (a1 - (a0_4.size : Int))) - (a0_5.size : Int))) - (a0_6.size : Int))) < 0) = false := decide_eq_false c9
    clear c9
    obtain rfl := Option.some.inj H
    go_enter Try.func64,Try.ntmps64
    go_wp2_with (first | ((with_reducible refine gate_dst (N := 2) rfl ?_);refine zbx (N := 2) (cs := #[.int .i64 a0_0,.int .i64 a0_1,.int .i64 a0_2,.int .i64 a0_3,.string a0_4,.string a0_5,.string a0_6]) (t := 90) ?_;intro gb189 hg w12 hbox hb;have BK189 := am_ (hbox);have GW189 := zw_ HB hg;have GE189 := zw_ HB hg;replace HB := zs_ HB hb;clear hb hbox hg;obtain ⟨hcz13_0,hcz13_1,hcz13_2,hcz13_3,hcz13_4,hcz13_5,hcz13_6,hfz13_0,hfz13_1,hfz13_2,hfz13_3,hfz13_4,hfz13_5,hfz13_6⟩ := zc7 BK189))
    go_ret
    exact ⟨zt_,zl_ HB⟩
set_option maxHeartbeats 8000000 in
set_option maxRecDepth 100000 in
theorem laws_szMessageS.calls (k : Nat) (A0 : Option Addr) (c0 : Nat) (l0 : List (S90)) (a1 : Int) (r : Int) (w : World) (hr0 : Kd.C k90 w A0 l0.length l0) (hc0 : l0.length ≤ c0) (h : laws_szMessageS.f k l0 a1 = some r) :
  Calls Try.prog 37 #[.slice A0 l0.length c0,.int .i64 a1] w fun e w' => e = .returned (.int .i64 r) ∧ Below w.heap.size w w' := by
 have hu90 := Try.underlying90
 have HR0 := am_ hr0
 have HC0 := am_ hc0
 clear hr0 hc0
 have HB := am_ (Below.refl w.heap.size w)
 have H : (if (wrap64 (a1 - (l0.length : Int))) < 0 then (some (-1)) else (laws_szMessageS.l0 k l0 (wrap64 (a1 - (l0.length : Int))) 0)) = some r := h
 clear h
 by_cases c3 : (wrap64 (a1 - (l0.length : Int))) < 0
 ·rw [if_pos c3] at H
  have c3b0 : decide ((wrap64 (a1 - (l0.length : Int))) < 0) = true := decide_eq_true c3
  clear c3
  obtain rfl := Option.some.inj H
  go_enter Try.func37,Try.ntmps37
  go_wp2
  go_ret
  exact ⟨zt_,zl_ HB⟩
 ·rw [if_neg c3] at H
  have c3b0 : decide ((wrap64 (a1 - (l0.length : Int))) < 0) = false := decide_eq_false c3
  clear c3
  have H' := am_ H
  clear H
  go_enter Try.func37,Try.ntmps37
  go_wp2
  go_loopg [1,5] k (fun kq v1 v5 w' => ∃ (x1_1 : Int) (x5_1 : Int),v1 = .int .i64 x1_1 ∧ v5 = .int .i64 x5_1 ∧ Aside0 (laws_szMessageS.l0 kq l0 x1_1 x5_1 = some r) ∧ Aside0 (kq ≤ k) ∧ Aside0 (Below w.heap.size w w'))
  case atStart => exact ⟨(wrap64 (a1 - (l0.length : Int))),(0),(by first | rfl | (simp;done) | (simp [*];done)),(by first | rfl | (simp;done) | (simp [*];done)),H',⟨Nat.le_refl _⟩,⟨zl_ HB⟩⟩
  case round =>
   clear H'
   try clear p2
   try clear c3
   try clear c3b0
   obtain ⟨x1_1,x5_1,rfl,rfl,HA,HK1,HB⟩ := hrel
   cases gk with
   | zero => exact absurd HA.out (by simp [laws_szMessageS.l0])
   | succ k1 =>
    have H := HA.out
    clear HA
    simp only [laws_szMessageS.l0] at H
    by_cases c4 : x5_1 < (l0.length : Int)
    ·rw [if_pos c4] at H
     have c4b0 : decide (x5_1 < (l0.length : Int)) = true := decide_eq_true c4
     clear c4
     by_cases c5 : 0 ≤ x5_1
     ·rw [if_pos c5] at H
      have c5b0 : decide (0 ≤ x5_1) = true := decide_eq_true c5
      clear c5
      replace H := Option.bind_eq_some_iff.mp H
      obtain ⟨t191,A60,H⟩ := H
      try dsimp only at H
      have A6 := am_ A60
      clear A60
      by_cases c7 : t191 < 0
      ·rw [if_pos c7] at H
       have c7b0 : decide (t191 < 0) = true := decide_eq_true c7
       clear c7
       obtain rfl := Option.some.inj H
       have p190 : 0 ≤ (x5_1 : Int) := zo_
       have q190 : x5_1 < (l0.length : Int) := zo_
       obtain ⟨ad190,e190,hx190_0,hx190_1,hx190_2,hx190_3,hx190_4,hx190_5,hx190_6⟩ := at_T90 HR0.out x5_1 p190 q190
       cases e190
       replace hx190_0 := zx_ HB hx190_0
       replace hx190_1 := zx_ HB hx190_1
       replace hx190_2 := zx_ HB hx190_2
       replace hx190_3 := zx_ HB hx190_3
       replace hx190_4 := zx_ HB hx190_4
       replace hx190_5 := zx_ HB hx190_5
       replace hx190_6 := zx_ HB hx190_6
       replace p190 := eq_true p190
       replace q190 := eq_true q190
       go_wp2_with (first | ((with_reducible refine gate_callee (f := 64) rfl ?_);refine zgl (some 23) Try.func64 #[.agg #[.int .i64 ((rd_T90 l0 x5_1).f0),.int .i64 ((rd_T90 l0 x5_1).f1),.int .i64 ((rd_T90 l0 x5_1).f2),.int .i64 ((rd_T90 l0 x5_1).f3),.string ((rd_T90 l0 x5_1).f4),.string ((rd_T90 l0 x5_1).f5),.string ((rd_T90 l0 x5_1).f6)],.int .i64 x1_1] ?_;(with_reducible refine (laws_szMessage.calls ((rd_T90 l0 x5_1).f0) ((rd_T90 l0 x5_1).f1) ((rd_T90 l0 x5_1).f2) ((rd_T90 l0 x5_1).f3) ((rd_T90 l0 x5_1).f4) ((rd_T90 l0 x5_1).f5) ((rd_T90 l0 x5_1).f6) x1_1 t191 _ A6.out).mono ?_);rintro e w8 ⟨rfl,hb⟩;refine ⟨_,rfl,?_⟩;replace HB := zs_ HB hb;(try clear hb);(try clear hb2);(try clear hk);(try clear hi)))
       go_ret
       exact ⟨zt_,zl_ HB⟩
      ·rw [if_neg c7] at H
       have c7b0 : decide (t191 < 0) = false := decide_eq_false c7
       clear c7
       have H' := am_ H
       clear H
       have p190 : 0 ≤ (x5_1 : Int) := zo_
       have q190 : x5_1 < (l0.length : Int) := zo_
       obtain ⟨ad190,e190,hx190_0,hx190_1,hx190_2,hx190_3,hx190_4,hx190_5,hx190_6⟩ := at_T90 HR0.out x5_1 p190 q190
       cases e190
       replace hx190_0 := zx_ HB hx190_0
       replace hx190_1 := zx_ HB hx190_1
       replace hx190_2 := zx_ HB hx190_2
       replace hx190_3 := zx_ HB hx190_3
       replace hx190_4 := zx_ HB hx190_4
       replace hx190_5 := zx_ HB hx190_5
       replace hx190_6 := zx_ HB hx190_6
       replace p190 := eq_true p190
       replace q190 := eq_true q190
       go_wp2_with (first | ((with_reducible refine gate_callee (f := 64) rfl ?_);refine zgl (some 23) Try.func64 #[.agg #[.int .i64 ((rd_T90 l0 x5_1).f0),.int .i64 ((rd_T90 l0 x5_1).f1),.int .i64 ((rd_T90 l0 x5_1).f2),.int .i64 ((rd_T90 l0 x5_1).f3),.string ((rd_T90 l0 x5_1).f4),.string ((rd_T90 l0 x5_1).f5),.string ((rd_T90 l0 x5_1).f6)],.int .i64 x1_1] ?_;(with_reducible refine (laws_szMessage.calls ((rd_T90 l0 x5_1).f0) ((rd_T90 l0 x5_1).f1) ((rd_T90 l0 x5_1).f2) ((rd_T90 l0 x5_1).f3) ((rd_T90 l0 x5_1).f4) ((rd_T90 l0 x5_1).f5) ((rd_T90 l0 x5_1).f6) x1_1 t191 _ A6.out).mono ?_);rintro e w9 ⟨rfl,hb⟩;refine ⟨_,rfl,?_⟩;replace HB := zs_ HB hb;(try clear hb);(try clear hb2);(try clear hk);(try clear hi)))
       go_roundg k1
       case measure => have := HK1.out;omega
       case rel => exact ⟨(t191),(wrap64 (x5_1 + 1)),(by first | rfl | (simp;done) | (simp [*];done)),(by first | rfl | (simp;done) | (simp [*];done)),H',⟨by have := HK1.out;omega⟩,⟨zl_ HB⟩⟩
     ·rw [if_neg c5] at H
      exact absurd H (by simp)
    ·rw [if_neg c4] at H
     have c4b0 : decide (x5_1 < (l0.length : Int)) = false := decide_eq_false c4
     clear c4
     obtain rfl := Option.some.inj H
     go_wp2
     go_ret
     exact ⟨zt_,zl_ HB⟩
set_option maxHeartbeats 8000000 in
set_option maxRecDepth 100000 in
theorem laws_szCert.calls (k : Nat) (a0_0 : ByteArray) (A0_1 : Option Addr) (c0_1 : Nat) (l0_1 : List (S90)) (a1 : Int) (r : Int) (w : World) (hr0_1 : Kd.C k90 w A0_1 l0_1.length l0_1) (hc0_1 : l0_1.length ≤ c0_1) (h : laws_szCert.f k a0_0 l0_1 a1 = some r) :
  Calls Try.prog 16 #[.agg #[.string a0_0,.slice A0_1 l0_1.length c0_1],.int .i64 a1] w fun e w' => e = .returned (.int .i64 r) ∧ Below w.heap.size w w' := by
 have hu34 := Try.underlying34
 have HR0_1 := am_ hr0_1
 have HC0_1 := am_ hc0_1
 clear hr0_1 hc0_1
 have HB := am_ (Below.refl w.heap.size w)
 have H : (if (wrap64 (a1 - (a0_0.size : Int))) < 0 then (some (-1)) else ((laws_szMessageS.f k l0_1 (wrap64 (a1 - (a0_0.size : Int)))).bind fun t193 => (if t193 < 0 then (some (-1)) else (some t193)))) = some r := h
 clear h
 by_cases c3 : (wrap64 (a1 - (a0_0.size : Int))) < 0
 ·rw [if_pos c3] at H
  have c3b0 : decide ((wrap64 (a1 - (a0_0.size : Int))) < 0) = true := decide_eq_true c3
  clear c3
  obtain rfl := Option.some.inj H
  go_enter Try.func16,Try.ntmps16
  go_wp2_with (first | ((with_reducible refine gate_dst (N := 2) rfl ?_);refine zbx (N := 2) (cs := #[.string a0_0,.slice A0_1 l0_1.length c0_1]) (t := 34) ?_;intro gb192 hg w4 hbox hb;have BK192 := am_ (hbox);have GW192 := zw_ HB hg;have GE192 := zw_ HB hg;replace HB := zs_ HB hb;clear hb hbox hg;obtain ⟨hcz5_0,hcz5_1,hfz5_0,hfz5_1⟩ := zc2 BK192))
  go_ret
  exact ⟨zt_,zl_ HB⟩
 ·rw [if_neg c3] at H
  have c3b0 : decide ((wrap64 (a1 - (a0_0.size : Int))) < 0) = false := decide_eq_false c3
  clear c3
  replace H := Option.bind_eq_some_iff.mp H
  obtain ⟨t193,A60,H⟩ := H
  try dsimp only at H
  have A6 := am_ A60
  clear A60
  by_cases c7 : t193 < 0
  ·rw [if_pos c7] at H
   have c7b0 : decide (t193 < 0) = true := decide_eq_true c7
   clear c7
   obtain rfl := Option.some.inj H
   go_enter Try.func16,Try.ntmps16
   go_wp2_with (first | ((with_reducible refine gate_dst (N := 2) rfl ?_);refine zbx (N := 2) (cs := #[.string a0_0,.slice A0_1 l0_1.length c0_1]) (t := 34) ?_;intro gb192 hg w8 hbox hb;have BK192 := am_ (hbox);have GW192 := zw_ HB hg;have GE192 := zw_ HB hg;replace HB := zs_ HB hb;clear hb hbox hg;obtain ⟨hcz9_0,hcz9_1,hfz9_0,hfz9_1⟩ := zc2 BK192) | ((with_reducible refine gate_callee (f := 37) rfl ?_);refine zgl (some 15) Try.func37 #[.slice A0_1 l0_1.length c0_1,.int .i64 (wrap64 (a1 - (a0_0.size : Int)))] ?_;(with_reducible refine (laws_szMessageS.calls k _ _ l0_1 (wrap64 (a1 - (a0_0.size : Int))) t193 _ ?side1 ?side2 A6.out).mono ?_);(case side1 => exact zc_ HR0_1 HB);(case side2 => exact HC0_1.out);rintro e w10 ⟨rfl,hb⟩;refine ⟨_,rfl,?_⟩;replace BK192 := zb BK192 hb;replace HB := zs_ HB hb;(try clear hb);(try clear hb2);(try clear hk);(try clear hi)))
   go_ret
   exact ⟨zt_,zl_ HB⟩
  ·rw [if_neg c7] at H
   have c7b0 : decide (t193 < 0) = false := decide_eq_false c7
   clear c7
   obtain rfl := Option.some.inj H
   go_enter Try.func16,Try.ntmps16
   go_wp2_with (first | ((with_reducible refine gate_dst (N := 2) rfl ?_);refine zbx (N := 2) (cs := #[.string a0_0,.slice A0_1 l0_1.length c0_1]) (t := 34) ?_;intro gb192 hg w11 hbox hb;have BK192 := am_ (hbox);have GW192 := zw_ HB hg;have GE192 := zw_ HB hg;replace HB := zs_ HB hb;clear hb hbox hg;obtain ⟨hcz12_0,hcz12_1,hfz12_0,hfz12_1⟩ := zc2 BK192) | ((with_reducible refine gate_callee (f := 37) rfl ?_);refine zgl (some 15) Try.func37 #[.slice A0_1 l0_1.length c0_1,.int .i64 (wrap64 (a1 - (a0_0.size : Int)))] ?_;(with_reducible refine (laws_szMessageS.calls k _ _ l0_1 (wrap64 (a1 - (a0_0.size : Int))) t193 _ ?side1 ?side2 A6.out).mono ?_);(case side1 => exact zc_ HR0_1 HB);(case side2 => exact HC0_1.out);rintro e w13 ⟨rfl,hb⟩;refine ⟨_,rfl,?_⟩;replace HB := zs_ HB hb;(try clear hb);(try clear hb2);(try clear hk);(try clear hi)))
   go_ret
   exact ⟨zt_,zl_ HB⟩
set_option maxHeartbeats 8000000 in
set_option maxRecDepth 100000 in
theorem laws_toMessage.calls (a0_0 : Int) (a0_1 : Int) (a0_2 : Int) (a0_3 : Int) (a0_4 : ByteArray) (a0_5 : ByteArray) (a0_6 : ByteArray) (r1 : Int) (r2 : Int) (r3 : Int) (r4 : Int) (r5 : ByteArray) (r6 : ByteArray) (r7 : ByteArray) (w : World) (h : laws_toMessage.f a0_0 a0_1 a0_2 a0_3 a0_4 a0_5 a0_6 = some (r1,r2,r3,r4,r5,r6,r7)) :
  Calls Try.prog 67 #[.agg #[.int .i64 a0_0,.int .i64 a0_1,.int .i64 a0_2,.int .i64 a0_3,.string a0_4,.string a0_5,.string a0_6]] w fun e w' => e = .returned (.agg #[.int .i64 r1,.int .i64 r2,.int .i64 r3,.int .i64 r4,.string r5,.string r6,.string r7]) ∧ Below w.heap.size w w' := by
 have hu90 := Try.underlying90
 have hu63 := Try.underlying63
 have HB := am_ (Below.refl w.heap.size w)
 have H : (some (a0_0,a0_1,a0_2,a0_3,a0_4,a0_5,a0_6)) = some (r1,r2,r3,r4,r5,r6,r7) := h
 clear h
 simp only [Option.some.injEq,Prod.mk.injEq] at H
 obtain ⟨rfl,rfl,rfl,rfl,rfl,rfl,rfl⟩ := H
 go_enter Try.func67,Try.ntmps67
 go_wp2_with (first | ((with_reducible refine gate_dst (N := 1) rfl ?_);refine zbx (N := 1) (cs := #[.int .i64 a0_0,.int .i64 a0_1,.int .i64 a0_2,.int .i64 a0_3,.string a0_4,.string a0_5,.string a0_6]) (t := 90) ?_;intro gb274 hg w2 hbox hb;have BK274 := am_ (hbox);have GW274 := zw_ HB hg;have GE274 := zw_ HB hg;replace HB := zs_ HB hb;clear hb hbox hg) | ((with_reducible refine gate_dst (N := 2) rfl ?_);refine zbx (N := 2) (cs := #[.int .i64 0,.int .i64 0,.int .i64 0,.int .i64 0,.string ⟨#[]⟩,.string ⟨#[]⟩,.string ⟨#[]⟩]) (t := 63) ?_;intro gb275 hg w3 hbox hb;have BK275 := am_ (hbox);have GW275 := zw_ HB hg;have GE275 := zw_ HB hg;replace HB := zs_ HB hb;have NB274_275 := zl hg BK274;have NB275_274 := zg hg BK274;replace BK274 := zb BK274 hb;clear hb hbox hg) | ((with_reducible refine gate_dst (N := 3) rfl ?_);refine zbx (N := 3) (cs := #[.int .i64 0,.int .i64 0,.int .i64 0,.int .i64 0,.string ⟨#[]⟩,.string ⟨#[]⟩,.string ⟨#[]⟩]) (t := 63) ?_;intro gb276 hg w4 hbox hb;have BK276 := am_ (hbox);have GW276 := zw_ HB hg;have GE276 := zw_ HB hg;replace HB := zs_ HB hb;have NB274_276 := zl hg BK274;have NB276_274 := zg hg BK274;replace BK274 := zb BK274 hb;have NB275_276 := zl hg BK275;have NB276_275 := zg hg BK275;replace BK275 := zb BK275 hb;clear hb hbox hg;have hnb5 := NB274_275.out;have hnc5 := NB275_274.out;have hnb6 := NB274_276.out;have hnc6 := NB276_274.out;obtain ⟨hcz7_0,hcz7_1,hcz7_2,hcz7_3,hcz7_4,hcz7_5,hcz7_6,hfz7_0,hfz7_1,hfz7_2,hfz7_3,hfz7_4,hfz7_5,hfz7_6⟩ := zc7 BK274;have hnb8 := NB276_275.out;have hnc8 := NB275_276.out;obtain ⟨hcz9_0,hcz9_1,hcz9_2,hcz9_3,hcz9_4,hcz9_5,hcz9_6,hfz9_0,hfz9_1,hfz9_2,hfz9_3,hfz9_4,hfz9_5,hfz9_6⟩ := zc7 BK276;obtain ⟨hcz10_0,hcz10_1,hcz10_2,hcz10_3,hcz10_4,hcz10_5,hcz10_6,hfz10_0,hfz10_1,hfz10_2,hfz10_3,hfz10_4,hfz10_5,hfz10_6⟩ := zc7 BK275))
 refine bodyPost_ret (results_cell_row rfl _ _ gb275 63 #[.int .i64 a0_0,.int .i64 a0_1,.int .i64 a0_2,.int .i64 a0_3,.string a0_4,.string a0_5,.string a0_6] (0,0) _ rfl (zq BK275) Try.underlying63 rfl (by kernel_rfl)) rfl ?_
 exact ⟨zt_,zl_ HB⟩
set_option maxHeartbeats 8000000 in
set_option maxRecDepth 100000 in
theorem laws_toMessageS.calls (k : Nat) (A0 : Option Addr) (c0 : Nat) (l0 : List (S90)) (r : List (S63)) (w : World) (hr0 : Kd.C k90 w A0 l0.length l0) (hc0 : l0.length ≤ c0) (h : laws_toMessageS.f k l0 = some r) :
  Calls Try.prog 40 #[.slice A0 l0.length c0] w fun e w' => ∃ v0_ : Value,e = .returned (v0_) ∧ Kd.R k63 63 w' w.heap.size (fun _ => True) v0_ r ∧ Below w.heap.size w w' := by
 have hu90 := Try.underlying90
 have hu63 := Try.underlying63
 have HR0 := am_ hr0
 have HC0 := am_ hc0
 clear hr0 hc0
 have HB := am_ (Below.refl w.heap.size w)
 have H : (if 0 ≤ (l0.length : Int) then (if ((l0.length : Int) : Int).toNat ≤ 3518437208883 then (laws_toMessageS.l0 k l0 (List.replicate ((l0.length : Int) : Int).toNat z63) 0) else (none)) else (none)) = some r := h
 clear h
 by_cases c2 : 0 ≤ (l0.length : Int)
 ·rw [if_pos c2] at H
  have c2b0 := eq_true c2
  have c2b1 : decide (0 ≤ (l0.length : Int)) = true := decide_eq_true c2
  clear c2
  by_cases c3 : ((l0.length : Int) : Int).toNat ≤ 3518437208883
  ·rw [if_pos c3] at H
   have c3b0 := eq_true c3
   have c3b1 : decide (((l0.length : Int) : Int).toNat ≤ 3518437208883) = true := decide_eq_true c3
   clear c3
   obtain ⟨y277,hy277⟩ : ∃ y_ : List (S63),y_ = (List.replicate ((l0.length : Int) : Int).toNat z63) := ⟨_,rfl⟩
   replace H : (laws_toMessageS.l0 k l0 y277 0) = some r := by first | (rw [hy277];with_reducible exact H) | (have H2_ := (Option.bind_some _ _).symm.trans H;rw [hy277];with_reducible exact H2_) | (have H2_ := (Option.bind_some _ _).symm.trans H;with_reducible exact H2_) | with_reducible exact H | (rw [hy277];exact H) | exact H
   have Ny277 := am_ hy277
   clear hy277
   have H' := am_ H
   clear H
   go_enter Try.func40,Try.ntmps40
   go_wp2_with (first | ((with_reducible refine gate_dst (N := 7) rfl ?_);refine Kd.R_make k63 _ 63 rfl (N := 7) rfl 37 _ _ rfl (l0.length : Int) rfl rfl Try.underlying37 (.agg #[(.int .i64 0),(.int .i64 0),(.int .i64 0),(.int .i64 0),(.string ⟨#[]⟩),(.string ⟨#[]⟩),(.string ⟨#[]⟩)]) 80 info63 rfl (by decide) (by omega) z63 (ok := fun _ => True) (okp := fun _ => True) (k63_mkM _ _ _ z63 ) (fun _ hk => hk) trivial (zo_) (Nat.le_trans (Nat.mul_le_mul_right _ (zo_ : (l0.length : Int).toNat ≤ 3518437208883)) (by omega)) (Below.refl _ _) (Nat.le_refl _) ?_;intro v278 w4 ho5 hb hg_ hnew_;clear hg_ hnew_;(first | rw [← Ny277.out] at ho5 | (simp only [Int.reduceToNat] at ho5;rw [← Ny277.out] at ho5));have HO279 := am_ (Kd.R_lower ho5 (below_size (zl_ HB)));replace HB := zs_ HB hb;clear hb ho5))
   go_loopg [4] k (fun kq v4 w' => ∃ (x3_1 : List (S63)) (x4_1 : Int),v4 = .int .i64 x4_1 ∧ Aside0 (laws_toMessageS.l0 kq l0 x3_1 x4_1 = some r) ∧ Aside0 (kq ≤ k) ∧ Aside0 (Kd.R k63 63 w' w.heap.size (fun _ => True) v278 x3_1) ∧ Aside0 (Below w.heap.size w w'))
   case atStart => exact ⟨(y277),(0),(by first | rfl | (simp;done) | (simp [*];done)),H',⟨Nat.le_refl _⟩,⟨zr HO279⟩,⟨zl_ HB⟩⟩
   case round =>
    clear H'
    try clear c2
    try clear c2b0
    try clear c2b1
    try clear p2
    try clear c3
    try clear c3b0
    try clear c3b1
    try clear c4
    obtain ⟨x3_1,x4_1,rfl,HA,HK1,HO_3,HB⟩ := hrel
    cases gk with
    | zero => exact absurd HA.out (by simp [laws_toMessageS.l0])
    | succ k1 =>
     have H := HA.out
     clear HA
     simp only [laws_toMessageS.l0] at H
     by_cases c6 : x4_1 < (l0.length : Int)
     ·rw [if_pos c6] at H
      have c6b0 : decide (x4_1 < (l0.length : Int)) = true := decide_eq_true c6
      clear c6
      by_cases c7 : 0 ≤ x4_1
      ·rw [if_pos c7] at H
       have c7b0 : decide (0 ≤ x4_1) = true := decide_eq_true c7
       clear c7
       replace H := Option.bind_eq_some_iff.mp H
       obtain ⟨⟨t281,t282,t283,t284,t285,t286,t287⟩,A80,H⟩ := H
       try dsimp only at H
       have A8 := am_ A80
       clear A80
       by_cases c9 : x4_1 < (x3_1.length : Int)
       ·rw [if_pos c9] at H
        have c9b0 : decide (x4_1 < (x3_1.length : Int)) = true := decide_eq_true c9
        clear c9
        obtain ⟨y288,hy288⟩ : ∃ y_ : List (S63),y_ = (x3_1.set (x4_1 : Int).toNat (⟨t281,t282,t283,t284,t285,t286,t287⟩ : S63)) := ⟨_,rfl⟩
        replace H : (laws_toMessageS.l0 k1 l0 y288 (wrap64 (x4_1 + 1))) = some r := by first | (rw [hy288];with_reducible exact H) | (have H2_ := (Option.bind_some _ _).symm.trans H;rw [hy288];with_reducible exact H2_) | (have H2_ := (Option.bind_some _ _).symm.trans H;with_reducible exact H2_) | with_reducible exact H | (rw [hy288];exact H) | exact H
        have Ny288 := am_ hy288
        clear hy288
        have H' := am_ H
        clear H
        have p280 : 0 ≤ (x4_1 : Int) := zo_
        have q280 : x4_1 < (l0.length : Int) := zo_
        obtain ⟨ad280,e280,hx280_0,hx280_1,hx280_2,hx280_3,hx280_4,hx280_5,hx280_6⟩ := at_T90 HR0.out x4_1 p280 q280
        cases e280
        replace hx280_0 := zx_ HB hx280_0
        replace hx280_1 := zx_ HB hx280_1
        replace hx280_2 := zx_ HB hx280_2
        replace hx280_3 := zx_ HB hx280_3
        replace hx280_4 := zx_ HB hx280_4
        replace hx280_5 := zx_ HB hx280_5
        replace hx280_6 := zx_ HB hx280_6
        replace p280 := eq_true p280
        replace q280 := eq_true q280
        go_wp2_with (first | ((with_reducible refine gate_callee (f := 67) rfl ?_);refine zgl (some 20) Try.func67 #[.agg #[.int .i64 ((rd_T90 l0 x4_1).f0),.int .i64 ((rd_T90 l0 x4_1).f1),.int .i64 ((rd_T90 l0 x4_1).f2),.int .i64 ((rd_T90 l0 x4_1).f3),.string ((rd_T90 l0 x4_1).f4),.string ((rd_T90 l0 x4_1).f5),.string ((rd_T90 l0 x4_1).f6)]] ?_;(with_reducible refine (laws_toMessage.calls ((rd_T90 l0 x4_1).f0) ((rd_T90 l0 x4_1).f1) ((rd_T90 l0 x4_1).f2) ((rd_T90 l0 x4_1).f3) ((rd_T90 l0 x4_1).f4) ((rd_T90 l0 x4_1).f5) ((rd_T90 l0 x4_1).f6) t281 t282 t283 t284 t285 t286 t287 _ A8.out).mono ?_);rintro e w11 ⟨rfl,hb⟩;refine ⟨_,rfl,?_⟩;replace HO_3 := zrb HO_3 hb;replace HB := zs_ HB hb;(try clear hb);(try clear hb2);(try clear hk);(try clear hi);have p10 : 0 ≤ (x4_1 : Int) := zo_;have q10 : (x4_1 : Int) < ((x3_1.length : Int) : Int) := zo_;obtain ⟨go10,co10,eo10,gb10,gl10,cl10,HG10⟩ := Kd.R_form HO_3.out (by omega);(first | cases eo10 | (injection eo10 with ea_ en_ ec_;(first | subst ea_ | (injection ea_ with ea_;subst ea_));subst ec_;clear en_));have GB10 := am_ gb10;have GG10 := am_ HG10;clear gb10 gl10 HG10;obtain ⟨ce10,hcl10,hM10,hcc10,hfr10⟩ := Kd.R_elem HO_3.out z63 (x4_1 : Int) p10 q10;obtain rfl := k63_openM hM10;have hx10_0 : w11.cell? ⟨go10,(x4_1 : Int).toNat * 7,none⟩ = some (.int .i64 ((rd_T63 x3_1 x4_1).f0)) := hcc10 0 _ rfl;have hx10_1 : w11.cell? ⟨go10,(x4_1 : Int).toNat * 7 + 1,none⟩ = some (.int .i64 ((rd_T63 x3_1 x4_1).f1)) := hcc10 1 _ rfl;have hx10_2 : w11.cell? ⟨go10,(x4_1 : Int).toNat * 7 + 2,none⟩ = some (.int .i64 ((rd_T63 x3_1 x4_1).f2)) := hcc10 2 _ rfl;have hx10_3 : w11.cell? ⟨go10,(x4_1 : Int).toNat * 7 + 3,none⟩ = some (.int .i64 ((rd_T63 x3_1 x4_1).f3)) := hcc10 3 _ rfl;have hx10_4 : w11.cell? ⟨go10,(x4_1 : Int).toNat * 7 + 4,none⟩ = some (.string ((rd_T63 x3_1 x4_1).f4)) := hcc10 4 _ rfl;have hx10_5 : w11.cell? ⟨go10,(x4_1 : Int).toNat * 7 + 5,none⟩ = some (.string ((rd_T63 x3_1 x4_1).f5)) := hcc10 5 _ rfl;have hx10_6 : w11.cell? ⟨go10,(x4_1 : Int).toNat * 7 + 6,none⟩ = some (.string ((rd_T63 x3_1 x4_1).f6)) := hcc10 6 _ rfl;have hf10_0 : w11.frozen? ⟨go10,(x4_1 : Int).toNat * 7,none⟩ = false := hfr10 0;have hf10_1 : w11.frozen? ⟨go10,(x4_1 : Int).toNat * 7 + 1,none⟩ = false := hfr10 1;have hf10_2 : w11.frozen? ⟨go10,(x4_1 : Int).toNat * 7 + 2,none⟩ = false := hfr10 2;have hf10_3 : w11.frozen? ⟨go10,(x4_1 : Int).toNat * 7 + 3,none⟩ = false := hfr10 3;have hf10_4 : w11.frozen? ⟨go10,(x4_1 : Int).toNat * 7 + 4,none⟩ = false := hfr10 4;have hf10_5 : w11.frozen? ⟨go10,(x4_1 : Int).toNat * 7 + 5,none⟩ = false := hfr10 5;have hf10_6 : w11.frozen? ⟨go10,(x4_1 : Int).toNat * 7 + 6,none⟩ = false := hfr10 6;clear hcl10 hcc10 hfr10 hM10;replace p10 := eq_true p10;replace q10 := eq_true q10;have HX12 := am_ (show Kd.R k63 63 w11 w.heap.size (fun _ => True) (.slice (some ⟨go10,0,none⟩) x3_1.length co10) x3_1 from (zr HO_3));obtain ⟨ce12,hcl12,hM12,hcc12,hfr12⟩ := Kd.R_elem HX12.out z63 (x4_1 : Int) (zo_) (by have h_ : (x4_1 : Int) < ((x3_1.length : Int) : Int) := zo_;first | exact h_ | (have e_ := (Kd.R_reads' HO_3.out).1;omega) | simpa using h_);obtain rfl := k63_openM hM12;have HP12 := Kd.R_seg HX12.out (x4_1 : Int) (zo_) (by have h_ : (x4_1 : Int) < ((x3_1.length : Int) : Int) := zo_;first | exact h_ | (have e_ := (Kd.R_reads' HO_3.out).1;omega) | simpa using h_) (seg := [.int .i64 t281,.int .i64 t282,.int .i64 t283,.int .i64 t284,.string t285,.string t286,.string t287]) (j := 0) hcl12 hcc12 (show 7 ≤ 7 from by decide) (x' := (⟨t281,t282,t283,t284,t285,t286,t287⟩ : S63)) (k63_mkM _ _ _ (⟨t281,t282,t283,t284,t285,t286,t287⟩ : S63) ) (fun _ hk => hk);have hx12_0 := hcc12 0 _ rfl;(try simp only [show (k63).sz = 7 from rfl,Nat.mul_one,Nat.add_zero] at hx12_0);have hf12_0 := hfr12 0;(try simp only [show (k63).sz = 7 from rfl,Nat.mul_one,Nat.add_zero] at hf12_0);have hx12_1 := hcc12 1 _ rfl;(try simp only [show (k63).sz = 7 from rfl,Nat.mul_one,Nat.add_zero] at hx12_1);have hf12_1 := hfr12 1;(try simp only [show (k63).sz = 7 from rfl,Nat.mul_one,Nat.add_zero] at hf12_1);have hx12_2 := hcc12 2 _ rfl;(try simp only [show (k63).sz = 7 from rfl,Nat.mul_one,Nat.add_zero] at hx12_2);have hf12_2 := hfr12 2;(try simp only [show (k63).sz = 7 from rfl,Nat.mul_one,Nat.add_zero] at hf12_2);have hx12_3 := hcc12 3 _ rfl;(try simp only [show (k63).sz = 7 from rfl,Nat.mul_one,Nat.add_zero] at hx12_3);have hf12_3 := hfr12 3;(try simp only [show (k63).sz = 7 from rfl,Nat.mul_one,Nat.add_zero] at hf12_3);have hx12_4 := hcc12 4 _ rfl;(try simp only [show (k63).sz = 7 from rfl,Nat.mul_one,Nat.add_zero] at hx12_4);have hf12_4 := hfr12 4;(try simp only [show (k63).sz = 7 from rfl,Nat.mul_one,Nat.add_zero] at hf12_4);have hx12_5 := hcc12 5 _ rfl;(try simp only [show (k63).sz = 7 from rfl,Nat.mul_one,Nat.add_zero] at hx12_5);have hf12_5 := hfr12 5;(try simp only [show (k63).sz = 7 from rfl,Nat.mul_one,Nat.add_zero] at hf12_5);have hx12_6 := hcc12 6 _ rfl;(try simp only [show (k63).sz = 7 from rfl,Nat.mul_one,Nat.add_zero] at hx12_6);have hf12_6 := hfr12 6;(try simp only [show (k63).sz = 7 from rfl,Nat.mul_one,Nat.add_zero] at hf12_6);clear hcl12 hcc12 hfr12 hM12) | ((with_reducible refine gate_store (t := 63) (p := 21) rfl ?_);refine store_event (t := 63) (p := 21) (v := ?vo_w13) (w1 := (((((((w11.setCell ⟨go10,(x4_1 : Int).toNat * 7,none⟩ (.int .i64 t281)).setCell ⟨go10,(x4_1 : Int).toNat * 7 + 1,none⟩ (.int .i64 t282)).setCell ⟨go10,(x4_1 : Int).toNat * 7 + 2,none⟩ (.int .i64 t283)).setCell ⟨go10,(x4_1 : Int).toNat * 7 + 3,none⟩ (.int .i64 t284)).setCell ⟨go10,(x4_1 : Int).toNat * 7 + 4,none⟩ (.string t285)).setCell ⟨go10,(x4_1 : Int).toNat * 7 + 5,none⟩ (.string t286)).setCell ⟨go10,(x4_1 : Int).toNat * 7 + 6,none⟩ (.string t287))) ?hg ?ho ?hn ?hr ?_;(case ho => rfl);(case hg => rfl);(case hn => rfl);(case hr => first | (go_simp;done) | (go_simp;rfl));intro w13 hw;have hg : w11.grownBy w13 (some go10) := (by rw [hw];exact HP12.2);have hp_ : Kd.R k63 63 w13 w.heap.size (fun _ => True) (.slice (some ⟨go10,0,none⟩) x3_1.length co10) y288 := (by rw [hw,Ny288.out];exact HP12.1);clear HP12;replace HO_3 := am_ (hp_);replace HB := am_ ((by rw [hw];exact below_set (below_set (below_set (below_set (below_set (below_set (below_set (HB.out) GB10.out) GB10.out) GB10.out) GB10.out) GB10.out) GB10.out) GB10.out : Below w.heap.size w w13));clear hg hw hp_))
        go_roundg k1
        case measure => have := HK1.out;omega
        case rel => exact ⟨(y288),(wrap64 (x4_1 + 1)),(by first | rfl | (simp;done) | (simp [*];done)),H',⟨by have := HK1.out;omega⟩,⟨zr HO_3⟩,⟨zl_ HB⟩⟩
       ·rw [if_neg c9] at H
        exact absurd H (by simp)
      ·rw [if_neg c7] at H
       exact absurd H (by simp)
     ·rw [if_neg c6] at H
      have c6b0 : decide (x4_1 < (l0.length : Int)) = false := decide_eq_false c6
      clear c6
      obtain rfl := Option.some.inj H
      go_wp2
      go_ret
      exact ⟨_,zt_,zr HO_3,zl_ HB⟩
  ·rw [if_neg c3] at H
   exact absurd H (by simp)
 ·rw [if_neg c2] at H
  exact absurd H (by simp)
set_option maxHeartbeats 8000000 in
set_option maxRecDepth 100000 in
theorem laws_toCert.calls (k : Nat) (a0_0 : ByteArray) (A0_1 : Option Addr) (c0_1 : Nat) (l0_1 : List (S90)) (r1 : ByteArray) (r2 : List (S63)) (w : World) (hr0_1 : Kd.C k90 w A0_1 l0_1.length l0_1) (hc0_1 : l0_1.length ≤ c0_1) (h : laws_toCert.f k a0_0 l0_1 = some (r1,r2)) :
  Calls Try.prog 18 #[.agg #[.string a0_0,.slice A0_1 l0_1.length c0_1]] w fun e w' => ∃ v1_ : Value,e = .returned (.agg #[.string r1,v1_]) ∧ Kd.R k63 63 w' w.heap.size (fun _ => True) v1_ r2 ∧ Below w.heap.size w w' := by
 have hu34 := Try.underlying34
 have hu39 := Try.underlying39
 have HR0_1 := am_ hr0_1
 have HC0_1 := am_ hc0_1
 clear hr0_1 hc0_1
 have HB := am_ (Below.refl w.heap.size w)
 have H : ((laws_toMessageS.f k l0_1).bind fun t292 => (some (a0_0,t292))) = some (r1,r2) := h
 clear h
 replace H := Option.bind_eq_some_iff.mp H
 obtain ⟨t292,A20,H⟩ := H
 try dsimp only at H
 have A2 := am_ A20
 clear A20
 simp only [Option.some.injEq,Prod.mk.injEq] at H
 obtain ⟨rfl,rfl⟩ := H
 go_enter Try.func18,Try.ntmps18
 go_wp2_with (first | ((with_reducible refine gate_dst (N := 1) rfl ?_);refine zbx (N := 1) (cs := #[.string a0_0,.slice A0_1 l0_1.length c0_1]) (t := 34) ?_;intro gb289 hg w3 hbox hb;have BK289 := am_ (hbox);have GW289 := zw_ HB hg;have GE289 := zw_ HB hg;replace HB := zs_ HB hb;clear hb hbox hg) | ((with_reducible refine gate_dst (N := 2) rfl ?_);refine zbx (N := 2) (cs := #[.string ⟨#[]⟩,.slice none 0 0]) (t := 39) ?_;intro gb290 hg w4 hbox hb;have BK290 := am_ (hbox);have GW290 := zw_ HB hg;have GE290 := zw_ HB hg;replace HB := zs_ HB hb;have NB289_290 := zl hg BK289;have NB290_289 := zg hg BK289;replace BK289 := zb BK289 hb;clear hb hbox hg) | ((with_reducible refine gate_dst (N := 3) rfl ?_);refine zbx (N := 3) (cs := #[.string ⟨#[]⟩,.slice none 0 0]) (t := 39) ?_;intro gb291 hg w5 hbox hb;have BK291 := am_ (hbox);have GW291 := zw_ HB hg;have GE291 := zw_ HB hg;replace HB := zs_ HB hb;have NB289_291 := zl hg BK289;have NB291_289 := zg hg BK289;replace BK289 := zb BK289 hb;have NB290_291 := zl hg BK290;have NB291_290 := zg hg BK290;replace BK290 := zb BK290 hb;clear hb hbox hg;have hnb6 := NB289_290.out;have hnc6 := NB290_289.out;have hnb7 := NB289_291.out;have hnc7 := NB291_289.out;obtain ⟨hcz8_0,hcz8_1,hfz8_0,hfz8_1⟩ := zc2 BK289;have hnb9 := NB291_290.out;have hnc9 := NB290_291.out;obtain ⟨hcz10_0,hcz10_1,hfz10_0,hfz10_1⟩ := zc2 BK291) | ((with_reducible refine gate_callee (f := 40) rfl ?_);refine zgl (some 9) Try.func40 #[.slice A0_1 l0_1.length c0_1] ?_;(with_reducible refine (laws_toMessageS.calls k _ _ l0_1 t292 _ ?side1 ?side2 A2.out).mono ?_);(case side1 => exact Kd.C_below HR0_1.out (zl_ HB));(case side2 => exact HC0_1.out);rintro e w11 ⟨v293,rfl,ho0,hb⟩;refine ⟨_,rfl,?_⟩;have HO294 := am_ (Kd.R_lower ho0 (below_size (zl_ HB)));replace BK290 := am_ (blk_below (g := gb290) (o := .cells #[.string ⟨#[]⟩,.slice none 0 0] 39 (0,0)) (zq BK290) hb);replace BK291 := am_ (blk_below (g := gb291) (o := .cells #[.string a0_0,.slice none 0 0] 39 (0,0)) (zq BK291) hb);replace HB := zs_ HB hb;(try clear hb);(try clear hb2);(try clear hk);(try clear hi);(try clear ho0);obtain ⟨Ao12,co12,eo12⟩ := Kd.R_slice HO294.out;subst eo12;obtain ⟨hcz13_0,hcz13_1,hfz13_0,hfz13_1⟩ := zc2 BK291;obtain ⟨hcz14_0,hcz14_1,hfz14_0,hfz14_1⟩ := zc2 BK290))
 refine bodyPost_ret (results_cell_row rfl _ _ gb290 39 #[.string a0_0,.slice Ao12 t292.length co12] (0,0) _ rfl (zq BK290) Try.underlying39 rfl (by kernel_rfl)) rfl ?_
 exact ⟨_,zt_,by (with_reducible repeat (first | apply r1_ | apply r2_ | apply r3_));exact Kd.R_mono (Kd.Rf (Kd.Rf (Kd.R_far (p := ⟨gb291,1,none⟩) (Kd.R_types (Kd.R_types HO294.out BK291.out (by decide)) BK290.out (by decide)) (fun _ hk => hk.1.2) (.slice Ao12 t292.length co12)))) (fun _ hk => trivial),zl_ HB⟩
set_option maxHeartbeats 8000000 in
set_option maxRecDepth 100000 in
theorem spec_l01In.calls (a0 : Int) (a1 : Int) (a2 : Int) (r : Bool) (w : World) (h : spec_l01In.f a0 a1 a2 = some r) :
  Calls Try.prog 48 #[.int .i64 a0,.int .i64 a1,.int .i64 a2] w fun e w' => e = .returned (.bool r) ∧ Drawn0 w w' := by
 have H : (if a0 ≥ a1 then (some (decide (a0 ≤ a2))) else (some false)) = some r := h
 clear h
 by_cases c4 : a0 ≥ a1
 ·rw [if_pos c4] at H
  have c4b0 : decide (a1 ≤ a0) = true := decide_eq_true c4
  clear c4
  obtain rfl := Option.some.inj H
  go_enter Try.func48,Try.ntmps48
  go_wp2
  go_ret
  exact ⟨by first | rfl | (simp;done) | (simp [*];done),by repeat (first | exact Drawn0.refl _ | apply Drawn0.step)⟩
 ·rw [if_neg c4] at H
  have c4b0 : decide (a1 ≤ a0) = false := decide_eq_false c4
  clear c4
  obtain rfl := Option.some.inj H
  go_enter Try.func48,Try.ntmps48
  go_wp2
  go_ret
  exact ⟨by first | rfl | (simp;done) | (simp [*];done),by repeat (first | exact Drawn0.refl _ | apply Drawn0.step)⟩
set_option maxHeartbeats 8000000 in
set_option maxRecDepth 100000 in
theorem spec_MessageOK.calls (k : Nat) (a0_0 : Int) (a0_1 : Int) (a0_2 : Int) (a0_3 : Int) (a0_4 : ByteArray) (a0_5 : ByteArray) (a0_6 : ByteArray) (r : Bool) (w : World) (h : spec_MessageOK.f k a0_0 a0_1 a0_2 a0_3 a0_4 a0_5 a0_6 = some r) :
  Calls Try.prog 38 #[.agg #[.int .i64 a0_0,.int .i64 a0_1,.int .i64 a0_2,.int .i64 a0_3,.string a0_4,.string a0_5,.string a0_6]] w fun e w' => e = .returned (.bool r) ∧ Below w.heap.size w w' := by
 have hu63 := Try.underlying63
 have HB := am_ (Below.refl w.heap.size w)
 have H : ((spec_l01In.f a0_0 1 5).bind fun t195 => (if t195 = true then ((spec_l01In.f a0_1 0 20).bind fun t196 => (if t196 = true then ((spec_l01In.f a0_3 0 6).bind fun t197 => (if t197 = true then (if (a0_6.size : Int) = 8 then (spec_MessageOK.j0 k (decide ((a0_5.size : Int) > 20000)) a0_0 a0_1 a0_2 a0_3 a0_4 a0_5 a0_6) else (spec_MessageOK.j0 k true a0_0 a0_1 a0_2 a0_3 a0_4 a0_5 a0_6)) else (spec_MessageOK.j0 k true a0_0 a0_1 a0_2 a0_3 a0_4 a0_5 a0_6))) else (spec_MessageOK.j0 k true a0_0 a0_1 a0_2 a0_3 a0_4 a0_5 a0_6))) else (spec_MessageOK.j0 k true a0_0 a0_1 a0_2 a0_3 a0_4 a0_5 a0_6))) = some r := h
 clear h
 have HC2 := am_ H
 clear H
 go_enter Try.func38,Try.ntmps38
 go_upto_region 1 with (first | ((with_reducible refine gate_dst (N := 1) rfl ?_);(try (refine gate_guard (by rfl) ?_;dsimp only));refine zbx (N := 1) (cs := #[.int .i64 a0_0,.int .i64 a0_1,.int .i64 a0_2,.int .i64 a0_3,.string a0_4,.string a0_5,.string a0_6]) (t := 63) ?_;intro gb194 hg w3 hbox hb;have BK194 := am_ (hbox);have GW194 := zw_ HB hg;have GE194 := zw_ HB hg;replace HB := zs_ HB hb;clear hb hbox hg))
 (try simp only [Act.put,p1_,p2_,p3_])
 go_cut [30] (fun v30 wc => ∃ (kq : Nat) (x30_1 : Bool),v30 = .bool x30_1 ∧ Aside0 (spec_MessageOK.j0 kq x30_1 a0_0 a0_1 a0_2 a0_3 a0_4 a0_5 a0_6 = some r) ∧ Aside0 (kq ≤ k) ∧ Aside0 (wc.heap[gb194]? = some (.cells #[.int .i64 a0_0,.int .i64 a0_1,.int .i64 a0_2,.int .i64 a0_3,.string a0_4,.string a0_5,.string a0_6] 63 (0,0))) ∧ Aside0 (Below w.heap.size w wc))
 case first =>
  have H := HC2.out
  clear HC2
  replace H := Option.bind_eq_some_iff.mp H
  obtain ⟨t195,A40,H⟩ := H
  try dsimp only at H
  have A4 := am_ A40
  clear A40
  by_cases c5 : t195 = true
  ·subst c5
   have H1 : ((spec_l01In.f a0_1 0 20).bind fun t196 => (if t196 = true then ((spec_l01In.f a0_3 0 6).bind fun t197 => (if t197 = true then (if (a0_6.size : Int) = 8 then (spec_MessageOK.j0 k (decide ((a0_5.size : Int) > 20000)) a0_0 a0_1 a0_2 a0_3 a0_4 a0_5 a0_6) else (spec_MessageOK.j0 k true a0_0 a0_1 a0_2 a0_3 a0_4 a0_5 a0_6)) else (spec_MessageOK.j0 k true a0_0 a0_1 a0_2 a0_3 a0_4 a0_5 a0_6))) else (spec_MessageOK.j0 k true a0_0 a0_1 a0_2 a0_3 a0_4 a0_5 a0_6))) = some r := by rw [if_pos rfl] at H;exact H
   clear H
   have H := H1
   clear H1
   replace H := Option.bind_eq_some_iff.mp H
   obtain ⟨t196,A60,H⟩ := H
   try dsimp only at H
   have A6 := am_ A60
   clear A60
   by_cases c7 : t196 = true
   ·subst c7
    have H1 : ((spec_l01In.f a0_3 0 6).bind fun t197 => (if t197 = true then (if (a0_6.size : Int) = 8 then (spec_MessageOK.j0 k (decide ((a0_5.size : Int) > 20000)) a0_0 a0_1 a0_2 a0_3 a0_4 a0_5 a0_6) else (spec_MessageOK.j0 k true a0_0 a0_1 a0_2 a0_3 a0_4 a0_5 a0_6)) else (spec_MessageOK.j0 k true a0_0 a0_1 a0_2 a0_3 a0_4 a0_5 a0_6))) = some r := by rw [if_pos rfl] at H;exact H
    clear H
    have H := H1
    clear H1
    replace H := Option.bind_eq_some_iff.mp H
    obtain ⟨t197,A80,H⟩ := H
    try dsimp only at H
    have A8 := am_ A80
    clear A80
    by_cases c9 : t197 = true
    ·subst c9
     have H1 : (if (a0_6.size : Int) = 8 then (spec_MessageOK.j0 k (decide ((a0_5.size : Int) > 20000)) a0_0 a0_1 a0_2 a0_3 a0_4 a0_5 a0_6) else (spec_MessageOK.j0 k true a0_0 a0_1 a0_2 a0_3 a0_4 a0_5 a0_6)) = some r := by rw [if_pos rfl] at H;exact H
     clear H
     have H := H1
     clear H1
     by_cases c10 : (a0_6.size : Int) = 8
     ·rw [if_pos c10] at H
      have c10b0 : ((a0_6.size : Int) == 8) = true := beq_iff_eq.mpr c10
      have c10b1 : ((a0_6.size : Int) != 8) = false := bne_eq_false_iff_eq.mpr c10
      clear c10
      (first | rw [c10b0] | (simp only [i64_w,i32_w];rw [c10b0]) | skip)
      have H' := am_ H
      clear H
      obtain ⟨hcz11_0,hcz11_1,hcz11_2,hcz11_3,hcz11_4,hcz11_5,hcz11_6,hfz11_0,hfz11_1,hfz11_2,hfz11_3,hfz11_4,hfz11_5,hfz11_6⟩ := zc7 BK194
      go_wp2_with (first | ((with_reducible refine gate_callee (f := 48) rfl ?_);refine zgl (some 5) Try.func48 #[.int .i64 a0_0,.int .i64 1,.int .i64 5] ?_;(with_reducible refine (spec_l01In.calls a0_0 1 5 true _ A4.out).mono ?_);rintro e w' ⟨rfl,⟨nd,rfl⟩⟩;refine ⟨_,rfl,?_⟩) | (go_at_call 48;(with_reducible refine (spec_l01In.calls a0_1 0 20 true _ A6.out).mono ?_);rintro e w' ⟨rfl,⟨nd,rfl⟩⟩) | (go_at_call 48;(with_reducible refine (spec_l01In.calls a0_3 0 6 true _ A8.out).mono ?_);rintro e w' ⟨rfl,⟨nd,rfl⟩⟩))
      go_meet
      case rel => exact ⟨_,(decide ((a0_5.size : Int) > 20000)),(by first | rfl | (simp;done) | (simp [*];done)),H',⟨by first | omega | exact Nat.le_refl _⟩,⟨by (with_reducible repeat (first | apply k1_ | apply k2_ | apply k3_));exact BK194.out⟩,⟨zl_ HB⟩⟩
     ·rw [if_neg c10] at H
      have c10b0 : ((a0_6.size : Int) == 8) = false := beq_eq_false_iff_ne.mpr c10
      have c10b1 : ((a0_6.size : Int) != 8) = true := bne_iff_ne.mpr c10
      (first | rw [c10b0] | (simp only [i64_w,i32_w];rw [c10b0]) | skip)
      have H' := am_ H
      clear H
      obtain ⟨hcz12_0,hcz12_1,hcz12_2,hcz12_3,hcz12_4,hcz12_5,hcz12_6,hfz12_0,hfz12_1,hfz12_2,hfz12_3,hfz12_4,hfz12_5,hfz12_6⟩ := zc7 BK194
      go_wp2_with (first | ((with_reducible refine gate_callee (f := 48) rfl ?_);refine zgl (some 5) Try.func48 #[.int .i64 a0_0,.int .i64 1,.int .i64 5] ?_;(with_reducible refine (spec_l01In.calls a0_0 1 5 true _ A4.out).mono ?_);rintro e w' ⟨rfl,⟨nd,rfl⟩⟩;refine ⟨_,rfl,?_⟩) | (go_at_call 48;(with_reducible refine (spec_l01In.calls a0_1 0 20 true _ A6.out).mono ?_);rintro e w' ⟨rfl,⟨nd,rfl⟩⟩) | (go_at_call 48;(with_reducible refine (spec_l01In.calls a0_3 0 6 true _ A8.out).mono ?_);rintro e w' ⟨rfl,⟨nd,rfl⟩⟩))
      go_meet
      case rel => exact ⟨_,(true),(by first | rfl | (simp;done) | (simp [*];done)),H',⟨by first | omega | exact Nat.le_refl _⟩,⟨by (with_reducible repeat (first | apply k1_ | apply k2_ | apply k3_));exact BK194.out⟩,⟨zl_ HB⟩⟩
    ·replace c9 := Bool.eq_false_iff.mpr c9
     subst c9
     have H1 : (spec_MessageOK.j0 k true a0_0 a0_1 a0_2 a0_3 a0_4 a0_5 a0_6) = some r := by rw [if_neg (show ¬ (false = true) by decide)] at H;exact H
     clear H
     have H := H1
     clear H1
     have H' := am_ H
     clear H
     obtain ⟨hcz13_0,hcz13_1,hcz13_2,hcz13_3,hcz13_4,hcz13_5,hcz13_6,hfz13_0,hfz13_1,hfz13_2,hfz13_3,hfz13_4,hfz13_5,hfz13_6⟩ := zc7 BK194
     go_wp2_with (first | ((with_reducible refine gate_callee (f := 48) rfl ?_);refine zgl (some 5) Try.func48 #[.int .i64 a0_0,.int .i64 1,.int .i64 5] ?_;(with_reducible refine (spec_l01In.calls a0_0 1 5 true _ A4.out).mono ?_);rintro e w' ⟨rfl,⟨nd,rfl⟩⟩;refine ⟨_,rfl,?_⟩) | (go_at_call 48;(with_reducible refine (spec_l01In.calls a0_1 0 20 true _ A6.out).mono ?_);rintro e w' ⟨rfl,⟨nd,rfl⟩⟩) | (go_at_call 48;(with_reducible refine (spec_l01In.calls a0_3 0 6 false _ A8.out).mono ?_);rintro e w' ⟨rfl,⟨nd,rfl⟩⟩))
     go_meet
     case rel => exact ⟨_,(true),(by first | rfl | (simp;done) | (simp [*];done)),H',⟨by first | omega | exact Nat.le_refl _⟩,⟨by (with_reducible repeat (first | apply k1_ | apply k2_ | apply k3_));exact BK194.out⟩,⟨zl_ HB⟩⟩
   ·replace c7 := Bool.eq_false_iff.mpr c7
    subst c7
    have H1 : (spec_MessageOK.j0 k true a0_0 a0_1 a0_2 a0_3 a0_4 a0_5 a0_6) = some r := by rw [if_neg (show ¬ (false = true) by decide)] at H;exact H
    clear H
    have H := H1
    clear H1
    have H' := am_ H
    clear H
    obtain ⟨hcz14_0,hcz14_1,hcz14_2,hcz14_3,hcz14_4,hcz14_5,hcz14_6,hfz14_0,hfz14_1,hfz14_2,hfz14_3,hfz14_4,hfz14_5,hfz14_6⟩ := zc7 BK194
    go_wp2_with (first | ((with_reducible refine gate_callee (f := 48) rfl ?_);refine zgl (some 5) Try.func48 #[.int .i64 a0_0,.int .i64 1,.int .i64 5] ?_;(with_reducible refine (spec_l01In.calls a0_0 1 5 true _ A4.out).mono ?_);rintro e w' ⟨rfl,⟨nd,rfl⟩⟩;refine ⟨_,rfl,?_⟩) | (go_at_call 48;(with_reducible refine (spec_l01In.calls a0_1 0 20 false _ A6.out).mono ?_);rintro e w' ⟨rfl,⟨nd,rfl⟩⟩))
    go_meet
    case rel => exact ⟨_,(true),(by first | rfl | (simp;done) | (simp [*];done)),H',⟨by first | omega | exact Nat.le_refl _⟩,⟨by (with_reducible repeat (first | apply k1_ | apply k2_ | apply k3_));exact BK194.out⟩,⟨zl_ HB⟩⟩
  ·replace c5 := Bool.eq_false_iff.mpr c5
   subst c5
   have H1 : (spec_MessageOK.j0 k true a0_0 a0_1 a0_2 a0_3 a0_4 a0_5 a0_6) = some r := by rw [if_neg (show ¬ (false = true) by decide)] at H;exact H
   clear H
   have H := H1
   clear H1
   have H' := am_ H
   clear H
   obtain ⟨hcz15_0,hcz15_1,hcz15_2,hcz15_3,hcz15_4,hcz15_5,hcz15_6,hfz15_0,hfz15_1,hfz15_2,hfz15_3,hfz15_4,hfz15_5,hfz15_6⟩ := zc7 BK194
   go_wp2_with (first | ((with_reducible refine gate_callee (f := 48) rfl ?_);refine zgl (some 5) Try.func48 #[.int .i64 a0_0,.int .i64 1,.int .i64 5] ?_;(with_reducible refine (spec_l01In.calls a0_0 1 5 false _ A4.out).mono ?_);rintro e w' ⟨rfl,⟨nd,rfl⟩⟩;refine ⟨_,rfl,?_⟩))
   go_meet
   case rel => exact ⟨_,(true),(by first | rfl | (simp;done) | (simp [*];done)),H',⟨by first | omega | exact Nat.le_refl _⟩,⟨by (with_reducible repeat (first | apply k1_ | apply k2_ | apply k3_));exact BK194.out⟩,⟨zl_ HB⟩⟩
 case rest =>
  clear HC2
  try clear c1
  try clear p2
  try clear c3
  try clear c4
  try clear c5
  try clear c7
  try clear c9
  try clear c10
  try clear c10b0
  try clear c10b1
  try clear hcz11_0
  try clear hcz11_1
  try clear hcz11_2
  try clear hcz11_3
  try clear hcz11_4
  try clear hcz11_5
  try clear hcz11_6
  try clear hcz12_0
  try clear hcz12_1
  try clear hcz12_2
  try clear hcz12_3
  try clear hcz12_4
  try clear hcz12_5
  try clear hcz12_6
  try clear hcz13_0
  try clear hcz13_1
  try clear hcz13_2
  try clear hcz13_3
  try clear hcz13_4
  try clear hcz13_5
  try clear hcz13_6
  try clear hcz14_0
  try clear hcz14_1
  try clear hcz14_2
  try clear hcz14_3
  try clear hcz14_4
  try clear hcz14_5
  try clear hcz14_6
  try clear hcz15_0
  try clear hcz15_1
  try clear hcz15_2
  try clear hcz15_3
  try clear hcz15_4
  try clear hcz15_5
  try clear hcz15_6
  try clear hfz11_0
  try clear hfz11_1
  try clear hfz11_2
  try clear hfz11_3
  try clear hfz11_4
  try clear hfz11_5
  try clear hfz11_6
  try clear hfz12_0
  try clear hfz12_1
  try clear hfz12_2
  try clear hfz12_3
  try clear hfz12_4
  try clear hfz12_5
  try clear hfz12_6
  try clear hfz13_0
  try clear hfz13_1
  try clear hfz13_2
  try clear hfz13_3
  try clear hfz13_4
  try clear hfz13_5
  try clear hfz13_6
  try clear hfz14_0
  try clear hfz14_1
  try clear hfz14_2
  try clear hfz14_3
  try clear hfz14_4
  try clear hfz14_5
  try clear hfz14_6
  try clear hfz15_0
  try clear hfz15_1
  try clear hfz15_2
  try clear hfz15_3
  try clear hfz15_4
  try clear hfz15_5
  try clear hfz15_6
  obtain ⟨kq,x30_1,rfl,HA,HJ1,BK194,HB⟩ := hcut
  cases kq with
  | zero => exact absurd HA.out (by simp [spec_MessageOK.j0])
  | succ kj1 =>
   have H := HA.out
   clear HA
   simp only [spec_MessageOK.j0] at H
   by_cases c16 : x30_1 = true
   ·subst c16
    have H1 : (some false) = some r := by rw [if_pos rfl] at H;exact H
    clear H
    have H := H1
    clear H1
    obtain rfl := Option.some.inj H
    go_wp2
    go_ret
    exact ⟨zt_,zl_ HB⟩
   ·replace c16 := Bool.eq_false_iff.mpr c16
    subst c16
    have H1 : (if a0_0 = 1 then ((spec_l01In.f a0_2 1 8).bind fun t198 => (if t198 = true then (if (a0_4.size : Int) = 32 then (some (a0_5.toList != ([] : List UInt8))) else (some false)) else (some false))) else (if a0_0 = 2 then ((spec_l01In.f a0_2 1 8).bind fun t199 => (if t199 = true then (if (a0_4.size : Int) = 32 then (some (a0_5.toList == ([] : List UInt8))) else (some false)) else (some false))) else (if a0_0 = 3 then ((spec_l01In.f a0_2 1 8).bind fun t200 => (if t200 = true then (if (a0_4.size : Int) = 32 then (some (a0_5.toList == ([] : List UInt8))) else (some false)) else (some false))) else (if a0_2 = 0 then (some (a0_4.toList == ([] : List UInt8))) else (some false))))) = some r := by rw [if_neg (show ¬ (false = true) by decide)] at H;exact H
    clear H
    have H := H1
    clear H1
    by_cases c17 : a0_0 = 1
    ·rw [if_pos c17] at H
     have c17b0 : (a0_0 == 1) = true := beq_iff_eq.mpr c17
     have c17b1 : (a0_0 != 1) = false := bne_eq_false_iff_eq.mpr c17
     clear c17
     replace H := Option.bind_eq_some_iff.mp H
     obtain ⟨t198,A180,H⟩ := H
     try dsimp only at H
     have A18 := am_ A180
     clear A180
     by_cases c19 : t198 = true
     ·subst c19
      have H1 : (if (a0_4.size : Int) = 32 then (some (a0_5.toList != ([] : List UInt8))) else (some false)) = some r := by rw [if_pos rfl] at H;exact H
      clear H
      have H := H1
      clear H1
      by_cases c20 : (a0_4.size : Int) = 32
      ·rw [if_pos c20] at H
       have c20b0 : ((a0_4.size : Int) == 32) = true := beq_iff_eq.mpr c20
       have c20b1 : ((a0_4.size : Int) != 32) = false := bne_eq_false_iff_eq.mpr c20
       clear c20
       obtain rfl := Option.some.inj H
       obtain ⟨hcz21_0,hcz21_1,hcz21_2,hcz21_3,hcz21_4,hcz21_5,hcz21_6,hfz21_0,hfz21_1,hfz21_2,hfz21_3,hfz21_4,hfz21_5,hfz21_6⟩ := zc7 BK194
       go_wp2_with (first | ((with_reducible refine gate_callee (f := 48) rfl ?_);refine zgl (some 37) Try.func48 #[.int .i64 a0_2,.int .i64 1,.int .i64 8] ?_;(with_reducible refine (spec_l01In.calls a0_2 1 8 true _ A18.out).mono ?_);rintro e w' ⟨rfl,⟨nd,rfl⟩⟩;refine ⟨_,rfl,?_⟩))
       go_ret
       exact ⟨zt_,zl_ HB⟩
      ·rw [if_neg c20] at H
       have c20b0 : ((a0_4.size : Int) == 32) = false := beq_eq_false_iff_ne.mpr c20
       have c20b1 : ((a0_4.size : Int) != 32) = true := bne_iff_ne.mpr c20
       obtain rfl := Option.some.inj H
       obtain ⟨hcz22_0,hcz22_1,hcz22_2,hcz22_3,hcz22_4,hcz22_5,hcz22_6,hfz22_0,hfz22_1,hfz22_2,hfz22_3,hfz22_4,hfz22_5,hfz22_6⟩ := zc7 BK194
       go_wp2_with (first | ((with_reducible refine gate_callee (f := 48) rfl ?_);refine zgl (some 37) Try.func48 #[.int .i64 a0_2,.int .i64 1,.int .i64 8] ?_;(with_reducible refine (spec_l01In.calls a0_2 1 8 true _ A18.out).mono ?_);rintro e w' ⟨rfl,⟨nd,rfl⟩⟩;refine ⟨_,rfl,?_⟩))
       go_ret
       exact ⟨zt_,zl_ HB⟩
     ·replace c19 := Bool.eq_false_iff.mpr c19
      subst c19
      have H1 : (some false) = some r := by rw [if_neg (show ¬ (false = true) by decide)] at H;exact H
      clear H
      have H := H1
      clear H1
      obtain rfl := Option.some.inj H
      obtain ⟨hcz23_0,hcz23_1,hcz23_2,hcz23_3,hcz23_4,hcz23_5,hcz23_6,hfz23_0,hfz23_1,hfz23_2,hfz23_3,hfz23_4,hfz23_5,hfz23_6⟩ := zc7 BK194
      go_wp2_with (first | ((with_reducible refine gate_callee (f := 48) rfl ?_);refine zgl (some 37) Try.func48 #[.int .i64 a0_2,.int .i64 1,.int .i64 8] ?_;(with_reducible refine (spec_l01In.calls a0_2 1 8 false _ A18.out).mono ?_);rintro e w' ⟨rfl,⟨nd,rfl⟩⟩;refine ⟨_,rfl,?_⟩))
      go_ret
      exact ⟨zt_,zl_ HB⟩
    ·rw [if_neg c17] at H
     have c17b0 : (a0_0 == 1) = false := beq_eq_false_iff_ne.mpr c17
     have c17b1 : (a0_0 != 1) = true := bne_iff_ne.mpr c17
     by_cases c24 : a0_0 = 2
     ·rw [if_pos c24] at H
      have c24b0 : (a0_0 == 2) = true := beq_iff_eq.mpr c24
      have c24b1 : (a0_0 != 2) = false := bne_eq_false_iff_eq.mpr c24
      clear c24
      replace H := Option.bind_eq_some_iff.mp H
      obtain ⟨t199,A250,H⟩ := H
      try dsimp only at H
      have A25 := am_ A250
      clear A250
      by_cases c26 : t199 = true
      ·subst c26
       have H1 : (if (a0_4.size : Int) = 32 then (some (a0_5.toList == ([] : List UInt8))) else (some false)) = some r := by rw [if_pos rfl] at H;exact H
       clear H
       have H := H1
       clear H1
       by_cases c27 : (a0_4.size : Int) = 32
       ·rw [if_pos c27] at H
        have c27b0 : ((a0_4.size : Int) == 32) = true := beq_iff_eq.mpr c27
        have c27b1 : ((a0_4.size : Int) != 32) = false := bne_eq_false_iff_eq.mpr c27
        clear c27
        obtain rfl := Option.some.inj H
        obtain ⟨hcz28_0,hcz28_1,hcz28_2,hcz28_3,hcz28_4,hcz28_5,hcz28_6,hfz28_0,hfz28_1,hfz28_2,hfz28_3,hfz28_4,hfz28_5,hfz28_6⟩ := zc7 BK194
        go_wp2_with (first | ((with_reducible refine gate_callee (f := 48) rfl ?_);refine zgl (some 54) Try.func48 #[.int .i64 a0_2,.int .i64 1,.int .i64 8] ?_;(with_reducible refine (spec_l01In.calls a0_2 1 8 true _ A25.out).mono ?_);rintro e w' ⟨rfl,⟨nd,rfl⟩⟩;refine ⟨_,rfl,?_⟩))
        go_ret
        exact ⟨zt_,zl_ HB⟩
       ·rw [if_neg c27] at H
        have c27b0 : ((a0_4.size : Int) == 32) = false := beq_eq_false_iff_ne.mpr c27
        have c27b1 : ((a0_4.size : Int) != 32) = true := bne_iff_ne.mpr c27
        obtain rfl := Option.some.inj H
        obtain ⟨hcz29_0,hcz29_1,hcz29_2,hcz29_3,hcz29_4,hcz29_5,hcz29_6,hfz29_0,hfz29_1,hfz29_2,hfz29_3,hfz29_4,hfz29_5,hfz29_6⟩ := zc7 BK194
        go_wp2_with (first | ((with_reducible refine gate_callee (f := 48) rfl ?_);refine zgl (some 54) Try.func48 #[.int .i64 a0_2,.int .i64 1,.int .i64 8] ?_;(with_reducible refine (spec_l01In.calls a0_2 1 8 true _ A25.out).mono ?_);rintro e w' ⟨rfl,⟨nd,rfl⟩⟩;refine ⟨_,rfl,?_⟩))
        go_ret
        exact ⟨zt_,zl_ HB⟩
      ·replace c26 := Bool.eq_false_iff.mpr c26
       subst c26
       have H1 : (some false) = some r := by rw [if_neg (show ¬ (false = true) by decide)] at H;exact H
       clear H
       have H := H1
       clear H1
       obtain rfl := Option.some.inj H
       obtain ⟨hcz30_0,hcz30_1,hcz30_2,hcz30_3,hcz30_4,hcz30_5,hcz30_6,hfz30_0,hfz30_1,hfz30_2,hfz30_3,hfz30_4,hfz30_5,hfz30_6⟩ := zc7 BK194
       go_wp2_with (first | ((with_reducible refine gate_callee (f := 48) rfl ?_);refine zgl (some 54) Try.func48 #[.int .i64 a0_2,.int .i64 1,.int .i64 8] ?_;(with_reducible refine (spec_l01In.calls a0_2 1 8 false _ A25.out).mono ?_);rintro e w' ⟨rfl,⟨nd,rfl⟩⟩;refine ⟨_,rfl,?_⟩))
       go_ret
       exact ⟨zt_,zl_ HB⟩
     ·rw [if_neg c24] at H
      have c24b0 : (a0_0 == 2) = false := beq_eq_false_iff_ne.mpr c24
      have c24b1 : (a0_0 != 2) = true := bne_iff_ne.mpr c24
      by_cases c31 : a0_0 = 3
      ·rw [if_pos c31] at H
       have c31b0 : (a0_0 == 3) = true := beq_iff_eq.mpr c31
       have c31b1 : (a0_0 != 3) = false := bne_eq_false_iff_eq.mpr c31
       clear c31
       replace H := Option.bind_eq_some_iff.mp H
       obtain ⟨t200,A320,H⟩ := H
       try dsimp only at H
       have A32 := am_ A320
       clear A320
       by_cases c33 : t200 = true
       ·subst c33
        have H1 : (if (a0_4.size : Int) = 32 then (some (a0_5.toList == ([] : List UInt8))) else (some false)) = some r := by rw [if_pos rfl] at H;exact H
        clear H
        have H := H1
        clear H1
        by_cases c34 : (a0_4.size : Int) = 32
        ·rw [if_pos c34] at H
         have c34b0 : ((a0_4.size : Int) == 32) = true := beq_iff_eq.mpr c34
         have c34b1 : ((a0_4.size : Int) != 32) = false := bne_eq_false_iff_eq.mpr c34
         clear c34
         obtain rfl := Option.some.inj H
         obtain ⟨hcz35_0,hcz35_1,hcz35_2,hcz35_3,hcz35_4,hcz35_5,hcz35_6,hfz35_0,hfz35_1,hfz35_2,hfz35_3,hfz35_4,hfz35_5,hfz35_6⟩ := zc7 BK194
         go_wp2_with (first | ((with_reducible refine gate_callee (f := 48) rfl ?_);refine zgl (some 54) Try.func48 #[.int .i64 a0_2,.int .i64 1,.int .i64 8] ?_;(with_reducible refine (spec_l01In.calls a0_2 1 8 true _ A32.out).mono ?_);rintro e w' ⟨rfl,⟨nd,rfl⟩⟩;refine ⟨_,rfl,?_⟩))
         go_ret
         exact ⟨zt_,zl_ HB⟩
        ·rw [if_neg c34] at H
         have c34b0 : ((a0_4.size : Int) == 32) = false := beq_eq_false_iff_ne.mpr c34
         have c34b1 : ((a0_4.size : Int) != 32) = true := bne_iff_ne.mpr c34
         obtain rfl := Option.some.inj H
         obtain ⟨hcz36_0,hcz36_1,hcz36_2,hcz36_3,hcz36_4,hcz36_5,hcz36_6,hfz36_0,hfz36_1,hfz36_2,hfz36_3,hfz36_4,hfz36_5,hfz36_6⟩ := zc7 BK194
         go_wp2_with (first | ((with_reducible refine gate_callee (f := 48) rfl ?_);refine zgl (some 54) Try.func48 #[.int .i64 a0_2,.int .i64 1,.int .i64 8] ?_;(with_reducible refine (spec_l01In.calls a0_2 1 8 true _ A32.out).mono ?_);rintro e w' ⟨rfl,⟨nd,rfl⟩⟩;refine ⟨_,rfl,?_⟩))
         go_ret
         exact ⟨zt_,zl_ HB⟩
       ·replace c33 := Bool.eq_false_iff.mpr c33
        subst c33
        have H1 : (some false) = some r := by rw [if_neg (show ¬ (false = true) by decide)] at H;exact H
        clear H
        have H := H1
        clear H1
        obtain rfl := Option.some.inj H
        obtain ⟨hcz37_0,hcz37_1,hcz37_2,hcz37_3,hcz37_4,hcz37_5,hcz37_6,hfz37_0,hfz37_1,hfz37_2,hfz37_3,hfz37_4,hfz37_5,hfz37_6⟩ := zc7 BK194
        go_wp2_with (first | ((with_reducible refine gate_callee (f := 48) rfl ?_);refine zgl (some 54) Try.func48 #[.int .i64 a0_2,.int .i64 1,.int .i64 8] ?_;(with_reducible refine (spec_l01In.calls a0_2 1 8 false _ A32.out).mono ?_);rintro e w' ⟨rfl,⟨nd,rfl⟩⟩;refine ⟨_,rfl,?_⟩))
        go_ret
        exact ⟨zt_,zl_ HB⟩
      ·rw [if_neg c31] at H
       have c31b0 : (a0_0 == 3) = false := beq_eq_false_iff_ne.mpr c31
       have c31b1 : (a0_0 != 3) = true := bne_iff_ne.mpr c31
       by_cases c38 : a0_2 = 0
       ·rw [if_pos c38] at H
        have c38b0 : (a0_2 == 0) = true := beq_iff_eq.mpr c38
        have c38b1 : (a0_2 != 0) = false := bne_eq_false_iff_eq.mpr c38
        clear c38
        obtain rfl := Option.some.inj H
        obtain ⟨hcz39_0,hcz39_1,hcz39_2,hcz39_3,hcz39_4,hcz39_5,hcz39_6,hfz39_0,hfz39_1,hfz39_2,hfz39_3,hfz39_4,hfz39_5,hfz39_6⟩ := zc7 BK194
        go_wp2
        go_ret
        exact ⟨zt_,zl_ HB⟩
       ·rw [if_neg c38] at H
        have c38b0 : (a0_2 == 0) = false := beq_eq_false_iff_ne.mpr c38
        have c38b1 : (a0_2 != 0) = true := bne_iff_ne.mpr c38
        obtain rfl := Option.some.inj H
        obtain ⟨hcz40_0,hcz40_1,hcz40_2,hcz40_3,hcz40_4,hcz40_5,hcz40_6,hfz40_0,hfz40_1,hfz40_2,hfz40_3,hfz40_4,hfz40_5,hfz40_6⟩ := zc7 BK194
        go_wp2
        go_ret
        exact ⟨zt_,zl_ HB⟩
set_option maxHeartbeats 8000000 in
set_option maxRecDepth 100000 in
theorem spec_l02Number.calls (k : Nat) (a0 : Int) (a1 : Int) (r : List Int) (w : World) (h : spec_l02Number.f k a0 a1 = some r) :
  Calls Try.prog 82 #[.int .i64 a0,.int .i64 a1] w fun e w' => ∃ v0_ : Value,e = .returned (v0_) ∧ Kd.R (Kd.int .u8) 5 w' w.heap.size (fun _ => True) v0_ r ∧ Below w.heap.size w w' := by
 have HB := am_ (Below.refl w.heap.size w)
 have H : (spec_l02Number.l0 k a0 (([] : List Int)) (wrap64 (a1 - 1))) = some r := h
 clear h
 obtain ⟨y201,hy201⟩ : ∃ y_ : List Int,y_ = (([] : List Int)) := ⟨_,rfl⟩
 replace H : (spec_l02Number.l0 k a0 y201 (wrap64 (a1 - 1))) = some r := by first | (rw [hy201];with_reducible exact H) | (have H2_ := (Option.bind_some _ _).symm.trans H;rw [hy201];with_reducible exact H2_) | (have H2_ := (Option.bind_some _ _).symm.trans H;with_reducible exact H2_) | with_reducible exact H | (rw [hy201];exact H) | exact H
 have Ny201 := am_ hy201
 clear hy201
 have H' := am_ H
 clear H
 go_enter Try.func82,Try.ntmps82
 go_wp2_with (first | ((with_reducible refine gate_dst (N := 7) rfl ?_);refine Kd.R_lit (Kd.int .u8) _ 5 ?hg (N := 7) ?hd (xs := ([] : List Int)) (inner := []) (ok := fun _ => True) (okp := fun _ => True) ?hr ?hp (fun _ hk => hk) trivial (Below.refl _ _) (Nat.le_refl _) (by simp) ?_;(case hd => rfl);(case hg => rfl);(case hr => first | (go_simp;done) | (go_simp;rfl));(case hp => exact (Reps.none _ _));intro v202 w3 ho4 hb hg_ hnew_;clear hg_ hnew_;(first | rw [← Ny201.out] at ho4 | (simp only [Int.reduceToNat] at ho4;rw [← Ny201.out] at ho4));have HO203 := am_ (Kd.R_lower ho4 (below_size (zl_ HB)));replace HB := zs_ HB hb;clear hb ho4))
 go_loopg [5,6] k (fun kq v5 v6 w' => ∃ (x5_1 : List Int) (x6_1 : Int),v6 = .int .i64 x6_1 ∧ Aside0 (spec_l02Number.l0 kq a0 x5_1 x6_1 = some r) ∧ Aside0 (kq ≤ k) ∧ Aside0 (Kd.R (Kd.int .u8) 5 w' w.heap.size (fun _ => True) v5 x5_1) ∧ Aside0 (Below w.heap.size w w'))
 case atStart => exact ⟨(y201),(wrap64 (a1 - 1)),(by first | rfl | (simp;done) | (simp [*];done)),H',⟨Nat.le_refl _⟩,⟨zr HO203⟩,⟨zl_ HB⟩⟩
 case round =>
  clear H'
  try clear p2
  obtain ⟨x5_1,x6_1,rfl,HA,HK1,HO_5,HB⟩ := hrel
  cases gk with
  | zero => exact absurd HA.out (by simp [spec_l02Number.l0])
  | succ k1 =>
   have H := HA.out
   clear HA
   simp only [spec_l02Number.l0] at H
   by_cases c5 : x6_1 ≥ 0
   ·rw [if_pos c5] at H
    have c5b0 : decide (0 ≤ x6_1) = true := decide_eq_true c5
    clear c5
    obtain ⟨ji6,hji6⟩ : ∃ j_ : Int,(IntKind.u64.wrap (wrap64 (8 * x6_1))) = j_ := ⟨_,rfl⟩
    replace H : (if 0 ≤ (ji6) then (if x5_1.length < 140737488355328 then (spec_l02Number.l0 k1 a0 (x5_1 ++ [(shr .i64 a0 (ji6)) % 256]) (wrap64 (x6_1 - 1))) else (none)) else (none)) = some r := by first | (rw [hji6] at H;exact H) | (simp only [hji6] at H ⊢;exact H)
    by_cases c7 : 0 ≤ (ji6)
    ·rw [if_pos c7] at H
     have c7b0 := eq_true c7
     have c7b1 : decide (0 ≤ (ji6)) = true := decide_eq_true c7
     clear c7
     obtain ⟨ji8,hji8⟩ : ∃ j_ : Int,(shr .i64 a0 (ji6)) = j_ := ⟨_,rfl⟩
     replace H : (if x5_1.length < 140737488355328 then (spec_l02Number.l0 k1 a0 (x5_1 ++ [(ji8) % 256]) (wrap64 (x6_1 - 1))) else (none)) = some r := by first | (rw [hji8] at H;exact H) | (simp only [hji8] at H ⊢;exact H)
     have hji8_ : (a0 / 2 ^ min (ji6).toNat 64) = ji8 := hji8
     have hji8z : (ji6) ≤ 64 → (a0 / 2 ^ (ji6).toNat) = ji8 := shr_small hji8
     by_cases c9 : x5_1.length < 140737488355328
     ·rw [if_pos c9] at H
      have LMc9 := am_ c9
      clear c9
      obtain ⟨y204,hy204⟩ : ∃ y_ : List Int,y_ = (x5_1 ++ [(ji8) % 256]) := ⟨_,rfl⟩
      replace H : (spec_l02Number.l0 k1 a0 y204 (wrap64 (x6_1 - 1))) = some r := by first | (rw [hy204];with_reducible exact H) | (have H2_ := (Option.bind_some _ _).symm.trans H;rw [hy204];with_reducible exact H2_) | (have H2_ := (Option.bind_some _ _).symm.trans H;with_reducible exact H2_) | with_reducible exact H | (rw [hy204];exact H) | exact H
      have Ny204 := am_ hy204
      clear hy204
      have H' := am_ H
      clear H
      go_wp2_with (first | ((with_reducible refine gate_builtin (b := .append) (xs := #[.tmp 14,.tmp 21]) rfl ?_);at_builtin;refine Kd.R_append (Kd.int .u8) (w0 := w) w.heap.size rfl (.tmp 14) (.tmp 21) 24 5 (.int .u8 0) 1 rfl Try.underlying24 info5 rfl (by decide) (by omega) u5 x5_1 ((ji8) % 256) [.int .u8 ((ji8) % 256)] (fun _ => True) (fun _ => False) rfl rfl ?aP (fun _ hk => hk.elim) ?aF ?aO ?aB ?aS ?aL ?_;(case aP => exact rfl);(case aB => exact (zl_ HB));(case aF => exact (fun _ _ => trivial));(case aO => exact (zr HO_5));(case aS => exact (below_size (zl_ HB)));(case aL => have := LMc9.out;omega);intro v205 w10 ho hb hg hat;rw [← Ny204.out] at ho;replace HB := am_ (hb);have HO206 := am_ (ho);clear HO_5;clear ho hb hg hat))
      go_roundg k1
      case measure => have := HK1.out;omega
      case rel => exact ⟨(y204),(wrap64 (x6_1 - 1)),(by first | rfl | (simp;done) | (simp [*];done)),H',⟨by have := HK1.out;omega⟩,⟨zr HO206⟩,⟨zl_ HB⟩⟩
     ·rw [if_neg c9] at H
      exact absurd H (by simp)
    ·rw [if_neg c7] at H
     exact absurd H (by simp)
   ·rw [if_neg c5] at H
    have c5b0 : decide (0 ≤ x6_1) = false := decide_eq_false c5
    clear c5
    obtain rfl := Option.some.inj H
    go_wp2
    go_ret
    exact ⟨_,zt_,zr HO_5,zl_ HB⟩
end Go.Proofs.Ytadablpppkjdbaa.A
end
