/- A part of the proof that FnExactReadTable returns true at every input: plain functions, contracts and lemmas. No conditions. -/
import Derived.Test.YtioocldcdonlpaaQReadTableb
import Derived.Lib.SlBy
import Derived.Lib.Walk
set_option linter.unusedVariables false
set_option linter.unusedSimpArgs false
set_option linter.unusedSectionVars false
section
namespace Go.Proofs.Ytioocldcdonlpaa.B
open Go.RowKit Go.Proofs.YtioocldcdonlpaaW.PrintWords Go.Proofs.YtioocldcdonlpaaW.PrintLast Go.Proofs.YtioocldcdonlpaaW.PrintMore
abbrev k1_ := @blk_drewN
abbrev k2_ := @blk_drew
abbrev k3_ := @blk_alloc
abbrev r1_ := @Kd.R_alloc
abbrev r2_ := @Kd.R_drewN
abbrev r3_ := @Kd.R_drew
theorem o1_ {p : Prop} [Decidable p] (h : decide p = true) : p := of_decide_eq_true h
theorem e3_ (l : List UInt8) : (l == []) = l.isEmpty := mp_beq_nil l
theorem e4_ (l : List UInt8) : (l != []) = !l.isEmpty := mp_bne_nil l
theorem am_ {p : Prop} (h : p) : Aside0 p := ⟨h⟩
theorem p1_ {α : Type _} (l : List α) (i : Nat) (a : α) : l.toArray.setIfInBounds i a = (l.set i a).toArray := List.setIfInBounds_toArray ..
theorem p2_ {α : Type _} (x : α) (xs : List α) (a : α) : (x :: xs).set 0 a = a :: xs := List.set_cons_zero
theorem p3_ {α : Type _} (x : α) (xs : List α) (i : Nat) (a : α) : (x :: xs).set (i + 1) a = x :: xs.set i a := List.set_cons_succ
attribute [local go_sem] max2_int min2_int max_two min_two max_three min_three max_four min_four
def errW : Option Int → Value
  | none => .nilIface
  | some c => .iface 0 (.int .i64 c)
theorem errW_none : errW none = .nilIface := rfl
theorem errW_some (c : Int) : errW (some c) = .iface 0 (.int .i64 c) := rfl
theorem e1_ : errW none = .nilIface := rfl
theorem e2_ (c : Int) : errW (some c) = .iface 0 (.int .i64 c) := rfl
theorem info5 : (Try.prog.info? 5).map (fun i => (i.zero, i.size, i.bytes)) = some (some (.int .u8 0), 1, 1) := by kernel_rfl
theorem info78 : (Try.prog.info? 78).map (fun i => (i.zero, i.size, i.bytes)) = some (some (.agg #[(.string ⟨#[]⟩), (.int .i64 0), (.int .i64 0), (.int .i64 0), (.slice none 0 0)]), 5, 64) := by kernel_rfl
theorem info80 : (Try.prog.info? 80).map (fun i => (i.zero, i.size, i.bytes)) = some (some (.agg #[(.int .i64 0), (.int .i64 0)]), 2, 16) := by kernel_rfl
theorem info84 : (Try.prog.info? 84).map (fun i => (i.zero, i.size, i.bytes)) = some (some (.agg #[(.int .i64 0), (.int .i64 0), (.int .i64 0), (.int .i64 0), (.int .i64 0), (.int .i64 0)]), 6, 48) := by kernel_rfl
def k80 : Kd S80 := Kd.iso (Kd.pair (Kd.int .i64) (Kd.int .i64)) (fun x : S80 => (x.f0, x.f1))
theorem k80_open {w : World} {x : S80} {cs : List Value} (h : k80.K w x cs) : cs = [.int .i64 x.f0, .int .i64 x.f1] := by
  obtain ⟨_, _, rfl, rfl, rfl⟩ := h
  exact rfl
theorem k80_openM {w : World} {base : Nat} {ok : Nat → Prop} {x : S80} {cs : List Value} (h : k80.M w base ok x cs) : cs = [.int .i64 x.f0, .int .i64 x.f1] := by
  obtain ⟨_, _, rfl, rfl, rfl⟩ := h
  exact rfl
theorem k80_mkM (w : World) (base : Nat) (ok : Nat → Prop) (x : S80)  : k80.M w base ok x [.int .i64 x.f0, .int .i64 x.f1] := ⟨[.int .i64 x.f0], [.int .i64 x.f1], rfl, rfl, rfl⟩
theorem at_T80 {w : World} {A : Option Addr} {n : Nat} {xs : List S80} (h : Kd.C k80 w A n xs) (i : Int) (h0 : 0 ≤ i) (h1 : i < n) : ∃ ad , A = some ad ∧ w.cell? (ad.add (i.toNat * 2)) = some (.int .i64 (rd_T80 xs i).f0) ∧ w.cell? ⟨(ad.add (i.toNat * 2)).block, (ad.add (i.toNat * 2)).off + 1, none⟩ = some (.int .i64 (rd_T80 xs i).f1) := by
  obtain ⟨ad, c, e, _, hK, hc0⟩ := Kd.C_get h z80 i h0 h1
  have hc : ∀ j u, c[j]? = some u → w.cell? (ad.add (i.toNat * 2 + j)) = some u := hc0
  obtain rfl := k80_open hK
  exact ⟨ad, e, hc 0 _ rfl, by rw [← add_field _ _ 1 (by omega)]; exact hc 1 _ rfl⟩
def k78 : Kd S78 := Kd.iso (Kd.pair Kd.string (Kd.pair (Kd.int .i64) (Kd.pair (Kd.int .i64) (Kd.pair (Kd.int .i64) (Kd.slice 80 k80))))) (fun x : S78 => (x.f0, x.f1, x.f2, x.f3, x.f4))
theorem k78_open {w : World} {x : S78} {cs : List Value} (h : k78.K w x cs) : ∃ A4 c4, cs = [.string x.f0, .int .i64 x.f1, .int .i64 x.f2, .int .i64 x.f3, .slice A4 x.f4.length c4] ∧ x.f4.length ≤ c4 ∧ k80.C w A4 x.f4.length x.f4 := by
  obtain ⟨_, _, rfl, rfl, ⟨_, _, rfl, rfl, ⟨_, _, rfl, rfl, ⟨_, _, rfl, rfl, ⟨A4, c4, rfl, l4, g4⟩⟩⟩⟩⟩ := h
  exact ⟨A4, c4, rfl, l4, g4⟩
theorem k78_openM {w : World} {base : Nat} {ok : Nat → Prop} {x : S78} {cs : List Value} (h : k78.M w base ok x cs) : ∃ v4, cs = [.string x.f0, .int .i64 x.f1, .int .i64 x.f2, .int .i64 x.f3, v4] ∧ k80.R 80 w base ok v4 x.f4 := by
  obtain ⟨_, _, rfl, rfl, ⟨_, _, rfl, rfl, ⟨_, _, rfl, rfl, ⟨_, _, rfl, rfl, ⟨v4, rfl, g4⟩⟩⟩⟩⟩ := h
  exact ⟨v4, rfl, g4⟩
theorem k78_mkM (w : World) (base : Nat) (ok : Nat → Prop) (x : S78) {v4 : Value} (g4 : k80.R 80 w base ok v4 x.f4) : k78.M w base ok x [.string x.f0, .int .i64 x.f1, .int .i64 x.f2, .int .i64 x.f3, v4] := ⟨[.string x.f0], [.int .i64 x.f1, .int .i64 x.f2, .int .i64 x.f3, v4], rfl, rfl, ⟨[.int .i64 x.f1], [.int .i64 x.f2, .int .i64 x.f3, v4], rfl, rfl, ⟨[.int .i64 x.f2], [.int .i64 x.f3, v4], rfl, rfl, ⟨[.int .i64 x.f3], [v4], rfl, rfl, ⟨v4, rfl, g4⟩⟩⟩⟩⟩
theorem at_T78 {w : World} {A : Option Addr} {n : Nat} {xs : List S78} (h : Kd.C k78 w A n xs) (i : Int) (h0 : 0 ≤ i) (h1 : i < n) : ∃ ad A4 c4, A = some ad ∧ w.cell? (ad.add (i.toNat * 5)) = some (.string (rd_T78 xs i).f0) ∧ w.cell? ⟨(ad.add (i.toNat * 5)).block, (ad.add (i.toNat * 5)).off + 1, none⟩ = some (.int .i64 (rd_T78 xs i).f1) ∧ w.cell? ⟨(ad.add (i.toNat * 5)).block, (ad.add (i.toNat * 5)).off + 2, none⟩ = some (.int .i64 (rd_T78 xs i).f2) ∧ w.cell? ⟨(ad.add (i.toNat * 5)).block, (ad.add (i.toNat * 5)).off + 3, none⟩ = some (.int .i64 (rd_T78 xs i).f3) ∧ w.cell? ⟨(ad.add (i.toNat * 5)).block, (ad.add (i.toNat * 5)).off + 4, none⟩ = some (.slice A4 (rd_T78 xs i).f4.length c4) ∧ (rd_T78 xs i).f4.length ≤ c4 ∧ k80.C w A4 (rd_T78 xs i).f4.length (rd_T78 xs i).f4 := by
  obtain ⟨ad, c, e, _, hK, hc0⟩ := Kd.C_get h z78 i h0 h1
  have hc : ∀ j u, c[j]? = some u → w.cell? (ad.add (i.toNat * 5 + j)) = some u := hc0
  obtain ⟨A4, c4, rfl, l4, g4⟩ := k78_open hK
  exact ⟨ad, A4, c4, e, hc 0 _ rfl, by rw [← add_field _ _ 1 (by omega)]; exact hc 1 _ rfl, by rw [← add_field _ _ 2 (by omega)]; exact hc 2 _ rfl, by rw [← add_field _ _ 3 (by omega)]; exact hc 3 _ rfl, by rw [← add_field _ _ 4 (by omega)]; exact hc 4 _ rfl, l4, g4⟩
def k82 : Kd S82 := Kd.iso (Kd.pair (Kd.int .i64) (Kd.pair (Kd.int .i64) (Kd.pair (Kd.int .i64) (Kd.int .i64)))) (fun x : S82 => (x.f0, x.f1, x.f2, x.f3))
theorem k82_open {w : World} {x : S82} {cs : List Value} (h : k82.K w x cs) : cs = [.int .i64 x.f0, .int .i64 x.f1, .int .i64 x.f2, .int .i64 x.f3] := by
  obtain ⟨_, _, rfl, rfl, ⟨_, _, rfl, rfl, ⟨_, _, rfl, rfl, rfl⟩⟩⟩ := h
  exact rfl
theorem k82_openM {w : World} {base : Nat} {ok : Nat → Prop} {x : S82} {cs : List Value} (h : k82.M w base ok x cs) : cs = [.int .i64 x.f0, .int .i64 x.f1, .int .i64 x.f2, .int .i64 x.f3] := by
  obtain ⟨_, _, rfl, rfl, ⟨_, _, rfl, rfl, ⟨_, _, rfl, rfl, rfl⟩⟩⟩ := h
  exact rfl
theorem k82_mkM (w : World) (base : Nat) (ok : Nat → Prop) (x : S82)  : k82.M w base ok x [.int .i64 x.f0, .int .i64 x.f1, .int .i64 x.f2, .int .i64 x.f3] := ⟨[.int .i64 x.f0], [.int .i64 x.f1, .int .i64 x.f2, .int .i64 x.f3], rfl, rfl, ⟨[.int .i64 x.f1], [.int .i64 x.f2, .int .i64 x.f3], rfl, rfl, ⟨[.int .i64 x.f2], [.int .i64 x.f3], rfl, rfl, rfl⟩⟩⟩
def k84 : Kd S84 := Kd.iso (Kd.pair (Kd.int .i64) (Kd.pair (Kd.int .i64) k82)) (fun x : S84 => (x.f0, x.f1, x.f2))
theorem k84_open {w : World} {x : S84} {cs : List Value} (h : k84.K w x cs) : cs = [.int .i64 x.f0, .int .i64 x.f1, .int .i64 x.f2.f0, .int .i64 x.f2.f1, .int .i64 x.f2.f2, .int .i64 x.f2.f3] := by
  obtain ⟨_, _, rfl, rfl, ⟨_, _, rfl, rfl, s2⟩⟩ := h
  obtain rfl := k82_open s2
  exact rfl
theorem k84_openM {w : World} {base : Nat} {ok : Nat → Prop} {x : S84} {cs : List Value} (h : k84.M w base ok x cs) : cs = [.int .i64 x.f0, .int .i64 x.f1, .int .i64 x.f2.f0, .int .i64 x.f2.f1, .int .i64 x.f2.f2, .int .i64 x.f2.f3] := by
  obtain ⟨_, _, rfl, rfl, ⟨_, _, rfl, rfl, s2⟩⟩ := h
  obtain rfl := k82_openM s2
  exact rfl
theorem k84_mkM (w : World) (base : Nat) (ok : Nat → Prop) (x : S84)  : k84.M w base ok x [.int .i64 x.f0, .int .i64 x.f1, .int .i64 x.f2.f0, .int .i64 x.f2.f1, .int .i64 x.f2.f2, .int .i64 x.f2.f3] := ⟨[.int .i64 x.f0], [.int .i64 x.f1, .int .i64 x.f2.f0, .int .i64 x.f2.f1, .int .i64 x.f2.f2, .int .i64 x.f2.f3], rfl, rfl, ⟨[.int .i64 x.f1], [.int .i64 x.f2.f0, .int .i64 x.f2.f1, .int .i64 x.f2.f2, .int .i64 x.f2.f3], rfl, rfl, (k82_mkM w base ok x.f2 )⟩⟩
theorem at_T84 {w : World} {A : Option Addr} {n : Nat} {xs : List S84} (h : Kd.C k84 w A n xs) (i : Int) (h0 : 0 ≤ i) (h1 : i < n) : ∃ ad , A = some ad ∧ w.cell? (ad.add (i.toNat * 6)) = some (.int .i64 (rd_T84 xs i).f0) ∧ w.cell? ⟨(ad.add (i.toNat * 6)).block, (ad.add (i.toNat * 6)).off + 1, none⟩ = some (.int .i64 (rd_T84 xs i).f1) ∧ w.cell? ⟨(ad.add (i.toNat * 6)).block, (ad.add (i.toNat * 6)).off + 2, none⟩ = some (.int .i64 (rd_T84 xs i).f2.f0) ∧ w.cell? ⟨(ad.add (i.toNat * 6)).block, (ad.add (i.toNat * 6)).off + 3, none⟩ = some (.int .i64 (rd_T84 xs i).f2.f1) ∧ w.cell? ⟨(ad.add (i.toNat * 6)).block, (ad.add (i.toNat * 6)).off + 4, none⟩ = some (.int .i64 (rd_T84 xs i).f2.f2) ∧ w.cell? ⟨(ad.add (i.toNat * 6)).block, (ad.add (i.toNat * 6)).off + 5, none⟩ = some (.int .i64 (rd_T84 xs i).f2.f3) := by
  obtain ⟨ad, c, e, _, hK, hc0⟩ := Kd.C_get h z84 i h0 h1
  have hc : ∀ j u, c[j]? = some u → w.cell? (ad.add (i.toNat * 6 + j)) = some u := hc0
  obtain rfl := k84_open hK
  exact ⟨ad, e, hc 0 _ rfl, by rw [← add_field _ _ 1 (by omega)]; exact hc 1 _ rfl, by rw [← add_field _ _ 2 (by omega)]; exact hc 2 _ rfl, by rw [← add_field _ _ 3 (by omega)]; exact hc 3 _ rfl, by rw [← add_field _ _ 4 (by omega)]; exact hc 4 _ rfl, by rw [← add_field _ _ 5 (by omega)]; exact hc 5 _ rfl⟩
/-- A state of type 73 at block g of W; what its slices lead to came in by w0. -/
def IsS73 (w0 W : World) (g : Nat) (f0 : ByteArray) (f1 : Bool) : Prop := W.heap[g]? = some (.cells #[.string f0, .bool f1] 73 (0, 0)) ∧ w0.heap.size ≤ g
theorem IsS73.grown {w0 W : World} {g : Nat} {f0 : ByteArray} {f1 : Bool} {W1 : World} {row : Option Nat} (h : IsS73 w0 W g f0 f1) (hw : W.grownBy W1 row) (hne : some g ≠ row) : IsS73 w0 W1 g f0 f1 := by
  obtain ⟨hb, hg⟩ := h
  exact ⟨blk_grown hb hw hne, hg⟩
theorem IsS73.fresh {w0 W : World} {g : Nat} {f0 : ByteArray} {f1 : Bool} (h : IsS73 w0 W g f0 f1) : ∀ k, W.heap.size ≤ k → k ≠ g := by
  obtain ⟨hb, hg⟩ := h
  exact Kd.freshB hb
theorem IsS73.kept {w0 W : World} {g : Nat} {f0 : ByteArray} {f1 : Bool} {W1 : World} {S : Nat → Prop} (h : IsS73 w0 W g f0 f1) (hk : Kept W W1 S) (hne : ¬ S g) : IsS73 w0 W1 g f0 f1 := by
  obtain ⟨hb, hg⟩ := h
  exact ⟨blk_kept hb hk hne, hg⟩
theorem IsS73.below {w0 W : World} {g : Nat} {f0 : ByteArray} {f1 : Bool} {W1 : World} (h : IsS73 w0 W g f0 f1) (hw : Below W.heap.size W W1) : IsS73 w0 W1 g f0 f1 := h.grown (grown_of_below hw none) (by simp)
theorem IsS73.alloc {w0 W : World} {g : Nat} {f0 : ByteArray} {f1 : Bool} (h : IsS73 w0 W g f0 f1) (o : Obj) : IsS73 w0 (W.alloc o) g f0 f1 := h.below (below_alloc (Below.refl _ _) o)
theorem IsS73.drewN {w0 W : World} {g : Nat} {f0 : ByteArray} {f1 : Bool} (h : IsS73 w0 W g f0 f1) (m : Nat) : IsS73 w0 (W.drewN m) g f0 f1 := h
theorem IsS73.drew {w0 W : World} {g : Nat} {f0 : ByteArray} {f1 : Bool} (h : IsS73 w0 W g f0 f1) : IsS73 w0 W.drew g f0 f1 := h
theorem IsS73.at_ {w0 W : World} {g : Nat} {f0 : ByteArray} {f1 : Bool} {w' : World} {m : Nat} (hq : W.drewN m = w') (h : IsS73 w0 W g f0 f1) : IsS73 w0 w' g f0 f1 := by subst hq; exact IsS73.drewN h m
theorem IsS73.apart {w0 W : World} {g : Nat} {f0 : ByteArray} {f1 : Bool} {α : Type} {d : Kd α} {e : Nat} {base : Nat} {ok : Nat → Prop} {v : Value} {xs : List α} (h : IsS73 w0 W g f0 f1) (ho : d.R e W base ok v xs) (ht : ∀ q, q ∈ e :: d.E → q ≠ 73) : d.R e W base (fun k => ok k ∧ k ≠ g) v xs := by
  obtain ⟨hb, hg⟩ := h
  exact Kd.R_types ho hb ht
theorem IsS73.own_ne {w0 W : World} {g : Nat} {f0 : ByteArray} {f1 : Bool} {α : Type} {d : Kd α} {e : Nat} {base : Nat} {ok : Nat → Prop} {v : Value} {xs : List α} (h : IsS73 w0 W g f0 f1) (ho : d.R e W base ok v xs) (ht : e ≠ 73) : some g ≠ v.ownBlock := by
  obtain ⟨hb, hg⟩ := h
  exact Kd.R_ne ho hb ht
theorem IsS73.apartS {w0 W : World} {g : Nat} {f0 : ByteArray} {f1 : Bool} {α : Type} {d : Kd α} {e : Nat} {base : Nat} {ok : Nat → Prop} {v : Value} {xs : List α} (h : IsS73 w0 W g f0 f1) (ho : d.S e W base ok v xs) (ht : ∀ q, q ∈ e :: d.E → q ≠ 73) : d.S e W base (fun k => ok k ∧ k ≠ g) v xs := by
  obtain ⟨hb, hg⟩ := h
  exact Kd.S_types ho hb ht
theorem IsS73.own_neS {w0 W : World} {g : Nat} {f0 : ByteArray} {f1 : Bool} {α : Type} {d : Kd α} {e : Nat} {base : Nat} {ok : Nat → Prop} {v : Value} {xs : List α} (h : IsS73 w0 W g f0 f1) (ho : d.S e W base ok v xs) (ht : e ≠ 73) : some g ≠ v.ownBlock := by
  obtain ⟨hb, hg⟩ := h
  exact Kd.S_ne ho hb ht
theorem IsS73.lt {w0 W : World} {g : Nat} {f0 : ByteArray} {f1 : Bool} (h : IsS73 w0 W g f0 f1) : g < W.heap.size := by
  obtain ⟨hb, hg⟩ := h
  exact blk_lt hb
theorem IsS73.ge {w0 W : World} {g : Nat} {f0 : ByteArray} {f1 : Bool} (h : IsS73 w0 W g f0 f1) : w0.heap.size ≤ g := by
  obtain ⟨hb, hg⟩ := h
  exact hg
theorem IsS73.far {w0 W : World} {g : Nat} {f0 : ByteArray} {f1 : Bool} {p : Addr} (h : IsS73 w0 W g f0 f1) (hne : g ≠ p.block) (u : Value) : IsS73 w0 (W.setCell p u) g f0 f1 := by
  obtain ⟨hb, hg⟩ := h
  exact ⟨blk_far hb hne u, hg⟩
theorem cellS73_0 {W : World} {g : Nat} {f0 : ByteArray} {f1 : Bool} (h : W.heap[g]? = some (.cells #[.string f0, .bool f1] 73 (0, 0))) : W.cell? ⟨g, 0, none⟩ = some (.string f0) := (blk_cell h 0).trans rfl
theorem IsS73.set_0 {w0 W : World} {g : Nat} {f0 : ByteArray} {f1 : Bool} (h : IsS73 w0 W g f0 f1) (x : ByteArray) : IsS73 w0 (W.setCell ⟨g, 0, none⟩ (.string x)) g x f1 := by
  obtain ⟨hb, hg⟩ := h
  exact ⟨by simpa using blk_set hb 0 (.string x), hg⟩
theorem cellS73_1 {W : World} {g : Nat} {f0 : ByteArray} {f1 : Bool} (h : W.heap[g]? = some (.cells #[.string f0, .bool f1] 73 (0, 0))) : W.cell? ⟨g, 1, none⟩ = some (.bool f1) := (blk_cell h 1).trans rfl
theorem IsS73.set_1 {w0 W : World} {g : Nat} {f0 : ByteArray} {f1 : Bool} (h : IsS73 w0 W g f0 f1) (x : Bool) : IsS73 w0 (W.setCell ⟨g, 1, none⟩ (.bool x)) g f0 x := by
  obtain ⟨hb, hg⟩ := h
  exact ⟨by simpa using blk_set hb 1 (.bool x), hg⟩
/-- A state of type 88 at block g of W; what its slices lead to came in by w0. -/
def IsS88 (w0 W : World) (g : Nat) (f0 : ByteArray) (f1 : Bool) : Prop := W.heap[g]? = some (.cells #[.string f0, .bool f1] 88 (0, 0)) ∧ w0.heap.size ≤ g
theorem IsS88.grown {w0 W : World} {g : Nat} {f0 : ByteArray} {f1 : Bool} {W1 : World} {row : Option Nat} (h : IsS88 w0 W g f0 f1) (hw : W.grownBy W1 row) (hne : some g ≠ row) : IsS88 w0 W1 g f0 f1 := by
  obtain ⟨hb, hg⟩ := h
  exact ⟨blk_grown hb hw hne, hg⟩
theorem IsS88.fresh {w0 W : World} {g : Nat} {f0 : ByteArray} {f1 : Bool} (h : IsS88 w0 W g f0 f1) : ∀ k, W.heap.size ≤ k → k ≠ g := by
  obtain ⟨hb, hg⟩ := h
  exact Kd.freshB hb
theorem IsS88.kept {w0 W : World} {g : Nat} {f0 : ByteArray} {f1 : Bool} {W1 : World} {S : Nat → Prop} (h : IsS88 w0 W g f0 f1) (hk : Kept W W1 S) (hne : ¬ S g) : IsS88 w0 W1 g f0 f1 := by
  obtain ⟨hb, hg⟩ := h
  exact ⟨blk_kept hb hk hne, hg⟩
theorem IsS88.below {w0 W : World} {g : Nat} {f0 : ByteArray} {f1 : Bool} {W1 : World} (h : IsS88 w0 W g f0 f1) (hw : Below W.heap.size W W1) : IsS88 w0 W1 g f0 f1 := h.grown (grown_of_below hw none) (by simp)
theorem IsS88.alloc {w0 W : World} {g : Nat} {f0 : ByteArray} {f1 : Bool} (h : IsS88 w0 W g f0 f1) (o : Obj) : IsS88 w0 (W.alloc o) g f0 f1 := h.below (below_alloc (Below.refl _ _) o)
theorem IsS88.drewN {w0 W : World} {g : Nat} {f0 : ByteArray} {f1 : Bool} (h : IsS88 w0 W g f0 f1) (m : Nat) : IsS88 w0 (W.drewN m) g f0 f1 := h
theorem IsS88.drew {w0 W : World} {g : Nat} {f0 : ByteArray} {f1 : Bool} (h : IsS88 w0 W g f0 f1) : IsS88 w0 W.drew g f0 f1 := h
theorem IsS88.at_ {w0 W : World} {g : Nat} {f0 : ByteArray} {f1 : Bool} {w' : World} {m : Nat} (hq : W.drewN m = w') (h : IsS88 w0 W g f0 f1) : IsS88 w0 w' g f0 f1 := by subst hq; exact IsS88.drewN h m
theorem IsS88.apart {w0 W : World} {g : Nat} {f0 : ByteArray} {f1 : Bool} {α : Type} {d : Kd α} {e : Nat} {base : Nat} {ok : Nat → Prop} {v : Value} {xs : List α} (h : IsS88 w0 W g f0 f1) (ho : d.R e W base ok v xs) (ht : ∀ q, q ∈ e :: d.E → q ≠ 88) : d.R e W base (fun k => ok k ∧ k ≠ g) v xs := by
  obtain ⟨hb, hg⟩ := h
  exact Kd.R_types ho hb ht
theorem IsS88.own_ne {w0 W : World} {g : Nat} {f0 : ByteArray} {f1 : Bool} {α : Type} {d : Kd α} {e : Nat} {base : Nat} {ok : Nat → Prop} {v : Value} {xs : List α} (h : IsS88 w0 W g f0 f1) (ho : d.R e W base ok v xs) (ht : e ≠ 88) : some g ≠ v.ownBlock := by
  obtain ⟨hb, hg⟩ := h
  exact Kd.R_ne ho hb ht
theorem IsS88.apartS {w0 W : World} {g : Nat} {f0 : ByteArray} {f1 : Bool} {α : Type} {d : Kd α} {e : Nat} {base : Nat} {ok : Nat → Prop} {v : Value} {xs : List α} (h : IsS88 w0 W g f0 f1) (ho : d.S e W base ok v xs) (ht : ∀ q, q ∈ e :: d.E → q ≠ 88) : d.S e W base (fun k => ok k ∧ k ≠ g) v xs := by
  obtain ⟨hb, hg⟩ := h
  exact Kd.S_types ho hb ht
theorem IsS88.own_neS {w0 W : World} {g : Nat} {f0 : ByteArray} {f1 : Bool} {α : Type} {d : Kd α} {e : Nat} {base : Nat} {ok : Nat → Prop} {v : Value} {xs : List α} (h : IsS88 w0 W g f0 f1) (ho : d.S e W base ok v xs) (ht : e ≠ 88) : some g ≠ v.ownBlock := by
  obtain ⟨hb, hg⟩ := h
  exact Kd.S_ne ho hb ht
theorem IsS88.lt {w0 W : World} {g : Nat} {f0 : ByteArray} {f1 : Bool} (h : IsS88 w0 W g f0 f1) : g < W.heap.size := by
  obtain ⟨hb, hg⟩ := h
  exact blk_lt hb
theorem IsS88.ge {w0 W : World} {g : Nat} {f0 : ByteArray} {f1 : Bool} (h : IsS88 w0 W g f0 f1) : w0.heap.size ≤ g := by
  obtain ⟨hb, hg⟩ := h
  exact hg
theorem IsS88.far {w0 W : World} {g : Nat} {f0 : ByteArray} {f1 : Bool} {p : Addr} (h : IsS88 w0 W g f0 f1) (hne : g ≠ p.block) (u : Value) : IsS88 w0 (W.setCell p u) g f0 f1 := by
  obtain ⟨hb, hg⟩ := h
  exact ⟨blk_far hb hne u, hg⟩
theorem cellS88_0 {W : World} {g : Nat} {f0 : ByteArray} {f1 : Bool} (h : W.heap[g]? = some (.cells #[.string f0, .bool f1] 88 (0, 0))) : W.cell? ⟨g, 0, none⟩ = some (.string f0) := (blk_cell h 0).trans rfl
theorem IsS88.set_0 {w0 W : World} {g : Nat} {f0 : ByteArray} {f1 : Bool} (h : IsS88 w0 W g f0 f1) (x : ByteArray) : IsS88 w0 (W.setCell ⟨g, 0, none⟩ (.string x)) g x f1 := by
  obtain ⟨hb, hg⟩ := h
  exact ⟨by simpa using blk_set hb 0 (.string x), hg⟩
theorem cellS88_1 {W : World} {g : Nat} {f0 : ByteArray} {f1 : Bool} (h : W.heap[g]? = some (.cells #[.string f0, .bool f1] 88 (0, 0))) : W.cell? ⟨g, 1, none⟩ = some (.bool f1) := (blk_cell h 1).trans rfl
theorem IsS88.set_1 {w0 W : World} {g : Nat} {f0 : ByteArray} {f1 : Bool} (h : IsS88 w0 W g f0 f1) (x : Bool) : IsS88 w0 (W.setCell ⟨g, 1, none⟩ (.bool x)) g f0 x := by
  obtain ⟨hb, hg⟩ := h
  exact ⟨by simpa using blk_set hb 1 (.bool x), hg⟩
theorem zl_ {w W0 W : World} (b : Aside0 (Below w.heap.size w W0)) (h : Below w.heap.size w W := by repeat (first | (with_reducible first | exact HB.out | apply below_alloc | apply pw_below_drewN | apply below_drew1 | refine below_set ?_ (Aside0.out (by with_reducible assumption)) | refine below_set ?_ (IsS73.ge (Aside0.out (by with_reducible assumption))) | refine below_set ?_ (IsS88.ge (Aside0.out (by with_reducible assumption)))) | exact HB.out)) : Below w.heap.size w W := h
theorem zs_ {w W0 W W1 : World} (b : Aside0 (Below w.heap.size w W0)) (hb : Below W.heap.size W W1) (h : Below w.heap.size w W := by repeat (first | (with_reducible first | exact HB.out | apply below_alloc | apply pw_below_drewN | apply below_drew1 | refine below_set ?_ (Aside0.out (by with_reducible assumption)) | refine below_set ?_ (IsS73.ge (Aside0.out (by with_reducible assumption))) | refine below_set ?_ (IsS88.ge (Aside0.out (by with_reducible assumption)))) | exact HB.out)) : Aside0 (Below w.heap.size w W1) := ⟨below_step h hb⟩
theorem zw_ {w W0 W : World} {g : Nat} (b : Aside0 (Below w.heap.size w W0)) (hg : g = W.heap.size) (h : Below w.heap.size w W := by repeat (first | (with_reducible first | exact HB.out | apply below_alloc | apply pw_below_drewN | apply below_drew1 | refine below_set ?_ (Aside0.out (by with_reducible assumption)) | refine below_set ?_ (IsS73.ge (Aside0.out (by with_reducible assumption))) | refine below_set ?_ (IsS88.ge (Aside0.out (by with_reducible assumption)))) | exact HB.out)) : Aside0 (w.heap.size ≤ g) := ⟨by rw [hg]; exact below_size h⟩
theorem zt_ {p : Prop} (h : p := by first | rfl | (simp [errW_none, errW_some] <;> rfl) | (simp [*, errW_none, errW_some] <;> rfl) | (simp [mp_beq_nil, mp_bne_nil]; done) | (simp [*, mp_beq_nil, mp_bne_nil]; done)) : p := h
theorem zc2 {w : World} {g : Nat} {t : TypeId} {a0 a1 : Value} (h : Aside0 (w.heap[g]? = some (.cells #[a0, a1] t (0, 0)))) : w.cell? ⟨g, 0, none⟩ = some a0 ∧ w.cell? ⟨g, 1, none⟩ = some a1 ∧ w.frozen? ⟨g, 0, none⟩ = false ∧ w.frozen? ⟨g, 1, none⟩ = false := ⟨(blk_cell h.out 0).trans rfl, (blk_cell h.out 1).trans rfl, blk_frozen h.out 0, blk_frozen h.out 1⟩
theorem zc4 {w : World} {g : Nat} {t : TypeId} {a0 a1 a2 a3 : Value} (h : Aside0 (w.heap[g]? = some (.cells #[a0, a1, a2, a3] t (0, 0)))) : w.cell? ⟨g, 0, none⟩ = some a0 ∧ w.cell? ⟨g, 1, none⟩ = some a1 ∧ w.cell? ⟨g, 2, none⟩ = some a2 ∧ w.cell? ⟨g, 3, none⟩ = some a3 ∧ w.frozen? ⟨g, 0, none⟩ = false ∧ w.frozen? ⟨g, 1, none⟩ = false ∧ w.frozen? ⟨g, 2, none⟩ = false ∧ w.frozen? ⟨g, 3, none⟩ = false := ⟨(blk_cell h.out 0).trans rfl, (blk_cell h.out 1).trans rfl, (blk_cell h.out 2).trans rfl, (blk_cell h.out 3).trans rfl, blk_frozen h.out 0, blk_frozen h.out 1, blk_frozen h.out 2, blk_frozen h.out 3⟩
theorem zc5 {w : World} {g : Nat} {t : TypeId} {a0 a1 a2 a3 a4 : Value} (h : Aside0 (w.heap[g]? = some (.cells #[a0, a1, a2, a3, a4] t (0, 0)))) : w.cell? ⟨g, 0, none⟩ = some a0 ∧ w.cell? ⟨g, 1, none⟩ = some a1 ∧ w.cell? ⟨g, 2, none⟩ = some a2 ∧ w.cell? ⟨g, 3, none⟩ = some a3 ∧ w.cell? ⟨g, 4, none⟩ = some a4 ∧ w.frozen? ⟨g, 0, none⟩ = false ∧ w.frozen? ⟨g, 1, none⟩ = false ∧ w.frozen? ⟨g, 2, none⟩ = false ∧ w.frozen? ⟨g, 3, none⟩ = false ∧ w.frozen? ⟨g, 4, none⟩ = false := ⟨(blk_cell h.out 0).trans rfl, (blk_cell h.out 1).trans rfl, (blk_cell h.out 2).trans rfl, (blk_cell h.out 3).trans rfl, (blk_cell h.out 4).trans rfl, blk_frozen h.out 0, blk_frozen h.out 1, blk_frozen h.out 2, blk_frozen h.out 3, blk_frozen h.out 4⟩
theorem zc6 {w : World} {g : Nat} {t : TypeId} {a0 a1 a2 a3 a4 a5 : Value} (h : Aside0 (w.heap[g]? = some (.cells #[a0, a1, a2, a3, a4, a5] t (0, 0)))) : w.cell? ⟨g, 0, none⟩ = some a0 ∧ w.cell? ⟨g, 1, none⟩ = some a1 ∧ w.cell? ⟨g, 2, none⟩ = some a2 ∧ w.cell? ⟨g, 3, none⟩ = some a3 ∧ w.cell? ⟨g, 4, none⟩ = some a4 ∧ w.cell? ⟨g, 5, none⟩ = some a5 ∧ w.frozen? ⟨g, 0, none⟩ = false ∧ w.frozen? ⟨g, 1, none⟩ = false ∧ w.frozen? ⟨g, 2, none⟩ = false ∧ w.frozen? ⟨g, 3, none⟩ = false ∧ w.frozen? ⟨g, 4, none⟩ = false ∧ w.frozen? ⟨g, 5, none⟩ = false := ⟨(blk_cell h.out 0).trans rfl, (blk_cell h.out 1).trans rfl, (blk_cell h.out 2).trans rfl, (blk_cell h.out 3).trans rfl, (blk_cell h.out 4).trans rfl, (blk_cell h.out 5).trans rfl, blk_frozen h.out 0, blk_frozen h.out 1, blk_frozen h.out 2, blk_frozen h.out 3, blk_frozen h.out 4, blk_frozen h.out 5⟩
theorem zi73 {w0 W : World} {g : Nat} {f0 : ByteArray} {f1 : Bool} {W' : World} {f0' : ByteArray} {f1' : Bool} (b : Aside0 (IsS73 w0 W g f0 f1)) (m : IsS73 w0 W g f0 f1 → IsS73 w0 W' g f0' f1' := by intro h_; repeat (first | (with_reducible first | exact h_ | apply IsS73.alloc | apply IsS73.drewN | apply IsS73.drew | apply IsS73.set_0 | apply IsS73.set_1 | refine IsS73.far ?_ (Aside0.out (by with_reducible assumption)) _) | exact h_)) : IsS73 w0 W' g f0' f1' := m b.out
theorem zi88 {w0 W : World} {g : Nat} {f0 : ByteArray} {f1 : Bool} {W' : World} {f0' : ByteArray} {f1' : Bool} (b : Aside0 (IsS88 w0 W g f0 f1)) (m : IsS88 w0 W g f0 f1 → IsS88 w0 W' g f0' f1' := by intro h_; repeat (first | (with_reducible first | exact h_ | apply IsS88.alloc | apply IsS88.drewN | apply IsS88.drew | apply IsS88.set_0 | apply IsS88.set_1 | refine IsS88.far ?_ (Aside0.out (by with_reducible assumption)) _) | exact h_)) : IsS88 w0 W' g f0' f1' := m b.out
theorem zh_ {w W0 W : World} {g : Nat} {row : Option Nat} (k : Aside0 (KeepBut w W0 g row)) (h : KeepBut w W g row := by repeat (first | (with_reducible first | exact HK.out | apply KeepBut.set_ | apply keep_drewN | apply keep_drew | apply keep_alloc | refine keep_far ?_ (Aside0.out (by with_reducible assumption)) _) | exact HK.out)) : KeepBut w W g row := h
end Go.Proofs.Ytioocldcdonlpaa.B
end

section
namespace Go.Proofs.Ytioocldcdonlpaa.B
open Go Go.RowKit Go.Proofs.YtioocldcdonlpaaW.PrintWords Go.Proofs.YtioocldcdonlpaaW.PrintLast Go.Proofs.YtioocldcdonlpaaW.PrintMore
theorem ml_ok {w : World} {base : Nat} {ok ok' : Nat → Prop} {v : Value} {xs : List S80} (h : Kd.R k80 80 w base ok v xs) (hv : ∀ k, v.ownBlock = some k → ok' k) : Kd.R k80 80 w base ok' v xs :=
  ⟨hv, h.2.imp_ (fun p c hp => by rw [k80_openM hp]; exact k80_mkM _ _ _ p)⟩
theorem ml_own {w : World} {base : Nat} {ok : Nat → Prop} {v : Value} {xs : List S80} (h : Kd.R k80 80 w base ok v xs) : Kd.R k80 80 w base (fun k => v.ownBlock = some k) v xs := ml_ok h (fun _ e => e)
end Go.Proofs.Ytioocldcdonlpaa.B
end

section
namespace Go.Proofs.Ytioocldcdonlpaa.B
open Go.RowKit Go.Proofs.YtioocldcdonlpaaW.PrintWords Go.Proofs.YtioocldcdonlpaaW.PrintLast Go.Proofs.YtioocldcdonlpaaW.PrintMore
attribute [local go_sem] max2_int min2_int max_two min_two max_three min_three max_four min_four
set_option maxHeartbeats 8000000 in
set_option maxRecDepth 100000 in
theorem laws_markText.calls (k : Nat) (a0 : Int) (r : ByteArray) (w : World) (h : laws_markText.f k a0 = some r) :
  Calls Try.prog 55 #[.int .i64 a0] w fun e w' => e = .returned (.string r) ∧ Below w.heap.size w w' := by
 have HB := am_ (Below.refl w.heap.size w)
 have H : (if a0 ≤ 0 then (some (⟨#[109,48]⟩ : ByteArray)) else (laws_markText.l0 k a0 (⟨#[]⟩ : ByteArray))) = some r := h
 clear h
 by_cases c2 : a0 ≤ 0
 ·rw [if_pos c2] at H
  have c2b0 : decide (a0 ≤ 0) = true := decide_eq_true c2
  clear c2
  obtain rfl := Option.some.inj H
  go_enter Try.func55,Try.ntmps55
  go_wp2
  go_ret
  exact ⟨zt_,zl_ HB⟩
 ·rw [if_neg c2] at H
  have c2b0 : decide (a0 ≤ 0) = false := decide_eq_false c2
  clear c2
  have H' := am_ H
  clear H
  go_enter Try.func55,Try.ntmps55
  go_wp2
  go_loopg [0,3] k (fun kq v0 v3 w' => ∃ (x0_1 : Int) (x3_1 : ByteArray),v0 = .int .i64 x0_1 ∧ v3 = .string x3_1 ∧ Aside0 (laws_markText.l0 kq x0_1 x3_1 = some r) ∧ Aside0 (kq ≤ k) ∧ Aside0 (Below w.heap.size w w'))
  case atStart => exact ⟨(a0),((⟨#[]⟩ : ByteArray)),(by first | rfl | (simp;done) | (simp [*];done)),(by first | rfl | (simp;done) | (simp [*];done)),H',⟨Nat.le_refl _⟩,⟨zl_ HB⟩⟩
  case round =>
   clear H'
   try clear c2
   try clear c2b0
   try clear p2
   obtain ⟨x0_1,x3_1,rfl,rfl,HA,HK1,HB⟩ := hrel
   cases gk with
   | zero => exact absurd HA.out (by simp [laws_markText.l0])
   | succ k1 =>
    have H := HA.out
    clear HA
    simp only [laws_markText.l0] at H
    by_cases c3 : x0_1 > 0
    ·rw [if_pos c3] at H
     have c3b0 : decide (0 < x0_1) = true := decide_eq_true c3
     clear c3
     obtain ⟨y384,hy384⟩ : ∃ y_ : List Int,y_ = (([(wrap64 (48 + (Int.tmod x0_1 10))) % 256] : List Int)) := ⟨_,rfl⟩
     replace H : (if (strOfNums y384).size + x3_1.size ≤ 9223372036854775807 then (laws_markText.l0 k1 (wrap64 (Int.tdiv x0_1 10)) ((strOfNums y384) ++ x3_1)) else (none)) = some r := by first | (rw [hy384];with_reducible exact H) | (have H2_ := (Option.bind_some _ _).symm.trans H;rw [hy384];with_reducible exact H2_) | (have H2_ := (Option.bind_some _ _).symm.trans H;with_reducible exact H2_) | with_reducible exact H | (rw [hy384];exact H) | exact H
     have Ny384 := am_ hy384
     clear hy384
     by_cases c4 : (strOfNums y384).size + x3_1.size ≤ 9223372036854775807
     ·rw [if_pos c4] at H
      have c4b0 := eq_true c4
      have c4b1 : decide ((strOfNums y384).size + x3_1.size ≤ 9223372036854775807) = true := decide_eq_true c4
      try have c4b2 : (9223372036854775807 < (strOfNums y384).size + x3_1.size) = False := eq_false (Nat.not_lt.2 c4)
      have H' := am_ H
      clear H
      go_wp2_with (first | ((with_reducible refine gate_dst (N := 12) rfl ?_);refine Kd.R_lit (Kd.int .u8) _ 5 ?hg (N := 12) ?hd (xs := ([(wrap64 (48 + (Int.tmod x0_1 10))) % 256] : List Int)) (inner := [.int .u8 ((wrap64 (48 + (Int.tmod x0_1 10))) % 256)]) (ok := fun _ => True) (okp := fun _ => True) ?hr ?hp (fun _ hk => hk) trivial (Below.refl _ _) (Nat.le_refl _) (by simp) ?_;(case hd => rfl);(case hg => rfl);(case hr => first | (go_simp;done) | (go_simp;rfl));(case hp => exact (Reps.one (show Kd.M (Kd.int .u8) _ _ _ ((wrap64 (48 + (Int.tmod x0_1 10))) % 256) [.int .u8 ((wrap64 (48 + (Int.tmod x0_1 10))) % 256)] from rfl) (Reps.none _ _)));intro v385 w5 ho6 hb hg_ hnew_;clear hg_ hnew_;(first | rw [← Ny384.out] at ho6 | (simp only [Int.reduceToNat] at ho6;rw [← Ny384.out] at ho6));have HO386 := am_ (Kd.R_lower ho6 (below_size (zl_ HB)));replace HB := zs_ HB hb;clear hb ho6;have hcv7 := own_string (P := Try.prog) Try.underlying22 Try.underlying5 Try.underlying9 (Kd.own_of_R HO386.out)))
      go_roundg k1
      case measure => have := HK1.out;omega
      case rel => exact ⟨(wrap64 (Int.tdiv x0_1 10)),((strOfNums y384) ++ x3_1),(by first | rfl | (simp;done) | (simp [*];done)),(by first | rfl | (simp;done) | (simp [*];done)),H',⟨by have := HK1.out;omega⟩,⟨zl_ HB⟩⟩
     ·rw [if_neg c4] at H
      exact absurd H (by simp)
    ·rw [if_neg c3] at H
     have c3b0 : decide (0 < x0_1) = false := decide_eq_false c3
     clear c3
     by_cases c8 : 1 + x3_1.size ≤ 9223372036854775807
     ·rw [if_pos c8] at H
      have c8b0 := eq_true c8
      have c8b1 : decide (1 + x3_1.size ≤ 9223372036854775807) = true := decide_eq_true c8
      try have c8b2 : (9223372036854775807 < 1 + x3_1.size) = False := eq_false (Nat.not_lt.2 c8)
      obtain rfl := Option.some.inj H
      go_wp2
      go_ret
      exact ⟨zt_,zl_ HB⟩
     ·rw [if_neg c8] at H
      exact absurd H (by simp)
set_option maxHeartbeats 8000000 in
set_option maxRecDepth 100000 in
theorem laws_markWaiterS.calls (k : Nat) (P0_ : Nat → Prop) (u9000_ : Value) (l0 : List (S80)) (a1 : Int) (r1 : Int) (r2 : List (S80)) (w0 w : World) (hB : Below w0.heap.size w0 w) (ho0 : Kd.R k80 80 w w0.heap.size P0_ u9000_ l0) (h : laws_markWaiterS.f k l0 a1 = some (r1,r2)) :
  Calls Try.prog 56 #[u9000_,.int .i64 a1] w fun e w' => e = .returned (.int .i64 r1) ∧ Kd.R k80 80 w' w0.heap.size (fun k_ => (P0_ k_ ∨ w.heap.size ≤ k_)) u9000_ r2 ∧ Below w0.heap.size w0 w' ∧ Kept w w' (fun k_ => P0_ k_) := by
 have HO0 := am_ (show Kd.R k80 80 w w0.heap.size (fun k_ => (P0_ k_ ∨ w.heap.size ≤ k_)) u9000_ l0 from Kd.R_mono ho0 (fun k_ hk => (.inl hk)))
 have HK := am_ (Kept.refl w (fun k_ => P0_ k_))
 have HW0 := am_ hB.size
 have HB := am_ hB
 clear hB
 have H : (laws_markWaiterS.l0 k l0 a1 0) = some (r1,r2) := h
 clear h
 have H' := am_ H
 clear H
 go_enter Try.func56,Try.ntmps56
 go_wp2
 go_loopg [1,5] k (fun kq v1 v5 w' => ∃ (x0_1 : List (S80)) (x1_1 : Int) (x5_1 : Int),v1 = .int .i64 x1_1 ∧ v5 = .int .i64 x5_1 ∧ Aside0 (laws_markWaiterS.l0 kq x0_1 x1_1 x5_1 = some (r1,r2)) ∧ Aside0 (kq ≤ k) ∧ Aside0 (Kd.R k80 80 w' w0.heap.size (fun k_ => (P0_ k_ ∨ w.heap.size ≤ k_)) u9000_ x0_1) ∧ Aside0 (Kept w w' (fun k_ => P0_ k_)) ∧ Aside0 (Below w0.heap.size w0 w'))
 case atStart => exact ⟨(l0),(a1),(0),(by first | rfl | (simp;done) | (simp [*];done)),(by first | rfl | (simp;done) | (simp [*];done)),H',⟨Nat.le_refl _⟩,⟨zr HO0⟩,⟨by repeat (first | (with_reducible first | exact HK.out | apply Kept.alloc | apply Kept.drewN | apply Kept.drew) | exact HK.out)⟩,⟨zl_ HB⟩⟩
 case round =>
  clear H'
  try clear p2
  obtain ⟨x0_1,x1_1,x5_1,rfl,rfl,HA,HK1,HO_0,HK,HB⟩ := hrel
  cases gk with
  | zero => exact absurd HA.out (by simp [laws_markWaiterS.l0])
  | succ k1 =>
   have H := HA.out
   clear HA
   simp only [laws_markWaiterS.l0] at H
   by_cases c3 : x5_1 < (x0_1.length : Int)
   ·rw [if_pos c3] at H
    have c3b0 : decide (x5_1 < (x0_1.length : Int)) = true := decide_eq_true c3
    clear c3
    by_cases c4 : 0 ≤ x5_1
    ·rw [if_pos c4] at H
     have c4b0 : decide (0 ≤ x5_1) = true := decide_eq_true c4
     clear c4
     obtain ⟨y387,hy387⟩ : ∃ y_ : List (S80),y_ = (x0_1.set (x5_1 : Int).toNat (⟨x1_1,(rd_T80 x0_1 x5_1).f1⟩ : S80)) := ⟨_,rfl⟩
     replace H : (laws_markWaiterS.l0 k1 (y387.set (x5_1 : Int).toNat (⟨(rd_T80 y387 x5_1).f0,wrap64 (x1_1 + 1)⟩ : S80)) (wrap64 ((wrap64 (x1_1 + 1)) + 1)) (wrap64 (x5_1 + 1))) = some (r1,r2) := by first | (rw [hy387];with_reducible exact H) | (have H2_ := (Option.bind_some _ _).symm.trans H;rw [hy387];with_reducible exact H2_) | (have H2_ := (Option.bind_some _ _).symm.trans H;with_reducible exact H2_) | with_reducible exact H | (rw [hy387];exact H) | exact H
     have Ny387 := am_ hy387
     clear hy387
     obtain ⟨y388,hy388⟩ : ∃ y_ : List (S80),y_ = (y387.set (x5_1 : Int).toNat (⟨(rd_T80 y387 x5_1).f0,wrap64 (x1_1 + 1)⟩ : S80)) := ⟨_,rfl⟩
     replace H : (laws_markWaiterS.l0 k1 y388 (wrap64 ((wrap64 (x1_1 + 1)) + 1)) (wrap64 (x5_1 + 1))) = some (r1,r2) := by first | (rw [hy388];with_reducible exact H) | (have H2_ := (Option.bind_some _ _).symm.trans H;rw [hy388];with_reducible exact H2_) | (have H2_ := (Option.bind_some _ _).symm.trans H;with_reducible exact H2_) | with_reducible exact H | (rw [hy388];exact H) | exact H
     have Ny388 := am_ hy388
     clear hy388
     have H' := am_ H
     clear H
     obtain ⟨Ao7,co7,eo7⟩ := Kd.R_slice HO_0.out
     subst eo7
     have p5 : 0 ≤ (x5_1 : Int) := zo_
     have q5 : (x5_1 : Int) < ((x0_1.length : Int) : Int) := zo_
     obtain ⟨go5,co5,eo5,gb5,gl5,cl5,HG5⟩ := Kd.R_form HO_0.out (by omega)
     (first | cases eo5 | (injection eo5 with ea_ en_ ec_;(first | subst ea_ | (injection ea_ with ea_;subst ea_));subst ec_;clear en_))
     have GB5 := am_ gb5
     have GG5 := am_ HG5
     clear gb5 gl5 HG5
     have HMgo5 := am_ (show (P0_ go5 ∨ w.heap.size ≤ go5) from (HO_0.out.1 _ rfl))
     obtain ⟨ce5,hcl5,hM5,hcc5,hfr5⟩ := Kd.R_elem HO_0.out z80 (x5_1 : Int) p5 q5
     obtain rfl := k80_openM hM5
     have hx5_0 : wr.cell? ⟨go5,(x5_1 : Int).toNat * 2,none⟩ = some (.int .i64 ((rd_T80 x0_1 x5_1).f0)) := hcc5 0 _ rfl
     have hx5_1 : wr.cell? ⟨go5,(x5_1 : Int).toNat * 2 + 1,none⟩ = some (.int .i64 ((rd_T80 x0_1 x5_1).f1)) := hcc5 1 _ rfl
     have hf5_0 : wr.frozen? ⟨go5,(x5_1 : Int).toNat * 2,none⟩ = false := hfr5 0
     have hf5_1 : wr.frozen? ⟨go5,(x5_1 : Int).toNat * 2 + 1,none⟩ = false := hfr5 1
     clear hcl5 hcc5 hfr5 hM5
     replace p5 := eq_true p5
     replace q5 := eq_true q5
     have HX8 := am_ (show Kd.R k80 80 wr w0.heap.size (fun k_ => (P0_ k_ ∨ w.heap.size ≤ k_)) (.slice (some ⟨go5,0,none⟩) x0_1.length co7) x0_1 from (zr HO_0))
     obtain ⟨ce8,hcl8,hM8,hcc8,hfr8⟩ := Kd.R_elem HX8.out z80 (x5_1 : Int) (zo_) (by have h_ : (x5_1 : Int) < ((x0_1.length : Int) : Int) := zo_;first | exact h_ | (have e_ := (Kd.R_reads' HO_0.out).1;omega) | simpa using h_)
     obtain rfl := k80_openM hM8
     have HP8 := Kd.R_seg HX8.out (x5_1 : Int) (zo_) (by have h_ : (x5_1 : Int) < ((x0_1.length : Int) : Int) := zo_;first | exact h_ | (have e_ := (Kd.R_reads' HO_0.out).1;omega) | simpa using h_) (seg := [.int .i64 x1_1]) (j := 0) hcl8 hcc8 (show 1 ≤ 2 from by decide) (x' := (⟨x1_1,(rd_T80 x0_1 x5_1).f1⟩ : S80)) (k80_mkM _ _ _ (⟨x1_1,(rd_T80 x0_1 x5_1).f1⟩ : S80) ) (fun _ hk => hk)
     have hx8_0 := hcc8 0 _ rfl
     (try simp only [show (k80).sz = 2 from rfl,Nat.mul_one,Nat.add_zero] at hx8_0)
     have hf8_0 := hfr8 0
     (try simp only [show (k80).sz = 2 from rfl,Nat.mul_one,Nat.add_zero] at hf8_0)
     clear hcl8 hcc8 hfr8 hM8
     go_wp2_with (first | ((with_reducible refine gate_store (t := 3) (p := 16) rfl ?_);refine store_event (t := 3) (p := 16) (v := ?vo_w9) (w1 := (wr.setCell ⟨go5,(x5_1 : Int).toNat * 2,none⟩ (.int .i64 x1_1))) ?hg ?ho ?hn ?hr ?_;(case ho => rfl);(case hg => rfl);(case hn => rfl);(case hr => first | (go_simp;done) | (go_simp;rfl));intro w9 hw;have hg : wr.grownBy w9 (some go5) := (by rw [hw];exact HP8.2);have hp_ : Kd.R k80 80 w9 w0.heap.size (fun k_ => (P0_ k_ ∨ w.heap.size ≤ k_)) (.slice (some ⟨go5,0,none⟩) x0_1.length co7) y387 := (by rw [hw,Ny387.out];exact HP8.1);clear HP8;replace HB := am_ ((by rw [hw];exact below_set (HB.out) GB5.out : Below w0.heap.size w0 w9));replace HK := am_ (Kept.of_grown (S := (fun k_ => P0_ k_)) hg (by repeat (first | (with_reducible first | exact HK.out | apply Kept.alloc | apply Kept.drewN | apply Kept.drew) | exact HK.out)) (fun k_ e_ => (HO_0.out.1 k_ e_)));replace HO_0 := am_ (hp_);clear hg hw hp_;have p6 : 0 ≤ (x5_1 : Int) := zo_;have q6 : (x5_1 : Int) < ((x0_1.length : Int) : Int) := zo_;obtain ⟨ce6,hcl6,hM6,hcc6,hfr6⟩ := Kd.R_elem HO_0.out z80 (x5_1 : Int) p6 q6;obtain rfl := k80_openM hM6;have hx6_0 : w9.cell? ⟨go5,(x5_1 : Int).toNat * 2,none⟩ = some (.int .i64 ((rd_T80 y387 x5_1).f0)) := hcc6 0 _ rfl;have hx6_1 : w9.cell? ⟨go5,(x5_1 : Int).toNat * 2 + 1,none⟩ = some (.int .i64 ((rd_T80 y387 x5_1).f1)) := hcc6 1 _ rfl;have hf6_0 : w9.frozen? ⟨go5,(x5_1 : Int).toNat * 2,none⟩ = false := hfr6 0;have hf6_1 : w9.frozen? ⟨go5,(x5_1 : Int).toNat * 2 + 1,none⟩ = false := hfr6 1;clear hcl6 hcc6 hfr6 hM6;replace p6 := eq_true p6;replace q6 := eq_true q6;have HX10 := am_ (show Kd.R k80 80 w9 w0.heap.size (fun k_ => (P0_ k_ ∨ w.heap.size ≤ k_)) (.slice (some ⟨go5,0,none⟩) x0_1.length co7) y387 from (zr HO_0));obtain ⟨ce10,hcl10,hM10,hcc10,hfr10⟩ := Kd.R_elem HX10.out z80 (x5_1 : Int) (zo_) (by have h_ : (x5_1 : Int) < ((x0_1.length : Int) : Int) := zo_;first | exact h_ | (have e_ := (Kd.R_reads' HO_0.out).1;omega) | simpa using h_);obtain rfl := k80_openM hM10;have HP10 := Kd.R_seg HX10.out (x5_1 : Int) (zo_) (by have h_ : (x5_1 : Int) < ((x0_1.length : Int) : Int) := zo_;first | exact h_ | (have e_ := (Kd.R_reads' HO_0.out).1;omega) | simpa using h_) (seg := [.int .i64 (wrap64 (x1_1 + 1))]) (j := 1) hcl10 hcc10 (show 2 ≤ 2 from by decide) (x' := (⟨(rd_T80 y387 x5_1).f0,wrap64 (x1_1 + 1)⟩ : S80)) (k80_mkM _ _ _ (⟨(rd_T80 y387 x5_1).f0,wrap64 (x1_1 + 1)⟩ : S80) ) (fun _ hk => hk);have hx10_1 := hcc10 1 _ rfl;(try simp only [show (k80).sz = 2 from rfl,Nat.mul_one,Nat.add_zero] at hx10_1);have hf10_1 := hfr10 1;(try simp only [show (k80).sz = 2 from rfl,Nat.mul_one,Nat.add_zero] at hf10_1);clear hcl10 hcc10 hfr10 hM10) | ((with_reducible refine gate_store (t := 3) (p := 23) rfl ?_);refine store_event (t := 3) (p := 23) (v := ?vo_w11) (w1 := (w9.setCell ⟨go5,(x5_1 : Int).toNat * 2 + 1,none⟩ (.int .i64 (wrap64 (x1_1 + 1))))) ?hg ?ho ?hn ?hr ?_;(case ho => rfl);(case hg => rfl);(case hn => rfl);(case hr => first | (go_simp;done) | (go_simp;rfl));intro w11 hw;have hg : w9.grownBy w11 (some go5) := (by rw [hw];exact HP10.2);have hp_ : Kd.R k80 80 w11 w0.heap.size (fun k_ => (P0_ k_ ∨ w.heap.size ≤ k_)) (.slice (some ⟨go5,0,none⟩) x0_1.length co7) y388 := (by rw [hw,Ny388.out];exact HP10.1);clear HP10;replace HB := am_ ((by rw [hw];exact below_set (HB.out) GB5.out : Below w0.heap.size w0 w11));replace HK := am_ (Kept.of_grown (S := (fun k_ => P0_ k_)) hg (by repeat (first | (with_reducible first | exact HK.out | apply Kept.alloc | apply Kept.drewN | apply Kept.drew) | exact HK.out)) (fun k_ e_ => (HO_0.out.1 k_ e_)));replace HO_0 := am_ (hp_);clear hg hw hp_))
     go_roundg k1
     case measure => have := HK1.out;omega
     case rel => exact ⟨(y388),(wrap64 ((wrap64 (x1_1 + 1)) + 1)),(wrap64 (x5_1 + 1)),(by first | rfl | (simp;done) | (simp [*];done)),(by first | rfl | (simp;done) | (simp [*];done)),H',⟨by have := HK1.out;omega⟩,⟨zr HO_0⟩,⟨by repeat (first | (with_reducible first | exact HK.out | apply Kept.alloc | apply Kept.drewN | apply Kept.drew) | exact HK.out)⟩,⟨zl_ HB⟩⟩
    ·rw [if_neg c4] at H
     exact absurd H (by simp)
   ·rw [if_neg c3] at H
    have c3b0 : decide (x5_1 < (x0_1.length : Int)) = false := decide_eq_false c3
    clear c3
    simp only [Option.some.injEq,Prod.mk.injEq] at H
    obtain ⟨rfl,rfl⟩ := H
    obtain ⟨Ao12,co12,eo12⟩ := Kd.R_slice HO_0.out
    subst eo12
    go_wp2
    go_ret
    exact ⟨zt_,zr HO_0,zl_ HB,by repeat (first | (with_reducible first | exact HK.out | apply Kept.alloc | apply Kept.drewN | apply Kept.drew) | exact HK.out)⟩
set_option maxHeartbeats 8000000 in
set_option maxRecDepth 100000 in
theorem laws_markLockS.calls (k : Nat) (P0_ : Nat → Prop) (u9000_ : Value) (l0 : List (S78)) (a1 : Int) (r1 : Int) (r2 : List (S78)) (w0 w : World) (hB : Below w0.heap.size w0 w) (ho0 : Kd.S k78 78 w w0.heap.size P0_ u9000_ l0) (h : laws_markLockS.f k l0 a1 = some (r1,r2)) :
  Calls Try.prog 25 #[u9000_,.int .i64 a1] w fun e w' => e = .returned (.int .i64 r1) ∧ Kd.S k78 78 w' w0.heap.size (fun k_ => (P0_ k_ ∨ w.heap.size ≤ k_)) u9000_ r2 ∧ Below w0.heap.size w0 w' ∧ Kept w w' (fun k_ => P0_ k_) := by
 have HO0 := am_ (show Kd.S k78 78 w w0.heap.size (fun k_ => (P0_ k_ ∨ w.heap.size ≤ k_)) u9000_ l0 from Kd.S_mono ho0 (fun k_ hk => (.inl hk)))
 have HK := am_ (Kept.refl w (fun k_ => P0_ k_))
 have HW0 := am_ hB.size
 have HB := am_ hB
 clear hB
 have H : (laws_markLockS.l0 k l0 a1 0) = some (r1,r2) := h
 clear h
 have H' := am_ H
 clear H
 go_enter Try.func25,Try.ntmps25
 go_wp2
 go_loopg [1,5] k (fun kq v1 v5 w' => ∃ (x0_1 : List (S78)) (x1_1 : Int) (x5_1 : Int),v1 = .int .i64 x1_1 ∧ v5 = .int .i64 x5_1 ∧ Aside0 (laws_markLockS.l0 kq x0_1 x1_1 x5_1 = some (r1,r2)) ∧ Aside0 (kq ≤ k) ∧ Aside0 (Kd.S k78 78 w' w0.heap.size (fun k_ => (P0_ k_ ∨ w.heap.size ≤ k_)) u9000_ x0_1) ∧ Aside0 (Kept w w' (fun k_ => P0_ k_)) ∧ Aside0 (Below w0.heap.size w0 w'))
 case atStart => exact ⟨(l0),(a1),(0),(by first | rfl | (simp;done) | (simp [*];done)),(by first | rfl | (simp;done) | (simp [*];done)),H',⟨Nat.le_refl _⟩,⟨by (with_reducible repeat (first | apply Kd.S_alloc | apply Kd.S_drewN | apply Kd.S_drew));exact HO0.out⟩,⟨by repeat (first | (with_reducible first | exact HK.out | apply Kept.alloc | apply Kept.drewN | apply Kept.drew) | exact HK.out)⟩,⟨zl_ HB⟩⟩
 case round =>
  clear H'
  try clear c2
  try clear p2
  obtain ⟨x0_1,x1_1,x5_1,rfl,rfl,HA,HK1,HO_0,HK,HB⟩ := hrel
  cases gk with
  | zero => exact absurd HA.out (by simp [laws_markLockS.l0])
  | succ k1 =>
   have H := HA.out
   clear HA
   simp only [laws_markLockS.l0] at H
   by_cases c3 : x5_1 < (x0_1.length : Int)
   ·rw [if_pos c3] at H
    have c3b0 : decide (x5_1 < (x0_1.length : Int)) = true := decide_eq_true c3
    clear c3
    replace H := Option.bind_eq_some_iff.mp H
    obtain ⟨t389,A40,H⟩ := H
    try dsimp only at H
    have A4 := am_ A40
    clear A40
    by_cases c5 : 0 ≤ x5_1
    ·rw [if_pos c5] at H
     have c5b0 : decide (0 ≤ x5_1) = true := decide_eq_true c5
     clear c5
     obtain ⟨y390,hy390⟩ : ∃ y_ : List (S78),y_ = (x0_1.set (x5_1 : Int).toNat (⟨t389,(rd_T78 x0_1 x5_1).f1,(rd_T78 x0_1 x5_1).f2,(rd_T78 x0_1 x5_1).f3,(rd_T78 x0_1 x5_1).f4⟩ : S78)) := ⟨_,rfl⟩
     replace H : ((some (y390.set (x5_1 : Int).toNat (⟨(rd_T78 y390 x5_1).f0,wrap64 (x1_1 + 1),(rd_T78 y390 x5_1).f2,(rd_T78 y390 x5_1).f3,(rd_T78 y390 x5_1).f4⟩ : S78) : List (S78))).bind fun y391 => ((some (y391.set (x5_1 : Int).toNat (⟨(rd_T78 y391 x5_1).f0,(rd_T78 y391 x5_1).f1,wrap64 ((wrap64 (x1_1 + 1)) + 1),(rd_T78 y391 x5_1).f3,(rd_T78 y391 x5_1).f4⟩ : S78) : List (S78))).bind fun y392 => ((some (y392.set (x5_1 : Int).toNat (⟨(rd_T78 y392 x5_1).f0,(rd_T78 y392 x5_1).f1,(rd_T78 y392 x5_1).f2,wrap64 ((wrap64 ((wrap64 (x1_1 + 1)) + 1)) + 1),(rd_T78 y392 x5_1).f4⟩ : S78) : List (S78))).bind fun y9_ => ((laws_markWaiterS.f k1 ((rd_T78 y9_ x5_1).f4) (wrap64 ((wrap64 ((wrap64 ((wrap64 (x1_1 + 1)) + 1)) + 1)) + 1))).bind fun bw_ => (laws_markLockS.l0 k1 (y9_.set (x5_1 : Int).toNat (⟨(rd_T78 y9_ x5_1).f0,(rd_T78 y9_ x5_1).f1,(rd_T78 y9_ x5_1).f2,(rd_T78 y9_ x5_1).f3,bw_.2⟩ : S78)) bw_.1 (wrap64 (x5_1 + 1))))))) = some (r1,r2) := by first | (rw [hy390];with_reducible exact H) | (have H2_ := (Option.bind_some _ _).symm.trans H;rw [hy390];with_reducible exact H2_) | (have H2_ := (Option.bind_some _ _).symm.trans H;with_reducible exact H2_) | with_reducible exact H | (rw [hy390];exact H) | exact H
     have Ny390 := am_ hy390
     clear hy390
     obtain ⟨y391,hy391⟩ : ∃ y_ : List (S78),y_ = (y390.set (x5_1 : Int).toNat (⟨(rd_T78 y390 x5_1).f0,wrap64 (x1_1 + 1),(rd_T78 y390 x5_1).f2,(rd_T78 y390 x5_1).f3,(rd_T78 y390 x5_1).f4⟩ : S78)) := ⟨_,rfl⟩
     replace H : ((some (y391.set (x5_1 : Int).toNat (⟨(rd_T78 y391 x5_1).f0,(rd_T78 y391 x5_1).f1,wrap64 ((wrap64 (x1_1 + 1)) + 1),(rd_T78 y391 x5_1).f3,(rd_T78 y391 x5_1).f4⟩ : S78) : List (S78))).bind fun y392 => ((some (y392.set (x5_1 : Int).toNat (⟨(rd_T78 y392 x5_1).f0,(rd_T78 y392 x5_1).f1,(rd_T78 y392 x5_1).f2,wrap64 ((wrap64 ((wrap64 (x1_1 + 1)) + 1)) + 1),(rd_T78 y392 x5_1).f4⟩ : S78) : List (S78))).bind fun y9_ => ((laws_markWaiterS.f k1 ((rd_T78 y9_ x5_1).f4) (wrap64 ((wrap64 ((wrap64 ((wrap64 (x1_1 + 1)) + 1)) + 1)) + 1))).bind fun bw_ => (laws_markLockS.l0 k1 (y9_.set (x5_1 : Int).toNat (⟨(rd_T78 y9_ x5_1).f0,(rd_T78 y9_ x5_1).f1,(rd_T78 y9_ x5_1).f2,(rd_T78 y9_ x5_1).f3,bw_.2⟩ : S78)) bw_.1 (wrap64 (x5_1 + 1)))))) = some (r1,r2) := by first | (rw [hy391];with_reducible exact H) | (have H2_ := (Option.bind_some _ _).symm.trans H;rw [hy391];with_reducible exact H2_) | (have H2_ := (Option.bind_some _ _).symm.trans H;with_reducible exact H2_) | with_reducible exact H | (rw [hy391];exact H) | exact H
     have Ny391 := am_ hy391
     clear hy391
     obtain ⟨y392,hy392⟩ : ∃ y_ : List (S78),y_ = (y391.set (x5_1 : Int).toNat (⟨(rd_T78 y391 x5_1).f0,(rd_T78 y391 x5_1).f1,wrap64 ((wrap64 (x1_1 + 1)) + 1),(rd_T78 y391 x5_1).f3,(rd_T78 y391 x5_1).f4⟩ : S78)) := ⟨_,rfl⟩
     replace H : ((some (y392.set (x5_1 : Int).toNat (⟨(rd_T78 y392 x5_1).f0,(rd_T78 y392 x5_1).f1,(rd_T78 y392 x5_1).f2,wrap64 ((wrap64 ((wrap64 (x1_1 + 1)) + 1)) + 1),(rd_T78 y392 x5_1).f4⟩ : S78) : List (S78))).bind fun y9_ => ((laws_markWaiterS.f k1 ((rd_T78 y9_ x5_1).f4) (wrap64 ((wrap64 ((wrap64 ((wrap64 (x1_1 + 1)) + 1)) + 1)) + 1))).bind fun bw_ => (laws_markLockS.l0 k1 (y9_.set (x5_1 : Int).toNat (⟨(rd_T78 y9_ x5_1).f0,(rd_T78 y9_ x5_1).f1,(rd_T78 y9_ x5_1).f2,(rd_T78 y9_ x5_1).f3,bw_.2⟩ : S78)) bw_.1 (wrap64 (x5_1 + 1))))) = some (r1,r2) := by first | (rw [hy392];with_reducible exact H) | (have H2_ := (Option.bind_some _ _).symm.trans H;rw [hy392];with_reducible exact H2_) | (have H2_ := (Option.bind_some _ _).symm.trans H;with_reducible exact H2_) | with_reducible exact H | (rw [hy392];exact H) | exact H
     have Ny392 := am_ hy392
     clear hy392
     obtain ⟨y393,hy393⟩ : ∃ y_ : List (S78),y_ = (y392.set (x5_1 : Int).toNat (⟨(rd_T78 y392 x5_1).f0,(rd_T78 y392 x5_1).f1,(rd_T78 y392 x5_1).f2,wrap64 ((wrap64 ((wrap64 (x1_1 + 1)) + 1)) + 1),(rd_T78 y392 x5_1).f4⟩ : S78)) := ⟨_,rfl⟩
     replace H : ((laws_markWaiterS.f k1 ((rd_T78 y393 x5_1).f4) (wrap64 ((wrap64 ((wrap64 ((wrap64 (x1_1 + 1)) + 1)) + 1)) + 1))).bind fun bw_ => (laws_markLockS.l0 k1 (y393.set (x5_1 : Int).toNat (⟨(rd_T78 y393 x5_1).f0,(rd_T78 y393 x5_1).f1,(rd_T78 y393 x5_1).f2,(rd_T78 y393 x5_1).f3,bw_.2⟩ : S78)) bw_.1 (wrap64 (x5_1 + 1)))) = some (r1,r2) := by first | (rw [hy393];with_reducible exact H) | (have H2_ := (Option.bind_some _ _).symm.trans H;rw [hy393];with_reducible exact H2_) | (have H2_ := (Option.bind_some _ _).symm.trans H;with_reducible exact H2_) | with_reducible exact H | (rw [hy393];exact H) | exact H
     have Ny393 := am_ hy393
     clear hy393
     replace H := Option.bind_eq_some_iff.mp H
     obtain ⟨⟨kw_,lw_⟩,AW0_,H⟩ := H
     have AW_ := am_ AW0_
     clear AW0_
     obtain ⟨y4_,hy4_⟩ : ∃ y_ : List (S78),y_ = (y393.set (x5_1 : Int).toNat (⟨(rd_T78 y393 x5_1).f0,(rd_T78 y393 x5_1).f1,(rd_T78 y393 x5_1).f2,(rd_T78 y393 x5_1).f3,lw_⟩ : S78)) := ⟨_,rfl⟩
     replace H : (laws_markLockS.l0 k1 y4_ kw_ (wrap64 (x5_1 + 1))) = some (r1,r2) := by rw [hy4_];exact H
     have Ny4_ := am_ hy4_
     clear hy4_
     have H' := am_ H
     clear H
     obtain ⟨Ao10,co10,eo10⟩ := Kd.S_slice HO_0.out
     subst eo10
     go_wp2_with (first | ((with_reducible refine gate_callee (f := 55) rfl ?_);refine zgl (some 15) Try.func55 #[.int .i64 x1_1] ?_;(with_reducible refine (laws_markText.calls k1 x1_1 t389 _ A4.out).mono ?_);rintro e w11 ⟨rfl,hb⟩;refine ⟨_,rfl,?_⟩;replace HO_0 := am_ (Kd.S_below (by (with_reducible repeat (first | apply Kd.S_alloc | apply Kd.S_drewN | apply Kd.S_drew));exact HO_0.out) hb);replace HK := am_ (Kept.below (S := (fun k_ => P0_ k_)) (by repeat (first | (with_reducible first | exact HK.out | apply Kept.alloc | apply Kept.drewN | apply Kept.drew) | exact HK.out)) hb);replace HB := zs_ HB hb;(try clear hb);(try clear hb2);(try clear hk);(try clear hi);have p6 : 0 ≤ (x5_1 : Int) := zo_;have q6 : (x5_1 : Int) < ((x0_1.length : Int) : Int) := zo_;obtain ⟨go6,co6,eo6,gb6,gl6,cl6,HG6⟩ := Kd.S_form HO_0.out (by omega);(first | cases eo6 | (injection eo6 with ea_ en_ ec_;(first | subst ea_ | (injection ea_ with ea_;subst ea_));subst ec_;clear en_));have GB6 := am_ gb6;have GG6 := am_ HG6;clear gb6 gl6 HG6;have HMgo6 := am_ (show (P0_ go6 ∨ w.heap.size ≤ go6) from ((Kd.S_R HO_0.out).1 _ rfl));obtain ⟨_,ce6,hcl6,hM6,hcc6,hfr6,_,_⟩ := Kd.S_elem HO_0.out z78 (x5_1 : Int) p6 q6;obtain ⟨ve6_4,rfl,ge6_4⟩ := k78_openM hM6;have hx6_0 : w11.cell? ⟨go6,(x5_1 : Int).toNat * 5,none⟩ = some (.string ((rd_T78 x0_1 x5_1).f0)) := hcc6 0 _ rfl;have hx6_1 : w11.cell? ⟨go6,(x5_1 : Int).toNat * 5 + 1,none⟩ = some (.int .i64 ((rd_T78 x0_1 x5_1).f1)) := hcc6 1 _ rfl;have hx6_2 : w11.cell? ⟨go6,(x5_1 : Int).toNat * 5 + 2,none⟩ = some (.int .i64 ((rd_T78 x0_1 x5_1).f2)) := hcc6 2 _ rfl;have hx6_3 : w11.cell? ⟨go6,(x5_1 : Int).toNat * 5 + 3,none⟩ = some (.int .i64 ((rd_T78 x0_1 x5_1).f3)) := hcc6 3 _ rfl;have hx6_4 : w11.cell? ⟨go6,(x5_1 : Int).toNat * 5 + 4,none⟩ = some (ve6_4) := hcc6 4 _ rfl;have hf6_0 : w11.frozen? ⟨go6,(x5_1 : Int).toNat * 5,none⟩ = false := hfr6 0;have hf6_1 : w11.frozen? ⟨go6,(x5_1 : Int).toNat * 5 + 1,none⟩ = false := hfr6 1;have hf6_2 : w11.frozen? ⟨go6,(x5_1 : Int).toNat * 5 + 2,none⟩ = false := hfr6 2;have hf6_3 : w11.frozen? ⟨go6,(x5_1 : Int).toNat * 5 + 3,none⟩ = false := hfr6 3;have hf6_4 : w11.frozen? ⟨go6,(x5_1 : Int).toNat * 5 + 4,none⟩ = false := hfr6 4;clear hcl6 hcc6 hfr6 hM6;replace p6 := eq_true p6;replace q6 := eq_true q6;have HX12 := am_ (show Kd.S k78 78 w11 w0.heap.size (fun k_ => ((fun k_ => (P0_ k_ ∨ w.heap.size ≤ k_))) k_ ∧ ¬ ((fun _ => False)) k_) (.slice (some ⟨go6,0,none⟩) x0_1.length co10) x0_1 from (by (with_reducible repeat (first | apply Kd.S_alloc | apply Kd.S_drewN | apply Kd.S_drew));exact Kd.S_mono HO_0.out (fun k_ hk => ⟨hk,fun e_ => e_⟩)));obtain ⟨oki12,ce12,hcl12,hM12,hcc12,hfr12,hoki12,hH12⟩ := Kd.S_elem HX12.out z78 (x5_1 : Int) (zo_) (by have h_ : (x5_1 : Int) < ((x0_1.length : Int) : Int) := zo_;first | exact h_ | (have e_ := (Kd.S_reads' HO_0.out).1;omega) | simpa using h_);obtain ⟨ve12_4,rfl,ge12_4⟩ := k78_openM hM12;have HP12 := Kd.S_seg hH12 (zo_) (by have h_ : (x5_1 : Int) < ((x0_1.length : Int) : Int) := zo_;first | exact h_ | (have e_ := (Kd.S_reads' HO_0.out).1;omega) | simpa using h_) (seg := [.string t389]) (j := 0) (show 1 ≤ 5 from by decide) (x' := (⟨t389,(rd_T78 x0_1 x5_1).f1,(rd_T78 x0_1 x5_1).f2,(rd_T78 x0_1 x5_1).f3,(rd_T78 x0_1 x5_1).f4⟩ : S78)) (k78_mkM _ _ _ (⟨t389,(rd_T78 x0_1 x5_1).f1,(rd_T78 x0_1 x5_1).f2,(rd_T78 x0_1 x5_1).f3,(rd_T78 x0_1 x5_1).f4⟩ : S78) (Kd.R_mono ge12_4 (fun _ h_ => Or.inl h_))) (fun _ hk => hk) (fun k_ hk_ => hk_.elim);have hx12_0 := hcc12 0 _ rfl;(try simp only [show (k78).sz = 5 from rfl,Nat.mul_one,Nat.add_zero] at hx12_0);have hf12_0 := hfr12 0;(try simp only [show (k78).sz = 5 from rfl,Nat.mul_one,Nat.add_zero] at hf12_0);clear hcl12 hcc12 hfr12 hM12 hoki12 hH12) | ((with_reducible refine gate_store (t := 9) (p := 17) rfl ?_);refine store_event (t := 9) (p := 17) (v := ?vo_w13) (w1 := (w11.setCell ⟨go6,(x5_1 : Int).toNat * 5,none⟩ (.string t389))) ?hg ?ho ?hn ?hr ?_;(case ho => rfl);(case hg => rfl);(case hn => rfl);(case hr => first | (go_simp;done) | (go_simp;rfl));intro w13 hw;have hg : w11.grownBy w13 (some go6) := (by rw [hw];exact HP12.2);have hp_ : Kd.S k78 78 w13 w0.heap.size (fun k_ => (P0_ k_ ∨ w.heap.size ≤ k_)) (.slice (some ⟨go6,0,none⟩) x0_1.length co10) y390 := (by rw [hw,Ny390.out];exact HP12.1);clear HP12;replace HB := am_ ((by rw [hw];exact below_set (HB.out) GB6.out : Below w0.heap.size w0 w13));replace HK := am_ (Kept.of_grown (S := (fun k_ => P0_ k_)) hg (by repeat (first | (with_reducible first | exact HK.out | apply Kept.alloc | apply Kept.drewN | apply Kept.drew) | exact HK.out)) (fun k_ e_ => ((Kd.S_R HO_0.out).1 k_ e_)));replace HO_0 := am_ (hp_);clear hg hw hp_;have p7 : 0 ≤ (x5_1 : Int) := zo_;have q7 : (x5_1 : Int) < ((x0_1.length : Int) : Int) := zo_;obtain ⟨_,ce7,hcl7,hM7,hcc7,hfr7,_,_⟩ := Kd.S_elem HO_0.out z78 (x5_1 : Int) p7 q7;obtain ⟨ve7_4,rfl,ge7_4⟩ := k78_openM hM7;have hx7_0 : w13.cell? ⟨go6,(x5_1 : Int).toNat * 5,none⟩ = some (.string ((rd_T78 y390 x5_1).f0)) := hcc7 0 _ rfl;have hx7_1 : w13.cell? ⟨go6,(x5_1 : Int).toNat * 5 + 1,none⟩ = some (.int .i64 ((rd_T78 y390 x5_1).f1)) := hcc7 1 _ rfl;have hx7_2 : w13.cell? ⟨go6,(x5_1 : Int).toNat * 5 + 2,none⟩ = some (.int .i64 ((rd_T78 y390 x5_1).f2)) := hcc7 2 _ rfl;have hx7_3 : w13.cell? ⟨go6,(x5_1 : Int).toNat * 5 + 3,none⟩ = some (.int .i64 ((rd_T78 y390 x5_1).f3)) := hcc7 3 _ rfl;have hx7_4 : w13.cell? ⟨go6,(x5_1 : Int).toNat * 5 + 4,none⟩ = some (ve7_4) := hcc7 4 _ rfl;have hf7_0 : w13.frozen? ⟨go6,(x5_1 : Int).toNat * 5,none⟩ = false := hfr7 0;have hf7_1 : w13.frozen? ⟨go6,(x5_1 : Int).toNat * 5 + 1,none⟩ = false := hfr7 1;have hf7_2 : w13.frozen? ⟨go6,(x5_1 : Int).toNat * 5 + 2,none⟩ = false := hfr7 2;have hf7_3 : w13.frozen? ⟨go6,(x5_1 : Int).toNat * 5 + 3,none⟩ = false := hfr7 3;have hf7_4 : w13.frozen? ⟨go6,(x5_1 : Int).toNat * 5 + 4,none⟩ = false := hfr7 4;clear hcl7 hcc7 hfr7 hM7;replace p7 := eq_true p7;replace q7 := eq_true q7;have HX14 := am_ (show Kd.S k78 78 w13 w0.heap.size (fun k_ => ((fun k_ => (P0_ k_ ∨ w.heap.size ≤ k_))) k_ ∧ ¬ ((fun _ => False)) k_) (.slice (some ⟨go6,0,none⟩) x0_1.length co10) y390 from (by (with_reducible repeat (first | apply Kd.S_alloc | apply Kd.S_drewN | apply Kd.S_drew));exact Kd.S_mono HO_0.out (fun k_ hk => ⟨hk,fun e_ => e_⟩)));obtain ⟨oki14,ce14,hcl14,hM14,hcc14,hfr14,hoki14,hH14⟩ := Kd.S_elem HX14.out z78 (x5_1 : Int) (zo_) (by have h_ : (x5_1 : Int) < ((x0_1.length : Int) : Int) := zo_;first | exact h_ | (have e_ := (Kd.S_reads' HO_0.out).1;omega) | simpa using h_);obtain ⟨ve14_4,rfl,ge14_4⟩ := k78_openM hM14;have HP14 := Kd.S_seg hH14 (zo_) (by have h_ : (x5_1 : Int) < ((x0_1.length : Int) : Int) := zo_;first | exact h_ | (have e_ := (Kd.S_reads' HO_0.out).1;omega) | simpa using h_) (seg := [.int .i64 (wrap64 (x1_1 + 1))]) (j := 1) (show 2 ≤ 5 from by decide) (x' := (⟨(rd_T78 y390 x5_1).f0,wrap64 (x1_1 + 1),(rd_T78 y390 x5_1).f2,(rd_T78 y390 x5_1).f3,(rd_T78 y390 x5_1).f4⟩ : S78)) (k78_mkM _ _ _ (⟨(rd_T78 y390 x5_1).f0,wrap64 (x1_1 + 1),(rd_T78 y390 x5_1).f2,(rd_T78 y390 x5_1).f3,(rd_T78 y390 x5_1).f4⟩ : S78) (Kd.R_mono ge14_4 (fun _ h_ => Or.inl h_))) (fun _ hk => hk) (fun k_ hk_ => hk_.elim);have hx14_1 := hcc14 1 _ rfl;(try simp only [show (k78).sz = 5 from rfl,Nat.mul_one,Nat.add_zero] at hx14_1);have hf14_1 := hfr14 1;(try simp only [show (k78).sz = 5 from rfl,Nat.mul_one,Nat.add_zero] at hf14_1);clear hcl14 hcc14 hfr14 hM14 hoki14 hH14) | ((with_reducible refine gate_store (t := 3) (p := 24) rfl ?_);refine store_event (t := 3) (p := 24) (v := ?vo_w15) (w1 := (w13.setCell ⟨go6,(x5_1 : Int).toNat * 5 + 1,none⟩ (.int .i64 (wrap64 (x1_1 + 1))))) ?hg ?ho ?hn ?hr ?_;(case ho => rfl);(case hg => rfl);(case hn => rfl);(case hr => first | (go_simp;done) | (go_simp;rfl));intro w15 hw;have hg : w13.grownBy w15 (some go6) := (by rw [hw];exact HP14.2);have hp_ : Kd.S k78 78 w15 w0.heap.size (fun k_ => (P0_ k_ ∨ w.heap.size ≤ k_)) (.slice (some ⟨go6,0,none⟩) x0_1.length co10) y391 := (by rw [hw,Ny391.out];exact HP14.1);clear HP14;replace HB := am_ ((by rw [hw];exact below_set (HB.out) GB6.out : Below w0.heap.size w0 w15));replace HK := am_ (Kept.of_grown (S := (fun k_ => P0_ k_)) hg (by repeat (first | (with_reducible first | exact HK.out | apply Kept.alloc | apply Kept.drewN | apply Kept.drew) | exact HK.out)) (fun k_ e_ => ((Kd.S_R HO_0.out).1 k_ e_)));replace HO_0 := am_ (hp_);clear hg hw hp_;have p8 : 0 ≤ (x5_1 : Int) := zo_;have q8 : (x5_1 : Int) < ((x0_1.length : Int) : Int) := zo_;obtain ⟨_,ce8,hcl8,hM8,hcc8,hfr8,_,_⟩ := Kd.S_elem HO_0.out z78 (x5_1 : Int) p8 q8;obtain ⟨ve8_4,rfl,ge8_4⟩ := k78_openM hM8;have hx8_0 : w15.cell? ⟨go6,(x5_1 : Int).toNat * 5,none⟩ = some (.string ((rd_T78 y391 x5_1).f0)) := hcc8 0 _ rfl;have hx8_1 : w15.cell? ⟨go6,(x5_1 : Int).toNat * 5 + 1,none⟩ = some (.int .i64 ((rd_T78 y391 x5_1).f1)) := hcc8 1 _ rfl;have hx8_2 : w15.cell? ⟨go6,(x5_1 : Int).toNat * 5 + 2,none⟩ = some (.int .i64 ((rd_T78 y391 x5_1).f2)) := hcc8 2 _ rfl;have hx8_3 : w15.cell? ⟨go6,(x5_1 : Int).toNat * 5 + 3,none⟩ = some (.int .i64 ((rd_T78 y391 x5_1).f3)) := hcc8 3 _ rfl;have hx8_4 : w15.cell? ⟨go6,(x5_1 : Int).toNat * 5 + 4,none⟩ = some (ve8_4) := hcc8 4 _ rfl;have hf8_0 : w15.frozen? ⟨go6,(x5_1 : Int).toNat * 5,none⟩ = false := hfr8 0;have hf8_1 : w15.frozen? ⟨go6,(x5_1 : Int).toNat * 5 + 1,none⟩ = false := hfr8 1;have hf8_2 : w15.frozen? ⟨go6,(x5_1 : Int).toNat * 5 + 2,none⟩ = false := hfr8 2;have hf8_3 : w15.frozen? ⟨go6,(x5_1 : Int).toNat * 5 + 3,none⟩ = false := hfr8 3;have hf8_4 : w15.frozen? ⟨go6,(x5_1 : Int).toNat * 5 + 4,none⟩ = false := hfr8 4;clear hcl8 hcc8 hfr8 hM8;replace p8 := eq_true p8;replace q8 := eq_true q8;have HX16 := am_ (show Kd.S k78 78 w15 w0.heap.size (fun k_ => ((fun k_ => (P0_ k_ ∨ w.heap.size ≤ k_))) k_ ∧ ¬ ((fun _ => False)) k_) (.slice (some ⟨go6,0,none⟩) x0_1.length co10) y391 from (by (with_reducible repeat (first | apply Kd.S_alloc | apply Kd.S_drewN | apply Kd.S_drew));exact Kd.S_mono HO_0.out (fun k_ hk => ⟨hk,fun e_ => e_⟩)));obtain ⟨oki16,ce16,hcl16,hM16,hcc16,hfr16,hoki16,hH16⟩ := Kd.S_elem HX16.out z78 (x5_1 : Int) (zo_) (by have h_ : (x5_1 : Int) < ((x0_1.length : Int) : Int) := zo_;first | exact h_ | (have e_ := (Kd.S_reads' HO_0.out).1;omega) | simpa using h_);obtain ⟨ve16_4,rfl,ge16_4⟩ := k78_openM hM16;have HP16 := Kd.S_seg hH16 (zo_) (by have h_ : (x5_1 : Int) < ((x0_1.length : Int) : Int) := zo_;first | exact h_ | (have e_ := (Kd.S_reads' HO_0.out).1;omega) | simpa using h_) (seg := [.int .i64 (wrap64 ((wrap64 (x1_1 + 1)) + 1))]) (j := 2) (show 3 ≤ 5 from by decide) (x' := (⟨(rd_T78 y391 x5_1).f0,(rd_T78 y391 x5_1).f1,wrap64 ((wrap64 (x1_1 + 1)) + 1),(rd_T78 y391 x5_1).f3,(rd_T78 y391 x5_1).f4⟩ : S78)) (k78_mkM _ _ _ (⟨(rd_T78 y391 x5_1).f0,(rd_T78 y391 x5_1).f1,wrap64 ((wrap64 (x1_1 + 1)) + 1),(rd_T78 y391 x5_1).f3,(rd_T78 y391 x5_1).f4⟩ : S78) (Kd.R_mono ge16_4 (fun _ h_ => Or.inl h_))) (fun _ hk => hk) (fun k_ hk_ => hk_.elim);have hx16_2 := hcc16 2 _ rfl;(try simp only [show (k78).sz = 5 from rfl,Nat.mul_one,Nat.add_zero] at hx16_2);have hf16_2 := hfr16 2;(try simp only [show (k78).sz = 5 from rfl,Nat.mul_one,Nat.add_zero] at hf16_2);clear hcl16 hcc16 hfr16 hM16 hoki16 hH16) | ((with_reducible refine gate_store (t := 3) (p := 31) rfl ?_);refine store_event (t := 3) (p := 31) (v := ?vo_w17) (w1 := (w15.setCell ⟨go6,(x5_1 : Int).toNat * 5 + 2,none⟩ (.int .i64 (wrap64 ((wrap64 (x1_1 + 1)) + 1))))) ?hg ?ho ?hn ?hr ?_;(case ho => rfl);(case hg => rfl);(case hn => rfl);(case hr => first | (go_simp;done) | (go_simp;rfl));intro w17 hw;have hg : w15.grownBy w17 (some go6) := (by rw [hw];exact HP16.2);have hp_ : Kd.S k78 78 w17 w0.heap.size (fun k_ => (P0_ k_ ∨ w.heap.size ≤ k_)) (.slice (some ⟨go6,0,none⟩) x0_1.length co10) y392 := (by rw [hw,Ny392.out];exact HP16.1);clear HP16;replace HB := am_ ((by rw [hw];exact below_set (HB.out) GB6.out : Below w0.heap.size w0 w17));replace HK := am_ (Kept.of_grown (S := (fun k_ => P0_ k_)) hg (by repeat (first | (with_reducible first | exact HK.out | apply Kept.alloc | apply Kept.drewN | apply Kept.drew) | exact HK.out)) (fun k_ e_ => ((Kd.S_R HO_0.out).1 k_ e_)));replace HO_0 := am_ (hp_);clear hg hw hp_;have p9 : 0 ≤ (x5_1 : Int) := zo_;have q9 : (x5_1 : Int) < ((x0_1.length : Int) : Int) := zo_;obtain ⟨_,ce9,hcl9,hM9,hcc9,hfr9,_,_⟩ := Kd.S_elem HO_0.out z78 (x5_1 : Int) p9 q9;obtain ⟨ve9_4,rfl,ge9_4⟩ := k78_openM hM9;have hx9_0 : w17.cell? ⟨go6,(x5_1 : Int).toNat * 5,none⟩ = some (.string ((rd_T78 y392 x5_1).f0)) := hcc9 0 _ rfl;have hx9_1 : w17.cell? ⟨go6,(x5_1 : Int).toNat * 5 + 1,none⟩ = some (.int .i64 ((rd_T78 y392 x5_1).f1)) := hcc9 1 _ rfl;have hx9_2 : w17.cell? ⟨go6,(x5_1 : Int).toNat * 5 + 2,none⟩ = some (.int .i64 ((rd_T78 y392 x5_1).f2)) := hcc9 2 _ rfl;have hx9_3 : w17.cell? ⟨go6,(x5_1 : Int).toNat * 5 + 3,none⟩ = some (.int .i64 ((rd_T78 y392 x5_1).f3)) := hcc9 3 _ rfl;have hx9_4 : w17.cell? ⟨go6,(x5_1 : Int).toNat * 5 + 4,none⟩ = some (ve9_4) := hcc9 4 _ rfl;have hf9_0 : w17.frozen? ⟨go6,(x5_1 : Int).toNat * 5,none⟩ = false := hfr9 0;have hf9_1 : w17.frozen? ⟨go6,(x5_1 : Int).toNat * 5 + 1,none⟩ = false := hfr9 1;have hf9_2 : w17.frozen? ⟨go6,(x5_1 : Int).toNat * 5 + 2,none⟩ = false := hfr9 2;have hf9_3 : w17.frozen? ⟨go6,(x5_1 : Int).toNat * 5 + 3,none⟩ = false := hfr9 3;have hf9_4 : w17.frozen? ⟨go6,(x5_1 : Int).toNat * 5 + 4,none⟩ = false := hfr9 4;clear hcl9 hcc9 hfr9 hM9;replace p9 := eq_true p9;replace q9 := eq_true q9;have HX18 := am_ (show Kd.S k78 78 w17 w0.heap.size (fun k_ => ((fun k_ => (P0_ k_ ∨ w.heap.size ≤ k_))) k_ ∧ ¬ ((fun _ => False)) k_) (.slice (some ⟨go6,0,none⟩) x0_1.length co10) y392 from (by (with_reducible repeat (first | apply Kd.S_alloc | apply Kd.S_drewN | apply Kd.S_drew));exact Kd.S_mono HO_0.out (fun k_ hk => ⟨hk,fun e_ => e_⟩)));obtain ⟨oki18,ce18,hcl18,hM18,hcc18,hfr18,hoki18,hH18⟩ := Kd.S_elem HX18.out z78 (x5_1 : Int) (zo_) (by have h_ : (x5_1 : Int) < ((x0_1.length : Int) : Int) := zo_;first | exact h_ | (have e_ := (Kd.S_reads' HO_0.out).1;omega) | simpa using h_);obtain ⟨ve18_4,rfl,ge18_4⟩ := k78_openM hM18;have HP18 := Kd.S_seg hH18 (zo_) (by have h_ : (x5_1 : Int) < ((x0_1.length : Int) : Int) := zo_;first | exact h_ | (have e_ := (Kd.S_reads' HO_0.out).1;omega) | simpa using h_) (seg := [.int .i64 (wrap64 ((wrap64 ((wrap64 (x1_1 + 1)) + 1)) + 1))]) (j := 3) (show 4 ≤ 5 from by decide) (x' := (⟨(rd_T78 y392 x5_1).f0,(rd_T78 y392 x5_1).f1,(rd_T78 y392 x5_1).f2,wrap64 ((wrap64 ((wrap64 (x1_1 + 1)) + 1)) + 1),(rd_T78 y392 x5_1).f4⟩ : S78)) (k78_mkM _ _ _ (⟨(rd_T78 y392 x5_1).f0,(rd_T78 y392 x5_1).f1,(rd_T78 y392 x5_1).f2,wrap64 ((wrap64 ((wrap64 (x1_1 + 1)) + 1)) + 1),(rd_T78 y392 x5_1).f4⟩ : S78) (Kd.R_mono ge18_4 (fun _ h_ => Or.inl h_))) (fun _ hk => hk) (fun k_ hk_ => hk_.elim);have hx18_3 := hcc18 3 _ rfl;(try simp only [show (k78).sz = 5 from rfl,Nat.mul_one,Nat.add_zero] at hx18_3);have hf18_3 := hfr18 3;(try simp only [show (k78).sz = 5 from rfl,Nat.mul_one,Nat.add_zero] at hf18_3);clear hcl18 hcc18 hfr18 hM18 hoki18 hH18) | ((with_reducible refine gate_store (t := 3) (p := 38) rfl ?_);refine store_event (t := 3) (p := 38) (v := ?vo_w19) (w1 := (w17.setCell ⟨go6,(x5_1 : Int).toNat * 5 + 3,none⟩ (.int .i64 (wrap64 ((wrap64 ((wrap64 (x1_1 + 1)) + 1)) + 1))))) ?hg ?ho ?hn ?hr ?_;(case ho => rfl);(case hg => rfl);(case hn => rfl);(case hr => first | (go_simp;done) | (go_simp;rfl));intro w19 hw;have hg : w17.grownBy w19 (some go6) := (by rw [hw];exact HP18.2);have hp_ : Kd.S k78 78 w19 w0.heap.size (fun k_ => (P0_ k_ ∨ w.heap.size ≤ k_)) (.slice (some ⟨go6,0,none⟩) x0_1.length co10) y393 := (by rw [hw,Ny393.out];exact HP18.1);clear HP18;replace HB := am_ ((by rw [hw];exact below_set (HB.out) GB6.out : Below w0.heap.size w0 w19));replace HK := am_ (Kept.of_grown (S := (fun k_ => P0_ k_)) hg (by repeat (first | (with_reducible first | exact HK.out | apply Kept.alloc | apply Kept.drewN | apply Kept.drew) | exact HK.out)) (fun k_ e_ => ((Kd.S_R HO_0.out).1 k_ e_)));replace HO_0 := am_ (hp_);clear hg hw hp_;have HXb_ := HO_0;obtain ⟨okb_,cb_,hclb_,hMb_,hccb_,hokb_,hHb_⟩ := Kd.S_lend HXb_.out z78 (x5_1 : Int) (zo_) (by have h_ : (x5_1 : Int) < ((x0_1.length : Int) : Int) := zo_;first | exact h_ | (have e_ := (Kd.S_reads' HO_0.out).1;omega) | simpa using h_);obtain ⟨vb_,rfl,geb_⟩ := k78_openM hMb_;have hxb_ : w19.cell? ⟨go6,(x5_1 : Int).toNat * 5 + 4,none⟩ = some vb_ := hccb_ 4 _ rfl;have HGb_ := am_ (show Kd.R k80 80 w19 w0.heap.size (fun k_ => vb_.ownBlock = some k_) vb_ ((rd_T78 y393 x5_1).f4) from ml_own geb_);have HOb_ := am_ hokb_;have HHb_ := am_ hHb_;have HE0_ := am_ geb_;clear hclb_ hMb_ hccb_ hokb_ hHb_ geb_ HXb_) | ((with_reducible refine gate_callee (f := 56) rfl ?_);refine zgl (some 47) Try.func56 #[vb_,.int .i64 (wrap64 ((wrap64 ((wrap64 ((wrap64 (x1_1 + 1)) + 1)) + 1)) + 1))] ?_;(with_reducible refine (laws_markWaiterS.calls k1 _ vb_ _ _ kw_ lw_ w0 _ HB.out HGb_.out AW_.out).mono ?_);rintro e w29_ ⟨rfl,hR_,hB_,hK_⟩;refine ⟨_,rfl,?_⟩;have hS_ : Kd.S k78 78 w29_ w0.heap.size (fun k_ => (P0_ k_ ∨ w.heap.size ≤ k_)) (.slice (some ⟨go6,0,none⟩) x0_1.length co10) y4_ := (by rw [Ny4_.out];exact Kd.H_back (Kd.H_kept HHb_.out hK_ (fun k_ _ hn_ e_ => hn_ (HE0_.out.1 k_ e_))) (k78_mkM _ _ _ (⟨(rd_T78 y393 x5_1).f0,(rd_T78 y393 x5_1).f1,(rd_T78 y393 x5_1).f2,(rd_T78 y393 x5_1).f3,lw_⟩ : S78) (ml_ok hR_ HE0_.out.1)) (fun _ h_ => h_));replace HK := am_ (Kept.then_ (S := (fun k_ => P0_ k_)) HK.out hK_ (fun k_ e_ => (HOb_.out k_ (HE0_.out.1 k_ e_)).1));replace HB := am_ hB_;replace HO_0 := am_ hS_;clear hR_ hB_ hK_ hS_))
     go_roundg k1
     case measure => have := HK1.out;omega
     case rel => exact ⟨(y4_),(kw_),(wrap64 (x5_1 + 1)),(by first | rfl | (simp;done) | (simp [*];done)),(by first | rfl | (simp;done) | (simp [*];done)),H',⟨by have := HK1.out;omega⟩,⟨by (with_reducible repeat (first | apply Kd.S_alloc | apply Kd.S_drewN | apply Kd.S_drew));exact HO_0.out⟩,⟨by repeat (first | (with_reducible first | exact HK.out | apply Kept.alloc | apply Kept.drewN | apply Kept.drew) | exact HK.out)⟩,⟨zl_ HB⟩⟩
    ·rw [if_neg c5] at H
     exact absurd H (by simp)
   ·rw [if_neg c3] at H
    have c3b0 : decide (x5_1 < (x0_1.length : Int)) = false := decide_eq_false c3
    clear c3
    simp only [Option.some.injEq,Prod.mk.injEq] at H
    obtain ⟨rfl,rfl⟩ := H
    obtain ⟨Ao20,co20,eo20⟩ := Kd.S_slice HO_0.out
    subst eo20
    go_wp2
    go_ret
    exact ⟨zt_,by (with_reducible repeat (first | apply Kd.S_alloc | apply Kd.S_drewN | apply Kd.S_drew));exact HO_0.out,zl_ HB,by repeat (first | (with_reducible first | exact HK.out | apply Kept.alloc | apply Kept.drewN | apply Kept.drew) | exact HK.out)⟩
set_option maxHeartbeats 8000000 in
set_option maxRecDepth 100000 in
theorem laws_markSeenS.calls (k : Nat) (P0_ : Nat → Prop) (u9000_ : Value) (l0 : List (S84)) (a1 : Int) (r1 : Int) (r2 : List (S84)) (w0 w : World) (hB : Below w0.heap.size w0 w) (ho0 : Kd.R k84 84 w w0.heap.size P0_ u9000_ l0) (h : laws_markSeenS.f k l0 a1 = some (r1,r2)) :
  Calls Try.prog 26 #[u9000_,.int .i64 a1] w fun e w' => e = .returned (.int .i64 r1) ∧ Kd.R k84 84 w' w0.heap.size (fun k_ => (P0_ k_ ∨ w.heap.size ≤ k_)) u9000_ r2 ∧ Below w0.heap.size w0 w' ∧ Kept w w' (fun k_ => P0_ k_) := by
 have HO0 := am_ (show Kd.R k84 84 w w0.heap.size (fun k_ => (P0_ k_ ∨ w.heap.size ≤ k_)) u9000_ l0 from Kd.R_mono ho0 (fun k_ hk => (.inl hk)))
 have HK := am_ (Kept.refl w (fun k_ => P0_ k_))
 have HW0 := am_ hB.size
 have HB := am_ hB
 clear hB
 have H : (laws_markSeenS.l0 k l0 a1 0) = some (r1,r2) := h
 clear h
 have H' := am_ H
 clear H
 go_enter Try.func26,Try.ntmps26
 go_wp2
 go_loopg [1,5] k (fun kq v1 v5 w' => ∃ (x0_1 : List (S84)) (x1_1 : Int) (x5_1 : Int),v1 = .int .i64 x1_1 ∧ v5 = .int .i64 x5_1 ∧ Aside0 (laws_markSeenS.l0 kq x0_1 x1_1 x5_1 = some (r1,r2)) ∧ Aside0 (kq ≤ k) ∧ Aside0 (Kd.R k84 84 w' w0.heap.size (fun k_ => (P0_ k_ ∨ w.heap.size ≤ k_)) u9000_ x0_1) ∧ Aside0 (Kept w w' (fun k_ => P0_ k_)) ∧ Aside0 (Below w0.heap.size w0 w'))
 case atStart => exact ⟨(l0),(a1),(0),(by first | rfl | (simp;done) | (simp [*];done)),(by first | rfl | (simp;done) | (simp [*];done)),H',⟨Nat.le_refl _⟩,⟨zr HO0⟩,⟨by repeat (first | (with_reducible first | exact HK.out | apply Kept.alloc | apply Kept.drewN | apply Kept.drew) | exact HK.out)⟩,⟨zl_ HB⟩⟩
 case round =>
  clear H'
  try clear c2
  try clear p2
  obtain ⟨x0_1,x1_1,x5_1,rfl,rfl,HA,HK1,HO_0,HK,HB⟩ := hrel
  cases gk with
  | zero => exact absurd HA.out (by simp [laws_markSeenS.l0])
  | succ k1 =>
   have H := HA.out
   clear HA
   simp only [laws_markSeenS.l0] at H
   by_cases c3 : x5_1 < (x0_1.length : Int)
   ·rw [if_pos c3] at H
    have c3b0 : decide (x5_1 < (x0_1.length : Int)) = true := decide_eq_true c3
    clear c3
    by_cases c4 : 0 ≤ x5_1
    ·rw [if_pos c4] at H
     have c4b0 : decide (0 ≤ x5_1) = true := decide_eq_true c4
     clear c4
     obtain ⟨y394,hy394⟩ : ∃ y_ : List (S84),y_ = (x0_1.set (x5_1 : Int).toNat (⟨x1_1,(rd_T84 x0_1 x5_1).f1,(⟨(rd_T84 x0_1 x5_1).f2.f0,(rd_T84 x0_1 x5_1).f2.f1,(rd_T84 x0_1 x5_1).f2.f2,(rd_T84 x0_1 x5_1).f2.f3⟩ : S82)⟩ : S84)) := ⟨_,rfl⟩
     replace H : ((some (y394.set (x5_1 : Int).toNat (⟨(rd_T84 y394 x5_1).f0,wrap64 (x1_1 + 1),(⟨(rd_T84 y394 x5_1).f2.f0,(rd_T84 y394 x5_1).f2.f1,(rd_T84 y394 x5_1).f2.f2,(rd_T84 y394 x5_1).f2.f3⟩ : S82)⟩ : S84) : List (S84))).bind fun y395 => ((some (y395.set (x5_1 : Int).toNat (⟨(rd_T84 y395 x5_1).f0,(rd_T84 y395 x5_1).f1,(⟨wrap64 ((wrap64 (x1_1 + 1)) + 1),(rd_T84 y395 x5_1).f2.f1,(rd_T84 y395 x5_1).f2.f2,(rd_T84 y395 x5_1).f2.f3⟩ : S82)⟩ : S84) : List (S84))).bind fun y396 => ((some (y396.set (x5_1 : Int).toNat (⟨(rd_T84 y396 x5_1).f0,(rd_T84 y396 x5_1).f1,(⟨(rd_T84 y396 x5_1).f2.f0,wrap64 ((wrap64 ((wrap64 (x1_1 + 1)) + 1)) + 1),(rd_T84 y396 x5_1).f2.f2,(rd_T84 y396 x5_1).f2.f3⟩ : S82)⟩ : S84) : List (S84))).bind fun y397 => ((some (y397.set (x5_1 : Int).toNat (⟨(rd_T84 y397 x5_1).f0,(rd_T84 y397 x5_1).f1,(⟨(rd_T84 y397 x5_1).f2.f0,(rd_T84 y397 x5_1).f2.f1,wrap64 ((wrap64 ((wrap64 ((wrap64 (x1_1 + 1)) + 1)) + 1)) + 1),(rd_T84 y397 x5_1).f2.f3⟩ : S82)⟩ : S84) : List (S84))).bind fun y398 => (laws_markSeenS.l0 k1 (y398.set (x5_1 : Int).toNat (⟨(rd_T84 y398 x5_1).f0,(rd_T84 y398 x5_1).f1,(⟨(rd_T84 y398 x5_1).f2.f0,(rd_T84 y398 x5_1).f2.f1,(rd_T84 y398 x5_1).f2.f2,wrap64 ((wrap64 ((wrap64 ((wrap64 ((wrap64 (x1_1 + 1)) + 1)) + 1)) + 1)) + 1)⟩ : S82)⟩ : S84)) (wrap64 ((wrap64 ((wrap64 ((wrap64 ((wrap64 ((wrap64 (x1_1 + 1)) + 1)) + 1)) + 1)) + 1)) + 1)) (wrap64 (x5_1 + 1))))))) = some (r1,r2) := by first | (rw [hy394];with_reducible exact H) | (have H2_ := (Option.bind_some _ _).symm.trans H;rw [hy394];with_reducible exact H2_) | (have H2_ := (Option.bind_some _ _).symm.trans H;with_reducible exact H2_) | with_reducible exact H | (rw [hy394];exact H) | exact H
     have Ny394 := am_ hy394
     clear hy394
     obtain ⟨y395,hy395⟩ : ∃ y_ : List (S84),y_ = (y394.set (x5_1 : Int).toNat (⟨(rd_T84 y394 x5_1).f0,wrap64 (x1_1 + 1),(⟨(rd_T84 y394 x5_1).f2.f0,(rd_T84 y394 x5_1).f2.f1,(rd_T84 y394 x5_1).f2.f2,(rd_T84 y394 x5_1).f2.f3⟩ : S82)⟩ : S84)) := ⟨_,rfl⟩
     replace H : ((some (y395.set (x5_1 : Int).toNat (⟨(rd_T84 y395 x5_1).f0,(rd_T84 y395 x5_1).f1,(⟨wrap64 ((wrap64 (x1_1 + 1)) + 1),(rd_T84 y395 x5_1).f2.f1,(rd_T84 y395 x5_1).f2.f2,(rd_T84 y395 x5_1).f2.f3⟩ : S82)⟩ : S84) : List (S84))).bind fun y396 => ((some (y396.set (x5_1 : Int).toNat (⟨(rd_T84 y396 x5_1).f0,(rd_T84 y396 x5_1).f1,(⟨(rd_T84 y396 x5_1).f2.f0,wrap64 ((wrap64 ((wrap64 (x1_1 + 1)) + 1)) + 1),(rd_T84 y396 x5_1).f2.f2,(rd_T84 y396 x5_1).f2.f3⟩ : S82)⟩ : S84) : List (S84))).bind fun y397 => ((some (y397.set (x5_1 : Int).toNat (⟨(rd_T84 y397 x5_1).f0,(rd_T84 y397 x5_1).f1,(⟨(rd_T84 y397 x5_1).f2.f0,(rd_T84 y397 x5_1).f2.f1,wrap64 ((wrap64 ((wrap64 ((wrap64 (x1_1 + 1)) + 1)) + 1)) + 1),(rd_T84 y397 x5_1).f2.f3⟩ : S82)⟩ : S84) : List (S84))).bind fun y398 => (laws_markSeenS.l0 k1 (y398.set (x5_1 : Int).toNat (⟨(rd_T84 y398 x5_1).f0,(rd_T84 y398 x5_1).f1,(⟨(rd_T84 y398 x5_1).f2.f0,(rd_T84 y398 x5_1).f2.f1,(rd_T84 y398 x5_1).f2.f2,wrap64 ((wrap64 ((wrap64 ((wrap64 ((wrap64 (x1_1 + 1)) + 1)) + 1)) + 1)) + 1)⟩ : S82)⟩ : S84)) (wrap64 ((wrap64 ((wrap64 ((wrap64 ((wrap64 ((wrap64 (x1_1 + 1)) + 1)) + 1)) + 1)) + 1)) + 1)) (wrap64 (x5_1 + 1)))))) = some (r1,r2) := by first | (rw [hy395];with_reducible exact H) | (have H2_ := (Option.bind_some _ _).symm.trans H;rw [hy395];with_reducible exact H2_) | (have H2_ := (Option.bind_some _ _).symm.trans H;with_reducible exact H2_) | with_reducible exact H | (rw [hy395];exact H) | exact H
     have Ny395 := am_ hy395
     clear hy395
     obtain ⟨y396,hy396⟩ : ∃ y_ : List (S84),y_ = (y395.set (x5_1 : Int).toNat (⟨(rd_T84 y395 x5_1).f0,(rd_T84 y395 x5_1).f1,(⟨wrap64 ((wrap64 (x1_1 + 1)) + 1),(rd_T84 y395 x5_1).f2.f1,(rd_T84 y395 x5_1).f2.f2,(rd_T84 y395 x5_1).f2.f3⟩ : S82)⟩ : S84)) := ⟨_,rfl⟩
     replace H : ((some (y396.set (x5_1 : Int).toNat (⟨(rd_T84 y396 x5_1).f0,(rd_T84 y396 x5_1).f1,(⟨(rd_T84 y396 x5_1).f2.f0,wrap64 ((wrap64 ((wrap64 (x1_1 + 1)) + 1)) + 1),(rd_T84 y396 x5_1).f2.f2,(rd_T84 y396 x5_1).f2.f3⟩ : S82)⟩ : S84) : List (S84))).bind fun y397 => ((some (y397.set (x5_1 : Int).toNat (⟨(rd_T84 y397 x5_1).f0,(rd_T84 y397 x5_1).f1,(⟨(rd_T84 y397 x5_1).f2.f0,(rd_T84 y397 x5_1).f2.f1,wrap64 ((wrap64 ((wrap64 ((wrap64 (x1_1 + 1)) + 1)) + 1)) + 1),(rd_T84 y397 x5_1).f2.f3⟩ : S82)⟩ : S84) : List (S84))).bind fun y398 => (laws_markSeenS.l0 k1 (y398.set (x5_1 : Int).toNat (⟨(rd_T84 y398 x5_1).f0,(rd_T84 y398 x5_1).f1,(⟨(rd_T84 y398 x5_1).f2.f0,(rd_T84 y398 x5_1).f2.f1,(rd_T84 y398 x5_1).f2.f2,wrap64 ((wrap64 ((wrap64 ((wrap64 ((wrap64 (x1_1 + 1)) + 1)) + 1)) + 1)) + 1)⟩ : S82)⟩ : S84)) (wrap64 ((wrap64 ((wrap64 ((wrap64 ((wrap64 ((wrap64 (x1_1 + 1)) + 1)) + 1)) + 1)) + 1)) + 1)) (wrap64 (x5_1 + 1))))) = some (r1,r2) := by first | (rw [hy396];with_reducible exact H) | (have H2_ := (Option.bind_some _ _).symm.trans H;rw [hy396];with_reducible exact H2_) | (have H2_ := (Option.bind_some _ _).symm.trans H;with_reducible exact H2_) | with_reducible exact H | (rw [hy396];exact H) | exact H
     have Ny396 := am_ hy396
     clear hy396
     obtain ⟨y397,hy397⟩ : ∃ y_ : List (S84),y_ = (y396.set (x5_1 : Int).toNat (⟨(rd_T84 y396 x5_1).f0,(rd_T84 y396 x5_1).f1,(⟨(rd_T84 y396 x5_1).f2.f0,wrap64 ((wrap64 ((wrap64 (x1_1 + 1)) + 1)) + 1),(rd_T84 y396 x5_1).f2.f2,(rd_T84 y396 x5_1).f2.f3⟩ : S82)⟩ : S84)) := ⟨_,rfl⟩
     replace H : ((some (y397.set (x5_1 : Int).toNat (⟨(rd_T84 y397 x5_1).f0,(rd_T84 y397 x5_1).f1,(⟨(rd_T84 y397 x5_1).f2.f0,(rd_T84 y397 x5_1).f2.f1,wrap64 ((wrap64 ((wrap64 ((wrap64 (x1_1 + 1)) + 1)) + 1)) + 1),(rd_T84 y397 x5_1).f2.f3⟩ : S82)⟩ : S84) : List (S84))).bind fun y398 => (laws_markSeenS.l0 k1 (y398.set (x5_1 : Int).toNat (⟨(rd_T84 y398 x5_1).f0,(rd_T84 y398 x5_1).f1,(⟨(rd_T84 y398 x5_1).f2.f0,(rd_T84 y398 x5_1).f2.f1,(rd_T84 y398 x5_1).f2.f2,wrap64 ((wrap64 ((wrap64 ((wrap64 ((wrap64 (x1_1 + 1)) + 1)) + 1)) + 1)) + 1)⟩ : S82)⟩ : S84)) (wrap64 ((wrap64 ((wrap64 ((wrap64 ((wrap64 ((wrap64 (x1_1 + 1)) + 1)) + 1)) + 1)) + 1)) + 1)) (wrap64 (x5_1 + 1)))) = some (r1,r2) := by first | (rw [hy397];with_reducible exact H) | (have H2_ := (Option.bind_some _ _).symm.trans H;rw [hy397];with_reducible exact H2_) | (have H2_ := (Option.bind_some _ _).symm.trans H;with_reducible exact H2_) | with_reducible exact H | (rw [hy397];exact H) | exact H
     have Ny397 := am_ hy397
     clear hy397
     obtain ⟨y398,hy398⟩ : ∃ y_ : List (S84),y_ = (y397.set (x5_1 : Int).toNat (⟨(rd_T84 y397 x5_1).f0,(rd_T84 y397 x5_1).f1,(⟨(rd_T84 y397 x5_1).f2.f0,(rd_T84 y397 x5_1).f2.f1,wrap64 ((wrap64 ((wrap64 ((wrap64 (x1_1 + 1)) + 1)) + 1)) + 1),(rd_T84 y397 x5_1).f2.f3⟩ : S82)⟩ : S84)) := ⟨_,rfl⟩
     replace H : (laws_markSeenS.l0 k1 (y398.set (x5_1 : Int).toNat (⟨(rd_T84 y398 x5_1).f0,(rd_T84 y398 x5_1).f1,(⟨(rd_T84 y398 x5_1).f2.f0,(rd_T84 y398 x5_1).f2.f1,(rd_T84 y398 x5_1).f2.f2,wrap64 ((wrap64 ((wrap64 ((wrap64 ((wrap64 (x1_1 + 1)) + 1)) + 1)) + 1)) + 1)⟩ : S82)⟩ : S84)) (wrap64 ((wrap64 ((wrap64 ((wrap64 ((wrap64 ((wrap64 (x1_1 + 1)) + 1)) + 1)) + 1)) + 1)) + 1)) (wrap64 (x5_1 + 1))) = some (r1,r2) := by first | (rw [hy398];with_reducible exact H) | (have H2_ := (Option.bind_some _ _).symm.trans H;rw [hy398];with_reducible exact H2_) | (have H2_ := (Option.bind_some _ _).symm.trans H;with_reducible exact H2_) | with_reducible exact H | (rw [hy398];exact H) | exact H
     have Ny398 := am_ hy398
     clear hy398
     obtain ⟨y399,hy399⟩ : ∃ y_ : List (S84),y_ = (y398.set (x5_1 : Int).toNat (⟨(rd_T84 y398 x5_1).f0,(rd_T84 y398 x5_1).f1,(⟨(rd_T84 y398 x5_1).f2.f0,(rd_T84 y398 x5_1).f2.f1,(rd_T84 y398 x5_1).f2.f2,wrap64 ((wrap64 ((wrap64 ((wrap64 ((wrap64 (x1_1 + 1)) + 1)) + 1)) + 1)) + 1)⟩ : S82)⟩ : S84)) := ⟨_,rfl⟩
     replace H : (laws_markSeenS.l0 k1 y399 (wrap64 ((wrap64 ((wrap64 ((wrap64 ((wrap64 ((wrap64 (x1_1 + 1)) + 1)) + 1)) + 1)) + 1)) + 1)) (wrap64 (x5_1 + 1))) = some (r1,r2) := by first | (rw [hy399];with_reducible exact H) | (have H2_ := (Option.bind_some _ _).symm.trans H;rw [hy399];with_reducible exact H2_) | (have H2_ := (Option.bind_some _ _).symm.trans H;with_reducible exact H2_) | with_reducible exact H | (rw [hy399];exact H) | exact H
     have Ny399 := am_ hy399
     clear hy399
     have H' := am_ H
     clear H
     obtain ⟨Ao11,co11,eo11⟩ := Kd.R_slice HO_0.out
     subst eo11
     have p5 : 0 ≤ (x5_1 : Int) := zo_
     have q5 : (x5_1 : Int) < ((x0_1.length : Int) : Int) := zo_
     obtain ⟨go5,co5,eo5,gb5,gl5,cl5,HG5⟩ := Kd.R_form HO_0.out (by omega)
     (first | cases eo5 | (injection eo5 with ea_ en_ ec_;(first | subst ea_ | (injection ea_ with ea_;subst ea_));subst ec_;clear en_))
     have GB5 := am_ gb5
     have GG5 := am_ HG5
     clear gb5 gl5 HG5
     have HMgo5 := am_ (show (P0_ go5 ∨ w.heap.size ≤ go5) from (HO_0.out.1 _ rfl))
     obtain ⟨ce5,hcl5,hM5,hcc5,hfr5⟩ := Kd.R_elem HO_0.out z84 (x5_1 : Int) p5 q5
     obtain rfl := k84_openM hM5
     have hx5_0 : wr.cell? ⟨go5,(x5_1 : Int).toNat * 6,none⟩ = some (.int .i64 ((rd_T84 x0_1 x5_1).f0)) := hcc5 0 _ rfl
     have hx5_1 : wr.cell? ⟨go5,(x5_1 : Int).toNat * 6 + 1,none⟩ = some (.int .i64 ((rd_T84 x0_1 x5_1).f1)) := hcc5 1 _ rfl
     have hx5_2 : wr.cell? ⟨go5,(x5_1 : Int).toNat * 6 + 2,none⟩ = some (.int .i64 ((rd_T84 x0_1 x5_1).f2.f0)) := hcc5 2 _ rfl
     have hx5_3 : wr.cell? ⟨go5,(x5_1 : Int).toNat * 6 + 3,none⟩ = some (.int .i64 ((rd_T84 x0_1 x5_1).f2.f1)) := hcc5 3 _ rfl
     have hx5_4 : wr.cell? ⟨go5,(x5_1 : Int).toNat * 6 + 4,none⟩ = some (.int .i64 ((rd_T84 x0_1 x5_1).f2.f2)) := hcc5 4 _ rfl
     have hx5_5 : wr.cell? ⟨go5,(x5_1 : Int).toNat * 6 + 5,none⟩ = some (.int .i64 ((rd_T84 x0_1 x5_1).f2.f3)) := hcc5 5 _ rfl
     have hf5_0 : wr.frozen? ⟨go5,(x5_1 : Int).toNat * 6,none⟩ = false := hfr5 0
     have hf5_1 : wr.frozen? ⟨go5,(x5_1 : Int).toNat * 6 + 1,none⟩ = false := hfr5 1
     have hf5_2 : wr.frozen? ⟨go5,(x5_1 : Int).toNat * 6 + 2,none⟩ = false := hfr5 2
     have hf5_3 : wr.frozen? ⟨go5,(x5_1 : Int).toNat * 6 + 3,none⟩ = false := hfr5 3
     have hf5_4 : wr.frozen? ⟨go5,(x5_1 : Int).toNat * 6 + 4,none⟩ = false := hfr5 4
     have hf5_5 : wr.frozen? ⟨go5,(x5_1 : Int).toNat * 6 + 5,none⟩ = false := hfr5 5
     clear hcl5 hcc5 hfr5 hM5
     replace p5 := eq_true p5
     replace q5 := eq_true q5
     have HX12 := am_ (show Kd.R k84 84 wr w0.heap.size (fun k_ => (P0_ k_ ∨ w.heap.size ≤ k_)) (.slice (some ⟨go5,0,none⟩) x0_1.length co11) x0_1 from (zr HO_0))
     obtain ⟨ce12,hcl12,hM12,hcc12,hfr12⟩ := Kd.R_elem HX12.out z84 (x5_1 : Int) (zo_) (by have h_ : (x5_1 : Int) < ((x0_1.length : Int) : Int) := zo_;first | exact h_ | (have e_ := (Kd.R_reads' HO_0.out).1;omega) | simpa using h_)
     obtain rfl := k84_openM hM12
     have HP12 := Kd.R_seg HX12.out (x5_1 : Int) (zo_) (by have h_ : (x5_1 : Int) < ((x0_1.length : Int) : Int) := zo_;first | exact h_ | (have e_ := (Kd.R_reads' HO_0.out).1;omega) | simpa using h_) (seg := [.int .i64 x1_1]) (j := 0) hcl12 hcc12 (show 1 ≤ 6 from by decide) (x' := (⟨x1_1,(rd_T84 x0_1 x5_1).f1,(⟨(rd_T84 x0_1 x5_1).f2.f0,(rd_T84 x0_1 x5_1).f2.f1,(rd_T84 x0_1 x5_1).f2.f2,(rd_T84 x0_1 x5_1).f2.f3⟩ : S82)⟩ : S84)) (k84_mkM _ _ _ (⟨x1_1,(rd_T84 x0_1 x5_1).f1,(⟨(rd_T84 x0_1 x5_1).f2.f0,(rd_T84 x0_1 x5_1).f2.f1,(rd_T84 x0_1 x5_1).f2.f2,(rd_T84 x0_1 x5_1).f2.f3⟩ : S82)⟩ : S84) ) (fun _ hk => hk)
     have hx12_0 := hcc12 0 _ rfl
     (try simp only [show (k84).sz = 6 from rfl,Nat.mul_one,Nat.add_zero] at hx12_0)
     have hf12_0 := hfr12 0
     (try simp only [show (k84).sz = 6 from rfl,Nat.mul_one,Nat.add_zero] at hf12_0)
     clear hcl12 hcc12 hfr12 hM12
     go_wp2_with (first | ((with_reducible refine gate_store (t := 3) (p := 16) rfl ?_);refine store_event (t := 3) (p := 16) (v := ?vo_w13) (w1 := (wr.setCell ⟨go5,(x5_1 : Int).toNat * 6,none⟩ (.int .i64 x1_1))) ?hg ?ho ?hn ?hr ?_;(case ho => rfl);(case hg => rfl);(case hn => rfl);(case hr => first | (go_simp;done) | (go_simp;rfl));intro w13 hw;have hg : wr.grownBy w13 (some go5) := (by rw [hw];exact HP12.2);have hp_ : Kd.R k84 84 w13 w0.heap.size (fun k_ => (P0_ k_ ∨ w.heap.size ≤ k_)) (.slice (some ⟨go5,0,none⟩) x0_1.length co11) y394 := (by rw [hw,Ny394.out];exact HP12.1);clear HP12;replace HB := am_ ((by rw [hw];exact below_set (HB.out) GB5.out : Below w0.heap.size w0 w13));replace HK := am_ (Kept.of_grown (S := (fun k_ => P0_ k_)) hg (by repeat (first | (with_reducible first | exact HK.out | apply Kept.alloc | apply Kept.drewN | apply Kept.drew) | exact HK.out)) (fun k_ e_ => (HO_0.out.1 k_ e_)));replace HO_0 := am_ (hp_);clear hg hw hp_;have p6 : 0 ≤ (x5_1 : Int) := zo_;have q6 : (x5_1 : Int) < ((x0_1.length : Int) : Int) := zo_;obtain ⟨ce6,hcl6,hM6,hcc6,hfr6⟩ := Kd.R_elem HO_0.out z84 (x5_1 : Int) p6 q6;obtain rfl := k84_openM hM6;have hx6_0 : w13.cell? ⟨go5,(x5_1 : Int).toNat * 6,none⟩ = some (.int .i64 ((rd_T84 y394 x5_1).f0)) := hcc6 0 _ rfl;have hx6_1 : w13.cell? ⟨go5,(x5_1 : Int).toNat * 6 + 1,none⟩ = some (.int .i64 ((rd_T84 y394 x5_1).f1)) := hcc6 1 _ rfl;have hx6_2 : w13.cell? ⟨go5,(x5_1 : Int).toNat * 6 + 2,none⟩ = some (.int .i64 ((rd_T84 y394 x5_1).f2.f0)) := hcc6 2 _ rfl;have hx6_3 : w13.cell? ⟨go5,(x5_1 : Int).toNat * 6 + 3,none⟩ = some (.int .i64 ((rd_T84 y394 x5_1).f2.f1)) := hcc6 3 _ rfl;have hx6_4 : w13.cell? ⟨go5,(x5_1 : Int).toNat * 6 + 4,none⟩ = some (.int .i64 ((rd_T84 y394 x5_1).f2.f2)) := hcc6 4 _ rfl;have hx6_5 : w13.cell? ⟨go5,(x5_1 : Int).toNat * 6 + 5,none⟩ = some (.int .i64 ((rd_T84 y394 x5_1).f2.f3)) := hcc6 5 _ rfl;have hf6_0 : w13.frozen? ⟨go5,(x5_1 : Int).toNat * 6,none⟩ = false := hfr6 0;have hf6_1 : w13.frozen? ⟨go5,(x5_1 : Int).toNat * 6 + 1,none⟩ = false := hfr6 1;have hf6_2 : w13.frozen? ⟨go5,(x5_1 : Int).toNat * 6 + 2,none⟩ = false := hfr6 2;have hf6_3 : w13.frozen? ⟨go5,(x5_1 : Int).toNat * 6 + 3,none⟩ = false := hfr6 3;have hf6_4 : w13.frozen? ⟨go5,(x5_1 : Int).toNat * 6 + 4,none⟩ = false := hfr6 4;have hf6_5 : w13.frozen? ⟨go5,(x5_1 : Int).toNat * 6 + 5,none⟩ = false := hfr6 5;clear hcl6 hcc6 hfr6 hM6;replace p6 := eq_true p6;replace q6 := eq_true q6;have HX14 := am_ (show Kd.R k84 84 w13 w0.heap.size (fun k_ => (P0_ k_ ∨ w.heap.size ≤ k_)) (.slice (some ⟨go5,0,none⟩) x0_1.length co11) y394 from (zr HO_0));obtain ⟨ce14,hcl14,hM14,hcc14,hfr14⟩ := Kd.R_elem HX14.out z84 (x5_1 : Int) (zo_) (by have h_ : (x5_1 : Int) < ((x0_1.length : Int) : Int) := zo_;first | exact h_ | (have e_ := (Kd.R_reads' HO_0.out).1;omega) | simpa using h_);obtain rfl := k84_openM hM14;have HP14 := Kd.R_seg HX14.out (x5_1 : Int) (zo_) (by have h_ : (x5_1 : Int) < ((x0_1.length : Int) : Int) := zo_;first | exact h_ | (have e_ := (Kd.R_reads' HO_0.out).1;omega) | simpa using h_) (seg := [.int .i64 (wrap64 (x1_1 + 1))]) (j := 1) hcl14 hcc14 (show 2 ≤ 6 from by decide) (x' := (⟨(rd_T84 y394 x5_1).f0,wrap64 (x1_1 + 1),(⟨(rd_T84 y394 x5_1).f2.f0,(rd_T84 y394 x5_1).f2.f1,(rd_T84 y394 x5_1).f2.f2,(rd_T84 y394 x5_1).f2.f3⟩ : S82)⟩ : S84)) (k84_mkM _ _ _ (⟨(rd_T84 y394 x5_1).f0,wrap64 (x1_1 + 1),(⟨(rd_T84 y394 x5_1).f2.f0,(rd_T84 y394 x5_1).f2.f1,(rd_T84 y394 x5_1).f2.f2,(rd_T84 y394 x5_1).f2.f3⟩ : S82)⟩ : S84) ) (fun _ hk => hk);have hx14_1 := hcc14 1 _ rfl;(try simp only [show (k84).sz = 6 from rfl,Nat.mul_one,Nat.add_zero] at hx14_1);have hf14_1 := hfr14 1;(try simp only [show (k84).sz = 6 from rfl,Nat.mul_one,Nat.add_zero] at hf14_1);clear hcl14 hcc14 hfr14 hM14) | ((with_reducible refine gate_store (t := 3) (p := 23) rfl ?_);refine store_event (t := 3) (p := 23) (v := ?vo_w15) (w1 := (w13.setCell ⟨go5,(x5_1 : Int).toNat * 6 + 1,none⟩ (.int .i64 (wrap64 (x1_1 + 1))))) ?hg ?ho ?hn ?hr ?_;(case ho => rfl);(case hg => rfl);(case hn => rfl);(case hr => first | (go_simp;done) | (go_simp;rfl));intro w15 hw;have hg : w13.grownBy w15 (some go5) := (by rw [hw];exact HP14.2);have hp_ : Kd.R k84 84 w15 w0.heap.size (fun k_ => (P0_ k_ ∨ w.heap.size ≤ k_)) (.slice (some ⟨go5,0,none⟩) x0_1.length co11) y395 := (by rw [hw,Ny395.out];exact HP14.1);clear HP14;replace HB := am_ ((by rw [hw];exact below_set (HB.out) GB5.out : Below w0.heap.size w0 w15));replace HK := am_ (Kept.of_grown (S := (fun k_ => P0_ k_)) hg (by repeat (first | (with_reducible first | exact HK.out | apply Kept.alloc | apply Kept.drewN | apply Kept.drew) | exact HK.out)) (fun k_ e_ => (HO_0.out.1 k_ e_)));replace HO_0 := am_ (hp_);clear hg hw hp_;have p7 : 0 ≤ (x5_1 : Int) := zo_;have q7 : (x5_1 : Int) < ((x0_1.length : Int) : Int) := zo_;obtain ⟨ce7,hcl7,hM7,hcc7,hfr7⟩ := Kd.R_elem HO_0.out z84 (x5_1 : Int) p7 q7;obtain rfl := k84_openM hM7;have hx7_0 : w15.cell? ⟨go5,(x5_1 : Int).toNat * 6,none⟩ = some (.int .i64 ((rd_T84 y395 x5_1).f0)) := hcc7 0 _ rfl;have hx7_1 : w15.cell? ⟨go5,(x5_1 : Int).toNat * 6 + 1,none⟩ = some (.int .i64 ((rd_T84 y395 x5_1).f1)) := hcc7 1 _ rfl;have hx7_2 : w15.cell? ⟨go5,(x5_1 : Int).toNat * 6 + 2,none⟩ = some (.int .i64 ((rd_T84 y395 x5_1).f2.f0)) := hcc7 2 _ rfl;have hx7_3 : w15.cell? ⟨go5,(x5_1 : Int).toNat * 6 + 3,none⟩ = some (.int .i64 ((rd_T84 y395 x5_1).f2.f1)) := hcc7 3 _ rfl;have hx7_4 : w15.cell? ⟨go5,(x5_1 : Int).toNat * 6 + 4,none⟩ = some (.int .i64 ((rd_T84 y395 x5_1).f2.f2)) := hcc7 4 _ rfl;have hx7_5 : w15.cell? ⟨go5,(x5_1 : Int).toNat * 6 + 5,none⟩ = some (.int .i64 ((rd_T84 y395 x5_1).f2.f3)) := hcc7 5 _ rfl;have hf7_0 : w15.frozen? ⟨go5,(x5_1 : Int).toNat * 6,none⟩ = false := hfr7 0;have hf7_1 : w15.frozen? ⟨go5,(x5_1 : Int).toNat * 6 + 1,none⟩ = false := hfr7 1;have hf7_2 : w15.frozen? ⟨go5,(x5_1 : Int).toNat * 6 + 2,none⟩ = false := hfr7 2;have hf7_3 : w15.frozen? ⟨go5,(x5_1 : Int).toNat * 6 + 3,none⟩ = false := hfr7 3;have hf7_4 : w15.frozen? ⟨go5,(x5_1 : Int).toNat * 6 + 4,none⟩ = false := hfr7 4;have hf7_5 : w15.frozen? ⟨go5,(x5_1 : Int).toNat * 6 + 5,none⟩ = false := hfr7 5;clear hcl7 hcc7 hfr7 hM7;replace p7 := eq_true p7;replace q7 := eq_true q7;have HX16 := am_ (show Kd.R k84 84 w15 w0.heap.size (fun k_ => (P0_ k_ ∨ w.heap.size ≤ k_)) (.slice (some ⟨go5,0,none⟩) x0_1.length co11) y395 from (zr HO_0));obtain ⟨ce16,hcl16,hM16,hcc16,hfr16⟩ := Kd.R_elem HX16.out z84 (x5_1 : Int) (zo_) (by have h_ : (x5_1 : Int) < ((x0_1.length : Int) : Int) := zo_;first | exact h_ | (have e_ := (Kd.R_reads' HO_0.out).1;omega) | simpa using h_);obtain rfl := k84_openM hM16;have HP16 := Kd.R_seg HX16.out (x5_1 : Int) (zo_) (by have h_ : (x5_1 : Int) < ((x0_1.length : Int) : Int) := zo_;first | exact h_ | (have e_ := (Kd.R_reads' HO_0.out).1;omega) | simpa using h_) (seg := [.int .i64 (wrap64 ((wrap64 (x1_1 + 1)) + 1))]) (j := 2) hcl16 hcc16 (show 3 ≤ 6 from by decide) (x' := (⟨(rd_T84 y395 x5_1).f0,(rd_T84 y395 x5_1).f1,(⟨wrap64 ((wrap64 (x1_1 + 1)) + 1),(rd_T84 y395 x5_1).f2.f1,(rd_T84 y395 x5_1).f2.f2,(rd_T84 y395 x5_1).f2.f3⟩ : S82)⟩ : S84)) (k84_mkM _ _ _ (⟨(rd_T84 y395 x5_1).f0,(rd_T84 y395 x5_1).f1,(⟨wrap64 ((wrap64 (x1_1 + 1)) + 1),(rd_T84 y395 x5_1).f2.f1,(rd_T84 y395 x5_1).f2.f2,(rd_T84 y395 x5_1).f2.f3⟩ : S82)⟩ : S84) ) (fun _ hk => hk);have hx16_2 := hcc16 2 _ rfl;(try simp only [show (k84).sz = 6 from rfl,Nat.mul_one,Nat.add_zero] at hx16_2);have hf16_2 := hfr16 2;(try simp only [show (k84).sz = 6 from rfl,Nat.mul_one,Nat.add_zero] at hf16_2);clear hcl16 hcc16 hfr16 hM16) | ((with_reducible refine gate_store (t := 3) (p := 31) rfl ?_);refine store_event (t := 3) (p := 31) (v := ?vo_w17) (w1 := (w15.setCell ⟨go5,(x5_1 : Int).toNat * 6 + 2,none⟩ (.int .i64 (wrap64 ((wrap64 (x1_1 + 1)) + 1))))) ?hg ?ho ?hn ?hr ?_;(case ho => rfl);(case hg => rfl);(case hn => rfl);(case hr => first | (go_simp;done) | (go_simp;rfl));intro w17 hw;have hg : w15.grownBy w17 (some go5) := (by rw [hw];exact HP16.2);have hp_ : Kd.R k84 84 w17 w0.heap.size (fun k_ => (P0_ k_ ∨ w.heap.size ≤ k_)) (.slice (some ⟨go5,0,none⟩) x0_1.length co11) y396 := (by rw [hw,Ny396.out];exact HP16.1);clear HP16;replace HB := am_ ((by rw [hw];exact below_set (HB.out) GB5.out : Below w0.heap.size w0 w17));replace HK := am_ (Kept.of_grown (S := (fun k_ => P0_ k_)) hg (by repeat (first | (with_reducible first | exact HK.out | apply Kept.alloc | apply Kept.drewN | apply Kept.drew) | exact HK.out)) (fun k_ e_ => (HO_0.out.1 k_ e_)));replace HO_0 := am_ (hp_);clear hg hw hp_;have p8 : 0 ≤ (x5_1 : Int) := zo_;have q8 : (x5_1 : Int) < ((x0_1.length : Int) : Int) := zo_;obtain ⟨ce8,hcl8,hM8,hcc8,hfr8⟩ := Kd.R_elem HO_0.out z84 (x5_1 : Int) p8 q8;obtain rfl := k84_openM hM8;have hx8_0 : w17.cell? ⟨go5,(x5_1 : Int).toNat * 6,none⟩ = some (.int .i64 ((rd_T84 y396 x5_1).f0)) := hcc8 0 _ rfl;have hx8_1 : w17.cell? ⟨go5,(x5_1 : Int).toNat * 6 + 1,none⟩ = some (.int .i64 ((rd_T84 y396 x5_1).f1)) := hcc8 1 _ rfl;have hx8_2 : w17.cell? ⟨go5,(x5_1 : Int).toNat * 6 + 2,none⟩ = some (.int .i64 ((rd_T84 y396 x5_1).f2.f0)) := hcc8 2 _ rfl;have hx8_3 : w17.cell? ⟨go5,(x5_1 : Int).toNat * 6 + 3,none⟩ = some (.int .i64 ((rd_T84 y396 x5_1).f2.f1)) := hcc8 3 _ rfl;have hx8_4 : w17.cell? ⟨go5,(x5_1 : Int).toNat * 6 + 4,none⟩ = some (.int .i64 ((rd_T84 y396 x5_1).f2.f2)) := hcc8 4 _ rfl;have hx8_5 : w17.cell? ⟨go5,(x5_1 : Int).toNat * 6 + 5,none⟩ = some (.int .i64 ((rd_T84 y396 x5_1).f2.f3)) := hcc8 5 _ rfl;have hf8_0 : w17.frozen? ⟨go5,(x5_1 : Int).toNat * 6,none⟩ = false := hfr8 0;have hf8_1 : w17.frozen? ⟨go5,(x5_1 : Int).toNat * 6 + 1,none⟩ = false := hfr8 1;have hf8_2 : w17.frozen? ⟨go5,(x5_1 : Int).toNat * 6 + 2,none⟩ = false := hfr8 2;have hf8_3 : w17.frozen? ⟨go5,(x5_1 : Int).toNat * 6 + 3,none⟩ = false := hfr8 3;have hf8_4 : w17.frozen? ⟨go5,(x5_1 : Int).toNat * 6 + 4,none⟩ = false := hfr8 4;have hf8_5 : w17.frozen? ⟨go5,(x5_1 : Int).toNat * 6 + 5,none⟩ = false := hfr8 5;clear hcl8 hcc8 hfr8 hM8;replace p8 := eq_true p8;replace q8 := eq_true q8;have HX18 := am_ (show Kd.R k84 84 w17 w0.heap.size (fun k_ => (P0_ k_ ∨ w.heap.size ≤ k_)) (.slice (some ⟨go5,0,none⟩) x0_1.length co11) y396 from (zr HO_0));obtain ⟨ce18,hcl18,hM18,hcc18,hfr18⟩ := Kd.R_elem HX18.out z84 (x5_1 : Int) (zo_) (by have h_ : (x5_1 : Int) < ((x0_1.length : Int) : Int) := zo_;first | exact h_ | (have e_ := (Kd.R_reads' HO_0.out).1;omega) | simpa using h_);obtain rfl := k84_openM hM18;have HP18 := Kd.R_seg HX18.out (x5_1 : Int) (zo_) (by have h_ : (x5_1 : Int) < ((x0_1.length : Int) : Int) := zo_;first | exact h_ | (have e_ := (Kd.R_reads' HO_0.out).1;omega) | simpa using h_) (seg := [.int .i64 (wrap64 ((wrap64 ((wrap64 (x1_1 + 1)) + 1)) + 1))]) (j := 3) hcl18 hcc18 (show 4 ≤ 6 from by decide) (x' := (⟨(rd_T84 y396 x5_1).f0,(rd_T84 y396 x5_1).f1,(⟨(rd_T84 y396 x5_1).f2.f0,wrap64 ((wrap64 ((wrap64 (x1_1 + 1)) + 1)) + 1),(rd_T84 y396 x5_1).f2.f2,(rd_T84 y396 x5_1).f2.f3⟩ : S82)⟩ : S84)) (k84_mkM _ _ _ (⟨(rd_T84 y396 x5_1).f0,(rd_T84 y396 x5_1).f1,(⟨(rd_T84 y396 x5_1).f2.f0,wrap64 ((wrap64 ((wrap64 (x1_1 + 1)) + 1)) + 1),(rd_T84 y396 x5_1).f2.f2,(rd_T84 y396 x5_1).f2.f3⟩ : S82)⟩ : S84) ) (fun _ hk => hk);have hx18_3 := hcc18 3 _ rfl;(try simp only [show (k84).sz = 6 from rfl,Nat.mul_one,Nat.add_zero] at hx18_3);have hf18_3 := hfr18 3;(try simp only [show (k84).sz = 6 from rfl,Nat.mul_one,Nat.add_zero] at hf18_3);clear hcl18 hcc18 hfr18 hM18) | ((with_reducible refine gate_store (t := 3) (p := 39) rfl ?_);refine store_event (t := 3) (p := 39) (v := ?vo_w19) (w1 := (w17.setCell ⟨go5,(x5_1 : Int).toNat * 6 + 3,none⟩ (.int .i64 (wrap64 ((wrap64 ((wrap64 (x1_1 + 1)) + 1)) + 1))))) ?hg ?ho ?hn ?hr ?_;(case ho => rfl);(case hg => rfl);(case hn => rfl);(case hr => first | (go_simp;done) | (go_simp;rfl));intro w19 hw;have hg : w17.grownBy w19 (some go5) := (by rw [hw];exact HP18.2);have hp_ : Kd.R k84 84 w19 w0.heap.size (fun k_ => (P0_ k_ ∨ w.heap.size ≤ k_)) (.slice (some ⟨go5,0,none⟩) x0_1.length co11) y397 := (by rw [hw,Ny397.out];exact HP18.1);clear HP18;replace HB := am_ ((by rw [hw];exact below_set (HB.out) GB5.out : Below w0.heap.size w0 w19));replace HK := am_ (Kept.of_grown (S := (fun k_ => P0_ k_)) hg (by repeat (first | (with_reducible first | exact HK.out | apply Kept.alloc | apply Kept.drewN | apply Kept.drew) | exact HK.out)) (fun k_ e_ => (HO_0.out.1 k_ e_)));replace HO_0 := am_ (hp_);clear hg hw hp_;have p9 : 0 ≤ (x5_1 : Int) := zo_;have q9 : (x5_1 : Int) < ((x0_1.length : Int) : Int) := zo_;obtain ⟨ce9,hcl9,hM9,hcc9,hfr9⟩ := Kd.R_elem HO_0.out z84 (x5_1 : Int) p9 q9;obtain rfl := k84_openM hM9;have hx9_0 : w19.cell? ⟨go5,(x5_1 : Int).toNat * 6,none⟩ = some (.int .i64 ((rd_T84 y397 x5_1).f0)) := hcc9 0 _ rfl;have hx9_1 : w19.cell? ⟨go5,(x5_1 : Int).toNat * 6 + 1,none⟩ = some (.int .i64 ((rd_T84 y397 x5_1).f1)) := hcc9 1 _ rfl;have hx9_2 : w19.cell? ⟨go5,(x5_1 : Int).toNat * 6 + 2,none⟩ = some (.int .i64 ((rd_T84 y397 x5_1).f2.f0)) := hcc9 2 _ rfl;have hx9_3 : w19.cell? ⟨go5,(x5_1 : Int).toNat * 6 + 3,none⟩ = some (.int .i64 ((rd_T84 y397 x5_1).f2.f1)) := hcc9 3 _ rfl;have hx9_4 : w19.cell? ⟨go5,(x5_1 : Int).toNat * 6 + 4,none⟩ = some (.int .i64 ((rd_T84 y397 x5_1).f2.f2)) := hcc9 4 _ rfl;have hx9_5 : w19.cell? ⟨go5,(x5_1 : Int).toNat * 6 + 5,none⟩ = some (.int .i64 ((rd_T84 y397 x5_1).f2.f3)) := hcc9 5 _ rfl;have hf9_0 : w19.frozen? ⟨go5,(x5_1 : Int).toNat * 6,none⟩ = false := hfr9 0;have hf9_1 : w19.frozen? ⟨go5,(x5_1 : Int).toNat * 6 + 1,none⟩ = false := hfr9 1;have hf9_2 : w19.frozen? ⟨go5,(x5_1 : Int).toNat * 6 + 2,none⟩ = false := hfr9 2;have hf9_3 : w19.frozen? ⟨go5,(x5_1 : Int).toNat * 6 + 3,none⟩ = false := hfr9 3;have hf9_4 : w19.frozen? ⟨go5,(x5_1 : Int).toNat * 6 + 4,none⟩ = false := hfr9 4;have hf9_5 : w19.frozen? ⟨go5,(x5_1 : Int).toNat * 6 + 5,none⟩ = false := hfr9 5;clear hcl9 hcc9 hfr9 hM9;replace p9 := eq_true p9;replace q9 := eq_true q9;have HX20 := am_ (show Kd.R k84 84 w19 w0.heap.size (fun k_ => (P0_ k_ ∨ w.heap.size ≤ k_)) (.slice (some ⟨go5,0,none⟩) x0_1.length co11) y397 from (zr HO_0));obtain ⟨ce20,hcl20,hM20,hcc20,hfr20⟩ := Kd.R_elem HX20.out z84 (x5_1 : Int) (zo_) (by have h_ : (x5_1 : Int) < ((x0_1.length : Int) : Int) := zo_;first | exact h_ | (have e_ := (Kd.R_reads' HO_0.out).1;omega) | simpa using h_);obtain rfl := k84_openM hM20;have HP20 := Kd.R_seg HX20.out (x5_1 : Int) (zo_) (by have h_ : (x5_1 : Int) < ((x0_1.length : Int) : Int) := zo_;first | exact h_ | (have e_ := (Kd.R_reads' HO_0.out).1;omega) | simpa using h_) (seg := [.int .i64 (wrap64 ((wrap64 ((wrap64 ((wrap64 (x1_1 + 1)) + 1)) + 1)) + 1))]) (j := 4) hcl20 hcc20 (show 5 ≤ 6 from by decide) (x' := (⟨(rd_T84 y397 x5_1).f0,(rd_T84 y397 x5_1).f1,(⟨(rd_T84 y397 x5_1).f2.f0,(rd_T84 y397 x5_1).f2.f1,wrap64 ((wrap64 ((wrap64 ((wrap64 (x1_1 + 1)) + 1)) + 1)) + 1),(rd_T84 y397 x5_1).f2.f3⟩ : S82)⟩ : S84)) (k84_mkM _ _ _ (⟨(rd_T84 y397 x5_1).f0,(rd_T84 y397 x5_1).f1,(⟨(rd_T84 y397 x5_1).f2.f0,(rd_T84 y397 x5_1).f2.f1,wrap64 ((wrap64 ((wrap64 ((wrap64 (x1_1 + 1)) + 1)) + 1)) + 1),(rd_T84 y397 x5_1).f2.f3⟩ : S82)⟩ : S84) ) (fun _ hk => hk);have hx20_4 := hcc20 4 _ rfl;(try simp only [show (k84).sz = 6 from rfl,Nat.mul_one,Nat.add_zero] at hx20_4);have hf20_4 := hfr20 4;(try simp only [show (k84).sz = 6 from rfl,Nat.mul_one,Nat.add_zero] at hf20_4);clear hcl20 hcc20 hfr20 hM20) | ((with_reducible refine gate_store (t := 3) (p := 47) rfl ?_);refine store_event (t := 3) (p := 47) (v := ?vo_w21) (w1 := (w19.setCell ⟨go5,(x5_1 : Int).toNat * 6 + 4,none⟩ (.int .i64 (wrap64 ((wrap64 ((wrap64 ((wrap64 (x1_1 + 1)) + 1)) + 1)) + 1))))) ?hg ?ho ?hn ?hr ?_;(case ho => rfl);(case hg => rfl);(case hn => rfl);(case hr => first | (go_simp;done) | (go_simp;rfl));intro w21 hw;have hg : w19.grownBy w21 (some go5) := (by rw [hw];exact HP20.2);have hp_ : Kd.R k84 84 w21 w0.heap.size (fun k_ => (P0_ k_ ∨ w.heap.size ≤ k_)) (.slice (some ⟨go5,0,none⟩) x0_1.length co11) y398 := (by rw [hw,Ny398.out];exact HP20.1);clear HP20;replace HB := am_ ((by rw [hw];exact below_set (HB.out) GB5.out : Below w0.heap.size w0 w21));replace HK := am_ (Kept.of_grown (S := (fun k_ => P0_ k_)) hg (by repeat (first | (with_reducible first | exact HK.out | apply Kept.alloc | apply Kept.drewN | apply Kept.drew) | exact HK.out)) (fun k_ e_ => (HO_0.out.1 k_ e_)));replace HO_0 := am_ (hp_);clear hg hw hp_;have p10 : 0 ≤ (x5_1 : Int) := zo_;have q10 : (x5_1 : Int) < ((x0_1.length : Int) : Int) := zo_;obtain ⟨ce10,hcl10,hM10,hcc10,hfr10⟩ := Kd.R_elem HO_0.out z84 (x5_1 : Int) p10 q10;obtain rfl := k84_openM hM10;have hx10_0 : w21.cell? ⟨go5,(x5_1 : Int).toNat * 6,none⟩ = some (.int .i64 ((rd_T84 y398 x5_1).f0)) := hcc10 0 _ rfl;have hx10_1 : w21.cell? ⟨go5,(x5_1 : Int).toNat * 6 + 1,none⟩ = some (.int .i64 ((rd_T84 y398 x5_1).f1)) := hcc10 1 _ rfl;have hx10_2 : w21.cell? ⟨go5,(x5_1 : Int).toNat * 6 + 2,none⟩ = some (.int .i64 ((rd_T84 y398 x5_1).f2.f0)) := hcc10 2 _ rfl;have hx10_3 : w21.cell? ⟨go5,(x5_1 : Int).toNat * 6 + 3,none⟩ = some (.int .i64 ((rd_T84 y398 x5_1).f2.f1)) := hcc10 3 _ rfl;have hx10_4 : w21.cell? ⟨go5,(x5_1 : Int).toNat * 6 + 4,none⟩ = some (.int .i64 ((rd_T84 y398 x5_1).f2.f2)) := hcc10 4 _ rfl;have hx10_5 : w21.cell? ⟨go5,(x5_1 : Int).toNat * 6 + 5,none⟩ = some (.int .i64 ((rd_T84 y398 x5_1).f2.f3)) := hcc10 5 _ rfl;have hf10_0 : w21.frozen? ⟨go5,(x5_1 : Int).toNat * 6,none⟩ = false := hfr10 0;have hf10_1 : w21.frozen? ⟨go5,(x5_1 : Int).toNat * 6 + 1,none⟩ = false := hfr10 1;have hf10_2 : w21.frozen? ⟨go5,(x5_1 : Int).toNat * 6 + 2,none⟩ = false := hfr10 2;have hf10_3 : w21.frozen? ⟨go5,(x5_1 : Int).toNat * 6 + 3,none⟩ = false := hfr10 3;have hf10_4 : w21.frozen? ⟨go5,(x5_1 : Int).toNat * 6 + 4,none⟩ = false := hfr10 4;have hf10_5 : w21.frozen? ⟨go5,(x5_1 : Int).toNat * 6 + 5,none⟩ = false := hfr10 5;clear hcl10 hcc10 hfr10 hM10;replace p10 := eq_true p10;replace q10 := eq_true q10;have HX22 := am_ (show Kd.R k84 84 w21 w0.heap.size (fun k_ => (P0_ k_ ∨ w.heap.size ≤ k_)) (.slice (some ⟨go5,0,none⟩) x0_1.length co11) y398 from (zr HO_0));obtain ⟨ce22,hcl22,hM22,hcc22,hfr22⟩ := Kd.R_elem HX22.out z84 (x5_1 : Int) (zo_) (by have h_ : (x5_1 : Int) < ((x0_1.length : Int) : Int) := zo_;first | exact h_ | (have e_ := (Kd.R_reads' HO_0.out).1;omega) | simpa using h_);obtain rfl := k84_openM hM22;have HP22 := Kd.R_seg HX22.out (x5_1 : Int) (zo_) (by have h_ : (x5_1 : Int) < ((x0_1.length : Int) : Int) := zo_;first | exact h_ | (have e_ := (Kd.R_reads' HO_0.out).1;omega) | simpa using h_) (seg := [.int .i64 (wrap64 ((wrap64 ((wrap64 ((wrap64 ((wrap64 (x1_1 + 1)) + 1)) + 1)) + 1)) + 1))]) (j := 5) hcl22 hcc22 (show 6 ≤ 6 from by decide) (x' := (⟨(rd_T84 y398 x5_1).f0,(rd_T84 y398 x5_1).f1,(⟨(rd_T84 y398 x5_1).f2.f0,(rd_T84 y398 x5_1).f2.f1,(rd_T84 y398 x5_1).f2.f2,wrap64 ((wrap64 ((wrap64 ((wrap64 ((wrap64 (x1_1 + 1)) + 1)) + 1)) + 1)) + 1)⟩ : S82)⟩ : S84)) (k84_mkM _ _ _ (⟨(rd_T84 y398 x5_1).f0,(rd_T84 y398 x5_1).f1,(⟨(rd_T84 y398 x5_1).f2.f0,(rd_T84 y398 x5_1).f2.f1,(rd_T84 y398 x5_1).f2.f2,wrap64 ((wrap64 ((wrap64 ((wrap64 ((wrap64 (x1_1 + 1)) + 1)) + 1)) + 1)) + 1)⟩ : S82)⟩ : S84) ) (fun _ hk => hk);have hx22_5 := hcc22 5 _ rfl;(try simp only [show (k84).sz = 6 from rfl,Nat.mul_one,Nat.add_zero] at hx22_5);have hf22_5 := hfr22 5;(try simp only [show (k84).sz = 6 from rfl,Nat.mul_one,Nat.add_zero] at hf22_5);clear hcl22 hcc22 hfr22 hM22) | ((with_reducible refine gate_store (t := 3) (p := 55) rfl ?_);refine store_event (t := 3) (p := 55) (v := ?vo_w23) (w1 := (w21.setCell ⟨go5,(x5_1 : Int).toNat * 6 + 5,none⟩ (.int .i64 (wrap64 ((wrap64 ((wrap64 ((wrap64 ((wrap64 (x1_1 + 1)) + 1)) + 1)) + 1)) + 1))))) ?hg ?ho ?hn ?hr ?_;(case ho => rfl);(case hg => rfl);(case hn => rfl);(case hr => first | (go_simp;done) | (go_simp;rfl));intro w23 hw;have hg : w21.grownBy w23 (some go5) := (by rw [hw];exact HP22.2);have hp_ : Kd.R k84 84 w23 w0.heap.size (fun k_ => (P0_ k_ ∨ w.heap.size ≤ k_)) (.slice (some ⟨go5,0,none⟩) x0_1.length co11) y399 := (by rw [hw,Ny399.out];exact HP22.1);clear HP22;replace HB := am_ ((by rw [hw];exact below_set (HB.out) GB5.out : Below w0.heap.size w0 w23));replace HK := am_ (Kept.of_grown (S := (fun k_ => P0_ k_)) hg (by repeat (first | (with_reducible first | exact HK.out | apply Kept.alloc | apply Kept.drewN | apply Kept.drew) | exact HK.out)) (fun k_ e_ => (HO_0.out.1 k_ e_)));replace HO_0 := am_ (hp_);clear hg hw hp_))
     go_roundg k1
     case measure => have := HK1.out;omega
     case rel => exact ⟨(y399),(wrap64 ((wrap64 ((wrap64 ((wrap64 ((wrap64 ((wrap64 (x1_1 + 1)) + 1)) + 1)) + 1)) + 1)) + 1)),(wrap64 (x5_1 + 1)),(by first | rfl | (simp;done) | (simp [*];done)),(by first | rfl | (simp;done) | (simp [*];done)),H',⟨by have := HK1.out;omega⟩,⟨zr HO_0⟩,⟨by repeat (first | (with_reducible first | exact HK.out | apply Kept.alloc | apply Kept.drewN | apply Kept.drew) | exact HK.out)⟩,⟨zl_ HB⟩⟩
    ·rw [if_neg c4] at H
     exact absurd H (by simp)
   ·rw [if_neg c3] at H
    have c3b0 : decide (x5_1 < (x0_1.length : Int)) = false := decide_eq_false c3
    clear c3
    simp only [Option.some.injEq,Prod.mk.injEq] at H
    obtain ⟨rfl,rfl⟩ := H
    obtain ⟨Ao24,co24,eo24⟩ := Kd.R_slice HO_0.out
    subst eo24
    go_wp2
    go_ret
    exact ⟨zt_,zr HO_0,zl_ HB,by repeat (first | (with_reducible first | exact HK.out | apply Kept.alloc | apply Kept.drewN | apply Kept.drew) | exact HK.out)⟩
set_option maxHeartbeats 8000000 in
set_option maxRecDepth 100000 in
theorem laws_heldWaiterS.calls (k : Nat) (A0 : Option Addr) (c0 : Nat) (l0 : List (S80)) (a1 : Int) (r : Int) (w : World) (hr0 : Kd.C k80 w A0 l0.length l0) (hc0 : l0.length ≤ c0) (h : laws_heldWaiterS.f k l0 a1 = some r) :
  Calls Try.prog 57 #[.slice A0 l0.length c0,.int .i64 a1] w fun e w' => e = .returned (.int .i64 r) ∧ Drawn0 w w' := by
 have HR0 := am_ hr0
 have HC0 := am_ hc0
 clear hr0 hc0
 have H : (laws_heldWaiterS.l0 k l0 a1 0) = some r := h
 clear h
 have H' := am_ H
 clear H
 go_enter Try.func57,Try.ntmps57
 go_wp2
 go_loopg [1,5] k (fun kq v1 v5 w' => ∃ (x1_1 : Int) (x5_1 : Int),v1 = .int .i64 x1_1 ∧ v5 = .int .i64 x5_1 ∧ Aside0 (laws_heldWaiterS.l0 kq l0 x1_1 x5_1 = some r) ∧ Aside0 (kq ≤ k) ∧ Drawn0 w w')
 case atStart => exact ⟨(a1),(0),(by first | rfl | (simp;done) | (simp [*];done)),(by first | rfl | (simp;done) | (simp [*];done)),H',⟨Nat.le_refl _⟩,by repeat (first | exact Drawn0.refl _ | apply Drawn0.step)⟩
 case round =>
  clear H'
  try clear p2
  obtain ⟨x1_1,x5_1,rfl,rfl,HA,HK1,⟨m1,rfl⟩⟩ := hrel
  cases gk with
  | zero => exact absurd HA.out (by simp [laws_heldWaiterS.l0])
  | succ k1 =>
   have H := HA.out
   clear HA
   simp only [laws_heldWaiterS.l0] at H
   by_cases c3 : x5_1 < (l0.length : Int)
   ·rw [if_pos c3] at H
    have c3b0 : decide (x5_1 < (l0.length : Int)) = true := decide_eq_true c3
    clear c3
    by_cases c4 : 0 ≤ x5_1
    ·rw [if_pos c4] at H
     have c4b0 : decide (0 ≤ x5_1) = true := decide_eq_true c4
     clear c4
     by_cases c5 : ((rd_T80 l0 x5_1).f0) = x1_1
     ·rw [if_pos c5] at H
      have c5b0 : (((rd_T80 l0 x5_1).f0) == x1_1) = true := beq_iff_eq.mpr c5
      have c5b1 : (((rd_T80 l0 x5_1).f0) != x1_1) = false := bne_eq_false_iff_eq.mpr c5
      clear c5
      by_cases c6 : ((rd_T80 l0 x5_1).f1) = (wrap64 (x1_1 + 1))
      ·rw [if_pos c6] at H
       have c6b0 : (((rd_T80 l0 x5_1).f1) == (wrap64 (x1_1 + 1))) = true := beq_iff_eq.mpr c6
       have c6b1 : (((rd_T80 l0 x5_1).f1) != (wrap64 (x1_1 + 1))) = false := bne_eq_false_iff_eq.mpr c6
       clear c6
       have H' := am_ H
       clear H
       have p400 : 0 ≤ (x5_1 : Int) := zo_
       have q400 : x5_1 < (l0.length : Int) := zo_
       obtain ⟨ad400,e400,hx400_0,hx400_1⟩ := at_T80 HR0.out x5_1 p400 q400
       cases e400
       replace p400 := eq_true p400
       replace q400 := eq_true q400
       have p401 : 0 ≤ (x5_1 : Int) := zo_
       have q401 : x5_1 < (l0.length : Int) := zo_
       obtain ⟨ad401,e401,hx401_0,hx401_1⟩ := at_T80 HR0.out x5_1 p401 q401
       obtain rfl : ad400 = ad401 := (by injection e401)
       replace p401 := eq_true p401
       replace q401 := eq_true q401
       go_wp2
       go_roundg k1
       case measure => have := HK1.out;omega
       case rel => exact ⟨(wrap64 ((wrap64 (x1_1 + 1)) + 1)),(wrap64 (x5_1 + 1)),(by first | rfl | (simp;done) | (simp [*];done)),(by first | rfl | (simp;done) | (simp [*];done)),H',⟨by have := HK1.out;omega⟩,by repeat (first | exact Drawn0.refl _ | apply Drawn0.step)⟩
      ·rw [if_neg c6] at H
       have c6b0 : (((rd_T80 l0 x5_1).f1) == (wrap64 (x1_1 + 1))) = false := beq_eq_false_iff_ne.mpr c6
       have c6b1 : (((rd_T80 l0 x5_1).f1) != (wrap64 (x1_1 + 1))) = true := bne_iff_ne.mpr c6
       obtain rfl := Option.some.inj H
       have p400 : 0 ≤ (x5_1 : Int) := zo_
       have q400 : x5_1 < (l0.length : Int) := zo_
       obtain ⟨ad400,e400,hx400_0,hx400_1⟩ := at_T80 HR0.out x5_1 p400 q400
       cases e400
       replace p400 := eq_true p400
       replace q400 := eq_true q400
       have p401 : 0 ≤ (x5_1 : Int) := zo_
       have q401 : x5_1 < (l0.length : Int) := zo_
       obtain ⟨ad401,e401,hx401_0,hx401_1⟩ := at_T80 HR0.out x5_1 p401 q401
       obtain rfl : ad400 = ad401 := (by injection e401)
       replace p401 := eq_true p401
       replace q401 := eq_true q401
       go_wp2
       go_ret
       exact ⟨by first | rfl | (simp;done) | (simp [*];done),by repeat (first | exact Drawn0.refl _ | apply Drawn0.step)⟩
     ·rw [if_neg c5] at H
      have c5b0 : (((rd_T80 l0 x5_1).f0) == x1_1) = false := beq_eq_false_iff_ne.mpr c5
      have c5b1 : (((rd_T80 l0 x5_1).f0) != x1_1) = true := bne_iff_ne.mpr c5
      obtain rfl := Option.some.inj H
      have p400 : 0 ≤ (x5_1 : Int) := zo_
      have q400 : x5_1 < (l0.length : Int) := zo_
      obtain ⟨ad400,e400,hx400_0,hx400_1⟩ := at_T80 HR0.out x5_1 p400 q400
      cases e400
      replace p400 := eq_true p400
      replace q400 := eq_true q400
      go_wp2
      go_ret
      exact ⟨by first | rfl | (simp;done) | (simp [*];done),by repeat (first | exact Drawn0.refl _ | apply Drawn0.step)⟩
    ·rw [if_neg c4] at H
     exact absurd H (by simp)
   ·rw [if_neg c3] at H
    have c3b0 : decide (x5_1 < (l0.length : Int)) = false := decide_eq_false c3
    clear c3
    obtain rfl := Option.some.inj H
    go_wp2
    go_ret
    exact ⟨by first | rfl | (simp;done) | (simp [*];done),by repeat (first | exact Drawn0.refl _ | apply Drawn0.step)⟩
def laws_heldLockS.T4 : Bool × List (List Nat × List Nat) := (true,[([],[]),([],[]),([0,1],[0,1]),([2],[2]),([3],[3]),([],[]),([5],[5]),([4,6],[4,6])])
def laws_heldLockS.B4 : List Nat := [0,0,3,7,15,0,32,127]
theorem laws_heldLockS.tab4 : rtab .any (opsOf Try.f27 4) = laws_heldLockS.T4 := by kernel_rfl
theorem laws_heldLockS.bits4 : waitsOk laws_heldLockS.T4.2 laws_heldLockS.B4 = true := by kernel_rfl
set_option maxHeartbeats 8000000 in
set_option maxRecDepth 100000 in
theorem laws_heldLockS.calls (k : Nat) (A0 : Option Addr) (c0 : Nat) (l0 : List (S78)) (a1 : Int) (r : Int) (w : World) (hr0 : Kd.C k78 w A0 l0.length l0) (hc0 : l0.length ≤ c0) (h : laws_heldLockS.f k l0 a1 = some r) :
  Calls Try.prog 27 #[.slice A0 l0.length c0,.int .i64 a1] w fun e w' => e = .returned (.int .i64 r) ∧ Below w.heap.size w w' := by
 have HR0 := am_ hr0
 have HC0 := am_ hc0
 clear hr0 hc0
 have HB := am_ (Below.refl w.heap.size w)
 have H : (laws_heldLockS.l0 k l0 a1 0) = some r := h
 clear h
 have H' := am_ H
 clear H
 go_enter Try.func27,Try.ntmps27
 go_wp2
 go_loopg [1,5] k (fun kq v1 v5 w' => ∃ (x1_1 : Int) (x5_1 : Int),v1 = .int .i64 x1_1 ∧ v5 = .int .i64 x5_1 ∧ Aside0 (laws_heldLockS.l0 kq l0 x1_1 x5_1 = some r) ∧ Aside0 (kq ≤ k) ∧ Aside0 (Below w.heap.size w w'))
 case atStart => exact ⟨(a1),(0),(by first | rfl | (simp;done) | (simp [*];done)),(by first | rfl | (simp;done) | (simp [*];done)),H',⟨Nat.le_refl _⟩,⟨zl_ HB⟩⟩
 case round =>
  clear H'
  try clear c2
  try clear p2
  obtain ⟨x1_1,x5_1,rfl,rfl,HA,HK1,HB⟩ := hrel
  cases gk with
  | zero => exact absurd HA.out (by simp [laws_heldLockS.l0])
  | succ k1 =>
   have H := HA.out
   clear HA
   simp only [laws_heldLockS.l0] at H
   by_cases c3 : x5_1 < (l0.length : Int)
   ·rw [if_pos c3] at H
    have c3b0 : decide (x5_1 < (l0.length : Int)) = true := decide_eq_true c3
    clear c3
    by_cases c4 : 0 ≤ x5_1
    ·rw [if_pos c4] at H
     have c4b0 : decide (0 ≤ x5_1) = true := decide_eq_true c4
     clear c4
     replace H := Option.bind_eq_some_iff.mp H
     obtain ⟨t403,A50,H⟩ := H
     try dsimp only at H
     have A5 := am_ A50
     clear A50
     by_cases c6 : ((rd_T78 l0 x5_1).f0).toList = t403.toList
     ·rw [if_pos c6] at H
      have c6b0 : (((rd_T78 l0 x5_1).f0).toList == t403.toList) = true := beq_iff_eq.mpr c6
      have c6b1 : (((rd_T78 l0 x5_1).f0).toList != t403.toList) = false := bne_eq_false_iff_eq.mpr c6
      clear c6
      by_cases c7 : ((rd_T78 l0 x5_1).f1) = (wrap64 (x1_1 + 1))
      ·rw [if_pos c7] at H
       have c7b0 : (((rd_T78 l0 x5_1).f1) == (wrap64 (x1_1 + 1))) = true := beq_iff_eq.mpr c7
       have c7b1 : (((rd_T78 l0 x5_1).f1) != (wrap64 (x1_1 + 1))) = false := bne_eq_false_iff_eq.mpr c7
       clear c7
       by_cases c8 : ((rd_T78 l0 x5_1).f2) = (wrap64 ((wrap64 (x1_1 + 1)) + 1))
       ·rw [if_pos c8] at H
        have c8b0 : (((rd_T78 l0 x5_1).f2) == (wrap64 ((wrap64 (x1_1 + 1)) + 1))) = true := beq_iff_eq.mpr c8
        have c8b1 : (((rd_T78 l0 x5_1).f2) != (wrap64 ((wrap64 (x1_1 + 1)) + 1))) = false := bne_eq_false_iff_eq.mpr c8
        clear c8
        by_cases c9 : ((rd_T78 l0 x5_1).f3) = (wrap64 ((wrap64 ((wrap64 (x1_1 + 1)) + 1)) + 1))
        ·rw [if_pos c9] at H
         have c9b0 : (((rd_T78 l0 x5_1).f3) == (wrap64 ((wrap64 ((wrap64 (x1_1 + 1)) + 1)) + 1))) = true := beq_iff_eq.mpr c9
         have c9b1 : (((rd_T78 l0 x5_1).f3) != (wrap64 ((wrap64 ((wrap64 (x1_1 + 1)) + 1)) + 1))) = false := bne_eq_false_iff_eq.mpr c9
         clear c9
         replace H := Option.bind_eq_some_iff.mp H
         obtain ⟨t408,A100,H⟩ := H
         try dsimp only at H
         have A10 := am_ A100
         clear A100
         by_cases c11 : t408 < 0
         ·rw [if_pos c11] at H
          have c11b0 : decide (t408 < 0) = true := decide_eq_true c11
          clear c11
          obtain rfl := Option.some.inj H
          try go_wp2
          replace HB := am_ (below_drew1 HB.out)
          have p402 : 0 ≤ (x5_1 : Int) := zo_
          have q402 : x5_1 < (l0.length : Int) := zo_
          obtain ⟨ad402,A402_4,c402_4,e402,hx402_0,hx402_1,hx402_2,hx402_3,hx402_4,hl402_4,hi402_4⟩ := at_T78 HR0.out x5_1 p402 q402
          have hw402_4 := hx402_4
          have hw402_3 := hx402_3
          have hw402_2 := hx402_2
          have hw402_1 := hx402_1
          have hw402_0 := hx402_0
          have hv402_4 := hx402_4
          cases e402
          replace hx402_0 := zx_ HB hx402_0
          replace hx402_1 := zx_ HB hx402_1
          replace hx402_2 := zx_ HB hx402_2
          replace hx402_3 := zx_ HB hx402_3
          replace hx402_4 := zx_ HB hx402_4
          have HR402_4 := am_ hi402_4
          have HC402_4 := am_ hl402_4
          clear hi402_4 hl402_4
          replace p402 := eq_true p402
          replace q402 := eq_true q402
          refine start_ (n := 8) (S := fun w' => w'.cell? (ad402.add ((x5_1).toNat * 5)) = some (.string ((rd_T78 l0 x5_1).f0)) ∧ w'.cell? ⟨(ad402.add ((x5_1).toNat * 5)).block,(ad402.add ((x5_1).toNat * 5)).off + 1,none⟩ = some (.int .i64 ((rd_T78 l0 x5_1).f1)) ∧ w'.cell? ⟨(ad402.add ((x5_1).toNat * 5)).block,(ad402.add ((x5_1).toNat * 5)).off + 2,none⟩ = some (.int .i64 ((rd_T78 l0 x5_1).f2)) ∧ w'.cell? ⟨(ad402.add ((x5_1).toNat * 5)).block,(ad402.add ((x5_1).toNat * 5)).off + 3,none⟩ = some (.int .i64 ((rd_T78 l0 x5_1).f3)) ∧ w'.cell? ⟨(ad402.add ((x5_1).toNat * 5)).block,(ad402.add ((x5_1).toNat * 5)).off + 4,none⟩ = some (.slice A402_4 ((rd_T78 l0 x5_1).f4).length c402_4)) (ds := []) #[false,false,false,false,false,false,false,false] (by kernel_rfl) rfl rfl ⟨(zx_ HB hw402_0),(zx_ HB hw402_1),(zx_ HB hw402_2),(zx_ HB hw402_3),(zx_ HB hw402_4)⟩ (fun hHeld => ?_);refine with_tabW laws_heldLockS.tab4 laws_heldLockS.bits4 (fun HT_ HW_ => ?_)
          generalize wr.drew = w12 at HB HR402_4 hx402_0 hx402_1 hx402_2 hx402_3 hx402_4 hHeld ⊢
          refine zpu 0 (N := some 12) HT_ ?_
          refine zpu 1 (N := some 13) HT_ ?_
          refine zpu 2 (N := some 14) HT_ ?_
          refine zpu 3 (N := some 15) HT_ ?_
          refine zpu 5 (N := some 17) HT_ ?_
          refine ztk 4 (N := some 16) HT_ HW_ hHeld ?_
          refine zon 6 (N := some 18) HT_ (fun K hK => ?_)
          refine zgo Try.func55 #[.int .i64 x1_1] ?_
          with_reducible refine (laws_markText.calls k1 x1_1 t403 _ A5.out).mono ?_
          rintro e w13 ⟨rfl,hb⟩
          refine ⟨_,rfl,?_⟩
          replace HB := zs_ HB hb
          (try clear hb)
          (try clear hb2)
          (try clear hk)
          (try clear hi)
          refine hK.out _ _ ⟨(zx_ HB hw402_0),(zx_ HB hw402_1),(zx_ HB hw402_2),(zx_ HB hw402_3),(zx_ HB hw402_4)⟩ (fun hHeld => ?_)
          clear hK K
          refine norm_ (a' := ?_) ?_ ?_
          rotate_left
          ·show Act.put _ (some 18) _ = _
           simp only [Act.put,p1_,p2_,p3_,i64_w,i32_w]
           rfl
          refine zpu 7 (N := some 19) HT_ ?_
          refine done_ (done_of HT_.out (by kernel_rfl)) ?_
          have p404 : 0 ≤ (x5_1 : Int) := zo_
          have q404 : x5_1 < (l0.length : Int) := zo_
          obtain ⟨ad404,A404_4,c404_4,e404,hx404_0,hx404_1,hx404_2,hx404_3,hx404_4,hl404_4,hi404_4⟩ := at_T78 HR0.out x5_1 p404 q404
          have hv404_4 := hx404_4
          obtain rfl : ad402 = ad404 := (by injection e404)
          have ea_ := Option.some.inj (hv402_4.symm.trans hv404_4)
          injection ea_ with ea_ en_ ec_
          subst ea_
          subst ec_
          clear en_
          replace hx404_0 := zx_ HB hx404_0
          replace hx404_1 := zx_ HB hx404_1
          replace hx404_2 := zx_ HB hx404_2
          replace hx404_3 := zx_ HB hx404_3
          replace hx404_4 := zx_ HB hx404_4
          have HR404_4 := am_ hi404_4
          have HC404_4 := am_ hl404_4
          clear hi404_4 hl404_4
          replace p404 := eq_true p404
          replace q404 := eq_true q404
          have p405 : 0 ≤ (x5_1 : Int) := zo_
          have q405 : x5_1 < (l0.length : Int) := zo_
          obtain ⟨ad405,A405_4,c405_4,e405,hx405_0,hx405_1,hx405_2,hx405_3,hx405_4,hl405_4,hi405_4⟩ := at_T78 HR0.out x5_1 p405 q405
          have hv405_4 := hx405_4
          obtain rfl : ad402 = ad405 := (by injection e405)
          have ea_ := Option.some.inj (hv402_4.symm.trans hv405_4)
          injection ea_ with ea_ en_ ec_
          subst ea_
          subst ec_
          clear en_
          replace hx405_0 := zx_ HB hx405_0
          replace hx405_1 := zx_ HB hx405_1
          replace hx405_2 := zx_ HB hx405_2
          replace hx405_3 := zx_ HB hx405_3
          replace hx405_4 := zx_ HB hx405_4
          have HR405_4 := am_ hi405_4
          have HC405_4 := am_ hl405_4
          clear hi405_4 hl405_4
          replace p405 := eq_true p405
          replace q405 := eq_true q405
          have p406 : 0 ≤ (x5_1 : Int) := zo_
          have q406 : x5_1 < (l0.length : Int) := zo_
          obtain ⟨ad406,A406_4,c406_4,e406,hx406_0,hx406_1,hx406_2,hx406_3,hx406_4,hl406_4,hi406_4⟩ := at_T78 HR0.out x5_1 p406 q406
          have hv406_4 := hx406_4
          obtain rfl : ad402 = ad406 := (by injection e406)
          have ea_ := Option.some.inj (hv402_4.symm.trans hv406_4)
          injection ea_ with ea_ en_ ec_
          subst ea_
          subst ec_
          clear en_
          replace hx406_0 := zx_ HB hx406_0
          replace hx406_1 := zx_ HB hx406_1
          replace hx406_2 := zx_ HB hx406_2
          replace hx406_3 := zx_ HB hx406_3
          replace hx406_4 := zx_ HB hx406_4
          have HR406_4 := am_ hi406_4
          have HC406_4 := am_ hl406_4
          clear hi406_4 hl406_4
          replace p406 := eq_true p406
          replace q406 := eq_true q406
          have p407 : 0 ≤ (x5_1 : Int) := zo_
          have q407 : x5_1 < (l0.length : Int) := zo_
          obtain ⟨ad407,A407_4,c407_4,e407,hx407_0,hx407_1,hx407_2,hx407_3,hx407_4,hl407_4,hi407_4⟩ := at_T78 HR0.out x5_1 p407 q407
          have hv407_4 := hx407_4
          obtain rfl : ad402 = ad407 := (by injection e407)
          have ea_ := Option.some.inj (hv402_4.symm.trans hv407_4)
          injection ea_ with ea_ en_ ec_
          subst ea_
          subst ec_
          clear en_
          replace hx407_0 := zx_ HB hx407_0
          replace hx407_1 := zx_ HB hx407_1
          replace hx407_2 := zx_ HB hx407_2
          replace hx407_3 := zx_ HB hx407_3
          replace hx407_4 := zx_ HB hx407_4
          have HR407_4 := am_ hi407_4
          have HC407_4 := am_ hl407_4
          clear hi407_4 hl407_4
          replace p407 := eq_true p407
          replace q407 := eq_true q407
          try go_wp2_with (first | ((with_reducible refine gate_callee (f := 57) rfl ?_);refine zgl (some 55) Try.func57 #[.slice A402_4 ((rd_T78 l0 x5_1).f4).length c402_4,.int .i64 (wrap64 ((wrap64 ((wrap64 ((wrap64 (x1_1 + 1)) + 1)) + 1)) + 1))] ?_;(with_reducible refine (laws_heldWaiterS.calls k1 _ _ ((rd_T78 l0 x5_1).f4) (wrap64 ((wrap64 ((wrap64 ((wrap64 (x1_1 + 1)) + 1)) + 1)) + 1)) t408 _ ?side1 ?side2 A10.out).mono ?_);(case side1 => exact zc_ HR407_4 HB);(case side2 => exact HC407_4.out);rintro e w' ⟨rfl,⟨nd,rfl⟩⟩;refine ⟨_,rfl,?_⟩))
          go_ret
          exact ⟨zt_,zl_ HB⟩
         ·rw [if_neg c11] at H
          have c11b0 : decide (t408 < 0) = false := decide_eq_false c11
          clear c11
          have H' := am_ H
          clear H
          try go_wp2
          replace HB := am_ (below_drew1 HB.out)
          have p402 : 0 ≤ (x5_1 : Int) := zo_
          have q402 : x5_1 < (l0.length : Int) := zo_
          obtain ⟨ad402,A402_4,c402_4,e402,hx402_0,hx402_1,hx402_2,hx402_3,hx402_4,hl402_4,hi402_4⟩ := at_T78 HR0.out x5_1 p402 q402
          have hw402_4 := hx402_4
          have hw402_3 := hx402_3
          have hw402_2 := hx402_2
          have hw402_1 := hx402_1
          have hw402_0 := hx402_0
          have hv402_4 := hx402_4
          cases e402
          replace hx402_0 := zx_ HB hx402_0
          replace hx402_1 := zx_ HB hx402_1
          replace hx402_2 := zx_ HB hx402_2
          replace hx402_3 := zx_ HB hx402_3
          replace hx402_4 := zx_ HB hx402_4
          have HR402_4 := am_ hi402_4
          have HC402_4 := am_ hl402_4
          clear hi402_4 hl402_4
          replace p402 := eq_true p402
          replace q402 := eq_true q402
          refine start_ (n := 8) (S := fun w' => w'.cell? (ad402.add ((x5_1).toNat * 5)) = some (.string ((rd_T78 l0 x5_1).f0)) ∧ w'.cell? ⟨(ad402.add ((x5_1).toNat * 5)).block,(ad402.add ((x5_1).toNat * 5)).off + 1,none⟩ = some (.int .i64 ((rd_T78 l0 x5_1).f1)) ∧ w'.cell? ⟨(ad402.add ((x5_1).toNat * 5)).block,(ad402.add ((x5_1).toNat * 5)).off + 2,none⟩ = some (.int .i64 ((rd_T78 l0 x5_1).f2)) ∧ w'.cell? ⟨(ad402.add ((x5_1).toNat * 5)).block,(ad402.add ((x5_1).toNat * 5)).off + 3,none⟩ = some (.int .i64 ((rd_T78 l0 x5_1).f3)) ∧ w'.cell? ⟨(ad402.add ((x5_1).toNat * 5)).block,(ad402.add ((x5_1).toNat * 5)).off + 4,none⟩ = some (.slice A402_4 ((rd_T78 l0 x5_1).f4).length c402_4)) (ds := []) #[false,false,false,false,false,false,false,false] (by kernel_rfl) rfl rfl ⟨(zx_ HB hw402_0),(zx_ HB hw402_1),(zx_ HB hw402_2),(zx_ HB hw402_3),(zx_ HB hw402_4)⟩ (fun hHeld => ?_);refine with_tabW laws_heldLockS.tab4 laws_heldLockS.bits4 (fun HT_ HW_ => ?_)
          generalize wr.drew = w14 at HB HR402_4 hx402_0 hx402_1 hx402_2 hx402_3 hx402_4 hHeld ⊢
          refine zpu 0 (N := some 12) HT_ ?_
          refine zpu 1 (N := some 13) HT_ ?_
          refine zpu 2 (N := some 14) HT_ ?_
          refine zpu 3 (N := some 15) HT_ ?_
          refine zpu 5 (N := some 17) HT_ ?_
          refine ztk 4 (N := some 16) HT_ HW_ hHeld ?_
          refine zon 6 (N := some 18) HT_ (fun K hK => ?_)
          refine zgo Try.func55 #[.int .i64 x1_1] ?_
          with_reducible refine (laws_markText.calls k1 x1_1 t403 _ A5.out).mono ?_
          rintro e w15 ⟨rfl,hb⟩
          refine ⟨_,rfl,?_⟩
          replace HB := zs_ HB hb
          (try clear hb)
          (try clear hb2)
          (try clear hk)
          (try clear hi)
          refine hK.out _ _ ⟨(zx_ HB hw402_0),(zx_ HB hw402_1),(zx_ HB hw402_2),(zx_ HB hw402_3),(zx_ HB hw402_4)⟩ (fun hHeld => ?_)
          clear hK K
          refine norm_ (a' := ?_) ?_ ?_
          rotate_left
          ·show Act.put _ (some 18) _ = _
           simp only [Act.put,p1_,p2_,p3_,i64_w,i32_w]
           rfl
          refine zpu 7 (N := some 19) HT_ ?_
          refine done_ (done_of HT_.out (by kernel_rfl)) ?_
          have p404 : 0 ≤ (x5_1 : Int) := zo_
          have q404 : x5_1 < (l0.length : Int) := zo_
          obtain ⟨ad404,A404_4,c404_4,e404,hx404_0,hx404_1,hx404_2,hx404_3,hx404_4,hl404_4,hi404_4⟩ := at_T78 HR0.out x5_1 p404 q404
          have hv404_4 := hx404_4
          obtain rfl : ad402 = ad404 := (by injection e404)
          have ea_ := Option.some.inj (hv402_4.symm.trans hv404_4)
          injection ea_ with ea_ en_ ec_
          subst ea_
          subst ec_
          clear en_
          replace hx404_0 := zx_ HB hx404_0
          replace hx404_1 := zx_ HB hx404_1
          replace hx404_2 := zx_ HB hx404_2
          replace hx404_3 := zx_ HB hx404_3
          replace hx404_4 := zx_ HB hx404_4
          have HR404_4 := am_ hi404_4
          have HC404_4 := am_ hl404_4
          clear hi404_4 hl404_4
          replace p404 := eq_true p404
          replace q404 := eq_true q404
          have p405 : 0 ≤ (x5_1 : Int) := zo_
          have q405 : x5_1 < (l0.length : Int) := zo_
          obtain ⟨ad405,A405_4,c405_4,e405,hx405_0,hx405_1,hx405_2,hx405_3,hx405_4,hl405_4,hi405_4⟩ := at_T78 HR0.out x5_1 p405 q405
          have hv405_4 := hx405_4
          obtain rfl : ad402 = ad405 := (by injection e405)
          have ea_ := Option.some.inj (hv402_4.symm.trans hv405_4)
          injection ea_ with ea_ en_ ec_
          subst ea_
          subst ec_
          clear en_
          replace hx405_0 := zx_ HB hx405_0
          replace hx405_1 := zx_ HB hx405_1
          replace hx405_2 := zx_ HB hx405_2
          replace hx405_3 := zx_ HB hx405_3
          replace hx405_4 := zx_ HB hx405_4
          have HR405_4 := am_ hi405_4
          have HC405_4 := am_ hl405_4
          clear hi405_4 hl405_4
          replace p405 := eq_true p405
          replace q405 := eq_true q405
          have p406 : 0 ≤ (x5_1 : Int) := zo_
          have q406 : x5_1 < (l0.length : Int) := zo_
          obtain ⟨ad406,A406_4,c406_4,e406,hx406_0,hx406_1,hx406_2,hx406_3,hx406_4,hl406_4,hi406_4⟩ := at_T78 HR0.out x5_1 p406 q406
          have hv406_4 := hx406_4
          obtain rfl : ad402 = ad406 := (by injection e406)
          have ea_ := Option.some.inj (hv402_4.symm.trans hv406_4)
          injection ea_ with ea_ en_ ec_
          subst ea_
          subst ec_
          clear en_
          replace hx406_0 := zx_ HB hx406_0
          replace hx406_1 := zx_ HB hx406_1
          replace hx406_2 := zx_ HB hx406_2
          replace hx406_3 := zx_ HB hx406_3
          replace hx406_4 := zx_ HB hx406_4
          have HR406_4 := am_ hi406_4
          have HC406_4 := am_ hl406_4
          clear hi406_4 hl406_4
          replace p406 := eq_true p406
          replace q406 := eq_true q406
          have p407 : 0 ≤ (x5_1 : Int) := zo_
          have q407 : x5_1 < (l0.length : Int) := zo_
          obtain ⟨ad407,A407_4,c407_4,e407,hx407_0,hx407_1,hx407_2,hx407_3,hx407_4,hl407_4,hi407_4⟩ := at_T78 HR0.out x5_1 p407 q407
          have hv407_4 := hx407_4
          obtain rfl : ad402 = ad407 := (by injection e407)
          have ea_ := Option.some.inj (hv402_4.symm.trans hv407_4)
          injection ea_ with ea_ en_ ec_
          subst ea_
          subst ec_
          clear en_
          replace hx407_0 := zx_ HB hx407_0
          replace hx407_1 := zx_ HB hx407_1
          replace hx407_2 := zx_ HB hx407_2
          replace hx407_3 := zx_ HB hx407_3
          replace hx407_4 := zx_ HB hx407_4
          have HR407_4 := am_ hi407_4
          have HC407_4 := am_ hl407_4
          clear hi407_4 hl407_4
          replace p407 := eq_true p407
          replace q407 := eq_true q407
          try go_wp2_with (first | ((with_reducible refine gate_callee (f := 57) rfl ?_);refine zgl (some 55) Try.func57 #[.slice A402_4 ((rd_T78 l0 x5_1).f4).length c402_4,.int .i64 (wrap64 ((wrap64 ((wrap64 ((wrap64 (x1_1 + 1)) + 1)) + 1)) + 1))] ?_;(with_reducible refine (laws_heldWaiterS.calls k1 _ _ ((rd_T78 l0 x5_1).f4) (wrap64 ((wrap64 ((wrap64 ((wrap64 (x1_1 + 1)) + 1)) + 1)) + 1)) t408 _ ?side1 ?side2 A10.out).mono ?_);(case side1 => exact zc_ HR407_4 HB);(case side2 => exact HC407_4.out);rintro e w' ⟨rfl,⟨nd,rfl⟩⟩;refine ⟨_,rfl,?_⟩))
          go_roundg k1
          case measure => have := HK1.out;omega
          case rel => exact ⟨(t408),(wrap64 (x5_1 + 1)),(by first | rfl | (simp;done) | (simp [*];done)),(by first | rfl | (simp;done) | (simp [*];done)),H',⟨by have := HK1.out;omega⟩,⟨zl_ HB⟩⟩
        ·rw [if_neg c9] at H
         have c9b0 : (((rd_T78 l0 x5_1).f3) == (wrap64 ((wrap64 ((wrap64 (x1_1 + 1)) + 1)) + 1))) = false := beq_eq_false_iff_ne.mpr c9
         have c9b1 : (((rd_T78 l0 x5_1).f3) != (wrap64 ((wrap64 ((wrap64 (x1_1 + 1)) + 1)) + 1))) = true := bne_iff_ne.mpr c9
         obtain rfl := Option.some.inj H
         try go_wp2
         replace HB := am_ (below_drew1 HB.out)
         have p402 : 0 ≤ (x5_1 : Int) := zo_
         have q402 : x5_1 < (l0.length : Int) := zo_
         obtain ⟨ad402,A402_4,c402_4,e402,hx402_0,hx402_1,hx402_2,hx402_3,hx402_4,hl402_4,hi402_4⟩ := at_T78 HR0.out x5_1 p402 q402
         have hw402_4 := hx402_4
         have hw402_3 := hx402_3
         have hw402_2 := hx402_2
         have hw402_1 := hx402_1
         have hw402_0 := hx402_0
         have hv402_4 := hx402_4
         cases e402
         replace hx402_0 := zx_ HB hx402_0
         replace hx402_1 := zx_ HB hx402_1
         replace hx402_2 := zx_ HB hx402_2
         replace hx402_3 := zx_ HB hx402_3
         replace hx402_4 := zx_ HB hx402_4
         have HR402_4 := am_ hi402_4
         have HC402_4 := am_ hl402_4
         clear hi402_4 hl402_4
         replace p402 := eq_true p402
         replace q402 := eq_true q402
         refine start_ (n := 8) (S := fun w' => w'.cell? (ad402.add ((x5_1).toNat * 5)) = some (.string ((rd_T78 l0 x5_1).f0)) ∧ w'.cell? ⟨(ad402.add ((x5_1).toNat * 5)).block,(ad402.add ((x5_1).toNat * 5)).off + 1,none⟩ = some (.int .i64 ((rd_T78 l0 x5_1).f1)) ∧ w'.cell? ⟨(ad402.add ((x5_1).toNat * 5)).block,(ad402.add ((x5_1).toNat * 5)).off + 2,none⟩ = some (.int .i64 ((rd_T78 l0 x5_1).f2)) ∧ w'.cell? ⟨(ad402.add ((x5_1).toNat * 5)).block,(ad402.add ((x5_1).toNat * 5)).off + 3,none⟩ = some (.int .i64 ((rd_T78 l0 x5_1).f3)) ∧ w'.cell? ⟨(ad402.add ((x5_1).toNat * 5)).block,(ad402.add ((x5_1).toNat * 5)).off + 4,none⟩ = some (.slice A402_4 ((rd_T78 l0 x5_1).f4).length c402_4)) (ds := []) #[false,false,false,false,false,false,false,false] (by kernel_rfl) rfl rfl ⟨(zx_ HB hw402_0),(zx_ HB hw402_1),(zx_ HB hw402_2),(zx_ HB hw402_3),(zx_ HB hw402_4)⟩ (fun hHeld => ?_);refine with_tabW laws_heldLockS.tab4 laws_heldLockS.bits4 (fun HT_ HW_ => ?_)
         generalize wr.drew = w16 at HB HR402_4 hx402_0 hx402_1 hx402_2 hx402_3 hx402_4 hHeld ⊢
         refine zpu 0 (N := some 12) HT_ ?_
         refine zpu 1 (N := some 13) HT_ ?_
         refine zpu 2 (N := some 14) HT_ ?_
         refine zpu 3 (N := some 15) HT_ ?_
         refine zpu 5 (N := some 17) HT_ ?_
         refine ztk 4 (N := some 16) HT_ HW_ hHeld ?_
         refine zon 6 (N := some 18) HT_ (fun K hK => ?_)
         refine zgo Try.func55 #[.int .i64 x1_1] ?_
         with_reducible refine (laws_markText.calls k1 x1_1 t403 _ A5.out).mono ?_
         rintro e w17 ⟨rfl,hb⟩
         refine ⟨_,rfl,?_⟩
         replace HB := zs_ HB hb
         (try clear hb)
         (try clear hb2)
         (try clear hk)
         (try clear hi)
         refine hK.out _ _ ⟨(zx_ HB hw402_0),(zx_ HB hw402_1),(zx_ HB hw402_2),(zx_ HB hw402_3),(zx_ HB hw402_4)⟩ (fun hHeld => ?_)
         clear hK K
         refine norm_ (a' := ?_) ?_ ?_
         rotate_left
         ·show Act.put _ (some 18) _ = _
          simp only [Act.put,p1_,p2_,p3_,i64_w,i32_w]
          rfl
         refine zpu 7 (N := some 19) HT_ ?_
         refine done_ (done_of HT_.out (by kernel_rfl)) ?_
         have p404 : 0 ≤ (x5_1 : Int) := zo_
         have q404 : x5_1 < (l0.length : Int) := zo_
         obtain ⟨ad404,A404_4,c404_4,e404,hx404_0,hx404_1,hx404_2,hx404_3,hx404_4,hl404_4,hi404_4⟩ := at_T78 HR0.out x5_1 p404 q404
         have hv404_4 := hx404_4
         obtain rfl : ad402 = ad404 := (by injection e404)
         have ea_ := Option.some.inj (hv402_4.symm.trans hv404_4)
         injection ea_ with ea_ en_ ec_
         subst ea_
         subst ec_
         clear en_
         replace hx404_0 := zx_ HB hx404_0
         replace hx404_1 := zx_ HB hx404_1
         replace hx404_2 := zx_ HB hx404_2
         replace hx404_3 := zx_ HB hx404_3
         replace hx404_4 := zx_ HB hx404_4
         have HR404_4 := am_ hi404_4
         have HC404_4 := am_ hl404_4
         clear hi404_4 hl404_4
         replace p404 := eq_true p404
         replace q404 := eq_true q404
         have p405 : 0 ≤ (x5_1 : Int) := zo_
         have q405 : x5_1 < (l0.length : Int) := zo_
         obtain ⟨ad405,A405_4,c405_4,e405,hx405_0,hx405_1,hx405_2,hx405_3,hx405_4,hl405_4,hi405_4⟩ := at_T78 HR0.out x5_1 p405 q405
         have hv405_4 := hx405_4
         obtain rfl : ad402 = ad405 := (by injection e405)
         have ea_ := Option.some.inj (hv402_4.symm.trans hv405_4)
         injection ea_ with ea_ en_ ec_
         subst ea_
         subst ec_
         clear en_
         replace hx405_0 := zx_ HB hx405_0
         replace hx405_1 := zx_ HB hx405_1
         replace hx405_2 := zx_ HB hx405_2
         replace hx405_3 := zx_ HB hx405_3
         replace hx405_4 := zx_ HB hx405_4
         have HR405_4 := am_ hi405_4
         have HC405_4 := am_ hl405_4
         clear hi405_4 hl405_4
         replace p405 := eq_true p405
         replace q405 := eq_true q405
         have p406 : 0 ≤ (x5_1 : Int) := zo_
         have q406 : x5_1 < (l0.length : Int) := zo_
         obtain ⟨ad406,A406_4,c406_4,e406,hx406_0,hx406_1,hx406_2,hx406_3,hx406_4,hl406_4,hi406_4⟩ := at_T78 HR0.out x5_1 p406 q406
         have hv406_4 := hx406_4
         obtain rfl : ad402 = ad406 := (by injection e406)
         have ea_ := Option.some.inj (hv402_4.symm.trans hv406_4)
         injection ea_ with ea_ en_ ec_
         subst ea_
         subst ec_
         clear en_
         replace hx406_0 := zx_ HB hx406_0
         replace hx406_1 := zx_ HB hx406_1
         replace hx406_2 := zx_ HB hx406_2
         replace hx406_3 := zx_ HB hx406_3
         replace hx406_4 := zx_ HB hx406_4
         have HR406_4 := am_ hi406_4
         have HC406_4 := am_ hl406_4
         clear hi406_4 hl406_4
         replace p406 := eq_true p406
         replace q406 := eq_true q406
         try go_wp2
         go_ret
         exact ⟨zt_,zl_ HB⟩
       ·rw [if_neg c8] at H
        have c8b0 : (((rd_T78 l0 x5_1).f2) == (wrap64 ((wrap64 (x1_1 + 1)) + 1))) = false := beq_eq_false_iff_ne.mpr c8
        have c8b1 : (((rd_T78 l0 x5_1).f2) != (wrap64 ((wrap64 (x1_1 + 1)) + 1))) = true := bne_iff_ne.mpr c8
        obtain rfl := Option.some.inj H
        try go_wp2
        replace HB := am_ (below_drew1 HB.out)
        have p402 : 0 ≤ (x5_1 : Int) := zo_
        have q402 : x5_1 < (l0.length : Int) := zo_
        obtain ⟨ad402,A402_4,c402_4,e402,hx402_0,hx402_1,hx402_2,hx402_3,hx402_4,hl402_4,hi402_4⟩ := at_T78 HR0.out x5_1 p402 q402
        have hw402_4 := hx402_4
        have hw402_3 := hx402_3
        have hw402_2 := hx402_2
        have hw402_1 := hx402_1
        have hw402_0 := hx402_0
        have hv402_4 := hx402_4
        cases e402
        replace hx402_0 := zx_ HB hx402_0
        replace hx402_1 := zx_ HB hx402_1
        replace hx402_2 := zx_ HB hx402_2
        replace hx402_3 := zx_ HB hx402_3
        replace hx402_4 := zx_ HB hx402_4
        have HR402_4 := am_ hi402_4
        have HC402_4 := am_ hl402_4
        clear hi402_4 hl402_4
        replace p402 := eq_true p402
        replace q402 := eq_true q402
        refine start_ (n := 8) (S := fun w' => w'.cell? (ad402.add ((x5_1).toNat * 5)) = some (.string ((rd_T78 l0 x5_1).f0)) ∧ w'.cell? ⟨(ad402.add ((x5_1).toNat * 5)).block,(ad402.add ((x5_1).toNat * 5)).off + 1,none⟩ = some (.int .i64 ((rd_T78 l0 x5_1).f1)) ∧ w'.cell? ⟨(ad402.add ((x5_1).toNat * 5)).block,(ad402.add ((x5_1).toNat * 5)).off + 2,none⟩ = some (.int .i64 ((rd_T78 l0 x5_1).f2)) ∧ w'.cell? ⟨(ad402.add ((x5_1).toNat * 5)).block,(ad402.add ((x5_1).toNat * 5)).off + 3,none⟩ = some (.int .i64 ((rd_T78 l0 x5_1).f3)) ∧ w'.cell? ⟨(ad402.add ((x5_1).toNat * 5)).block,(ad402.add ((x5_1).toNat * 5)).off + 4,none⟩ = some (.slice A402_4 ((rd_T78 l0 x5_1).f4).length c402_4)) (ds := []) #[false,false,false,false,false,false,false,false] (by kernel_rfl) rfl rfl ⟨(zx_ HB hw402_0),(zx_ HB hw402_1),(zx_ HB hw402_2),(zx_ HB hw402_3),(zx_ HB hw402_4)⟩ (fun hHeld => ?_);refine with_tabW laws_heldLockS.tab4 laws_heldLockS.bits4 (fun HT_ HW_ => ?_)
        generalize wr.drew = w18 at HB HR402_4 hx402_0 hx402_1 hx402_2 hx402_3 hx402_4 hHeld ⊢
        refine zpu 0 (N := some 12) HT_ ?_
        refine zpu 1 (N := some 13) HT_ ?_
        refine zpu 2 (N := some 14) HT_ ?_
        refine zpu 3 (N := some 15) HT_ ?_
        refine zpu 5 (N := some 17) HT_ ?_
        refine ztk 4 (N := some 16) HT_ HW_ hHeld ?_
        refine zon 6 (N := some 18) HT_ (fun K hK => ?_)
        refine zgo Try.func55 #[.int .i64 x1_1] ?_
        with_reducible refine (laws_markText.calls k1 x1_1 t403 _ A5.out).mono ?_
        rintro e w19 ⟨rfl,hb⟩
        refine ⟨_,rfl,?_⟩
        replace HB := zs_ HB hb
        (try clear hb)
        (try clear hb2)
        (try clear hk)
        (try clear hi)
        refine hK.out _ _ ⟨(zx_ HB hw402_0),(zx_ HB hw402_1),(zx_ HB hw402_2),(zx_ HB hw402_3),(zx_ HB hw402_4)⟩ (fun hHeld => ?_)
        clear hK K
        refine norm_ (a' := ?_) ?_ ?_
        rotate_left
        ·show Act.put _ (some 18) _ = _
         simp only [Act.put,p1_,p2_,p3_,i64_w,i32_w]
         rfl
        refine zpu 7 (N := some 19) HT_ ?_
        refine done_ (done_of HT_.out (by kernel_rfl)) ?_
        have p404 : 0 ≤ (x5_1 : Int) := zo_
        have q404 : x5_1 < (l0.length : Int) := zo_
        obtain ⟨ad404,A404_4,c404_4,e404,hx404_0,hx404_1,hx404_2,hx404_3,hx404_4,hl404_4,hi404_4⟩ := at_T78 HR0.out x5_1 p404 q404
        have hv404_4 := hx404_4
        obtain rfl : ad402 = ad404 := (by injection e404)
        have ea_ := Option.some.inj (hv402_4.symm.trans hv404_4)
        injection ea_ with ea_ en_ ec_
        subst ea_
        subst ec_
        clear en_
        replace hx404_0 := zx_ HB hx404_0
        replace hx404_1 := zx_ HB hx404_1
        replace hx404_2 := zx_ HB hx404_2
        replace hx404_3 := zx_ HB hx404_3
        replace hx404_4 := zx_ HB hx404_4
        have HR404_4 := am_ hi404_4
        have HC404_4 := am_ hl404_4
        clear hi404_4 hl404_4
        replace p404 := eq_true p404
        replace q404 := eq_true q404
        have p405 : 0 ≤ (x5_1 : Int) := zo_
        have q405 : x5_1 < (l0.length : Int) := zo_
        obtain ⟨ad405,A405_4,c405_4,e405,hx405_0,hx405_1,hx405_2,hx405_3,hx405_4,hl405_4,hi405_4⟩ := at_T78 HR0.out x5_1 p405 q405
        have hv405_4 := hx405_4
        obtain rfl : ad402 = ad405 := (by injection e405)
        have ea_ := Option.some.inj (hv402_4.symm.trans hv405_4)
        injection ea_ with ea_ en_ ec_
        subst ea_
        subst ec_
        clear en_
        replace hx405_0 := zx_ HB hx405_0
        replace hx405_1 := zx_ HB hx405_1
        replace hx405_2 := zx_ HB hx405_2
        replace hx405_3 := zx_ HB hx405_3
        replace hx405_4 := zx_ HB hx405_4
        have HR405_4 := am_ hi405_4
        have HC405_4 := am_ hl405_4
        clear hi405_4 hl405_4
        replace p405 := eq_true p405
        replace q405 := eq_true q405
        try go_wp2
        go_ret
        exact ⟨zt_,zl_ HB⟩
      ·rw [if_neg c7] at H
       have c7b0 : (((rd_T78 l0 x5_1).f1) == (wrap64 (x1_1 + 1))) = false := beq_eq_false_iff_ne.mpr c7
       have c7b1 : (((rd_T78 l0 x5_1).f1) != (wrap64 (x1_1 + 1))) = true := bne_iff_ne.mpr c7
       obtain rfl := Option.some.inj H
       try go_wp2
       replace HB := am_ (below_drew1 HB.out)
       have p402 : 0 ≤ (x5_1 : Int) := zo_
       have q402 : x5_1 < (l0.length : Int) := zo_
       obtain ⟨ad402,A402_4,c402_4,e402,hx402_0,hx402_1,hx402_2,hx402_3,hx402_4,hl402_4,hi402_4⟩ := at_T78 HR0.out x5_1 p402 q402
       have hw402_4 := hx402_4
       have hw402_3 := hx402_3
       have hw402_2 := hx402_2
       have hw402_1 := hx402_1
       have hw402_0 := hx402_0
       have hv402_4 := hx402_4
       cases e402
       replace hx402_0 := zx_ HB hx402_0
       replace hx402_1 := zx_ HB hx402_1
       replace hx402_2 := zx_ HB hx402_2
       replace hx402_3 := zx_ HB hx402_3
       replace hx402_4 := zx_ HB hx402_4
       have HR402_4 := am_ hi402_4
       have HC402_4 := am_ hl402_4
       clear hi402_4 hl402_4
       replace p402 := eq_true p402
       replace q402 := eq_true q402
       refine start_ (n := 8) (S := fun w' => w'.cell? (ad402.add ((x5_1).toNat * 5)) = some (.string ((rd_T78 l0 x5_1).f0)) ∧ w'.cell? ⟨(ad402.add ((x5_1).toNat * 5)).block,(ad402.add ((x5_1).toNat * 5)).off + 1,none⟩ = some (.int .i64 ((rd_T78 l0 x5_1).f1)) ∧ w'.cell? ⟨(ad402.add ((x5_1).toNat * 5)).block,(ad402.add ((x5_1).toNat * 5)).off + 2,none⟩ = some (.int .i64 ((rd_T78 l0 x5_1).f2)) ∧ w'.cell? ⟨(ad402.add ((x5_1).toNat * 5)).block,(ad402.add ((x5_1).toNat * 5)).off + 3,none⟩ = some (.int .i64 ((rd_T78 l0 x5_1).f3)) ∧ w'.cell? ⟨(ad402.add ((x5_1).toNat * 5)).block,(ad402.add ((x5_1).toNat * 5)).off + 4,none⟩ = some (.slice A402_4 ((rd_T78 l0 x5_1).f4).length c402_4)) (ds := []) #[false,false,false,false,false,false,false,false] (by kernel_rfl) rfl rfl ⟨(zx_ HB hw402_0),(zx_ HB hw402_1),(zx_ HB hw402_2),(zx_ HB hw402_3),(zx_ HB hw402_4)⟩ (fun hHeld => ?_);refine with_tabW laws_heldLockS.tab4 laws_heldLockS.bits4 (fun HT_ HW_ => ?_)
       generalize wr.drew = w20 at HB HR402_4 hx402_0 hx402_1 hx402_2 hx402_3 hx402_4 hHeld ⊢
       refine zpu 0 (N := some 12) HT_ ?_
       refine zpu 1 (N := some 13) HT_ ?_
       refine zpu 2 (N := some 14) HT_ ?_
       refine zpu 3 (N := some 15) HT_ ?_
       refine zpu 5 (N := some 17) HT_ ?_
       refine ztk 4 (N := some 16) HT_ HW_ hHeld ?_
       refine zon 6 (N := some 18) HT_ (fun K hK => ?_)
       refine zgo Try.func55 #[.int .i64 x1_1] ?_
       with_reducible refine (laws_markText.calls k1 x1_1 t403 _ A5.out).mono ?_
       rintro e w21 ⟨rfl,hb⟩
       refine ⟨_,rfl,?_⟩
       replace HB := zs_ HB hb
       (try clear hb)
       (try clear hb2)
       (try clear hk)
       (try clear hi)
       refine hK.out _ _ ⟨(zx_ HB hw402_0),(zx_ HB hw402_1),(zx_ HB hw402_2),(zx_ HB hw402_3),(zx_ HB hw402_4)⟩ (fun hHeld => ?_)
       clear hK K
       refine norm_ (a' := ?_) ?_ ?_
       rotate_left
       ·show Act.put _ (some 18) _ = _
        simp only [Act.put,p1_,p2_,p3_,i64_w,i32_w]
        rfl
       refine zpu 7 (N := some 19) HT_ ?_
       refine done_ (done_of HT_.out (by kernel_rfl)) ?_
       have p404 : 0 ≤ (x5_1 : Int) := zo_
       have q404 : x5_1 < (l0.length : Int) := zo_
       obtain ⟨ad404,A404_4,c404_4,e404,hx404_0,hx404_1,hx404_2,hx404_3,hx404_4,hl404_4,hi404_4⟩ := at_T78 HR0.out x5_1 p404 q404
       have hv404_4 := hx404_4
       obtain rfl : ad402 = ad404 := (by injection e404)
       have ea_ := Option.some.inj (hv402_4.symm.trans hv404_4)
       injection ea_ with ea_ en_ ec_
       subst ea_
       subst ec_
       clear en_
       replace hx404_0 := zx_ HB hx404_0
       replace hx404_1 := zx_ HB hx404_1
       replace hx404_2 := zx_ HB hx404_2
       replace hx404_3 := zx_ HB hx404_3
       replace hx404_4 := zx_ HB hx404_4
       have HR404_4 := am_ hi404_4
       have HC404_4 := am_ hl404_4
       clear hi404_4 hl404_4
       replace p404 := eq_true p404
       replace q404 := eq_true q404
       try go_wp2
       go_ret
       exact ⟨zt_,zl_ HB⟩
     ·rw [if_neg c6] at H
      have c6b0 : (((rd_T78 l0 x5_1).f0).toList == t403.toList) = false := beq_eq_false_iff_ne.mpr c6
      have c6b1 : (((rd_T78 l0 x5_1).f0).toList != t403.toList) = true := bne_iff_ne.mpr c6
      obtain rfl := Option.some.inj H
      try go_wp2
      replace HB := am_ (below_drew1 HB.out)
      have p402 : 0 ≤ (x5_1 : Int) := zo_
      have q402 : x5_1 < (l0.length : Int) := zo_
      obtain ⟨ad402,A402_4,c402_4,e402,hx402_0,hx402_1,hx402_2,hx402_3,hx402_4,hl402_4,hi402_4⟩ := at_T78 HR0.out x5_1 p402 q402
      have hw402_4 := hx402_4
      have hw402_3 := hx402_3
      have hw402_2 := hx402_2
      have hw402_1 := hx402_1
      have hw402_0 := hx402_0
      have hv402_4 := hx402_4
      cases e402
      replace hx402_0 := zx_ HB hx402_0
      replace hx402_1 := zx_ HB hx402_1
      replace hx402_2 := zx_ HB hx402_2
      replace hx402_3 := zx_ HB hx402_3
      replace hx402_4 := zx_ HB hx402_4
      have HR402_4 := am_ hi402_4
      have HC402_4 := am_ hl402_4
      clear hi402_4 hl402_4
      replace p402 := eq_true p402
      replace q402 := eq_true q402
      refine start_ (n := 8) (S := fun w' => w'.cell? (ad402.add ((x5_1).toNat * 5)) = some (.string ((rd_T78 l0 x5_1).f0)) ∧ w'.cell? ⟨(ad402.add ((x5_1).toNat * 5)).block,(ad402.add ((x5_1).toNat * 5)).off + 1,none⟩ = some (.int .i64 ((rd_T78 l0 x5_1).f1)) ∧ w'.cell? ⟨(ad402.add ((x5_1).toNat * 5)).block,(ad402.add ((x5_1).toNat * 5)).off + 2,none⟩ = some (.int .i64 ((rd_T78 l0 x5_1).f2)) ∧ w'.cell? ⟨(ad402.add ((x5_1).toNat * 5)).block,(ad402.add ((x5_1).toNat * 5)).off + 3,none⟩ = some (.int .i64 ((rd_T78 l0 x5_1).f3)) ∧ w'.cell? ⟨(ad402.add ((x5_1).toNat * 5)).block,(ad402.add ((x5_1).toNat * 5)).off + 4,none⟩ = some (.slice A402_4 ((rd_T78 l0 x5_1).f4).length c402_4)) (ds := []) #[false,false,false,false,false,false,false,false] (by kernel_rfl) rfl rfl ⟨(zx_ HB hw402_0),(zx_ HB hw402_1),(zx_ HB hw402_2),(zx_ HB hw402_3),(zx_ HB hw402_4)⟩ (fun hHeld => ?_);refine with_tabW laws_heldLockS.tab4 laws_heldLockS.bits4 (fun HT_ HW_ => ?_)
      generalize wr.drew = w22 at HB HR402_4 hx402_0 hx402_1 hx402_2 hx402_3 hx402_4 hHeld ⊢
      refine zpu 0 (N := some 12) HT_ ?_
      refine zpu 1 (N := some 13) HT_ ?_
      refine zpu 2 (N := some 14) HT_ ?_
      refine zpu 3 (N := some 15) HT_ ?_
      refine zpu 5 (N := some 17) HT_ ?_
      refine ztk 4 (N := some 16) HT_ HW_ hHeld ?_
      refine zon 6 (N := some 18) HT_ (fun K hK => ?_)
      refine zgo Try.func55 #[.int .i64 x1_1] ?_
      with_reducible refine (laws_markText.calls k1 x1_1 t403 _ A5.out).mono ?_
      rintro e w23 ⟨rfl,hb⟩
      refine ⟨_,rfl,?_⟩
      replace HB := zs_ HB hb
      (try clear hb)
      (try clear hb2)
      (try clear hk)
      (try clear hi)
      refine hK.out _ _ ⟨(zx_ HB hw402_0),(zx_ HB hw402_1),(zx_ HB hw402_2),(zx_ HB hw402_3),(zx_ HB hw402_4)⟩ (fun hHeld => ?_)
      clear hK K
      refine norm_ (a' := ?_) ?_ ?_
      rotate_left
      ·show Act.put _ (some 18) _ = _
       simp only [Act.put,p1_,p2_,p3_,i64_w,i32_w]
       rfl
      refine zpu 7 (N := some 19) HT_ ?_
      refine done_ (done_of HT_.out (by kernel_rfl)) ?_
      try go_wp2
      go_ret
      exact ⟨zt_,zl_ HB⟩
    ·rw [if_neg c4] at H
     exact absurd H (by simp)
   ·rw [if_neg c3] at H
    have c3b0 : decide (x5_1 < (l0.length : Int)) = false := decide_eq_false c3
    clear c3
    obtain rfl := Option.some.inj H
    go_wp2
    go_ret
    exact ⟨zt_,zl_ HB⟩
set_option maxHeartbeats 8000000 in
set_option maxRecDepth 100000 in
theorem laws_heldSeenS.calls (k : Nat) (A0 : Option Addr) (c0 : Nat) (l0 : List (S84)) (a1 : Int) (r : Int) (w : World) (hr0 : Kd.C k84 w A0 l0.length l0) (hc0 : l0.length ≤ c0) (h : laws_heldSeenS.f k l0 a1 = some r) :
  Calls Try.prog 28 #[.slice A0 l0.length c0,.int .i64 a1] w fun e w' => e = .returned (.int .i64 r) ∧ Drawn0 w w' := by
 have HR0 := am_ hr0
 have HC0 := am_ hc0
 clear hr0 hc0
 have H : (laws_heldSeenS.l0 k l0 a1 0) = some r := h
 clear h
 have H' := am_ H
 clear H
 go_enter Try.func28,Try.ntmps28
 go_wp2
 go_loopg [1,5] k (fun kq v1 v5 w' => ∃ (x1_1 : Int) (x5_1 : Int),v1 = .int .i64 x1_1 ∧ v5 = .int .i64 x5_1 ∧ Aside0 (laws_heldSeenS.l0 kq l0 x1_1 x5_1 = some r) ∧ Aside0 (kq ≤ k) ∧ Drawn0 w w')
 case atStart => exact ⟨(a1),(0),(by first | rfl | (simp;done) | (simp [*];done)),(by first | rfl | (simp;done) | (simp [*];done)),H',⟨Nat.le_refl _⟩,by repeat (first | exact Drawn0.refl _ | apply Drawn0.step)⟩
 case round =>
  clear H'
  try clear c2
  try clear p2
  obtain ⟨x1_1,x5_1,rfl,rfl,HA,HK1,⟨m1,rfl⟩⟩ := hrel
  cases gk with
  | zero => exact absurd HA.out (by simp [laws_heldSeenS.l0])
  | succ k1 =>
   have H := HA.out
   clear HA
   simp only [laws_heldSeenS.l0] at H
   by_cases c3 : x5_1 < (l0.length : Int)
   ·rw [if_pos c3] at H
    have c3b0 : decide (x5_1 < (l0.length : Int)) = true := decide_eq_true c3
    clear c3
    by_cases c4 : 0 ≤ x5_1
    ·rw [if_pos c4] at H
     have c4b0 : decide (0 ≤ x5_1) = true := decide_eq_true c4
     clear c4
     by_cases c5 : ((rd_T84 l0 x5_1).f0) = x1_1
     ·rw [if_pos c5] at H
      have c5b0 : (((rd_T84 l0 x5_1).f0) == x1_1) = true := beq_iff_eq.mpr c5
      have c5b1 : (((rd_T84 l0 x5_1).f0) != x1_1) = false := bne_eq_false_iff_eq.mpr c5
      clear c5
      by_cases c6 : ((rd_T84 l0 x5_1).f1) = (wrap64 (x1_1 + 1))
      ·rw [if_pos c6] at H
       have c6b0 : (((rd_T84 l0 x5_1).f1) == (wrap64 (x1_1 + 1))) = true := beq_iff_eq.mpr c6
       have c6b1 : (((rd_T84 l0 x5_1).f1) != (wrap64 (x1_1 + 1))) = false := bne_eq_false_iff_eq.mpr c6
       clear c6
       by_cases c7 : ((rd_T84 l0 x5_1).f2.f0) = (wrap64 ((wrap64 (x1_1 + 1)) + 1))
       ·rw [if_pos c7] at H
        have c7b0 : (((rd_T84 l0 x5_1).f2.f0) == (wrap64 ((wrap64 (x1_1 + 1)) + 1))) = true := beq_iff_eq.mpr c7
        have c7b1 : (((rd_T84 l0 x5_1).f2.f0) != (wrap64 ((wrap64 (x1_1 + 1)) + 1))) = false := bne_eq_false_iff_eq.mpr c7
        clear c7
        by_cases c8 : ((rd_T84 l0 x5_1).f2.f1) = (wrap64 ((wrap64 ((wrap64 (x1_1 + 1)) + 1)) + 1))
        ·rw [if_pos c8] at H
         have c8b0 : (((rd_T84 l0 x5_1).f2.f1) == (wrap64 ((wrap64 ((wrap64 (x1_1 + 1)) + 1)) + 1))) = true := beq_iff_eq.mpr c8
         have c8b1 : (((rd_T84 l0 x5_1).f2.f1) != (wrap64 ((wrap64 ((wrap64 (x1_1 + 1)) + 1)) + 1))) = false := bne_eq_false_iff_eq.mpr c8
         clear c8
         by_cases c9 : ((rd_T84 l0 x5_1).f2.f2) = (wrap64 ((wrap64 ((wrap64 ((wrap64 (x1_1 + 1)) + 1)) + 1)) + 1))
         ·rw [if_pos c9] at H
          have c9b0 : (((rd_T84 l0 x5_1).f2.f2) == (wrap64 ((wrap64 ((wrap64 ((wrap64 (x1_1 + 1)) + 1)) + 1)) + 1))) = true := beq_iff_eq.mpr c9
          have c9b1 : (((rd_T84 l0 x5_1).f2.f2) != (wrap64 ((wrap64 ((wrap64 ((wrap64 (x1_1 + 1)) + 1)) + 1)) + 1))) = false := bne_eq_false_iff_eq.mpr c9
          clear c9
          by_cases c10 : ((rd_T84 l0 x5_1).f2.f3) = (wrap64 ((wrap64 ((wrap64 ((wrap64 ((wrap64 (x1_1 + 1)) + 1)) + 1)) + 1)) + 1))
          ·rw [if_pos c10] at H
           have c10b0 : (((rd_T84 l0 x5_1).f2.f3) == (wrap64 ((wrap64 ((wrap64 ((wrap64 ((wrap64 (x1_1 + 1)) + 1)) + 1)) + 1)) + 1))) = true := beq_iff_eq.mpr c10
           have c10b1 : (((rd_T84 l0 x5_1).f2.f3) != (wrap64 ((wrap64 ((wrap64 ((wrap64 ((wrap64 (x1_1 + 1)) + 1)) + 1)) + 1)) + 1))) = false := bne_eq_false_iff_eq.mpr c10
           clear c10
           have H' := am_ H
           clear H
           have p409 : 0 ≤ (x5_1 : Int) := zo_
           have q409 : x5_1 < (l0.length : Int) := zo_
           obtain ⟨ad409,e409,hx409_0,hx409_1,hx409_2,hx409_3,hx409_4,hx409_5⟩ := at_T84 HR0.out x5_1 p409 q409
           cases e409
           replace p409 := eq_true p409
           replace q409 := eq_true q409
           have p410 : 0 ≤ (x5_1 : Int) := zo_
           have q410 : x5_1 < (l0.length : Int) := zo_
           obtain ⟨ad410,e410,hx410_0,hx410_1,hx410_2,hx410_3,hx410_4,hx410_5⟩ := at_T84 HR0.out x5_1 p410 q410
           obtain rfl : ad409 = ad410 := (by injection e410)
           replace p410 := eq_true p410
           replace q410 := eq_true q410
           have p411 : 0 ≤ (x5_1 : Int) := zo_
           have q411 : x5_1 < (l0.length : Int) := zo_
           obtain ⟨ad411,e411,hx411_0,hx411_1,hx411_2,hx411_3,hx411_4,hx411_5⟩ := at_T84 HR0.out x5_1 p411 q411
           obtain rfl : ad409 = ad411 := (by injection e411)
           replace p411 := eq_true p411
           replace q411 := eq_true q411
           have p412 : 0 ≤ (x5_1 : Int) := zo_
           have q412 : x5_1 < (l0.length : Int) := zo_
           obtain ⟨ad412,e412,hx412_0,hx412_1,hx412_2,hx412_3,hx412_4,hx412_5⟩ := at_T84 HR0.out x5_1 p412 q412
           obtain rfl : ad409 = ad412 := (by injection e412)
           replace p412 := eq_true p412
           replace q412 := eq_true q412
           have p413 : 0 ≤ (x5_1 : Int) := zo_
           have q413 : x5_1 < (l0.length : Int) := zo_
           obtain ⟨ad413,e413,hx413_0,hx413_1,hx413_2,hx413_3,hx413_4,hx413_5⟩ := at_T84 HR0.out x5_1 p413 q413
           obtain rfl : ad409 = ad413 := (by injection e413)
           replace p413 := eq_true p413
           replace q413 := eq_true q413
           have p414 : 0 ≤ (x5_1 : Int) := zo_
           have q414 : x5_1 < (l0.length : Int) := zo_
           obtain ⟨ad414,e414,hx414_0,hx414_1,hx414_2,hx414_3,hx414_4,hx414_5⟩ := at_T84 HR0.out x5_1 p414 q414
           obtain rfl : ad409 = ad414 := (by injection e414)
           replace p414 := eq_true p414
           replace q414 := eq_true q414
           go_wp2
           go_roundg k1
           case measure => have := HK1.out;omega
           case rel => exact ⟨(wrap64 ((wrap64 ((wrap64 ((wrap64 ((wrap64 ((wrap64 (x1_1 + 1)) + 1)) + 1)) + 1)) + 1)) + 1)),(wrap64 (x5_1 + 1)),(by first | rfl | (simp;done) | (simp [*];done)),(by first | rfl | (simp;done) | (simp [*];done)),H',⟨by have := HK1.out;omega⟩,by repeat (first | exact Drawn0.refl _ | apply Drawn0.step)⟩
          ·rw [if_neg c10] at H
           have c10b0 : (((rd_T84 l0 x5_1).f2.f3) == (wrap64 ((wrap64 ((wrap64 ((wrap64 ((wrap64 (x1_1 + 1)) + 1)) + 1)) + 1)) + 1))) = false := beq_eq_false_iff_ne.mpr c10
           have c10b1 : (((rd_T84 l0 x5_1).f2.f3) != (wrap64 ((wrap64 ((wrap64 ((wrap64 ((wrap64 (x1_1 + 1)) + 1)) + 1)) + 1)) + 1))) = true := bne_iff_ne.mpr c10
           obtain rfl := Option.some.inj H
           have p409 : 0 ≤ (x5_1 : Int) := zo_
           have q409 : x5_1 < (l0.length : Int) := zo_
           obtain ⟨ad409,e409,hx409_0,hx409_1,hx409_2,hx409_3,hx409_4,hx409_5⟩ := at_T84 HR0.out x5_1 p409 q409
           cases e409
           replace p409 := eq_true p409
           replace q409 := eq_true q409
           have p410 : 0 ≤ (x5_1 : Int) := zo_
           have q410 : x5_1 < (l0.length : Int) := zo_
           obtain ⟨ad410,e410,hx410_0,hx410_1,hx410_2,hx410_3,hx410_4,hx410_5⟩ := at_T84 HR0.out x5_1 p410 q410
           obtain rfl : ad409 = ad410 := (by injection e410)
           replace p410 := eq_true p410
           replace q410 := eq_true q410
           have p411 : 0 ≤ (x5_1 : Int) := zo_
           have q411 : x5_1 < (l0.length : Int) := zo_
           obtain ⟨ad411,e411,hx411_0,hx411_1,hx411_2,hx411_3,hx411_4,hx411_5⟩ := at_T84 HR0.out x5_1 p411 q411
           obtain rfl : ad409 = ad411 := (by injection e411)
           replace p411 := eq_true p411
           replace q411 := eq_true q411
           have p412 : 0 ≤ (x5_1 : Int) := zo_
           have q412 : x5_1 < (l0.length : Int) := zo_
           obtain ⟨ad412,e412,hx412_0,hx412_1,hx412_2,hx412_3,hx412_4,hx412_5⟩ := at_T84 HR0.out x5_1 p412 q412
           obtain rfl : ad409 = ad412 := (by injection e412)
           replace p412 := eq_true p412
           replace q412 := eq_true q412
           have p413 : 0 ≤ (x5_1 : Int) := zo_
           have q413 : x5_1 < (l0.length : Int) := zo_
           obtain ⟨ad413,e413,hx413_0,hx413_1,hx413_2,hx413_3,hx413_4,hx413_5⟩ := at_T84 HR0.out x5_1 p413 q413
           obtain rfl : ad409 = ad413 := (by injection e413)
           replace p413 := eq_true p413
           replace q413 := eq_true q413
           have p414 : 0 ≤ (x5_1 : Int) := zo_
           have q414 : x5_1 < (l0.length : Int) := zo_
           obtain ⟨ad414,e414,hx414_0,hx414_1,hx414_2,hx414_3,hx414_4,hx414_5⟩ := at_T84 HR0.out x5_1 p414 q414
           obtain rfl : ad409 = ad414 := (by injection e414)
           replace p414 := eq_true p414
           replace q414 := eq_true q414
           go_wp2
           go_ret
           exact ⟨by first | rfl | (simp;done) | (simp [*];done),by repeat (first | exact Drawn0.refl _ | apply Drawn0.step)⟩
         ·rw [if_neg c9] at H
          have c9b0 : (((rd_T84 l0 x5_1).f2.f2) == (wrap64 ((wrap64 ((wrap64 ((wrap64 (x1_1 + 1)) + 1)) + 1)) + 1))) = false := beq_eq_false_iff_ne.mpr c9
          have c9b1 : (((rd_T84 l0 x5_1).f2.f2) != (wrap64 ((wrap64 ((wrap64 ((wrap64 (x1_1 + 1)) + 1)) + 1)) + 1))) = true := bne_iff_ne.mpr c9
          obtain rfl := Option.some.inj H
          have p409 : 0 ≤ (x5_1 : Int) := zo_
          have q409 : x5_1 < (l0.length : Int) := zo_
          obtain ⟨ad409,e409,hx409_0,hx409_1,hx409_2,hx409_3,hx409_4,hx409_5⟩ := at_T84 HR0.out x5_1 p409 q409
          cases e409
          replace p409 := eq_true p409
          replace q409 := eq_true q409
          have p410 : 0 ≤ (x5_1 : Int) := zo_
          have q410 : x5_1 < (l0.length : Int) := zo_
          obtain ⟨ad410,e410,hx410_0,hx410_1,hx410_2,hx410_3,hx410_4,hx410_5⟩ := at_T84 HR0.out x5_1 p410 q410
          obtain rfl : ad409 = ad410 := (by injection e410)
          replace p410 := eq_true p410
          replace q410 := eq_true q410
          have p411 : 0 ≤ (x5_1 : Int) := zo_
          have q411 : x5_1 < (l0.length : Int) := zo_
          obtain ⟨ad411,e411,hx411_0,hx411_1,hx411_2,hx411_3,hx411_4,hx411_5⟩ := at_T84 HR0.out x5_1 p411 q411
          obtain rfl : ad409 = ad411 := (by injection e411)
          replace p411 := eq_true p411
          replace q411 := eq_true q411
          have p412 : 0 ≤ (x5_1 : Int) := zo_
          have q412 : x5_1 < (l0.length : Int) := zo_
          obtain ⟨ad412,e412,hx412_0,hx412_1,hx412_2,hx412_3,hx412_4,hx412_5⟩ := at_T84 HR0.out x5_1 p412 q412
          obtain rfl : ad409 = ad412 := (by injection e412)
          replace p412 := eq_true p412
          replace q412 := eq_true q412
          have p413 : 0 ≤ (x5_1 : Int) := zo_
          have q413 : x5_1 < (l0.length : Int) := zo_
          obtain ⟨ad413,e413,hx413_0,hx413_1,hx413_2,hx413_3,hx413_4,hx413_5⟩ := at_T84 HR0.out x5_1 p413 q413
          obtain rfl : ad409 = ad413 := (by injection e413)
          replace p413 := eq_true p413
          replace q413 := eq_true q413
          go_wp2
          go_ret
          exact ⟨by first | rfl | (simp;done) | (simp [*];done),by repeat (first | exact Drawn0.refl _ | apply Drawn0.step)⟩
        ·rw [if_neg c8] at H
         have c8b0 : (((rd_T84 l0 x5_1).f2.f1) == (wrap64 ((wrap64 ((wrap64 (x1_1 + 1)) + 1)) + 1))) = false := beq_eq_false_iff_ne.mpr c8
         have c8b1 : (((rd_T84 l0 x5_1).f2.f1) != (wrap64 ((wrap64 ((wrap64 (x1_1 + 1)) + 1)) + 1))) = true := bne_iff_ne.mpr c8
         obtain rfl := Option.some.inj H
         have p409 : 0 ≤ (x5_1 : Int) := zo_
         have q409 : x5_1 < (l0.length : Int) := zo_
         obtain ⟨ad409,e409,hx409_0,hx409_1,hx409_2,hx409_3,hx409_4,hx409_5⟩ := at_T84 HR0.out x5_1 p409 q409
         cases e409
         replace p409 := eq_true p409
         replace q409 := eq_true q409
         have p410 : 0 ≤ (x5_1 : Int) := zo_
         have q410 : x5_1 < (l0.length : Int) := zo_
         obtain ⟨ad410,e410,hx410_0,hx410_1,hx410_2,hx410_3,hx410_4,hx410_5⟩ := at_T84 HR0.out x5_1 p410 q410
         obtain rfl : ad409 = ad410 := (by injection e410)
         replace p410 := eq_true p410
         replace q410 := eq_true q410
         have p411 : 0 ≤ (x5_1 : Int) := zo_
         have q411 : x5_1 < (l0.length : Int) := zo_
         obtain ⟨ad411,e411,hx411_0,hx411_1,hx411_2,hx411_3,hx411_4,hx411_5⟩ := at_T84 HR0.out x5_1 p411 q411
         obtain rfl : ad409 = ad411 := (by injection e411)
         replace p411 := eq_true p411
         replace q411 := eq_true q411
         have p412 : 0 ≤ (x5_1 : Int) := zo_
         have q412 : x5_1 < (l0.length : Int) := zo_
         obtain ⟨ad412,e412,hx412_0,hx412_1,hx412_2,hx412_3,hx412_4,hx412_5⟩ := at_T84 HR0.out x5_1 p412 q412
         obtain rfl : ad409 = ad412 := (by injection e412)
         replace p412 := eq_true p412
         replace q412 := eq_true q412
         go_wp2
         go_ret
         exact ⟨by first | rfl | (simp;done) | (simp [*];done),by repeat (first | exact Drawn0.refl _ | apply Drawn0.step)⟩
       ·rw [if_neg c7] at H
        have c7b0 : (((rd_T84 l0 x5_1).f2.f0) == (wrap64 ((wrap64 (x1_1 + 1)) + 1))) = false := beq_eq_false_iff_ne.mpr c7
        have c7b1 : (((rd_T84 l0 x5_1).f2.f0) != (wrap64 ((wrap64 (x1_1 + 1)) + 1))) = true := bne_iff_ne.mpr c7
        obtain rfl := Option.some.inj H
        have p409 : 0 ≤ (x5_1 : Int) := zo_
        have q409 : x5_1 < (l0.length : Int) := zo_
        obtain ⟨ad409,e409,hx409_0,hx409_1,hx409_2,hx409_3,hx409_4,hx409_5⟩ := at_T84 HR0.out x5_1 p409 q409
        cases e409
        replace p409 := eq_true p409
        replace q409 := eq_true q409
        have p410 : 0 ≤ (x5_1 : Int) := zo_
        have q410 : x5_1 < (l0.length : Int) := zo_
        obtain ⟨ad410,e410,hx410_0,hx410_1,hx410_2,hx410_3,hx410_4,hx410_5⟩ := at_T84 HR0.out x5_1 p410 q410
        obtain rfl : ad409 = ad410 := (by injection e410)
        replace p410 := eq_true p410
        replace q410 := eq_true q410
        have p411 : 0 ≤ (x5_1 : Int) := zo_
        have q411 : x5_1 < (l0.length : Int) := zo_
        obtain ⟨ad411,e411,hx411_0,hx411_1,hx411_2,hx411_3,hx411_4,hx411_5⟩ := at_T84 HR0.out x5_1 p411 q411
        obtain rfl : ad409 = ad411 := (by injection e411)
        replace p411 := eq_true p411
        replace q411 := eq_true q411
        go_wp2
        go_ret
        exact ⟨by first | rfl | (simp;done) | (simp [*];done),by repeat (first | exact Drawn0.refl _ | apply Drawn0.step)⟩
      ·rw [if_neg c6] at H
       have c6b0 : (((rd_T84 l0 x5_1).f1) == (wrap64 (x1_1 + 1))) = false := beq_eq_false_iff_ne.mpr c6
       have c6b1 : (((rd_T84 l0 x5_1).f1) != (wrap64 (x1_1 + 1))) = true := bne_iff_ne.mpr c6
       obtain rfl := Option.some.inj H
       have p409 : 0 ≤ (x5_1 : Int) := zo_
       have q409 : x5_1 < (l0.length : Int) := zo_
       obtain ⟨ad409,e409,hx409_0,hx409_1,hx409_2,hx409_3,hx409_4,hx409_5⟩ := at_T84 HR0.out x5_1 p409 q409
       cases e409
       replace p409 := eq_true p409
       replace q409 := eq_true q409
       have p410 : 0 ≤ (x5_1 : Int) := zo_
       have q410 : x5_1 < (l0.length : Int) := zo_
       obtain ⟨ad410,e410,hx410_0,hx410_1,hx410_2,hx410_3,hx410_4,hx410_5⟩ := at_T84 HR0.out x5_1 p410 q410
       obtain rfl : ad409 = ad410 := (by injection e410)
       replace p410 := eq_true p410
       replace q410 := eq_true q410
       go_wp2
       go_ret
       exact ⟨by first | rfl | (simp;done) | (simp [*];done),by repeat (first | exact Drawn0.refl _ | apply Drawn0.step)⟩
     ·rw [if_neg c5] at H
      have c5b0 : (((rd_T84 l0 x5_1).f0) == x1_1) = false := beq_eq_false_iff_ne.mpr c5
      have c5b1 : (((rd_T84 l0 x5_1).f0) != x1_1) = true := bne_iff_ne.mpr c5
      obtain rfl := Option.some.inj H
      have p409 : 0 ≤ (x5_1 : Int) := zo_
      have q409 : x5_1 < (l0.length : Int) := zo_
      obtain ⟨ad409,e409,hx409_0,hx409_1,hx409_2,hx409_3,hx409_4,hx409_5⟩ := at_T84 HR0.out x5_1 p409 q409
      cases e409
      replace p409 := eq_true p409
      replace q409 := eq_true q409
      go_wp2
      go_ret
      exact ⟨by first | rfl | (simp;done) | (simp [*];done),by repeat (first | exact Drawn0.refl _ | apply Drawn0.step)⟩
    ·rw [if_neg c4] at H
     exact absurd H (by simp)
   ·rw [if_neg c3] at H
    have c3b0 : decide (x5_1 < (l0.length : Int)) = false := decide_eq_false c3
    clear c3
    obtain rfl := Option.some.inj H
    go_wp2
    go_ret
    exact ⟨by first | rfl | (simp;done) | (simp [*];done),by repeat (first | exact Drawn0.refl _ | apply Drawn0.step)⟩
set_option maxHeartbeats 8000000 in
set_option maxRecDepth 100000 in
theorem laws_heldTable.calls (k : Nat) (a0_0 : Int) (a0_1 : Int) (A0_2 : Option Addr) (c0_2 : Nat) (l0_2 : List (S78)) (A0_3 : Option Addr) (c0_3 : Nat) (l0_3 : List (S84)) (a1 : Int) (r : Int) (w : World) (hr0_2 : Kd.C k78 w A0_2 l0_2.length l0_2) (hc0_2 : l0_2.length ≤ c0_2) (hr0_3 : Kd.C k84 w A0_3 l0_3.length l0_3) (hc0_3 : l0_3.length ≤ c0_3) (h : laws_heldTable.f k a0_0 a0_1 l0_2 l0_3 a1 = some r) :
  Calls Try.prog 12 #[.agg #[.int .i64 a0_0,.int .i64 a0_1,.slice A0_2 l0_2.length c0_2,.slice A0_3 l0_3.length c0_3],.int .i64 a1] w fun e w' => e = .returned (.int .i64 r) ∧ Below w.heap.size w w' := by
 have hu26 := Try.underlying26
 have HR0_2 := am_ hr0_2
 have HC0_2 := am_ hc0_2
 clear hr0_2 hc0_2
 have HR0_3 := am_ hr0_3
 have HC0_3 := am_ hc0_3
 clear hr0_3 hc0_3
 have HB := am_ (Below.refl w.heap.size w)
 have H : ((laws_heldLockS.f k l0_2 a1).bind fun t416 => (if t416 < 0 then (some (-1)) else ((laws_heldSeenS.f k l0_3 t416).bind fun t417 => (if t417 < 0 then (some (-1)) else (some t417))))) = some r := h
 clear h
 replace H := Option.bind_eq_some_iff.mp H
 obtain ⟨t416,A30,H⟩ := H
 try dsimp only at H
 have A3 := am_ A30
 clear A30
 by_cases c4 : t416 < 0
 ·rw [if_pos c4] at H
  have c4b0 : decide (t416 < 0) = true := decide_eq_true c4
  clear c4
  obtain rfl := Option.some.inj H
  go_enter Try.func12,Try.ntmps12
  go_wp2_with (first | ((with_reducible refine gate_dst (N := 2) rfl ?_);refine zbx (N := 2) (cs := #[.int .i64 a0_0,.int .i64 a0_1,.slice A0_2 l0_2.length c0_2,.slice A0_3 l0_3.length c0_3]) (t := 26) ?_;intro gb415 hg w5 hbox hb;have BK415 := am_ (hbox);have GW415 := zw_ HB hg;have GE415 := zw_ HB hg;replace HB := zs_ HB hb;clear hb hbox hg;obtain ⟨hcz6_0,hcz6_1,hcz6_2,hcz6_3,hfz6_0,hfz6_1,hfz6_2,hfz6_3⟩ := zc4 BK415) | ((with_reducible refine gate_callee (f := 27) rfl ?_);refine zgl (some 8) Try.func27 #[.slice A0_2 l0_2.length c0_2,.int .i64 a1] ?_;(with_reducible refine (laws_heldLockS.calls k _ _ l0_2 a1 t416 _ ?side1 ?side2 A3.out).mono ?_);(case side1 => exact zc_ HR0_2 HB);(case side2 => exact HC0_2.out);rintro e w7 ⟨rfl,hb⟩;refine ⟨_,rfl,?_⟩;replace BK415 := zb BK415 hb;replace HB := zs_ HB hb;(try clear hb);(try clear hb2);(try clear hk);(try clear hi)))
  go_ret
  exact ⟨zt_,zl_ HB⟩
 ·rw [if_neg c4] at H
  have c4b0 : decide (t416 < 0) = false := decide_eq_false c4
  clear c4
  replace H := Option.bind_eq_some_iff.mp H
  obtain ⟨t417,A80,H⟩ := H
  try dsimp only at H
  have A8 := am_ A80
  clear A80
  by_cases c9 : t417 < 0
  ·rw [if_pos c9] at H
   have c9b0 : decide (t417 < 0) = true := decide_eq_true c9
   clear c9
   obtain rfl := Option.some.inj H
   go_enter Try.func12,Try.ntmps12
   go_wp2_with (first | ((with_reducible refine gate_dst (N := 2) rfl ?_);refine zbx (N := 2) (cs := #[.int .i64 a0_0,.int .i64 a0_1,.slice A0_2 l0_2.length c0_2,.slice A0_3 l0_3.length c0_3]) (t := 26) ?_;intro gb415 hg w10 hbox hb;have BK415 := am_ (hbox);have GW415 := zw_ HB hg;have GE415 := zw_ HB hg;replace HB := zs_ HB hb;clear hb hbox hg;obtain ⟨hcz11_0,hcz11_1,hcz11_2,hcz11_3,hfz11_0,hfz11_1,hfz11_2,hfz11_3⟩ := zc4 BK415) | ((with_reducible refine gate_callee (f := 27) rfl ?_);refine zgl (some 8) Try.func27 #[.slice A0_2 l0_2.length c0_2,.int .i64 a1] ?_;(with_reducible refine (laws_heldLockS.calls k _ _ l0_2 a1 t416 _ ?side1 ?side2 A3.out).mono ?_);(case side1 => exact zc_ HR0_2 HB);(case side2 => exact HC0_2.out);rintro e w12 ⟨rfl,hb⟩;refine ⟨_,rfl,?_⟩;replace BK415 := zb BK415 hb;replace HB := zs_ HB hb;(try clear hb);(try clear hb2);(try clear hk);(try clear hi);obtain ⟨hcz13_0,hcz13_1,hcz13_2,hcz13_3,hfz13_0,hfz13_1,hfz13_2,hfz13_3⟩ := zc4 BK415) | ((with_reducible refine gate_callee (f := 28) rfl ?_);refine zgl (some 14) Try.func28 #[.slice A0_3 l0_3.length c0_3,.int .i64 t416] ?_;(with_reducible refine (laws_heldSeenS.calls k _ _ l0_3 t416 t417 _ ?side1 ?side2 A8.out).mono ?_);(case side1 => exact zc_ HR0_3 HB);(case side2 => exact HC0_3.out);rintro e w' ⟨rfl,⟨nd,rfl⟩⟩;refine ⟨_,rfl,?_⟩))
   go_ret
   exact ⟨zt_,zl_ HB⟩
  ·rw [if_neg c9] at H
   have c9b0 : decide (t417 < 0) = false := decide_eq_false c9
   clear c9
   obtain rfl := Option.some.inj H
   go_enter Try.func12,Try.ntmps12
   go_wp2_with (first | ((with_reducible refine gate_dst (N := 2) rfl ?_);refine zbx (N := 2) (cs := #[.int .i64 a0_0,.int .i64 a0_1,.slice A0_2 l0_2.length c0_2,.slice A0_3 l0_3.length c0_3]) (t := 26) ?_;intro gb415 hg w14 hbox hb;have BK415 := am_ (hbox);have GW415 := zw_ HB hg;have GE415 := zw_ HB hg;replace HB := zs_ HB hb;clear hb hbox hg;obtain ⟨hcz15_0,hcz15_1,hcz15_2,hcz15_3,hfz15_0,hfz15_1,hfz15_2,hfz15_3⟩ := zc4 BK415) | ((with_reducible refine gate_callee (f := 27) rfl ?_);refine zgl (some 8) Try.func27 #[.slice A0_2 l0_2.length c0_2,.int .i64 a1] ?_;(with_reducible refine (laws_heldLockS.calls k _ _ l0_2 a1 t416 _ ?side1 ?side2 A3.out).mono ?_);(case side1 => exact zc_ HR0_2 HB);(case side2 => exact HC0_2.out);rintro e w16 ⟨rfl,hb⟩;refine ⟨_,rfl,?_⟩;replace BK415 := zb BK415 hb;replace HB := zs_ HB hb;(try clear hb);(try clear hb2);(try clear hk);(try clear hi);obtain ⟨hcz17_0,hcz17_1,hcz17_2,hcz17_3,hfz17_0,hfz17_1,hfz17_2,hfz17_3⟩ := zc4 BK415) | ((with_reducible refine gate_callee (f := 28) rfl ?_);refine zgl (some 14) Try.func28 #[.slice A0_3 l0_3.length c0_3,.int .i64 t416] ?_;(with_reducible refine (laws_heldSeenS.calls k _ _ l0_3 t416 t417 _ ?side1 ?side2 A8.out).mono ?_);(case side1 => exact zc_ HR0_3 HB);(case side2 => exact HC0_3.out);rintro e w' ⟨rfl,⟨nd,rfl⟩⟩;refine ⟨_,rfl,?_⟩))
   go_ret
   exact ⟨zt_,zl_ HB⟩
end Go.Proofs.Ytioocldcdonlpaa.B
end

section
namespace Go.Proofs.Ytioocldcdonlpaa.B
open Go.RowKit Go.Proofs.YtioocldcdonlpaaW.PrintWords Go.Proofs.YtioocldcdonlpaaW.PrintLast Go.Proofs.YtioocldcdonlpaaW.PrintMore
/-- Between two worlds only the blocks of a table's rows were written: those of its locks lie in P, and what was seen is the row v. -/
structure MarkedT (w w' : World) (P : Nat → Prop) (v : Value) : Prop where
  kept : Kept w w' (fun k => (P k ∧ ∃ q, q ∈ 78 :: k78.E ∧ ∃ cells, w.heap[k]? = some (.cells cells q (0, 0))) ∨ v.ownBlock = some k)
  tv : ∀ k, v.ownBlock = some k → ∃ cells, w.heap[k]? = some (.cells cells 84 (0, 0))
theorem MarkedT.far {w w' : World} {P : Nat → Prop} {v : Value} (m : MarkedT w w' P v) {k t : Nat} {cs : Array Value} (h : w.heap[k]? = some (.cells cs t (0, 0)))
    (h1 : ¬ P k ∨ ¬ t ∈ 78 :: k78.E) (h2 : v.ownBlock ≠ some k ∨ t ≠ 84) : w'.heap[k]? = w.heap[k]? := by
  refine m.kept.2 k (blk_lt h) (fun hx => ?_)
  rcases hx with ⟨hp, q, hq, cells, hc⟩ | hx
  · rw [h] at hc
    injection hc with hc
    injection hc with _ ht _
    rcases h1 with h1 | h1
    · exact h1 hp
    · exact h1 (ht ▸ hq)
  · obtain ⟨c2, hc2⟩ := m.tv k hx
    rw [h] at hc2
    injection hc2 with hc2
    injection hc2 with _ ht _
    rcases h2 with h2 | h2
    · exact h2 hx
    · exact h2 ht
theorem MarkedT.S {α : Type} {d : Kd α} {e : Nat} {w w' : World} {P : Nat → Prop} {v : Value} (m : MarkedT w w' P v) {base : Nat} {ok : Nat → Prop} {x : Value} {xs : List α} (h : Kd.S d e w base ok x xs)
    (h1 : ∀ k, ok k → ¬ P k) (h2 : ∀ q, q ∈ e :: d.E → q ≠ 84) : Kd.S d e w' base ok x xs :=
  Kd.S_mono (Kd.S_move (Kd.S_bound h) (fun k hk => by obtain ⟨ho, _, _, q, hq, cells, hc⟩ := hk; exact m.far hc (.inl (h1 k ho)) (.inr (h2 q hq)))) (fun _ hk => hk.1)
theorem MarkedT.R {α : Type} {d : Kd α} {e : Nat} {w w' : World} {P : Nat → Prop} {v : Value} (m : MarkedT w w' P v) {base : Nat} {ok : Nat → Prop} {x : Value} {xs : List α} (h : Kd.R d e w base ok x xs)
    (h1 : ∀ q, q ∈ e :: d.E → ¬ q ∈ 78 :: k78.E) (h2 : ∀ k, ok k → v.ownBlock ≠ some k) : Kd.R d e w' base ok x xs :=
  Kd.R_mono (Kd.R_move (Kd.R_bound h) (fun k hk => by obtain ⟨ho, _, _, q, hq, cells, hc⟩ := hk; exact m.far hc (.inr (h1 q hq)) (.inl (h2 k ho)))) (fun _ hk => hk.1)
theorem MarkedT.R' {α : Type} {d : Kd α} {e : Nat} {w w' : World} {P : Nat → Prop} {v : Value} (m : MarkedT w w' P v) {base : Nat} {ok : Nat → Prop} {x : Value} {xs : List α} (h : Kd.R d e w base ok x xs)
    (h1 : ∀ q, q ∈ e :: d.E → ¬ q ∈ 78 :: k78.E) (h2 : ∀ q, q ∈ e :: d.E → q ≠ 84) : Kd.R d e w' base ok x xs :=
  Kd.R_mono (Kd.R_move (Kd.R_bound h) (fun k hk => by obtain ⟨ho, _, _, q, hq, cells, hc⟩ := hk; exact m.far hc (.inr (h1 q hq)) (.inr (h2 q hq)))) (fun _ hk => hk.1)
theorem MarkedT.blk {w w' : World} {P : Nat → Prop} {v : Value} (m : MarkedT w w' P v) {g t : Nat} {cs : Array Value} (h : w.heap[g]? = some (.cells cs t (0, 0))) (h4 : ¬ t ∈ 78 :: k78.E) (h5 : t ≠ 84) : w'.heap[g]? = some (.cells cs t (0, 0)) := by
  rw [m.far h (.inr h4) (.inr h5)]
  exact h
/-- A row of rows that was made at a call lies behind an elder block. -/
theorem S_newer {α : Type} {d : Kd α} {e g : Nat} {W w1 : World} {ok : Nat → Prop} {v : Value} {xs : List α} (h : Kd.S d e w1 W.heap.size ok v xs) (hg : g < W.heap.size) : Kd.S d e w1 W.heap.size (fun k => g < k) v xs :=
  Kd.S_mono (Kd.S_bound h) (fun _ hk => Nat.lt_of_lt_of_le hg hk.2.1)
/-- A row of rows lies ahead of a block that is new. -/
theorem S_elderN {α : Type} {d : Kd α} {e g : Nat} {w w1 : World} {base : Nat} {ok : Nat → Prop} {v : Value} {xs : List α} (h : Kd.S d e w base ok v xs) (hg : w.heap.size ≤ g) (hb : Below w.heap.size w w1) : Kd.S d e w1 base (fun k => k < g) v xs :=
  Kd.S_mono (Kd.S_old h hb) (fun _ hk => Nat.lt_of_lt_of_le hk.2 hg)
set_option maxHeartbeats 4000000 in
set_option maxRecDepth 100000 in
theorem mark_table (k : Nat) (a b : Int) (A2 : Option Addr) (n2 c2 : Nat) (l2 l2' : List S78) (A3 : Option Addr) (n3 c3 : Nat) (l3 l3' : List S84) (k0 k1 k2 : Int) (ok2 ok3 : Nat → Prop) (w0 w : World) (hB : Below w0.heap.size w0 w)
    (h2 : Kd.S k78 78 w w0.heap.size ok2 (.slice A2 n2 c2) l2) (h3 : Kd.R k84 84 w w0.heap.size ok3 (.slice A3 n3 c3) l3)
    (m2 : laws_markLockS.f k l2 k0 = some (k1, l2')) (m3 : laws_markSeenS.f k l3 k1 = some (k2, l3')) :
    Calls Try.prog 11 #[.agg #[.int .i64 a, .int .i64 b, .slice A2 n2 c2, .slice A3 n3 c3], .int .i64 k0] w fun e w' => e = .returned (.int .i64 k2) ∧ Kd.S k78 78 w' w0.heap.size (fun j => ok2 j ∨ w.heap.size ≤ j) (.slice A2 n2 c2) l2' ∧ Kd.R k84 84 w' w0.heap.size (fun j => ok3 j ∨ w.heap.size ≤ j) (.slice A3 n3 c3) l3' ∧ MarkedT w w' ok2 (.slice A3 n3 c3) ∧ Below w0.heap.size w0 w' := by
  obtain ⟨P, hP⟩ : ∃ P : Nat → Prop, P = (fun j => ok2 j ∧ w0.heap.size ≤ j ∧ j < w.heap.size ∧ ∃ q, q ∈ 78 :: k78.E ∧ ∃ cells, w.heap[j]? = some (.cells cells q (0, 0))) := ⟨_, rfl⟩
  have H2 := Aside0.mk (show Kd.S k78 78 w w0.heap.size P (.slice A2 n2 c2) l2 from hP ▸ Kd.S_bound h2)
  have T3 := Aside0.mk (Kd.R_typed h3)
  have H3 := Aside0.mk h3
  have HB0 := Aside0.mk hB
  have M2 := Aside0.mk m2
  have M3 := Aside0.mk m3
  have HP := Aside0.mk hP
  clear h2 h3 hB m2 m3 hP
  go_enter Try.func11, Try.ntmps11
  go_wp2_with (first
    | ((with_reducible refine gate_dst (N := 2) rfl ?_); refine zbx (N := 2) (cs := #[.int .i64 a, .int .i64 b, .slice A2 n2 c2, .slice A3 n3 c3]) (t := 26) ?_; intro g_ hg w1 hbox hb; have HW := Aside0.mk hb; replace HB0 := Aside0.mk (HB0.out.trans (hb.mono HB0.out.size)); replace H2 := Aside0.mk (Kd.S_below H2.out hb); replace H3 := Aside0.mk (Kd.R_below H3.out hb); have BK := Aside0.mk hbox; clear hb hbox hg; obtain ⟨hz0, hz1, hz2, hz3, hf0, hf1, hf2, hf3⟩ := zc4 BK)
    | (go_at_call 25; refine (laws_markLockS.calls k P _ l2 k0 k1 l2' w0 _ HB0.out H2.out M2.out).mono ?_; rintro e w2 ⟨rfl, hs, hb, hk⟩; have K1 := Aside0.mk hk; have HR_ := Kd.R_bound H3.out; have BL := Aside0.mk (show ∀ j cs t, w1.heap[j]? = some (.cells cs t (0, 0)) → ¬ t ∈ 78 :: k78.E → w2.heap[j]? = w1.heap[j]? from fun j cs t hc ht => K1.out.2 j (blk_lt hc) (fun hp => by rw [HP.out] at hp; obtain ⟨_, _, hlt, q, hq, cells, hc2⟩ := hp; rw [← HW.out.block j hlt, hc] at hc2; injection hc2 with hc2; injection hc2 with _ ht2 _; exact ht (ht2 ▸ hq))); replace H3 := Aside0.mk (Kd.R_mono (Kd.R_move HR_ (fun j hj => by obtain ⟨_, _, _, q, hq, cells, hc⟩ := hj; exact BL.out j _ q hc ((show ∀ q_, q_ ∈ 84 :: k84.E → ¬ q_ ∈ 78 :: k78.E by decide) q hq))) (fun _ hj => hj.1)); replace BK := Aside0.mk ((BL.out _ _ _ BK.out (by decide)).trans BK.out); replace HB0 := Aside0.mk hb; have H2b := Aside0.mk (Kd.S_mono hs (fun j (hj : P j ∨ w1.heap.size ≤ j) => hj.imp (fun h => by rw [HP.out] at h; exact h.1) (fun h => Nat.le_trans HW.out.size h) : ∀ j, _ → ok2 j ∨ w.heap.size ≤ j)); clear hs hb hk HR_ BL H2; clear hz0 hz1 hz2 hz3 hf0 hf1 hf2 hf3; obtain ⟨hz0, hz1, hz2, hz3, hf0, hf1, hf2, hf3⟩ := zc4 BK)
    | (go_at_call 26; refine (laws_markSeenS.calls k (fun j => (Value.slice A3 n3 c3).ownBlock = some j) _ l3 k1 k2 l3' w0 _ HB0.out (Kd.R_mono (Kd.R_tight rfl H3.out) (fun _ h => h.symm)) M3.out).mono ?_; rintro e w3 ⟨rfl, hs, hb, hk⟩; have K2 := Aside0.mk hk; have HS_ := Kd.S_bound H2b.out; replace H2b := Aside0.mk (Kd.S_mono (Kd.S_move HS_ (fun j hj => K2.out.2 j hj.2.2.1 (fun hx => by obtain ⟨_, _, _, q, hq, cells, hc⟩ := hj; obtain ⟨c2_, hc2⟩ := Kd.R_typed H3.out j hx; rw [hc] at hc2; injection hc2 with hc2; injection hc2 with _ ht _; subst ht; exact absurd hq (by decide)))) (fun _ hj => hj.1)); replace HB0 := Aside0.mk hb; have H3b := Aside0.mk (show Kd.R k84 84 w3 w0.heap.size (fun j => ok3 j ∨ w.heap.size ≤ j) (.slice A3 n3 c3) l3' from ⟨fun j hj => .inl (H3.out.1 j hj), (Kd.R_tight rfl hs).2.imp_ (fun p c hp => by first | exact hp | (rw [k84_openM hp]; exact k84_mkM _ _ _ p))⟩); clear hs hb hk HS_))
  go_ret
  refine ⟨rfl, H2b.out, H3b.out, ⟨⟨Nat.le_trans (Nat.le_trans HW.out.size K1.out.1) K2.out.1, fun i hi hn => ?_⟩, T3.out⟩, HB0.out⟩
  have h1 : i < w1.heap.size := Nat.lt_of_lt_of_le hi HW.out.size
  have h2 : i < w2.heap.size := Nat.lt_of_lt_of_le h1 K1.out.1
  rw [K2.out.2 i h2 (fun h => hn (Or.inr h)), K1.out.2 i h1 (fun h => hn (Or.inl (by rw [HP.out] at h; exact ⟨h.1, h.2.2.2⟩)))]
  exact HW.out.block i hi
theorem laws_markTable.calls (k : Nat) (a b : Int) (A2 : Option Addr) (n2 c2 : Nat) (l2 : List S78) (A3 : Option Addr) (n3 c3 : Nat) (l3 : List S84) (k0 k2 : Int) (l2' : List S78) (l3' : List S84) (ok2 ok3 : Nat → Prop) (w0 w : World) (hB : Below w0.heap.size w0 w)
    (h2 : Kd.S k78 78 w w0.heap.size ok2 (.slice A2 n2 c2) l2) (h3 : Kd.R k84 84 w w0.heap.size ok3 (.slice A3 n3 c3) l3) (h : laws_markTable.f k a b l2 l3 k0 = some (k2, l2', l3')) :
    Calls Try.prog 11 #[.agg #[.int .i64 a, .int .i64 b, .slice A2 n2 c2, .slice A3 n3 c3], .int .i64 k0] w fun e w' => e = .returned (.int .i64 k2) ∧ Kd.S k78 78 w' w0.heap.size (fun j => ok2 j ∨ w.heap.size ≤ j) (.slice A2 n2 c2) l2' ∧ Kd.R k84 84 w' w0.heap.size (fun j => ok3 j ∨ w.heap.size ≤ j) (.slice A3 n3 c3) l3' ∧ MarkedT w w' ok2 (.slice A3 n3 c3) ∧ Below w0.heap.size w0 w' := by
  unfold laws_markTable.f at h
  obtain ⟨⟨k1, m2⟩, e1, h⟩ := Option.bind_eq_some_iff.mp h
  obtain ⟨⟨k3, m3⟩, e2, h⟩ := Option.bind_eq_some_iff.mp h
  simp only [Option.some.injEq, Prod.mk.injEq] at h
  obtain ⟨rfl, rfl, rfl⟩ := h
  exact mark_table k a b A2 n2 c2 l2 m2 A3 n3 c3 l3 m3 k0 k1 k3 ok2 ok3 w0 w hB h2 h3 e1 e2
theorem old_neT {α : Type} {d : Kd α} {e : Nat} {w : World} {base : Nat} {ok : Nat → Prop} {v : Value} {xs : List α} (h : Kd.R d e w base ok v xs) {j : Nat} (hle : w.heap.size ≤ j) : some j ≠ v.ownBlock := fun he => by
  obtain ⟨_, inner, ho, _⟩ := h
  have := own_lt ho j he.symm
  omega
theorem heldT_n (k : Nat) (a b : Int) (A2 : Option Addr) (n2 c2 : Nat) (l2 : List S78) (A3 : Option Addr) (n3 c3 : Nat) (l3 : List S84) (a1 r : Int) (w : World) (e2 : n2 = l2.length) (e3 : n3 = l3.length)
    (hr2 : Kd.C k78 w A2 l2.length l2) (hc2 : n2 ≤ c2) (hr3 : Kd.C k84 w A3 l3.length l3) (hc3 : n3 ≤ c3) (h : laws_heldTable.f k a b l2 l3 a1 = some r) :
    Calls Try.prog 12 #[.agg #[.int .i64 a, .int .i64 b, .slice A2 n2 c2, .slice A3 n3 c3], .int .i64 a1] w fun e w' => e = .returned (.int .i64 r) ∧ Below w.heap.size w w' := by
  subst e2 e3
  exact laws_heldTable.calls k a b A2 c2 l2 A3 c3 l3 a1 r w hr2 hc2 hr3 hc3 h
end Go.Proofs.Ytioocldcdonlpaa.B
end

section
namespace Go.Proofs.Ytioocldcdonlpaa.B
open Go.RowKit Go.Proofs.YtioocldcdonlpaaW.PrintWords Go.Proofs.YtioocldcdonlpaaW.PrintLast Go.Proofs.YtioocldcdonlpaaW.PrintMore
attribute [local go_sem] max2_int min2_int max_two min_two max_three min_three max_four min_four
set_option maxHeartbeats 8000000 in
set_option maxRecDepth 100000 in
theorem impl_within.calls (a0 : Int) (a1 : Int) (a2 : Int) (r : Bool) (w : World) (h : impl_within.f a0 a1 a2 = some r) :
  Calls Try.prog 63 #[.int .i64 a0,.int .i64 a1,.int .i64 a2] w fun e w' => e = .returned (.bool r) ∧ Drawn0 w w' := by
 have H : (if a0 ≥ a1 then (some (decide (a0 ≤ a2))) else (some false)) = some r := h
 clear h
 by_cases c4 : a0 ≥ a1
 ·rw [if_pos c4] at H
  have c4b0 : decide (a1 ≤ a0) = true := decide_eq_true c4
  clear c4
  obtain rfl := Option.some.inj H
  go_enter Try.func63,Try.ntmps63
  go_wp2
  go_ret
  exact ⟨by first | rfl | (simp;done) | (simp [*];done),by repeat (first | exact Drawn0.refl _ | apply Drawn0.step)⟩
 ·rw [if_neg c4] at H
  have c4b0 : decide (a1 ≤ a0) = false := decide_eq_false c4
  clear c4
  obtain rfl := Option.some.inj H
  go_enter Try.func63,Try.ntmps63
  go_wp2
  go_ret
  exact ⟨by first | rfl | (simp;done) | (simp [*];done),by repeat (first | exact Drawn0.refl _ | apply Drawn0.step)⟩
set_option maxHeartbeats 8000000 in
set_option maxRecDepth 100000 in
theorem impl_isAnswer.calls (a0_0 : Int) (a0_1 : Int) (a0_2 : Int) (a0_3 : Int) (r : Bool) (w : World) (h : impl_isAnswer.f a0_0 a0_1 a0_2 a0_3 = some r) :
  Calls Try.prog 78 #[.agg #[.int .i64 a0_0,.int .i64 a0_1,.int .i64 a0_2,.int .i64 a0_3]] w fun e w' => e = .returned (.bool r) ∧ Below w.heap.size w w' := by
 have hu82 := Try.underlying82
 have HB := am_ (Below.refl w.heap.size w)
 have H : ((impl_within.f a0_0 1 8).bind fun t261 => (if t261 = true then ((impl_within.f a0_1 0 1000000).bind fun t262 => (if t262 = true then ((impl_within.f a0_2 (-1) 255).bind fun t263 => (if t263 = true then ((impl_within.f a0_3 0 2000000000).bind fun t264 => (some t264)) else (some false))) else (some false))) else (some false))) = some r := h
 clear h
 replace H := Option.bind_eq_some_iff.mp H
 obtain ⟨t261,A20,H⟩ := H
 try dsimp only at H
 have A2 := am_ A20
 clear A20
 by_cases c3 : t261 = true
 ·subst c3
  have H1 : ((impl_within.f a0_1 0 1000000).bind fun t262 => (if t262 = true then ((impl_within.f a0_2 (-1) 255).bind fun t263 => (if t263 = true then ((impl_within.f a0_3 0 2000000000).bind fun t264 => (some t264)) else (some false))) else (some false))) = some r := by rw [if_pos rfl] at H;exact H
  clear H
  have H := H1
  clear H1
  replace H := Option.bind_eq_some_iff.mp H
  obtain ⟨t262,A40,H⟩ := H
  try dsimp only at H
  have A4 := am_ A40
  clear A40
  by_cases c5 : t262 = true
  ·subst c5
   have H1 : ((impl_within.f a0_2 (-1) 255).bind fun t263 => (if t263 = true then ((impl_within.f a0_3 0 2000000000).bind fun t264 => (some t264)) else (some false))) = some r := by rw [if_pos rfl] at H;exact H
   clear H
   have H := H1
   clear H1
   replace H := Option.bind_eq_some_iff.mp H
   obtain ⟨t263,A60,H⟩ := H
   try dsimp only at H
   have A6 := am_ A60
   clear A60
   by_cases c7 : t263 = true
   ·subst c7
    have H1 : ((impl_within.f a0_3 0 2000000000).bind fun t264 => (some t264)) = some r := by rw [if_pos rfl] at H;exact H
    clear H
    have H := H1
    clear H1
    replace H := Option.bind_eq_some_iff.mp H
    obtain ⟨t264,A80,H⟩ := H
    try dsimp only at H
    have A8 := am_ A80
    clear A80
    obtain rfl := Option.some.inj H
    go_enter Try.func78,Try.ntmps78
    go_wp2_with (first | ((with_reducible refine gate_dst (N := 1) rfl ?_);refine zbx (N := 1) (cs := #[.int .i64 a0_0,.int .i64 a0_1,.int .i64 a0_2,.int .i64 a0_3]) (t := 82) ?_;intro gb260 hg w9 hbox hb;have BK260 := am_ (hbox);have GW260 := zw_ HB hg;have GE260 := zw_ HB hg;replace HB := zs_ HB hb;clear hb hbox hg;obtain ⟨hcz10_0,hcz10_1,hcz10_2,hcz10_3,hfz10_0,hfz10_1,hfz10_2,hfz10_3⟩ := zc4 BK260) | ((with_reducible refine gate_callee (f := 63) rfl ?_);refine zgl (some 5) Try.func63 #[.int .i64 a0_0,.int .i64 1,.int .i64 8] ?_;(with_reducible refine (impl_within.calls a0_0 1 8 true _ A2.out).mono ?_);rintro e w' ⟨rfl,⟨nd,rfl⟩⟩;refine ⟨_,rfl,?_⟩) | (go_at_call 63;(with_reducible refine (impl_within.calls a0_1 0 1000000 true _ A4.out).mono ?_);rintro e w' ⟨rfl,⟨nd,rfl⟩⟩) | (go_at_call 63;(with_reducible refine (impl_within.calls a0_2 (-1) 255 true _ A6.out).mono ?_);rintro e w' ⟨rfl,⟨nd,rfl⟩⟩) | (go_at_call 63;(with_reducible refine (impl_within.calls a0_3 0 2000000000 t264 _ A8.out).mono ?_);rintro e w' ⟨rfl,⟨nd,rfl⟩⟩))
    go_ret
    exact ⟨zt_,zl_ HB⟩
   ·replace c7 := Bool.eq_false_iff.mpr c7
    subst c7
    have H1 : (some false) = some r := by rw [if_neg (show ¬ (false = true) by decide)] at H;exact H
    clear H
    have H := H1
    clear H1
    obtain rfl := Option.some.inj H
    go_enter Try.func78,Try.ntmps78
    go_wp2_with (first | ((with_reducible refine gate_dst (N := 1) rfl ?_);refine zbx (N := 1) (cs := #[.int .i64 a0_0,.int .i64 a0_1,.int .i64 a0_2,.int .i64 a0_3]) (t := 82) ?_;intro gb260 hg w11 hbox hb;have BK260 := am_ (hbox);have GW260 := zw_ HB hg;have GE260 := zw_ HB hg;replace HB := zs_ HB hb;clear hb hbox hg;obtain ⟨hcz12_0,hcz12_1,hcz12_2,hcz12_3,hfz12_0,hfz12_1,hfz12_2,hfz12_3⟩ := zc4 BK260) | ((with_reducible refine gate_callee (f := 63) rfl ?_);refine zgl (some 5) Try.func63 #[.int .i64 a0_0,.int .i64 1,.int .i64 8] ?_;(with_reducible refine (impl_within.calls a0_0 1 8 true _ A2.out).mono ?_);rintro e w' ⟨rfl,⟨nd,rfl⟩⟩;refine ⟨_,rfl,?_⟩) | (go_at_call 63;(with_reducible refine (impl_within.calls a0_1 0 1000000 true _ A4.out).mono ?_);rintro e w' ⟨rfl,⟨nd,rfl⟩⟩) | (go_at_call 63;(with_reducible refine (impl_within.calls a0_2 (-1) 255 false _ A6.out).mono ?_);rintro e w' ⟨rfl,⟨nd,rfl⟩⟩))
    go_ret
    exact ⟨zt_,zl_ HB⟩
  ·replace c5 := Bool.eq_false_iff.mpr c5
   subst c5
   have H1 : (some false) = some r := by rw [if_neg (show ¬ (false = true) by decide)] at H;exact H
   clear H
   have H := H1
   clear H1
   obtain rfl := Option.some.inj H
   go_enter Try.func78,Try.ntmps78
   go_wp2_with (first | ((with_reducible refine gate_dst (N := 1) rfl ?_);refine zbx (N := 1) (cs := #[.int .i64 a0_0,.int .i64 a0_1,.int .i64 a0_2,.int .i64 a0_3]) (t := 82) ?_;intro gb260 hg w13 hbox hb;have BK260 := am_ (hbox);have GW260 := zw_ HB hg;have GE260 := zw_ HB hg;replace HB := zs_ HB hb;clear hb hbox hg;obtain ⟨hcz14_0,hcz14_1,hcz14_2,hcz14_3,hfz14_0,hfz14_1,hfz14_2,hfz14_3⟩ := zc4 BK260) | ((with_reducible refine gate_callee (f := 63) rfl ?_);refine zgl (some 5) Try.func63 #[.int .i64 a0_0,.int .i64 1,.int .i64 8] ?_;(with_reducible refine (impl_within.calls a0_0 1 8 true _ A2.out).mono ?_);rintro e w' ⟨rfl,⟨nd,rfl⟩⟩;refine ⟨_,rfl,?_⟩) | (go_at_call 63;(with_reducible refine (impl_within.calls a0_1 0 1000000 false _ A4.out).mono ?_);rintro e w' ⟨rfl,⟨nd,rfl⟩⟩))
   go_ret
   exact ⟨zt_,zl_ HB⟩
 ·replace c3 := Bool.eq_false_iff.mpr c3
  subst c3
  have H1 : (some false) = some r := by rw [if_neg (show ¬ (false = true) by decide)] at H;exact H
  clear H
  have H := H1
  clear H1
  obtain rfl := Option.some.inj H
  go_enter Try.func78,Try.ntmps78
  go_wp2_with (first | ((with_reducible refine gate_dst (N := 1) rfl ?_);refine zbx (N := 1) (cs := #[.int .i64 a0_0,.int .i64 a0_1,.int .i64 a0_2,.int .i64 a0_3]) (t := 82) ?_;intro gb260 hg w15 hbox hb;have BK260 := am_ (hbox);have GW260 := zw_ HB hg;have GE260 := zw_ HB hg;replace HB := zs_ HB hb;clear hb hbox hg;obtain ⟨hcz16_0,hcz16_1,hcz16_2,hcz16_3,hfz16_0,hfz16_1,hfz16_2,hfz16_3⟩ := zc4 BK260) | ((with_reducible refine gate_callee (f := 63) rfl ?_);refine zgl (some 5) Try.func63 #[.int .i64 a0_0,.int .i64 1,.int .i64 8] ?_;(with_reducible refine (impl_within.calls a0_0 1 8 false _ A2.out).mono ?_);rintro e w' ⟨rfl,⟨nd,rfl⟩⟩;refine ⟨_,rfl,?_⟩))
  go_ret
  exact ⟨zt_,zl_ HB⟩
end Go.Proofs.Ytioocldcdonlpaa.B
end

section
namespace Go.Proofs.Ytioocldcdonlpaa.B
open Go Go.RowKit Go.Proofs.YtioocldcdonlpaaW.PrintWords Go.Proofs.YtioocldcdonlpaaW.PrintLast Go.Proofs.YtioocldcdonlpaaW.PrintMore
set_option maxRecDepth 100000
set_option maxHeartbeats 2000000 in
theorem wait_cl (y : S80) (d : Int) (gb : Nat) (w : World) (hg : w.heap[gb]? = some (.cells #[.int .i64 d] 3 (0, 0))) :
    Calls Try.prog 94 #[.agg #[.int .i64 y.f0, .int .i64 y.f1], .pointer (some ⟨gb, 0, none⟩)] w fun e w' => e = .returned (.bool (y.f0 == d)) ∧ Below w.heap.size w w' := by
  have hu := Try.underlying80
  have HG := Aside0.mk hg
  clear hg
  have HB := Aside0.mk (Below.refl w.heap.size w)
  go_enter Try.func94, Try.ntmps94
  go_wp2_with (first | ((with_reducible refine gate_dst (N := 2) rfl ?_); refine zbx (N := 2) (cs := #[.int .i64 y.f0, .int .i64 y.f1]) (t := 80) ?_; intro gbx hgx w3 hbox hb; have hc0 : w3.cell? ⟨gbx, 0, none⟩ = some (.int .i64 y.f0) := (blk_cell hbox 0).trans rfl; have hcd : w3.cell? ⟨gb, 0, none⟩ = some (.int .i64 d) := (blk_cell (blk_below HG.out hb) 0).trans rfl; replace HB := zs_ HB hb; clear hb hbox hgx))
  go_ret
  exact ⟨rfl, HB.out⟩
theorem wIdx_some (d : Int) (l : List S80) (i : Nat) (h : i < l.length) (h1 : (l[i].f0 == d) = true) (h2 : ∀ j (hj : j < i), ((l[j]'(by omega)).f0 == d) = false) : wIdx l d = (i : Int) := by
  unfold wIdx
  rw [List.findIdx?_eq_some_iff_getElem.2 ⟨h, h1, fun j hj => by rw [h2 j hj]; decide⟩]
theorem wIdx_none (d : Int) (l : List S80) (h : ∀ y ∈ l, (y.f0 == d) = false) : wIdx l d = -1 := by
  unfold wIdx
  rw [List.findIdx?_eq_none_iff.2 h]
theorem rd_W (l : List S80) (j : Nat) (hj : j < l.length) : rd_T80 l (j : Int) = l[j] := by
  unfold rd_T80
  rw [List.getD, Int.toNat_natCast, List.getElem?_eq_getElem hj]
  rfl
set_option maxHeartbeats 4000000 in
theorem wait_ix (A0 : Option Addr) (c0 : Nat) (l0 : List S80) (d : Int) (gb : Nat) (w : World) (hg : w.heap[gb]? = some (.cells #[.int .i64 d] 3 (0, 0))) (hr0 : Kd.C k80 w A0 l0.length l0) (hc0 : l0.length ≤ c0) :
    Calls Try.prog 93 #[.slice A0 l0.length c0, .func (.func 94) #[] #[.pointer (some ⟨gb, 0, none⟩)]] w fun e w' => e = .returned (.int .i64 (wIdx l0 d)) ∧ Below w.heap.size w w' := by
  have hu := Try.underlying80
  have hlen : (l0.length : Int) ≤ 9223372036854775807 := by have := hr0.2.1; omega
  have HR0 := Aside0.mk hr0
  have HL0 := Aside0.mk hlen
  have HC0 := Aside0.mk hc0
  have HG := Aside0.mk hg
  clear hr0 hlen hc0 hg
  go_enter Try.func93, Try.ntmps93
  go_wp2
  go_loopg [5, 8] l0.length (fun gg _ s8 wr => ∃ x : Nat, s8 = .int .i64 (x : Int) ∧ Aside0 (x ≤ l0.length ∧ l0.length - x ≤ gg) ∧ Aside0 (∀ j (hj : j < l0.length), j < x → (l0[j].f0 == d) = false) ∧ Aside0 (Below w.heap.size w wr))
  case atStart => exact ⟨0, rfl, ⟨by omega⟩, ⟨fun j hj h => absurd h (by omega)⟩, ⟨Below.refl _ _⟩⟩
  case round =>
    obtain ⟨x, rfl, HX, HA, HB⟩ := hrel
    by_cases hlt : (x : Int) < (l0.length : Int)
    · have c0b0 : decide ((x : Int) < (l0.length : Int)) = true := decide_eq_true hlt
      have c0b1 : decide (x < l0.length) = true := decide_eq_true (by omega)
      have hx_ : x < l0.length := by omega
      have HXL := Aside0.mk hx_
      have p0_ : 0 ≤ (x : Int) := by omega
      have q0_ : (x : Int) < (l0.length : Int) := hlt
      have hrd := rd_W l0 x hx_
      obtain ⟨ad0, e0, hx0, hx1⟩ := at_T80 HR0.out (x : Int) p0_ q0_
      cases e0
      rw [hrd, Int.toNat_natCast] at hx0 hx1
      replace hx0 := zx_ HB hx0
      replace hx1 := zx_ HB hx1
      have HGr := Aside0.mk (blk_below HG.out HB.out)
      have HP := Aside0.mk (And.intro p0_ q0_)
      replace p0_ := eq_true p0_
      replace q0_ := eq_true q0_
      clear hlt hrd
      generalize hyq : l0[x] = yx at hx0 hx1
      have HY := Aside0.mk hyq
      clear hyq
      cases hq : (yx.f0 == d) with
      | true =>
        have HQ := Aside0.mk hq
        clear hq
        go_wp2_with (go_at_call 94; refine (wait_cl yx d gb _ HGr.out).mono ?_; rintro e w2 ⟨rfl, hb⟩; rw [HQ.out]; replace HB := zs_ HB hb; clear hb)
        go_ret
        refine ⟨?_, zl_ HB⟩
        rw [wIdx_some d l0 x HXL.out (by rw [HY.out]; exact HQ.out) (fun j hj => HA.out j _ hj)]
        rfl
      | false =>
        have HQ := Aside0.mk hq
        clear hq
        go_wp2_with (go_at_call 94; refine (wait_cl yx d gb _ HGr.out).mono ?_; rintro e w2 ⟨rfl, hb⟩; rw [HQ.out]; replace HB := zs_ HB hb; clear hb)
        go_roundg (l0.length - (x + 1))
        case measure => have := HX.out; have := HXL.out; omega
        case rel =>
          have hw : wrap64 ((x : Int) + 1) = ((x + 1 : Nat) : Int) := by have := HL0.out; have := HP.out; unfold wrap64; omega
          refine ⟨x + 1, (by rw [← hw]), ⟨by have := HX.out; have := HXL.out; omega⟩, ⟨fun j hj h => ?_⟩, ⟨zl_ HB⟩⟩
          by_cases e : j = x
          · subst e
            rw [HY.out]
            exact HQ.out
          · exact HA.out j hj (by omega)
    · have c0b0 : decide ((x : Int) < (l0.length : Int)) = false := decide_eq_false hlt
      have c0b1 : decide (x < l0.length) = false := decide_eq_false (by omega)
      have HE := Aside0.mk hlt
      clear hlt
      go_wp2
      go_ret
      have hn : ∀ y ∈ l0, (y.f0 == d) = false := fun y hy => by
        obtain ⟨j, hj, rfl⟩ := List.mem_iff_getElem.1 hy
        exact HA.out j hj (by have := HE.out; omega)
      refine ⟨?_, zl_ HB⟩
      rw [wIdx_none d l0 hn]
      rfl
set_option maxHeartbeats 4000000 in
theorem waits_walk (a0 : ByteArray) (a1 a2 a3 : Int) (A4 : Option Addr) (c4 : Nat) (l4 : List S80) (d : Int) (w : World) (hr4 : Kd.C k80 w A4 l4.length l4) (hc4 : l4.length ≤ c4) :
    Calls Try.prog 87 #[.agg #[.string a0, .int .i64 a1, .int .i64 a2, .int .i64 a3, .slice A4 l4.length c4], .int .i64 d] w fun e w' => e = .returned (.int .i64 (wIdx l4 d)) ∧ Below w.heap.size w w' := by
  have hu := Try.underlying78
  have HR := Aside0.mk hr4
  have HC := Aside0.mk hc4
  clear hr4 hc4
  have HB := Aside0.mk (Below.refl w.heap.size w)
  go_enter Try.func87, Try.ntmps87
  go_wp2_with (first | ((with_reducible refine gate_dst (N := 2) rfl ?_); refine zbx (N := 2) (cs := #[.string a0, .int .i64 a1, .int .i64 a2, .int .i64 a3, .slice A4 l4.length c4]) (t := 78) ?_; intro gbx hgx w3 hbox hb; have BKx := Aside0.mk hbox; have HR3 := Aside0.mk (Kd.C_below HR.out hb); replace HB := zs_ HB hb; clear hb hbox hgx) | ((with_reducible refine gate_dst (N := 3) rfl ?_); refine zbx (N := 3) (cs := #[.int .i64 d]) (t := 3) ?_; intro gbd hgd w4 hbox hb; have BKd := Aside0.mk hbox; replace BKx := zb BKx hb; replace HB := zs_ HB hb; clear hb hbox hgd; have hc4_ : w4.cell? ⟨gbx, 4, none⟩ = some (.slice A4 l4.length c4) := (blk_cell BKx.out 4).trans rfl) | (go_at_call 93; refine (wait_ix A4 c4 l4 d gbd _ (zk BKd) (zc_ HR HB) HC.out).mono ?_; rintro e w5 ⟨rfl, hb⟩; replace HB := zs_ HB hb; clear hb))
  go_ret
  exact ⟨rfl, zl_ HB⟩
end Go.Proofs.Ytioocldcdonlpaa.B
end

section
namespace Go.Proofs.Ytioocldcdonlpaa.B
open Go.RowKit Go.Proofs.YtioocldcdonlpaaW.PrintWords Go.Proofs.YtioocldcdonlpaaW.PrintLast Go.Proofs.YtioocldcdonlpaaW.PrintMore
attribute [local go_sem] max2_int min2_int max_two min_two max_three min_three max_four min_four
theorem impl_Lock_waits.calls (a0_0 : ByteArray) (a0_1 : Int) (a0_2 : Int) (a0_3 : Int) (A0_4 : Option Addr) (c0_4 : Nat) (l0_4 : List S80) (a1 : Int) (r : Int) (w : World) (hr0_4 : Kd.C k80 w A0_4 l0_4.length l0_4) (hc0_4 : l0_4.length ≤ c0_4) (h : impl_Lock_waits.f a0_0 a0_1 a0_2 a0_3 l0_4 a1 = some r) :
  Calls Try.prog 87 #[.agg #[.string a0_0,.int .i64 a0_1,.int .i64 a0_2,.int .i64 a0_3,.slice A0_4 l0_4.length c0_4],.int .i64 a1] w fun e w' => e = .returned (.int .i64 r) ∧ Below w.heap.size w w' := by
 obtain rfl := Option.some.inj h
 exact waits_walk a0_0 a0_1 a0_2 a0_3 A0_4 c0_4 l0_4 a1 w hr0_4 hc0_4
set_option maxHeartbeats 8000000 in
set_option maxRecDepth 100000 in
theorem impl_isLetter.calls (a0 : Int) (r : Bool) (w : World) (h : impl_isLetter.f a0 = some r) :
  Calls Try.prog 97 #[.int .u8 a0] w fun e w' => e = .returned (.bool r) ∧ Drawn0 w w' := by
 have H : (if a0 ≥ 97 then (if a0 ≤ 122 then (some true) else (if a0 ≥ 65 then (if a0 ≤ 90 then (some true) else (some (a0 == 95))) else (some (a0 == 95)))) else (if a0 ≥ 65 then (if a0 ≤ 90 then (some true) else (some (a0 == 95))) else (some (a0 == 95)))) = some r := h
 clear h
 by_cases c2 : a0 ≥ 97
 ·rw [if_pos c2] at H
  have c2b0 : decide (97 ≤ a0) = true := decide_eq_true c2
  clear c2
  by_cases c3 : a0 ≤ 122
  ·rw [if_pos c3] at H
   have c3b0 : decide (a0 ≤ 122) = true := decide_eq_true c3
   clear c3
   obtain rfl := Option.some.inj H
   go_enter Try.func97,Try.ntmps97
   go_wp2
   go_ret
   exact ⟨by first | rfl | (simp;done) | (simp [*];done),by repeat (first | exact Drawn0.refl _ | apply Drawn0.step)⟩
  ·rw [if_neg c3] at H
   have c3b0 : decide (a0 ≤ 122) = false := decide_eq_false c3
   clear c3
   by_cases c4 : a0 ≥ 65
   ·rw [if_pos c4] at H
    have c4b0 : decide (65 ≤ a0) = true := decide_eq_true c4
    clear c4
    by_cases c5 : a0 ≤ 90
    ·rw [if_pos c5] at H
     have c5b0 : decide (a0 ≤ 90) = true := decide_eq_true c5
     clear c5
     obtain rfl := Option.some.inj H
     go_enter Try.func97,Try.ntmps97
     go_wp2
     go_ret
     exact ⟨by first | rfl | (simp;done) | (simp [*];done),by repeat (first | exact Drawn0.refl _ | apply Drawn0.step)⟩
    ·rw [if_neg c5] at H
     have c5b0 : decide (a0 ≤ 90) = false := decide_eq_false c5
     clear c5
     obtain rfl := Option.some.inj H
     go_enter Try.func97,Try.ntmps97
     go_wp2
     go_ret
     exact ⟨by first | rfl | (simp;done) | (simp [*];done),by repeat (first | exact Drawn0.refl _ | apply Drawn0.step)⟩
   ·rw [if_neg c4] at H
    have c4b0 : decide (65 ≤ a0) = false := decide_eq_false c4
    clear c4
    obtain rfl := Option.some.inj H
    go_enter Try.func97,Try.ntmps97
    go_wp2
    go_ret
    exact ⟨by first | rfl | (simp;done) | (simp [*];done),by repeat (first | exact Drawn0.refl _ | apply Drawn0.step)⟩
 ·rw [if_neg c2] at H
  have c2b0 : decide (97 ≤ a0) = false := decide_eq_false c2
  clear c2
  by_cases c6 : a0 ≥ 65
  ·rw [if_pos c6] at H
   have c6b0 : decide (65 ≤ a0) = true := decide_eq_true c6
   clear c6
   by_cases c7 : a0 ≤ 90
   ·rw [if_pos c7] at H
    have c7b0 : decide (a0 ≤ 90) = true := decide_eq_true c7
    clear c7
    obtain rfl := Option.some.inj H
    go_enter Try.func97,Try.ntmps97
    go_wp2
    go_ret
    exact ⟨by first | rfl | (simp;done) | (simp [*];done),by repeat (first | exact Drawn0.refl _ | apply Drawn0.step)⟩
   ·rw [if_neg c7] at H
    have c7b0 : decide (a0 ≤ 90) = false := decide_eq_false c7
    clear c7
    obtain rfl := Option.some.inj H
    go_enter Try.func97,Try.ntmps97
    go_wp2
    go_ret
    exact ⟨by first | rfl | (simp;done) | (simp [*];done),by repeat (first | exact Drawn0.refl _ | apply Drawn0.step)⟩
  ·rw [if_neg c6] at H
   have c6b0 : decide (65 ≤ a0) = false := decide_eq_false c6
   clear c6
   obtain rfl := Option.some.inj H
   go_enter Try.func97,Try.ntmps97
   go_wp2
   go_ret
   exact ⟨by first | rfl | (simp;done) | (simp [*];done),by repeat (first | exact Drawn0.refl _ | apply Drawn0.step)⟩
set_option maxHeartbeats 8000000 in
set_option maxRecDepth 100000 in
theorem impl_NameOK.calls (k : Nat) (a0 : ByteArray) (r : Bool) (w : World) (h : impl_NameOK.f k a0 = some r) :
  Calls Try.prog 92 #[.string a0] w fun e w' => e = .returned (.bool r) ∧ Drawn0 w w' := by
 have H : (if (a0.size : Int) < 1 then (impl_NameOK.j0 k a0 true) else (if (a0.size : Int) > 40 then (impl_NameOK.j0 k a0 true) else (if 0 < (a0.size : Int) then ((impl_isLetter.f (bt a0 0)).bind fun t247 => (impl_NameOK.j0 k a0 (!t247))) else (none)))) = some r := h
 clear h
 have HC2 := am_ H
 clear H
 go_enter Try.func92,Try.ntmps92
 go_upto_region 1 with (fail)
 go_cut [17] (fun v17 wc => ∃ (kq : Nat) (x17_1 : Bool),v17 = .bool x17_1 ∧ Aside0 (impl_NameOK.j0 kq a0 x17_1 = some r) ∧ Aside0 (kq ≤ k) ∧ Drawn0 w wc)
 case first =>
  have H := HC2.out
  clear HC2
  by_cases c3 : (a0.size : Int) < 1
  ·rw [if_pos c3] at H
   have c3b0 : decide ((a0.size : Int) < 1) = true := decide_eq_true c3
   have c3b1 : decide (a0.size < 1) = true := decide_eq_true (by omega)
   clear c3
   (first | rw [c3b0] | (simp only [i64_w,i32_w];rw [c3b0]) | skip)
   have H' := am_ H
   clear H
   go_wp2
   go_meet
   case rel => exact ⟨_,(true),(by first | rfl | (simp;done) | (simp [*];done)),H',⟨by first | omega | exact Nat.le_refl _⟩,by repeat (first | exact Drawn0.refl _ | apply Drawn0.step)⟩
  ·rw [if_neg c3] at H
   have c3b0 : decide ((a0.size : Int) < 1) = false := decide_eq_false c3
   have c3b1 : decide (a0.size < 1) = false := decide_eq_false (by omega)
   clear c3
   (first | rw [c3b0] | (simp only [i64_w,i32_w];rw [c3b0]) | skip)
   by_cases c4 : (a0.size : Int) > 40
   ·rw [if_pos c4] at H
    have c4b0 : decide (40 < (a0.size : Int)) = true := decide_eq_true c4
    have c4b1 : decide (40 < a0.size) = true := decide_eq_true (by omega)
    clear c4
    have H' := am_ H
    clear H
    go_wp2
    go_meet
    case rel => exact ⟨_,(true),(by first | rfl | (simp;done) | (simp [*];done)),H',⟨by first | omega | exact Nat.le_refl _⟩,by repeat (first | exact Drawn0.refl _ | apply Drawn0.step)⟩
   ·rw [if_neg c4] at H
    have c4b0 : decide (40 < (a0.size : Int)) = false := decide_eq_false c4
    have c4b1 : decide (40 < a0.size) = false := decide_eq_false (by omega)
    clear c4
    by_cases c5 : 0 < (a0.size : Int)
    ·rw [if_pos c5] at H
     have c5b0 : decide (0 < (a0.size : Int)) = true := decide_eq_true c5
     have c5b1 : decide (0 < a0.size) = true := decide_eq_true (by omega)
     clear c5
     replace H := Option.bind_eq_some_iff.mp H
     obtain ⟨t247,A70,H⟩ := H
     try dsimp only at H
     have A7 := am_ A70
     clear A70
     have H' := am_ H
     clear H
     have p6 : 0 ≤ (0 : Int) := (by omega)
     have q6 : 0 < a0.size := (by have : (0 : Int) < (a0.size : Int) := zo_;omega)
     have hx6 : ∀ h : 0 < a0.size,((a0[0]'h).toNat : Int) = bt a0 0 := bt_at a0 0
     clear p6
     have qi6 : (0 < (a0.size : Int)) = True := eq_true (zo_)
     replace q6 := eq_true q6
     go_wp2_with (first | (go_at_call 97;(with_reducible refine (impl_isLetter.calls (bt a0 0) t247 _ A7.out).mono ?_);rintro e w' ⟨rfl,⟨nd,rfl⟩⟩))
     go_meet
     case rel => exact ⟨_,(!t247),(by first | rfl | (simp;done) | (simp [*];done)),H',⟨by first | omega | exact Nat.le_refl _⟩,by repeat (first | exact Drawn0.refl _ | apply Drawn0.step)⟩
    ·rw [if_neg c5] at H
     exact absurd H (by simp)
 case rest =>
  clear HC2
  try clear p2
  try clear c3
  try clear c3b0
  try clear c3b1
  try clear c4
  try clear c4b0
  try clear c4b1
  try clear c5
  try clear c5b0
  try clear c5b1
  try clear p6
  try clear q6
  try clear hx6
  try clear qi6
  try clear p6
  try clear q6
  obtain ⟨kq,x17_1,rfl,HA,HJ1,⟨mc1,rfl⟩⟩ := hcut
  cases kq with
  | zero => exact absurd HA.out (by simp [impl_NameOK.j0])
  | succ kj1 =>
   have H := HA.out
   clear HA
   simp only [impl_NameOK.j0] at H
   by_cases c8 : x17_1 = true
   ·subst c8
    have H1 : (some false) = some r := by rw [if_pos rfl] at H;exact H
    clear H
    have H := H1
    clear H1
    obtain rfl := Option.some.inj H
    go_wp2
    go_ret
    exact ⟨by first | rfl | (simp;done) | (simp [*];done),by repeat (first | exact Drawn0.refl _ | apply Drawn0.step)⟩
   ·replace c8 := Bool.eq_false_iff.mpr c8
    subst c8
    have H1 : (impl_NameOK.l0 kj1 a0 (a0.size : Int) 0) = some r := by rw [if_neg (show ¬ (false = true) by decide)] at H;exact H
    clear H
    have H := H1
    clear H1
    have H' := am_ H
    clear H
    go_wp2
    go_loopg [20] kj1 (fun kq v20 w' => ∃ (x20_2 : Int),v20 = .int .i64 x20_2 ∧ Aside0 (impl_NameOK.l0 kq a0 (a0.size : Int) x20_2 = some r) ∧ Aside0 (kq ≤ kj1) ∧ Drawn0 w w')
    case atStart => exact ⟨(0),(by first | rfl | (simp;done) | (simp [*];done)),H',⟨Nat.le_refl _⟩,by repeat (first | exact Drawn0.refl _ | apply Drawn0.step)⟩
    case round =>
     clear H'
     try clear c1
     try clear p2
     try clear c3
     try clear c3b0
     try clear c3b1
     try clear c4
     try clear c4b0
     try clear c4b1
     try clear c5
     try clear c5b0
     try clear c5b1
     try clear p6
     try clear q6
     try clear hx6
     try clear qi6
     try clear c8
     try clear p2
     try clear p6
     try clear q6
     obtain ⟨x20_2,rfl,HA,HK2,⟨m2,rfl⟩⟩ := hrel
     cases gk with
     | zero => exact absurd HA.out (by simp [impl_NameOK.l0])
     | succ k2 =>
      have H := HA.out
      clear HA
      simp only [impl_NameOK.l0] at H
      by_cases c9 : x20_2 < (a0.size : Int)
      ·rw [if_pos c9] at H
       have c9b0 : decide (x20_2 < (a0.size : Int)) = true := decide_eq_true c9
       clear c9
       by_cases c10 : 0 ≤ x20_2
       ·rw [if_pos c10] at H
        have c10b0 : decide (0 ≤ x20_2) = true := decide_eq_true c10
        clear c10
        by_cases c11 : x20_2 < (a0.size : Int)
        ·rw [if_pos c11] at H
         have c11b0 : decide (x20_2 < (a0.size : Int)) = true := decide_eq_true c11
         clear c11
         replace H := Option.bind_eq_some_iff.mp H
         obtain ⟨t248,A130,H⟩ := H
         try dsimp only at H
         have A13 := am_ A130
         clear A130
         by_cases c14 : t248 = true
         ·subst c14
          have H1 : (impl_NameOK.l0 k2 a0 (a0.size : Int) (wrap64 (x20_2 + 1))) = some r := by rw [if_pos rfl] at H;exact H
          clear H
          have H := H1
          clear H1
          have H' := am_ H
          clear H
          have p12 : 0 ≤ (x20_2 : Int) := zo_
          have q12 : x20_2 < (a0.size : Int) := zo_
          have hx12 := bt_at a0 x20_2
          replace p12 := eq_true p12
          replace q12 := eq_true q12
          go_wp2_with (first | ((with_reducible refine gate_callee (f := 97) rfl ?_);refine zgl (some 26) Try.func97 #[.int .u8 (bt a0 x20_2)] ?_;(with_reducible refine (impl_isLetter.calls (bt a0 x20_2) true _ A13.out).mono ?_);rintro e w' ⟨rfl,⟨nd,rfl⟩⟩;refine ⟨_,rfl,?_⟩))
          go_roundg k2
          case measure => have := HJ1.out;have := HK2.out;omega
          case rel => exact ⟨(wrap64 (x20_2 + 1)),(by first | rfl | (simp;done) | (simp [*];done)),H',⟨by have := HJ1.out;have := HK2.out;omega⟩,by repeat (first | exact Drawn0.refl _ | apply Drawn0.step)⟩
         ·replace c14 := Bool.eq_false_iff.mpr c14
          subst c14
          have H1 : (if (bt a0 x20_2) < 48 then (some false) else (if (bt a0 x20_2) > 57 then (some false) else (impl_NameOK.l0 k2 a0 (a0.size : Int) (wrap64 (x20_2 + 1))))) = some r := by rw [if_neg (show ¬ (false = true) by decide)] at H;exact H
          clear H
          have H := H1
          clear H1
          by_cases c16 : (bt a0 x20_2) < 48
          ·rw [if_pos c16] at H
           have c16b0 : decide ((bt a0 x20_2) < 48) = true := decide_eq_true c16
           clear c16
           obtain rfl := Option.some.inj H
           have p12 : 0 ≤ (x20_2 : Int) := zo_
           have q12 : x20_2 < (a0.size : Int) := zo_
           have hx12 := bt_at a0 x20_2
           replace p12 := eq_true p12
           replace q12 := eq_true q12
           go_wp2_with (first | ((with_reducible refine gate_callee (f := 97) rfl ?_);refine zgl (some 26) Try.func97 #[.int .u8 (bt a0 x20_2)] ?_;(with_reducible refine (impl_isLetter.calls (bt a0 x20_2) false _ A13.out).mono ?_);rintro e w' ⟨rfl,⟨nd,rfl⟩⟩;refine ⟨_,rfl,?_⟩;have p15 : 0 ≤ (x20_2 : Int) := zo_;have q15 : x20_2 < (a0.size : Int) := zo_;have hx15 := bt_at a0 x20_2;replace p15 := eq_true p15;replace q15 := eq_true q15))
           go_ret
           exact ⟨by first | rfl | (simp;done) | (simp [*];done),by repeat (first | exact Drawn0.refl _ | apply Drawn0.step)⟩
          ·rw [if_neg c16] at H
           have c16b0 : decide ((bt a0 x20_2) < 48) = false := decide_eq_false c16
           clear c16
           by_cases c18 : (bt a0 x20_2) > 57
           ·rw [if_pos c18] at H
            have c18b0 : decide (57 < (bt a0 x20_2)) = true := decide_eq_true c18
            clear c18
            obtain rfl := Option.some.inj H
            have p12 : 0 ≤ (x20_2 : Int) := zo_
            have q12 : x20_2 < (a0.size : Int) := zo_
            have hx12 := bt_at a0 x20_2
            replace p12 := eq_true p12
            replace q12 := eq_true q12
            go_wp2_with (first | ((with_reducible refine gate_callee (f := 97) rfl ?_);refine zgl (some 26) Try.func97 #[.int .u8 (bt a0 x20_2)] ?_;(with_reducible refine (impl_isLetter.calls (bt a0 x20_2) false _ A13.out).mono ?_);rintro e w' ⟨rfl,⟨nd,rfl⟩⟩;refine ⟨_,rfl,?_⟩;have p15 : 0 ≤ (x20_2 : Int) := zo_;have q15 : x20_2 < (a0.size : Int) := zo_;have hx15 := bt_at a0 x20_2;replace p15 := eq_true p15;replace q15 := eq_true q15;have p17 : 0 ≤ (x20_2 : Int) := zo_;have q17 : x20_2 < (a0.size : Int) := zo_;have hx17 := bt_at a0 x20_2;replace p17 := eq_true p17;replace q17 := eq_true q17))
            go_ret
            exact ⟨by first | rfl | (simp;done) | (simp [*];done),by repeat (first | exact Drawn0.refl _ | apply Drawn0.step)⟩
           ·rw [if_neg c18] at H
            have c18b0 : decide (57 < (bt a0 x20_2)) = false := decide_eq_false c18
            clear c18
            have H' := am_ H
            clear H
            have p12 : 0 ≤ (x20_2 : Int) := zo_
            have q12 : x20_2 < (a0.size : Int) := zo_
            have hx12 := bt_at a0 x20_2
            replace p12 := eq_true p12
            replace q12 := eq_true q12
            go_wp2_with (first | ((with_reducible refine gate_callee (f := 97) rfl ?_);refine zgl (some 26) Try.func97 #[.int .u8 (bt a0 x20_2)] ?_;(with_reducible refine (impl_isLetter.calls (bt a0 x20_2) false _ A13.out).mono ?_);rintro e w' ⟨rfl,⟨nd,rfl⟩⟩;refine ⟨_,rfl,?_⟩;have p15 : 0 ≤ (x20_2 : Int) := zo_;have q15 : x20_2 < (a0.size : Int) := zo_;have hx15 := bt_at a0 x20_2;replace p15 := eq_true p15;replace q15 := eq_true q15;have p17 : 0 ≤ (x20_2 : Int) := zo_;have q17 : x20_2 < (a0.size : Int) := zo_;have hx17 := bt_at a0 x20_2;replace p17 := eq_true p17;replace q17 := eq_true q17))
            go_roundg k2
            case measure => have := HJ1.out;have := HK2.out;omega
            case rel => exact ⟨(wrap64 (x20_2 + 1)),(by first | rfl | (simp;done) | (simp [*];done)),H',⟨by have := HJ1.out;have := HK2.out;omega⟩,by repeat (first | exact Drawn0.refl _ | apply Drawn0.step)⟩
        ·rw [if_neg c11] at H
         exact absurd H (by simp)
       ·rw [if_neg c10] at H
        exact absurd H (by simp)
      ·rw [if_neg c9] at H
       have c9b0 : decide (x20_2 < (a0.size : Int)) = false := decide_eq_false c9
       clear c9
       obtain rfl := Option.some.inj H
       go_wp2
       go_ret
       exact ⟨by first | rfl | (simp;done) | (simp [*];done),by repeat (first | exact Drawn0.refl _ | apply Drawn0.step)⟩
set_option maxHeartbeats 8000000 in
set_option maxRecDepth 100000 in
theorem impl_isOpName.calls (k : Nat) (a0 : ByteArray) (r : Bool) (w : World) (h : impl_isOpName.f k a0 = some r) :
  Calls Try.prog 86 #[.string a0] w fun e w' => e = .returned (.bool r) ∧ Drawn0 w w' := by
 have H : (if (a0.size : Int) ≤ 12 then ((impl_NameOK.f k a0).bind fun t249 => (some t249)) else (some false)) = some r := h
 clear h
 by_cases c2 : (a0.size : Int) ≤ 12
 ·rw [if_pos c2] at H
  have c2b0 : decide ((a0.size : Int) ≤ 12) = true := decide_eq_true c2
  have c2b1 : decide (a0.size ≤ 12) = true := decide_eq_true (by omega)
  clear c2
  replace H := Option.bind_eq_some_iff.mp H
  obtain ⟨t249,A30,H⟩ := H
  try dsimp only at H
  have A3 := am_ A30
  clear A30
  obtain rfl := Option.some.inj H
  go_enter Try.func86,Try.ntmps86
  go_wp2_with (first | (go_at_call 92;(with_reducible refine (impl_NameOK.calls k a0 t249 _ A3.out).mono ?_);rintro e w' ⟨rfl,⟨nd,rfl⟩⟩))
  go_ret
  exact ⟨by first | rfl | (simp;done) | (simp [*];done),by repeat (first | exact Drawn0.refl _ | apply Drawn0.step)⟩
 ·rw [if_neg c2] at H
  have c2b0 : decide ((a0.size : Int) ≤ 12) = false := decide_eq_false c2
  have c2b1 : decide (a0.size ≤ 12) = false := decide_eq_false (by omega)
  clear c2
  obtain rfl := Option.some.inj H
  go_enter Try.func86,Try.ntmps86
  go_wp2
  go_ret
  exact ⟨by first | rfl | (simp;done) | (simp [*];done),by repeat (first | exact Drawn0.refl _ | apply Drawn0.step)⟩
set_option maxHeartbeats 8000000 in
set_option maxRecDepth 100000 in
theorem impl_isLock.calls (k : Nat) (a0_0 : ByteArray) (a0_1 : Int) (a0_2 : Int) (a0_3 : Int) (A0_4 : Option Addr) (c0_4 : Nat) (l0_4 : List (S80)) (a1 : Int) (r : Bool) (w : World) (hr0_4 : Kd.C k80 w A0_4 l0_4.length l0_4) (hc0_4 : l0_4.length ≤ c0_4) (h : impl_isLock.f k a0_0 a0_1 a0_2 a0_3 l0_4 a1 = some r) :
  Calls Try.prog 77 #[.agg #[.string a0_0,.int .i64 a0_1,.int .i64 a0_2,.int .i64 a0_3,.slice A0_4 l0_4.length c0_4],.int .i64 a1] w fun e w' => e = .returned (.bool r) ∧ Below w.heap.size w w' := by
 have hu78 := Try.underlying78
 have hu80 := Try.underlying80
 have HR0_4 := am_ hr0_4
 have HC0_4 := am_ hc0_4
 clear hr0_4 hc0_4
 have HB := am_ (Below.refl w.heap.size w)
 have H : ((impl_isOpName.f k a0_0).bind fun t251 => (if t251 = true then ((impl_within.f a0_1 0 (wrap64 (a1 - 1))).bind fun t252 => (if t252 = true then ((impl_within.f a0_2 (-1) 255).bind fun t253 => (if t253 = true then ((impl_within.f a0_3 0 2000000000).bind fun t254 => (if t254 = true then (impl_isLock.j0 k (decide ((l0_4.length : Int) > 4)) a0_0 a0_1 a0_2 a0_3 l0_4) else (impl_isLock.j0 k true a0_0 a0_1 a0_2 a0_3 l0_4))) else (impl_isLock.j0 k true a0_0 a0_1 a0_2 a0_3 l0_4))) else (impl_isLock.j0 k true a0_0 a0_1 a0_2 a0_3 l0_4))) else (impl_isLock.j0 k true a0_0 a0_1 a0_2 a0_3 l0_4))) = some r := h
 clear h
 have HC3 := am_ H
 clear H
 go_enter Try.func77,Try.ntmps77
 go_upto_region 1 with (first | ((with_reducible refine gate_dst (N := 2) rfl ?_);(try (refine gate_guard (by rfl) ?_;dsimp only));refine zbx (N := 2) (cs := #[.string a0_0,.int .i64 a0_1,.int .i64 a0_2,.int .i64 a0_3,.slice A0_4 l0_4.length c0_4]) (t := 78) ?_;intro gb250 hg w4 hbox hb;have BK250 := am_ (hbox);have GW250 := zw_ HB hg;have GE250 := zw_ HB hg;replace HB := zs_ HB hb;clear hb hbox hg))
 (try simp only [Act.put,p1_,p2_,p3_])
 go_cut [36] (fun v36 wc => ∃ (kq : Nat) (x36_2 : Bool),v36 = .bool x36_2 ∧ Aside0 (impl_isLock.j0 kq x36_2 a0_0 a0_1 a0_2 a0_3 l0_4 = some r) ∧ Aside0 (kq ≤ k) ∧ Aside0 (wc.heap[gb250]? = some (.cells #[.string a0_0,.int .i64 a0_1,.int .i64 a0_2,.int .i64 a0_3,(.slice A0_4 l0_4.length c0_4)] 78 (0,0))) ∧ Aside0 (Below w.heap.size w wc))
 case first =>
  have H := HC3.out
  clear HC3
  replace H := Option.bind_eq_some_iff.mp H
  obtain ⟨t251,A50,H⟩ := H
  try dsimp only at H
  have A5 := am_ A50
  clear A50
  by_cases c6 : t251 = true
  ·subst c6
   have H1 : ((impl_within.f a0_1 0 (wrap64 (a1 - 1))).bind fun t252 => (if t252 = true then ((impl_within.f a0_2 (-1) 255).bind fun t253 => (if t253 = true then ((impl_within.f a0_3 0 2000000000).bind fun t254 => (if t254 = true then (impl_isLock.j0 k (decide ((l0_4.length : Int) > 4)) a0_0 a0_1 a0_2 a0_3 l0_4) else (impl_isLock.j0 k true a0_0 a0_1 a0_2 a0_3 l0_4))) else (impl_isLock.j0 k true a0_0 a0_1 a0_2 a0_3 l0_4))) else (impl_isLock.j0 k true a0_0 a0_1 a0_2 a0_3 l0_4))) = some r := by rw [if_pos rfl] at H;exact H
   clear H
   have H := H1
   clear H1
   replace H := Option.bind_eq_some_iff.mp H
   obtain ⟨t252,A70,H⟩ := H
   try dsimp only at H
   have A7 := am_ A70
   clear A70
   by_cases c8 : t252 = true
   ·subst c8
    have H1 : ((impl_within.f a0_2 (-1) 255).bind fun t253 => (if t253 = true then ((impl_within.f a0_3 0 2000000000).bind fun t254 => (if t254 = true then (impl_isLock.j0 k (decide ((l0_4.length : Int) > 4)) a0_0 a0_1 a0_2 a0_3 l0_4) else (impl_isLock.j0 k true a0_0 a0_1 a0_2 a0_3 l0_4))) else (impl_isLock.j0 k true a0_0 a0_1 a0_2 a0_3 l0_4))) = some r := by rw [if_pos rfl] at H;exact H
    clear H
    have H := H1
    clear H1
    replace H := Option.bind_eq_some_iff.mp H
    obtain ⟨t253,A90,H⟩ := H
    try dsimp only at H
    have A9 := am_ A90
    clear A90
    by_cases c10 : t253 = true
    ·subst c10
     have H1 : ((impl_within.f a0_3 0 2000000000).bind fun t254 => (if t254 = true then (impl_isLock.j0 k (decide ((l0_4.length : Int) > 4)) a0_0 a0_1 a0_2 a0_3 l0_4) else (impl_isLock.j0 k true a0_0 a0_1 a0_2 a0_3 l0_4))) = some r := by rw [if_pos rfl] at H;exact H
     clear H
     have H := H1
     clear H1
     replace H := Option.bind_eq_some_iff.mp H
     obtain ⟨t254,A110,H⟩ := H
     try dsimp only at H
     have A11 := am_ A110
     clear A110
     by_cases c12 : t254 = true
     ·subst c12
      have H1 : (impl_isLock.j0 k (decide ((l0_4.length : Int) > 4)) a0_0 a0_1 a0_2 a0_3 l0_4) = some r := by rw [if_pos rfl] at H;exact H
      clear H
      have H := H1
      clear H1
      have H' := am_ H
      clear H
      obtain ⟨hcz13_0,hcz13_1,hcz13_2,hcz13_3,hcz13_4,hfz13_0,hfz13_1,hfz13_2,hfz13_3,hfz13_4⟩ := zc5 BK250
      go_wp2_with (first | ((with_reducible refine gate_callee (f := 86) rfl ?_);refine zgl (some 9) Try.func86 #[.string a0_0] ?_;(with_reducible refine (impl_isOpName.calls k a0_0 true _ A5.out).mono ?_);rintro e w' ⟨rfl,⟨nd,rfl⟩⟩;refine ⟨_,rfl,?_⟩) | (go_at_call 63;(with_reducible refine (impl_within.calls a0_1 0 (wrap64 (a1 - 1)) true _ A7.out).mono ?_);rintro e w' ⟨rfl,⟨nd,rfl⟩⟩) | (go_at_call 63;(with_reducible refine (impl_within.calls a0_2 (-1) 255 true _ A9.out).mono ?_);rintro e w' ⟨rfl,⟨nd,rfl⟩⟩) | (go_at_call 63;(with_reducible refine (impl_within.calls a0_3 0 2000000000 true _ A11.out).mono ?_);rintro e w' ⟨rfl,⟨nd,rfl⟩⟩))
      go_meet
      case rel => exact ⟨_,(decide ((l0_4.length : Int) > 4)),(by first | rfl | (simp;done) | (simp [*];done)),H',⟨by first | omega | exact Nat.le_refl _⟩,⟨by (with_reducible repeat (first | apply k1_ | apply k2_ | apply k3_));exact BK250.out⟩,⟨zl_ HB⟩⟩
     ·replace c12 := Bool.eq_false_iff.mpr c12
      subst c12
      have H1 : (impl_isLock.j0 k true a0_0 a0_1 a0_2 a0_3 l0_4) = some r := by rw [if_neg (show ¬ (false = true) by decide)] at H;exact H
      clear H
      have H := H1
      clear H1
      have H' := am_ H
      clear H
      obtain ⟨hcz14_0,hcz14_1,hcz14_2,hcz14_3,hcz14_4,hfz14_0,hfz14_1,hfz14_2,hfz14_3,hfz14_4⟩ := zc5 BK250
      go_wp2_with (first | ((with_reducible refine gate_callee (f := 86) rfl ?_);refine zgl (some 9) Try.func86 #[.string a0_0] ?_;(with_reducible refine (impl_isOpName.calls k a0_0 true _ A5.out).mono ?_);rintro e w' ⟨rfl,⟨nd,rfl⟩⟩;refine ⟨_,rfl,?_⟩) | (go_at_call 63;(with_reducible refine (impl_within.calls a0_1 0 (wrap64 (a1 - 1)) true _ A7.out).mono ?_);rintro e w' ⟨rfl,⟨nd,rfl⟩⟩) | (go_at_call 63;(with_reducible refine (impl_within.calls a0_2 (-1) 255 true _ A9.out).mono ?_);rintro e w' ⟨rfl,⟨nd,rfl⟩⟩) | (go_at_call 63;(with_reducible refine (impl_within.calls a0_3 0 2000000000 false _ A11.out).mono ?_);rintro e w' ⟨rfl,⟨nd,rfl⟩⟩))
      go_meet
      case rel => exact ⟨_,(true),(by first | rfl | (simp;done) | (simp [*];done)),H',⟨by first | omega | exact Nat.le_refl _⟩,⟨by (with_reducible repeat (first | apply k1_ | apply k2_ | apply k3_));exact BK250.out⟩,⟨zl_ HB⟩⟩
    ·replace c10 := Bool.eq_false_iff.mpr c10
     subst c10
     have H1 : (impl_isLock.j0 k true a0_0 a0_1 a0_2 a0_3 l0_4) = some r := by rw [if_neg (show ¬ (false = true) by decide)] at H;exact H
     clear H
     have H := H1
     clear H1
     have H' := am_ H
     clear H
     obtain ⟨hcz15_0,hcz15_1,hcz15_2,hcz15_3,hcz15_4,hfz15_0,hfz15_1,hfz15_2,hfz15_3,hfz15_4⟩ := zc5 BK250
     go_wp2_with (first | ((with_reducible refine gate_callee (f := 86) rfl ?_);refine zgl (some 9) Try.func86 #[.string a0_0] ?_;(with_reducible refine (impl_isOpName.calls k a0_0 true _ A5.out).mono ?_);rintro e w' ⟨rfl,⟨nd,rfl⟩⟩;refine ⟨_,rfl,?_⟩) | (go_at_call 63;(with_reducible refine (impl_within.calls a0_1 0 (wrap64 (a1 - 1)) true _ A7.out).mono ?_);rintro e w' ⟨rfl,⟨nd,rfl⟩⟩) | (go_at_call 63;(with_reducible refine (impl_within.calls a0_2 (-1) 255 false _ A9.out).mono ?_);rintro e w' ⟨rfl,⟨nd,rfl⟩⟩))
     go_meet
     case rel => exact ⟨_,(true),(by first | rfl | (simp;done) | (simp [*];done)),H',⟨by first | omega | exact Nat.le_refl _⟩,⟨by (with_reducible repeat (first | apply k1_ | apply k2_ | apply k3_));exact BK250.out⟩,⟨zl_ HB⟩⟩
   ·replace c8 := Bool.eq_false_iff.mpr c8
    subst c8
    have H1 : (impl_isLock.j0 k true a0_0 a0_1 a0_2 a0_3 l0_4) = some r := by rw [if_neg (show ¬ (false = true) by decide)] at H;exact H
    clear H
    have H := H1
    clear H1
    have H' := am_ H
    clear H
    obtain ⟨hcz16_0,hcz16_1,hcz16_2,hcz16_3,hcz16_4,hfz16_0,hfz16_1,hfz16_2,hfz16_3,hfz16_4⟩ := zc5 BK250
    go_wp2_with (first | ((with_reducible refine gate_callee (f := 86) rfl ?_);refine zgl (some 9) Try.func86 #[.string a0_0] ?_;(with_reducible refine (impl_isOpName.calls k a0_0 true _ A5.out).mono ?_);rintro e w' ⟨rfl,⟨nd,rfl⟩⟩;refine ⟨_,rfl,?_⟩) | (go_at_call 63;(with_reducible refine (impl_within.calls a0_1 0 (wrap64 (a1 - 1)) false _ A7.out).mono ?_);rintro e w' ⟨rfl,⟨nd,rfl⟩⟩))
    go_meet
    case rel => exact ⟨_,(true),(by first | rfl | (simp;done) | (simp [*];done)),H',⟨by first | omega | exact Nat.le_refl _⟩,⟨by (with_reducible repeat (first | apply k1_ | apply k2_ | apply k3_));exact BK250.out⟩,⟨zl_ HB⟩⟩
  ·replace c6 := Bool.eq_false_iff.mpr c6
   subst c6
   have H1 : (impl_isLock.j0 k true a0_0 a0_1 a0_2 a0_3 l0_4) = some r := by rw [if_neg (show ¬ (false = true) by decide)] at H;exact H
   clear H
   have H := H1
   clear H1
   have H' := am_ H
   clear H
   obtain ⟨hcz17_0,hcz17_1,hcz17_2,hcz17_3,hcz17_4,hfz17_0,hfz17_1,hfz17_2,hfz17_3,hfz17_4⟩ := zc5 BK250
   go_wp2_with (first | ((with_reducible refine gate_callee (f := 86) rfl ?_);refine zgl (some 9) Try.func86 #[.string a0_0] ?_;(with_reducible refine (impl_isOpName.calls k a0_0 false _ A5.out).mono ?_);rintro e w' ⟨rfl,⟨nd,rfl⟩⟩;refine ⟨_,rfl,?_⟩))
   go_meet
   case rel => exact ⟨_,(true),(by first | rfl | (simp;done) | (simp [*];done)),H',⟨by first | omega | exact Nat.le_refl _⟩,⟨by (with_reducible repeat (first | apply k1_ | apply k2_ | apply k3_));exact BK250.out⟩,⟨zl_ HB⟩⟩
 case rest =>
  clear HC3
  try clear c1
  try clear p2
  try clear c6
  try clear p6
  try clear c7
  try clear c8
  try clear c10
  try clear c12
  try clear hcz13_0
  try clear hcz13_1
  try clear hcz13_2
  try clear hcz13_3
  try clear hcz13_4
  try clear hcz14_0
  try clear hcz14_1
  try clear hcz14_2
  try clear hcz14_3
  try clear hcz14_4
  try clear hcz15_0
  try clear hcz15_1
  try clear hcz15_2
  try clear hcz15_3
  try clear hcz15_4
  try clear hcz16_0
  try clear hcz16_1
  try clear hcz16_2
  try clear hcz16_3
  try clear hcz16_4
  try clear hcz17_0
  try clear hcz17_1
  try clear hcz17_2
  try clear hcz17_3
  try clear hcz17_4
  try clear hfz13_0
  try clear hfz13_1
  try clear hfz13_2
  try clear hfz13_3
  try clear hfz13_4
  try clear hfz14_0
  try clear hfz14_1
  try clear hfz14_2
  try clear hfz14_3
  try clear hfz14_4
  try clear hfz15_0
  try clear hfz15_1
  try clear hfz15_2
  try clear hfz15_3
  try clear hfz15_4
  try clear hfz16_0
  try clear hfz16_1
  try clear hfz16_2
  try clear hfz16_3
  try clear hfz16_4
  try clear hfz17_0
  try clear hfz17_1
  try clear hfz17_2
  try clear hfz17_3
  try clear hfz17_4
  obtain ⟨kq,x36_2,rfl,HA,HJ2,BK250,HB⟩ := hcut
  cases kq with
  | zero => exact absurd HA.out (by simp [impl_isLock.j0])
  | succ kj2 =>
   have H := HA.out
   clear HA
   simp only [impl_isLock.j0] at H
   by_cases c18 : x36_2 = true
   ·subst c18
    have H1 : (some false) = some r := by rw [if_pos rfl] at H;exact H
    clear H
    have H := H1
    clear H1
    obtain rfl := Option.some.inj H
    go_wp2
    go_ret
    exact ⟨zt_,zl_ HB⟩
   ·replace c18 := Bool.eq_false_iff.mpr c18
    subst c18
    have H1 : (if a0_2 = (-1) then (if a0_3 = 0 then (impl_isLock.j1 kj2 (decide ((l0_4.length : Int) > 0)) a0_0 a0_1 a0_2 a0_3 l0_4) else (impl_isLock.j1 kj2 true a0_0 a0_1 a0_2 a0_3 l0_4)) else (impl_isLock.j1 kj2 false a0_0 a0_1 a0_2 a0_3 l0_4)) = some r := by rw [if_neg (show ¬ (false = true) by decide)] at H;exact H
    clear H
    have H := H1
    clear H1
    have HC19 := am_ H
    clear H
    go_upto_region 3 with (fail)
    go_cut [50] (fun v50 wc => ∃ (kq : Nat) (x50_18 : Bool),v50 = .bool x50_18 ∧ Aside0 (impl_isLock.j1 kq x50_18 a0_0 a0_1 a0_2 a0_3 l0_4 = some r) ∧ Aside0 (kq ≤ kj2) ∧ Aside0 (wc.heap[gb250]? = some (.cells #[.string a0_0,.int .i64 a0_1,.int .i64 a0_2,.int .i64 a0_3,(.slice A0_4 l0_4.length c0_4)] 78 (0,0))) ∧ Aside0 (Below w.heap.size w wc))
    case first =>
     have H := HC19.out
     clear HC19
     by_cases c20 : a0_2 = (-1)
     ·rw [if_pos c20] at H
      have c20b0 : (a0_2 == (-1)) = true := beq_iff_eq.mpr c20
      have c20b1 : (a0_2 != (-1)) = false := bne_eq_false_iff_eq.mpr c20
      clear c20
      (first | rw [c20b0] | (simp only [i64_w,i32_w];rw [c20b0]) | skip)
      by_cases c21 : a0_3 = 0
      ·rw [if_pos c21] at H
       have c21b0 : (a0_3 == 0) = true := beq_iff_eq.mpr c21
       have c21b1 : (a0_3 != 0) = false := bne_eq_false_iff_eq.mpr c21
       clear c21
       have H' := am_ H
       clear H
       obtain ⟨hcz22_0,hcz22_1,hcz22_2,hcz22_3,hcz22_4,hfz22_0,hfz22_1,hfz22_2,hfz22_3,hfz22_4⟩ := zc5 BK250
       go_wp2
       go_meet
       case rel => exact ⟨_,(decide ((l0_4.length : Int) > 0)),(by first | rfl | (simp;done) | (simp [*];done)),H',⟨by have := HJ2.out;first | omega | exact Nat.le_refl _⟩,⟨by (with_reducible repeat (first | apply k1_ | apply k2_ | apply k3_));exact BK250.out⟩,⟨zl_ HB⟩⟩
      ·rw [if_neg c21] at H
       have c21b0 : (a0_3 == 0) = false := beq_eq_false_iff_ne.mpr c21
       have c21b1 : (a0_3 != 0) = true := bne_iff_ne.mpr c21
       have H' := am_ H
       clear H
       obtain ⟨hcz23_0,hcz23_1,hcz23_2,hcz23_3,hcz23_4,hfz23_0,hfz23_1,hfz23_2,hfz23_3,hfz23_4⟩ := zc5 BK250
       go_wp2
       go_meet
       case rel => exact ⟨_,(true),(by first | rfl | (simp;done) | (simp [*];done)),H',⟨by have := HJ2.out;first | omega | exact Nat.le_refl _⟩,⟨by (with_reducible repeat (first | apply k1_ | apply k2_ | apply k3_));exact BK250.out⟩,⟨zl_ HB⟩⟩
     ·rw [if_neg c20] at H
      have c20b0 : (a0_2 == (-1)) = false := beq_eq_false_iff_ne.mpr c20
      have c20b1 : (a0_2 != (-1)) = true := bne_iff_ne.mpr c20
      (first | rw [c20b0] | (simp only [i64_w,i32_w];rw [c20b0]) | skip)
      have H' := am_ H
      clear H
      obtain ⟨hcz24_0,hcz24_1,hcz24_2,hcz24_3,hcz24_4,hfz24_0,hfz24_1,hfz24_2,hfz24_3,hfz24_4⟩ := zc5 BK250
      go_wp2
      go_meet
      case rel => exact ⟨_,(false),(by first | rfl | (simp;done) | (simp [*];done)),H',⟨by have := HJ2.out;first | omega | exact Nat.le_refl _⟩,⟨by (with_reducible repeat (first | apply k1_ | apply k2_ | apply k3_));exact BK250.out⟩,⟨zl_ HB⟩⟩
    case rest =>
     clear HC19
     try clear c1
     try clear c2
     try clear p2
     try clear c6
     try clear p6
     try clear c7
     try clear c8
     try clear c10
     try clear c12
     try clear c18
     try clear c20
     try clear c20b0
     try clear c20b1
     try clear c21
     try clear c21b0
     try clear c21b1
     try clear hcz13_0
     try clear hcz13_1
     try clear hcz13_2
     try clear hcz13_3
     try clear hcz13_4
     try clear hcz14_0
     try clear hcz14_1
     try clear hcz14_2
     try clear hcz14_3
     try clear hcz14_4
     try clear hcz15_0
     try clear hcz15_1
     try clear hcz15_2
     try clear hcz15_3
     try clear hcz15_4
     try clear hcz16_0
     try clear hcz16_1
     try clear hcz16_2
     try clear hcz16_3
     try clear hcz16_4
     try clear hcz17_0
     try clear hcz17_1
     try clear hcz17_2
     try clear hcz17_3
     try clear hcz17_4
     try clear hcz22_0
     try clear hcz22_1
     try clear hcz22_2
     try clear hcz22_3
     try clear hcz22_4
     try clear hcz23_0
     try clear hcz23_1
     try clear hcz23_2
     try clear hcz23_3
     try clear hcz23_4
     try clear hcz24_0
     try clear hcz24_1
     try clear hcz24_2
     try clear hcz24_3
     try clear hcz24_4
     try clear hfz13_0
     try clear hfz13_1
     try clear hfz13_2
     try clear hfz13_3
     try clear hfz13_4
     try clear hfz14_0
     try clear hfz14_1
     try clear hfz14_2
     try clear hfz14_3
     try clear hfz14_4
     try clear hfz15_0
     try clear hfz15_1
     try clear hfz15_2
     try clear hfz15_3
     try clear hfz15_4
     try clear hfz16_0
     try clear hfz16_1
     try clear hfz16_2
     try clear hfz16_3
     try clear hfz16_4
     try clear hfz17_0
     try clear hfz17_1
     try clear hfz17_2
     try clear hfz17_3
     try clear hfz17_4
     try clear hfz22_0
     try clear hfz22_1
     try clear hfz22_2
     try clear hfz22_3
     try clear hfz22_4
     try clear hfz23_0
     try clear hfz23_1
     try clear hfz23_2
     try clear hfz23_3
     try clear hfz23_4
     try clear hfz24_0
     try clear hfz24_1
     try clear hfz24_2
     try clear hfz24_3
     try clear hfz24_4
     try clear p2
     try clear p6
     obtain ⟨kq,x50_18,rfl,HA,HJ18,BK250,HB⟩ := hcut
     cases kq with
     | zero => exact absurd HA.out (by simp [impl_isLock.j1])
     | succ kj18 =>
      have H := HA.out
      clear HA
      simp only [impl_isLock.j1] at H
      by_cases c25 : x50_18 = true
      ·subst c25
       have H1 : (some false) = some r := by rw [if_pos rfl] at H;exact H
       clear H
       have H := H1
       clear H1
       obtain rfl := Option.some.inj H
       go_wp2
       go_ret
       exact ⟨zt_,zl_ HB⟩
      ·replace c25 := Bool.eq_false_iff.mpr c25
       subst c25
       have H1 : (impl_isLock.l0 kj18 l0_4 (l0_4.length : Int) 0 a0_0 a0_1 a0_2 a0_3 l0_4) = some r := by rw [if_neg (show ¬ (false = true) by decide)] at H;exact H
       clear H
       have H := H1
       clear H1
       have H' := am_ H
       clear H
       obtain ⟨hcz26_0,hcz26_1,hcz26_2,hcz26_3,hcz26_4,hfz26_0,hfz26_1,hfz26_2,hfz26_3,hfz26_4⟩ := zc5 BK250
       go_wp2
       go_loopg [54] kj18 (fun kq v54 w' => ∃ (x54_3 : Int),v54 = .int .i64 x54_3 ∧ Aside0 (impl_isLock.l0 kq l0_4 (l0_4.length : Int) x54_3 a0_0 a0_1 a0_2 a0_3 l0_4 = some r) ∧ Aside0 (kq ≤ kj18) ∧ Aside0 (w'.heap[gb250]? = some (.cells #[.string a0_0,.int .i64 a0_1,.int .i64 a0_2,.int .i64 a0_3,(.slice A0_4 l0_4.length c0_4)] 78 (0,0))) ∧ Aside0 (Below w.heap.size w w'))
       case atStart => exact ⟨(0),(by first | rfl | (simp;done) | (simp [*];done)),H',⟨Nat.le_refl _⟩,⟨by (with_reducible repeat (first | apply k1_ | apply k2_ | apply k3_));exact BK250.out⟩,⟨zl_ HB⟩⟩
       case round =>
        clear H'
        try clear c1
        try clear c2
        try clear p2
        try clear c6
        try clear p6
        try clear c7
        try clear c8
        try clear c10
        try clear c12
        try clear c18
        try clear c20
        try clear c20b0
        try clear c20b1
        try clear c21
        try clear c21b0
        try clear c21b1
        try clear c25
        try clear hcz13_0
        try clear hcz13_1
        try clear hcz13_2
        try clear hcz13_3
        try clear hcz13_4
        try clear hcz14_0
        try clear hcz14_1
        try clear hcz14_2
        try clear hcz14_3
        try clear hcz14_4
        try clear hcz15_0
        try clear hcz15_1
        try clear hcz15_2
        try clear hcz15_3
        try clear hcz15_4
        try clear hcz16_0
        try clear hcz16_1
        try clear hcz16_2
        try clear hcz16_3
        try clear hcz16_4
        try clear hcz17_0
        try clear hcz17_1
        try clear hcz17_2
        try clear hcz17_3
        try clear hcz17_4
        try clear hcz22_0
        try clear hcz22_1
        try clear hcz22_2
        try clear hcz22_3
        try clear hcz22_4
        try clear hcz23_0
        try clear hcz23_1
        try clear hcz23_2
        try clear hcz23_3
        try clear hcz23_4
        try clear hcz24_0
        try clear hcz24_1
        try clear hcz24_2
        try clear hcz24_3
        try clear hcz24_4
        try clear hcz26_0
        try clear hcz26_1
        try clear hcz26_2
        try clear hcz26_3
        try clear hcz26_4
        try clear hfz13_0
        try clear hfz13_1
        try clear hfz13_2
        try clear hfz13_3
        try clear hfz13_4
        try clear hfz14_0
        try clear hfz14_1
        try clear hfz14_2
        try clear hfz14_3
        try clear hfz14_4
        try clear hfz15_0
        try clear hfz15_1
        try clear hfz15_2
        try clear hfz15_3
        try clear hfz15_4
        try clear hfz16_0
        try clear hfz16_1
        try clear hfz16_2
        try clear hfz16_3
        try clear hfz16_4
        try clear hfz17_0
        try clear hfz17_1
        try clear hfz17_2
        try clear hfz17_3
        try clear hfz17_4
        try clear hfz22_0
        try clear hfz22_1
        try clear hfz22_2
        try clear hfz22_3
        try clear hfz22_4
        try clear hfz23_0
        try clear hfz23_1
        try clear hfz23_2
        try clear hfz23_3
        try clear hfz23_4
        try clear hfz24_0
        try clear hfz24_1
        try clear hfz24_2
        try clear hfz24_3
        try clear hfz24_4
        try clear hfz26_0
        try clear hfz26_1
        try clear hfz26_2
        try clear hfz26_3
        try clear hfz26_4
        try clear p2
        try clear p6
        obtain ⟨x54_3,rfl,HA,HK3,BK250,HB⟩ := hrel
        cases gk with
        | zero => exact absurd HA.out (by simp [impl_isLock.l0])
        | succ k3 =>
         have H := HA.out
         clear HA
         simp only [impl_isLock.l0] at H
         by_cases c27 : x54_3 < (l0_4.length : Int)
         ·rw [if_pos c27] at H
          have c27b0 : decide (x54_3 < (l0_4.length : Int)) = true := decide_eq_true c27
          clear c27
          by_cases c28 : 0 ≤ x54_3
          ·rw [if_pos c28] at H
           have c28b0 : decide (0 ≤ x54_3) = true := decide_eq_true c28
           clear c28
           by_cases c29 : x54_3 < (l0_4.length : Int)
           ·rw [if_pos c29] at H
            have c29b0 : decide (x54_3 < (l0_4.length : Int)) = true := decide_eq_true c29
            clear c29
            replace H := Option.bind_eq_some_iff.mp H
            obtain ⟨t257,A300,H⟩ := H
            try dsimp only at H
            have A30 := am_ A300
            clear A300
            by_cases c31 : t257 = true
            ·subst c31
             have H1 : (if ((rd_T80 l0_4 x54_3).f0) = a0_2 then (some false) else ((impl_within.f ((rd_T80 l0_4 x54_3).f1) 1 1000).bind fun t258 => (if t258 = true then ((impl_Lock_waits.f a0_0 a0_1 a0_2 a0_3 l0_4 ((rd_T80 l0_4 x54_3).f0)).bind fun t259 => (if t259 < x54_3 then (some false) else (impl_isLock.l0 k3 l0_4 (l0_4.length : Int) (wrap64 (x54_3 + 1)) a0_0 a0_1 a0_2 a0_3 l0_4))) else (some false)))) = some r := by rw [if_pos rfl] at H;exact H
             clear H
             have H := H1
             clear H1
             by_cases c32 : ((rd_T80 l0_4 x54_3).f0) = a0_2
             ·rw [if_pos c32] at H
              have c32b0 : (((rd_T80 l0_4 x54_3).f0) == a0_2) = true := beq_iff_eq.mpr c32
              have c32b1 : (((rd_T80 l0_4 x54_3).f0) != a0_2) = false := bne_eq_false_iff_eq.mpr c32
              clear c32
              obtain rfl := Option.some.inj H
              have p255 : 0 ≤ (x54_3 : Int) := zo_
              have q255 : x54_3 < (l0_4.length : Int) := zo_
              obtain ⟨ad255,e255,hx255_0,hx255_1⟩ := at_T80 HR0_4.out x54_3 p255 q255
              cases e255
              replace hx255_0 := zx_ HB hx255_0
              replace hx255_1 := zx_ HB hx255_1
              replace p255 := eq_true p255
              replace q255 := eq_true q255
              go_wp2_with (first | ((with_reducible refine gate_dst (N := 6) rfl ?_);(try (refine gate_guard (by rfl) ?_;dsimp only));refine zbx (N := 6) (cs := #[.int .i64 0,.int .i64 0]) (t := 80) ?_;intro gb256 hg w33 hbox hb;have BK256 := am_ (hbox);have GW256 := zw_ HB hg;have GE256 := zw_ HB hg;replace HB := zs_ HB hb;have NB250_256 := zl hg BK250;have NB256_250 := zg hg BK250;replace BK250 := zb BK250 hb;clear hb hbox hg;have hnb34 := NB256_250.out;have hnc34 := NB250_256.out;obtain ⟨hcz35_0,hcz35_1,hfz35_0,hfz35_1⟩ := zc2 BK256) | ((with_reducible refine gate_callee (f := 63) rfl ?_);refine zgl (some 61) Try.func63 #[.int .i64 ((rd_T80 l0_4 x54_3).f0),.int .i64 0,.int .i64 255] ?_;(with_reducible refine (impl_within.calls ((rd_T80 l0_4 x54_3).f0) 0 255 true _ A30.out).mono ?_);rintro e w' ⟨rfl,⟨nd,rfl⟩⟩;refine ⟨_,rfl,?_⟩;obtain ⟨hcz36_0,hcz36_1,hcz36_2,hcz36_3,hcz36_4,hfz36_0,hfz36_1,hfz36_2,hfz36_3,hfz36_4⟩ := zc5 BK250))
              go_ret
              exact ⟨zt_,zl_ HB⟩
             ·rw [if_neg c32] at H
              have c32b0 : (((rd_T80 l0_4 x54_3).f0) == a0_2) = false := beq_eq_false_iff_ne.mpr c32
              have c32b1 : (((rd_T80 l0_4 x54_3).f0) != a0_2) = true := bne_iff_ne.mpr c32
              replace H := Option.bind_eq_some_iff.mp H
              obtain ⟨t258,A370,H⟩ := H
              try dsimp only at H
              have A37 := am_ A370
              clear A370
              by_cases c38 : t258 = true
              ·subst c38
               have H1 : ((impl_Lock_waits.f a0_0 a0_1 a0_2 a0_3 l0_4 ((rd_T80 l0_4 x54_3).f0)).bind fun t259 => (if t259 < x54_3 then (some false) else (impl_isLock.l0 k3 l0_4 (l0_4.length : Int) (wrap64 (x54_3 + 1)) a0_0 a0_1 a0_2 a0_3 l0_4))) = some r := by rw [if_pos rfl] at H;exact H
               clear H
               have H := H1
               clear H1
               replace H := Option.bind_eq_some_iff.mp H
               obtain ⟨t259,A390,H⟩ := H
               try dsimp only at H
               have A39 := am_ A390
               clear A390
               by_cases c40 : t259 < x54_3
               ·rw [if_pos c40] at H
                have c40b0 : decide (t259 < x54_3) = true := decide_eq_true c40
                clear c40
                obtain rfl := Option.some.inj H
                have p255 : 0 ≤ (x54_3 : Int) := zo_
                have q255 : x54_3 < (l0_4.length : Int) := zo_
                obtain ⟨ad255,e255,hx255_0,hx255_1⟩ := at_T80 HR0_4.out x54_3 p255 q255
                cases e255
                replace hx255_0 := zx_ HB hx255_0
                replace hx255_1 := zx_ HB hx255_1
                replace p255 := eq_true p255
                replace q255 := eq_true q255
                go_wp2_with (first | ((with_reducible refine gate_dst (N := 6) rfl ?_);(try (refine gate_guard (by rfl) ?_;dsimp only));refine zbx (N := 6) (cs := #[.int .i64 0,.int .i64 0]) (t := 80) ?_;intro gb256 hg w41 hbox hb;have BK256 := am_ (hbox);have GW256 := zw_ HB hg;have GE256 := zw_ HB hg;replace HB := zs_ HB hb;have NB250_256 := zl hg BK250;have NB256_250 := zg hg BK250;replace BK250 := zb BK250 hb;clear hb hbox hg;have hnb42 := NB256_250.out;have hnc42 := NB250_256.out;obtain ⟨hcz43_0,hcz43_1,hfz43_0,hfz43_1⟩ := zc2 BK256) | ((with_reducible refine gate_callee (f := 63) rfl ?_);refine zgl (some 61) Try.func63 #[.int .i64 ((rd_T80 l0_4 x54_3).f0),.int .i64 0,.int .i64 255] ?_;(with_reducible refine (impl_within.calls ((rd_T80 l0_4 x54_3).f0) 0 255 true _ A30.out).mono ?_);rintro e w' ⟨rfl,⟨nd,rfl⟩⟩;refine ⟨_,rfl,?_⟩;obtain ⟨hcz44_0,hcz44_1,hcz44_2,hcz44_3,hcz44_4,hfz44_0,hfz44_1,hfz44_2,hfz44_3,hfz44_4⟩ := zc5 BK250) | (go_at_call 63;(with_reducible refine (impl_within.calls ((rd_T80 l0_4 x54_3).f1) 1 1000 true _ A37.out).mono ?_);rintro e w' ⟨rfl,⟨nd,rfl⟩⟩) | (go_at_call 87;(with_reducible refine (impl_Lock_waits.calls a0_0 a0_1 a0_2 a0_3 _ _ l0_4 ((rd_T80 l0_4 x54_3).f0) t259 _ ?side1 ?side2 A39.out).mono ?_);(case side1 => exact Kd.C_below HR0_4.out (zl_ HB));(case side2 => exact HC0_4.out);rintro e w45 ⟨rfl,hb⟩;replace BK250 := am_ (blk_below (g := gb250) (o := .cells #[.string a0_0,.int .i64 a0_1,.int .i64 a0_2,.int .i64 a0_3,.slice (some ad255) l0_4.length c0_4] 78 (0,0)) (zq BK250) hb);replace BK256 := am_ (blk_below (g := gb256) (o := .cells #[.int .i64 ((rd_T80 l0_4 x54_3).f0),.int .i64 ((rd_T80 l0_4 x54_3).f1)] 80 (0,0)) (zq BK256) hb);replace HB := zs_ HB hb;(try clear hb);(try clear hb2);(try clear hk);(try clear hi)))
                go_ret
                exact ⟨zt_,zl_ HB⟩
               ·rw [if_neg c40] at H
                have c40b0 : decide (t259 < x54_3) = false := decide_eq_false c40
                clear c40
                have H' := am_ H
                clear H
                have p255 : 0 ≤ (x54_3 : Int) := zo_
                have q255 : x54_3 < (l0_4.length : Int) := zo_
                obtain ⟨ad255,e255,hx255_0,hx255_1⟩ := at_T80 HR0_4.out x54_3 p255 q255
                cases e255
                replace hx255_0 := zx_ HB hx255_0
                replace hx255_1 := zx_ HB hx255_1
                replace p255 := eq_true p255
                replace q255 := eq_true q255
                go_wp2_with (first | ((with_reducible refine gate_dst (N := 6) rfl ?_);(try (refine gate_guard (by rfl) ?_;dsimp only));refine zbx (N := 6) (cs := #[.int .i64 0,.int .i64 0]) (t := 80) ?_;intro gb256 hg w46 hbox hb;have BK256 := am_ (hbox);have GW256 := zw_ HB hg;have GE256 := zw_ HB hg;replace HB := zs_ HB hb;have NB250_256 := zl hg BK250;have NB256_250 := zg hg BK250;replace BK250 := zb BK250 hb;clear hb hbox hg;have hnb47 := NB256_250.out;have hnc47 := NB250_256.out;obtain ⟨hcz48_0,hcz48_1,hfz48_0,hfz48_1⟩ := zc2 BK256) | ((with_reducible refine gate_callee (f := 63) rfl ?_);refine zgl (some 61) Try.func63 #[.int .i64 ((rd_T80 l0_4 x54_3).f0),.int .i64 0,.int .i64 255] ?_;(with_reducible refine (impl_within.calls ((rd_T80 l0_4 x54_3).f0) 0 255 true _ A30.out).mono ?_);rintro e w' ⟨rfl,⟨nd,rfl⟩⟩;refine ⟨_,rfl,?_⟩;obtain ⟨hcz49_0,hcz49_1,hcz49_2,hcz49_3,hcz49_4,hfz49_0,hfz49_1,hfz49_2,hfz49_3,hfz49_4⟩ := zc5 BK250) | (go_at_call 63;(with_reducible refine (impl_within.calls ((rd_T80 l0_4 x54_3).f1) 1 1000 true _ A37.out).mono ?_);rintro e w' ⟨rfl,⟨nd,rfl⟩⟩) | (go_at_call 87;(with_reducible refine (impl_Lock_waits.calls a0_0 a0_1 a0_2 a0_3 _ _ l0_4 ((rd_T80 l0_4 x54_3).f0) t259 _ ?side1 ?side2 A39.out).mono ?_);(case side1 => exact Kd.C_below HR0_4.out (zl_ HB));(case side2 => exact HC0_4.out);rintro e w50 ⟨rfl,hb⟩;replace BK250 := am_ (blk_below (g := gb250) (o := .cells #[.string a0_0,.int .i64 a0_1,.int .i64 a0_2,.int .i64 a0_3,.slice (some ad255) l0_4.length c0_4] 78 (0,0)) (zq BK250) hb);replace HB := zs_ HB hb;(try clear hb);(try clear hb2);(try clear hk);(try clear hi)))
                go_roundg k3
                case measure => have := HJ2.out;have := HJ18.out;have := HK3.out;omega
                case rel => exact ⟨(wrap64 (x54_3 + 1)),(by first | rfl | (simp;done) | (simp [*];done)),H',⟨by have := HJ2.out;have := HJ18.out;have := HK3.out;omega⟩,⟨by (with_reducible repeat (first | apply k1_ | apply k2_ | apply k3_));exact BK250.out⟩,⟨zl_ HB⟩⟩
              ·replace c38 := Bool.eq_false_iff.mpr c38
               subst c38
               have H1 : (some false) = some r := by rw [if_neg (show ¬ (false = true) by decide)] at H;exact H
               clear H
               have H := H1
               clear H1
               obtain rfl := Option.some.inj H
               have p255 : 0 ≤ (x54_3 : Int) := zo_
               have q255 : x54_3 < (l0_4.length : Int) := zo_
               obtain ⟨ad255,e255,hx255_0,hx255_1⟩ := at_T80 HR0_4.out x54_3 p255 q255
               cases e255
               replace hx255_0 := zx_ HB hx255_0
               replace hx255_1 := zx_ HB hx255_1
               replace p255 := eq_true p255
               replace q255 := eq_true q255
               go_wp2_with (first | ((with_reducible refine gate_dst (N := 6) rfl ?_);(try (refine gate_guard (by rfl) ?_;dsimp only));refine zbx (N := 6) (cs := #[.int .i64 0,.int .i64 0]) (t := 80) ?_;intro gb256 hg w51 hbox hb;have BK256 := am_ (hbox);have GW256 := zw_ HB hg;have GE256 := zw_ HB hg;replace HB := zs_ HB hb;have NB250_256 := zl hg BK250;have NB256_250 := zg hg BK250;replace BK250 := zb BK250 hb;clear hb hbox hg;have hnb52 := NB256_250.out;have hnc52 := NB250_256.out;obtain ⟨hcz53_0,hcz53_1,hfz53_0,hfz53_1⟩ := zc2 BK256) | ((with_reducible refine gate_callee (f := 63) rfl ?_);refine zgl (some 61) Try.func63 #[.int .i64 ((rd_T80 l0_4 x54_3).f0),.int .i64 0,.int .i64 255] ?_;(with_reducible refine (impl_within.calls ((rd_T80 l0_4 x54_3).f0) 0 255 true _ A30.out).mono ?_);rintro e w' ⟨rfl,⟨nd,rfl⟩⟩;refine ⟨_,rfl,?_⟩;obtain ⟨hcz54_0,hcz54_1,hcz54_2,hcz54_3,hcz54_4,hfz54_0,hfz54_1,hfz54_2,hfz54_3,hfz54_4⟩ := zc5 BK250) | (go_at_call 63;(with_reducible refine (impl_within.calls ((rd_T80 l0_4 x54_3).f1) 1 1000 false _ A37.out).mono ?_);rintro e w' ⟨rfl,⟨nd,rfl⟩⟩))
               go_ret
               exact ⟨zt_,zl_ HB⟩
            ·replace c31 := Bool.eq_false_iff.mpr c31
             subst c31
             have H1 : (some false) = some r := by rw [if_neg (show ¬ (false = true) by decide)] at H;exact H
             clear H
             have H := H1
             clear H1
             obtain rfl := Option.some.inj H
             have p255 : 0 ≤ (x54_3 : Int) := zo_
             have q255 : x54_3 < (l0_4.length : Int) := zo_
             obtain ⟨ad255,e255,hx255_0,hx255_1⟩ := at_T80 HR0_4.out x54_3 p255 q255
             cases e255
             replace hx255_0 := zx_ HB hx255_0
             replace hx255_1 := zx_ HB hx255_1
             replace p255 := eq_true p255
             replace q255 := eq_true q255
             go_wp2_with (first | ((with_reducible refine gate_dst (N := 6) rfl ?_);(try (refine gate_guard (by rfl) ?_;dsimp only));refine zbx (N := 6) (cs := #[.int .i64 0,.int .i64 0]) (t := 80) ?_;intro gb256 hg w55 hbox hb;have BK256 := am_ (hbox);have GW256 := zw_ HB hg;have GE256 := zw_ HB hg;replace HB := zs_ HB hb;have NB250_256 := zl hg BK250;have NB256_250 := zg hg BK250;clear hb hbox hg;have hnb56 := NB256_250.out;have hnc56 := NB250_256.out;obtain ⟨hcz57_0,hcz57_1,hfz57_0,hfz57_1⟩ := zc2 BK256) | ((with_reducible refine gate_callee (f := 63) rfl ?_);refine zgl (some 61) Try.func63 #[.int .i64 ((rd_T80 l0_4 x54_3).f0),.int .i64 0,.int .i64 255] ?_;(with_reducible refine (impl_within.calls ((rd_T80 l0_4 x54_3).f0) 0 255 false _ A30.out).mono ?_);rintro e w' ⟨rfl,⟨nd,rfl⟩⟩;refine ⟨_,rfl,?_⟩))
             go_ret
             exact ⟨zt_,zl_ HB⟩
           ·rw [if_neg c29] at H
            exact absurd H (by simp)
          ·rw [if_neg c28] at H
           exact absurd H (by simp)
         ·rw [if_neg c27] at H
          have c27b0 : decide (x54_3 < (l0_4.length : Int)) = false := decide_eq_false c27
          clear c27
          obtain rfl := Option.some.inj H
          go_wp2
          go_ret
          exact ⟨zt_,zl_ HB⟩
end Go.Proofs.Ytioocldcdonlpaa.B
end
