/- A part of the proof that FnExactClientOK returns true at every input: plain functions, contracts and lemmas. No conditions. -/
import Derived.Test.YtlifdodphkimpaaDoorQClientOKb
import Derived.Lib.SlBy
import Derived.Lib.Walk
import Derived.StillTailTactics
import Derived.Maps.Views
set_option linter.unusedVariables false
set_option linter.unusedSimpArgs false
set_option linter.unusedSectionVars false
section
namespace Go.Proofs.YtlifdodphkimpaaDoor.B
open Go.RowKit Go.Proofs.YtlifdodphkimpaaDoorW.PrintWords Go.Proofs.YtlifdodphkimpaaDoorW.PrintLast Go.Proofs.YtlifdodphkimpaaDoorW.PrintMore
abbrev k1_ := @blk_drewN
abbrev k2_ := @blk_drew
abbrev k3_ := @blk_alloc
abbrev b1_ := @below_alloc
abbrev b2_ := @pw_below_drewN
abbrev b3_ := @below_drew1
abbrev r1_ := @Kd.R_alloc
abbrev r2_ := @Kd.R_drewN
abbrev r3_ := @Kd.R_drew
theorem d1_ {α : Type _} (l : List α) (i : Nat) : (l.drop i).length = l.length - i := List.length_drop
theorem d2_ {α : Type _} (l : List α) (i : Nat) : (l.take i).length = min i l.length := List.length_take
theorem o1_ {p : Prop} [Decidable p] (h : decide p = true) : p := of_decide_eq_true h
theorem e3_ (l : List UInt8) : (l == []) = l.isEmpty := mp_beq_nil l
theorem e4_ (l : List UInt8) : (l != []) = !l.isEmpty := mp_bne_nil l
theorem am_ {p : Prop} (h : p) : Aside0 p := ⟨h⟩
theorem p1_ {α : Type _} (l : List α) (i : Nat) (a : α) : l.toArray.setIfInBounds i a = (l.set i a).toArray := List.setIfInBounds_toArray ..
theorem p2_ {α : Type _} (x : α) (xs : List α) (a : α) : (x :: xs).set 0 a = a :: xs := List.set_cons_zero
theorem p3_ {α : Type _} (x : α) (xs : List α) (i : Nat) (a : α) : (x :: xs).set (i + 1) a = x :: xs.set i a := List.set_cons_succ
attribute [local go_sem] max2_int min2_int max_two min_two max_three min_three max_four min_four
def errW : Option Int → Value
  | none => .nilIface
  | some c => .iface 0 (.int .i64 c)
theorem errW_none : errW none = .nilIface := rfl
theorem errW_some (c : Int) : errW (some c) = .iface 0 (.int .i64 c) := rfl
theorem info3 : (Tryd.prog.info? 3).map (fun i => (i.zero, i.size, i.bytes)) = some (some (.int .i64 0), 1, 8) := by kernel_rfl
theorem info5 : (Tryd.prog.info? 5).map (fun i => (i.zero, i.size, i.bytes)) = some (some (.int .u8 0), 1, 1) := by kernel_rfl
theorem info63 : (Tryd.prog.info? 63).map (fun i => (i.zero, i.size, i.bytes)) = some (some (.agg #[(.int .i64 0), (.int .i64 0), (.int .i64 0), (.int .i64 0)]), 4, 32) := by kernel_rfl
theorem info73 : (Tryd.prog.info? 73).map (fun i => (i.zero, i.size, i.bytes)) = some (some (.agg #[(.int .i64 0), (.int .i64 0), (.int .i64 0), (.int .i64 0), (.int .i64 0), (.int .i64 0), (.int .i64 0), (.string ⟨#[]⟩)]), 8, 72) := by kernel_rfl
theorem info174 : (Tryd.prog.info? 174).map (fun i => (i.zero, i.size, i.bytes)) = some (some (.int .u32 0), 1, 4) := by kernel_rfl
def k115 : Kd S115 := Kd.iso (Kd.pair (Kd.int .i64) (Kd.pair (Kd.int .i64) (Kd.pair (Kd.int .i64) (Kd.int .i64)))) (fun x : S115 => (x.f0, x.f1, x.f2, x.f3))
theorem k115_open {w : World} {x : S115} {cs : List Value} (h : k115.K w x cs) : cs = [.int .i64 x.f0, .int .i64 x.f1, .int .i64 x.f2, .int .i64 x.f3] := by
  obtain ⟨_, _, rfl, rfl, ⟨_, _, rfl, rfl, ⟨_, _, rfl, rfl, rfl⟩⟩⟩ := h
  exact rfl
theorem at_T115 {w : World} {A : Option Addr} {n : Nat} {xs : List S115} (h : Kd.C k115 w A n xs) (i : Int) (h0 : 0 ≤ i) (h1 : i < n) : ∃ ad , A = some ad ∧ w.cell? (ad.add (i.toNat * 4)) = some (.int .i64 (rd_T115 xs i).f0) ∧ w.cell? ⟨(ad.add (i.toNat * 4)).block, (ad.add (i.toNat * 4)).off + 1, none⟩ = some (.int .i64 (rd_T115 xs i).f1) ∧ w.cell? ⟨(ad.add (i.toNat * 4)).block, (ad.add (i.toNat * 4)).off + 2, none⟩ = some (.int .i64 (rd_T115 xs i).f2) ∧ w.cell? ⟨(ad.add (i.toNat * 4)).block, (ad.add (i.toNat * 4)).off + 3, none⟩ = some (.int .i64 (rd_T115 xs i).f3) := by
  obtain ⟨ad, c, e, _, hK, hc0⟩ := Kd.C_get h z115 i h0 h1
  have hc : ∀ j u, c[j]? = some u → w.cell? (ad.add (i.toNat * 4 + j)) = some u := hc0
  obtain rfl := k115_open hK
  exact ⟨ad, e, hc 0 _ rfl, by rw [← add_field _ _ 1 (by omega)]; exact hc 1 _ rfl, by rw [← add_field _ _ 2 (by omega)]; exact hc 2 _ rfl, by rw [← add_field _ _ 3 (by omega)]; exact hc 3 _ rfl⟩
def k117 : Kd S117 := Kd.iso (Kd.pair (Kd.int .i64) (Kd.pair (Kd.int .i64) (Kd.pair (Kd.int .i64) (Kd.pair k115 Kd.string)))) (fun x : S117 => (x.f0, x.f1, x.f2, x.f3, x.f4))
theorem k117_open {w : World} {x : S117} {cs : List Value} (h : k117.K w x cs) : cs = [.int .i64 x.f0, .int .i64 x.f1, .int .i64 x.f2, .int .i64 x.f3.f0, .int .i64 x.f3.f1, .int .i64 x.f3.f2, .int .i64 x.f3.f3, .string x.f4] := by
  obtain ⟨_, _, rfl, rfl, ⟨_, _, rfl, rfl, ⟨_, _, rfl, rfl, ⟨_, _, rfl, s3, rfl⟩⟩⟩⟩ := h
  obtain rfl := k115_open s3
  exact rfl
theorem at_T117 {w : World} {A : Option Addr} {n : Nat} {xs : List S117} (h : Kd.C k117 w A n xs) (i : Int) (h0 : 0 ≤ i) (h1 : i < n) : ∃ ad , A = some ad ∧ w.cell? (ad.add (i.toNat * 8)) = some (.int .i64 (rd_T117 xs i).f0) ∧ w.cell? ⟨(ad.add (i.toNat * 8)).block, (ad.add (i.toNat * 8)).off + 1, none⟩ = some (.int .i64 (rd_T117 xs i).f1) ∧ w.cell? ⟨(ad.add (i.toNat * 8)).block, (ad.add (i.toNat * 8)).off + 2, none⟩ = some (.int .i64 (rd_T117 xs i).f2) ∧ w.cell? ⟨(ad.add (i.toNat * 8)).block, (ad.add (i.toNat * 8)).off + 3, none⟩ = some (.int .i64 (rd_T117 xs i).f3.f0) ∧ w.cell? ⟨(ad.add (i.toNat * 8)).block, (ad.add (i.toNat * 8)).off + 4, none⟩ = some (.int .i64 (rd_T117 xs i).f3.f1) ∧ w.cell? ⟨(ad.add (i.toNat * 8)).block, (ad.add (i.toNat * 8)).off + 5, none⟩ = some (.int .i64 (rd_T117 xs i).f3.f2) ∧ w.cell? ⟨(ad.add (i.toNat * 8)).block, (ad.add (i.toNat * 8)).off + 6, none⟩ = some (.int .i64 (rd_T117 xs i).f3.f3) ∧ w.cell? ⟨(ad.add (i.toNat * 8)).block, (ad.add (i.toNat * 8)).off + 7, none⟩ = some (.string (rd_T117 xs i).f4) := by
  obtain ⟨ad, c, e, _, hK, hc0⟩ := Kd.C_get h z117 i h0 h1
  have hc : ∀ j u, c[j]? = some u → w.cell? (ad.add (i.toNat * 8 + j)) = some u := hc0
  obtain rfl := k117_open hK
  exact ⟨ad, e, hc 0 _ rfl, by rw [← add_field _ _ 1 (by omega)]; exact hc 1 _ rfl, by rw [← add_field _ _ 2 (by omega)]; exact hc 2 _ rfl, by rw [← add_field _ _ 3 (by omega)]; exact hc 3 _ rfl, by rw [← add_field _ _ 4 (by omega)]; exact hc 4 _ rfl, by rw [← add_field _ _ 5 (by omega)]; exact hc 5 _ rfl, by rw [← add_field _ _ 6 (by omega)]; exact hc 6 _ rfl, by rw [← add_field _ _ 7 (by omega)]; exact hc 7 _ rfl⟩
def k63 : Kd S63 := Kd.iso (Kd.pair (Kd.int .i64) (Kd.pair (Kd.int .i64) (Kd.pair (Kd.int .i64) (Kd.int .i64)))) (fun x : S63 => (x.f0, x.f1, x.f2, x.f3))
theorem k63_open {w : World} {x : S63} {cs : List Value} (h : k63.K w x cs) : cs = [.int .i64 x.f0, .int .i64 x.f1, .int .i64 x.f2, .int .i64 x.f3] := by
  obtain ⟨_, _, rfl, rfl, ⟨_, _, rfl, rfl, ⟨_, _, rfl, rfl, rfl⟩⟩⟩ := h
  exact rfl
theorem k63_openM {w : World} {base : Nat} {ok : Nat → Prop} {x : S63} {cs : List Value} (h : k63.M w base ok x cs) : cs = [.int .i64 x.f0, .int .i64 x.f1, .int .i64 x.f2, .int .i64 x.f3] := by
  obtain ⟨_, _, rfl, rfl, ⟨_, _, rfl, rfl, ⟨_, _, rfl, rfl, rfl⟩⟩⟩ := h
  exact rfl
theorem k63_mkM (w : World) (base : Nat) (ok : Nat → Prop) (x : S63)  : k63.M w base ok x [.int .i64 x.f0, .int .i64 x.f1, .int .i64 x.f2, .int .i64 x.f3] := ⟨[.int .i64 x.f0], [.int .i64 x.f1, .int .i64 x.f2, .int .i64 x.f3], rfl, rfl, ⟨[.int .i64 x.f1], [.int .i64 x.f2, .int .i64 x.f3], rfl, rfl, ⟨[.int .i64 x.f2], [.int .i64 x.f3], rfl, rfl, rfl⟩⟩⟩
theorem at_T63 {w : World} {A : Option Addr} {n : Nat} {xs : List S63} (h : Kd.C k63 w A n xs) (i : Int) (h0 : 0 ≤ i) (h1 : i < n) : ∃ ad , A = some ad ∧ w.cell? (ad.add (i.toNat * 4)) = some (.int .i64 (rd_T63 xs i).f0) ∧ w.cell? ⟨(ad.add (i.toNat * 4)).block, (ad.add (i.toNat * 4)).off + 1, none⟩ = some (.int .i64 (rd_T63 xs i).f1) ∧ w.cell? ⟨(ad.add (i.toNat * 4)).block, (ad.add (i.toNat * 4)).off + 2, none⟩ = some (.int .i64 (rd_T63 xs i).f2) ∧ w.cell? ⟨(ad.add (i.toNat * 4)).block, (ad.add (i.toNat * 4)).off + 3, none⟩ = some (.int .i64 (rd_T63 xs i).f3) := by
  obtain ⟨ad, c, e, _, hK, hc0⟩ := Kd.C_get h z63 i h0 h1
  have hc : ∀ j u, c[j]? = some u → w.cell? (ad.add (i.toNat * 4 + j)) = some u := hc0
  obtain rfl := k63_open hK
  exact ⟨ad, e, hc 0 _ rfl, by rw [← add_field _ _ 1 (by omega)]; exact hc 1 _ rfl, by rw [← add_field _ _ 2 (by omega)]; exact hc 2 _ rfl, by rw [← add_field _ _ 3 (by omega)]; exact hc 3 _ rfl⟩
def k73 : Kd S73 := Kd.iso (Kd.pair (Kd.int .i64) (Kd.pair (Kd.int .i64) (Kd.pair (Kd.int .i64) (Kd.pair k63 Kd.string)))) (fun x : S73 => (x.f0, x.f1, x.f2, x.f3, x.f4))
theorem k73_open {w : World} {x : S73} {cs : List Value} (h : k73.K w x cs) : cs = [.int .i64 x.f0, .int .i64 x.f1, .int .i64 x.f2, .int .i64 x.f3.f0, .int .i64 x.f3.f1, .int .i64 x.f3.f2, .int .i64 x.f3.f3, .string x.f4] := by
  obtain ⟨_, _, rfl, rfl, ⟨_, _, rfl, rfl, ⟨_, _, rfl, rfl, ⟨_, _, rfl, s3, rfl⟩⟩⟩⟩ := h
  obtain rfl := k63_open s3
  exact rfl
theorem k73_openM {w : World} {base : Nat} {ok : Nat → Prop} {x : S73} {cs : List Value} (h : k73.M w base ok x cs) : cs = [.int .i64 x.f0, .int .i64 x.f1, .int .i64 x.f2, .int .i64 x.f3.f0, .int .i64 x.f3.f1, .int .i64 x.f3.f2, .int .i64 x.f3.f3, .string x.f4] := by
  obtain ⟨_, _, rfl, rfl, ⟨_, _, rfl, rfl, ⟨_, _, rfl, rfl, ⟨_, _, rfl, s3, rfl⟩⟩⟩⟩ := h
  obtain rfl := k63_openM s3
  exact rfl
theorem k73_mkM (w : World) (base : Nat) (ok : Nat → Prop) (x : S73)  : k73.M w base ok x [.int .i64 x.f0, .int .i64 x.f1, .int .i64 x.f2, .int .i64 x.f3.f0, .int .i64 x.f3.f1, .int .i64 x.f3.f2, .int .i64 x.f3.f3, .string x.f4] := ⟨[.int .i64 x.f0], [.int .i64 x.f1, .int .i64 x.f2, .int .i64 x.f3.f0, .int .i64 x.f3.f1, .int .i64 x.f3.f2, .int .i64 x.f3.f3, .string x.f4], rfl, rfl, ⟨[.int .i64 x.f1], [.int .i64 x.f2, .int .i64 x.f3.f0, .int .i64 x.f3.f1, .int .i64 x.f3.f2, .int .i64 x.f3.f3, .string x.f4], rfl, rfl, ⟨[.int .i64 x.f2], [.int .i64 x.f3.f0, .int .i64 x.f3.f1, .int .i64 x.f3.f2, .int .i64 x.f3.f3, .string x.f4], rfl, rfl, ⟨[.int .i64 x.f3.f0, .int .i64 x.f3.f1, .int .i64 x.f3.f2, .int .i64 x.f3.f3], [.string x.f4], rfl, (k63_mkM w base ok x.f3 ), rfl⟩⟩⟩⟩
theorem at_T73 {w : World} {A : Option Addr} {n : Nat} {xs : List S73} (h : Kd.C k73 w A n xs) (i : Int) (h0 : 0 ≤ i) (h1 : i < n) : ∃ ad , A = some ad ∧ w.cell? (ad.add (i.toNat * 8)) = some (.int .i64 (rd_T73 xs i).f0) ∧ w.cell? ⟨(ad.add (i.toNat * 8)).block, (ad.add (i.toNat * 8)).off + 1, none⟩ = some (.int .i64 (rd_T73 xs i).f1) ∧ w.cell? ⟨(ad.add (i.toNat * 8)).block, (ad.add (i.toNat * 8)).off + 2, none⟩ = some (.int .i64 (rd_T73 xs i).f2) ∧ w.cell? ⟨(ad.add (i.toNat * 8)).block, (ad.add (i.toNat * 8)).off + 3, none⟩ = some (.int .i64 (rd_T73 xs i).f3.f0) ∧ w.cell? ⟨(ad.add (i.toNat * 8)).block, (ad.add (i.toNat * 8)).off + 4, none⟩ = some (.int .i64 (rd_T73 xs i).f3.f1) ∧ w.cell? ⟨(ad.add (i.toNat * 8)).block, (ad.add (i.toNat * 8)).off + 5, none⟩ = some (.int .i64 (rd_T73 xs i).f3.f2) ∧ w.cell? ⟨(ad.add (i.toNat * 8)).block, (ad.add (i.toNat * 8)).off + 6, none⟩ = some (.int .i64 (rd_T73 xs i).f3.f3) ∧ w.cell? ⟨(ad.add (i.toNat * 8)).block, (ad.add (i.toNat * 8)).off + 7, none⟩ = some (.string (rd_T73 xs i).f4) := by
  obtain ⟨ad, c, e, _, hK, hc0⟩ := Kd.C_get h z73 i h0 h1
  have hc : ∀ j u, c[j]? = some u → w.cell? (ad.add (i.toNat * 8 + j)) = some u := hc0
  obtain rfl := k73_open hK
  exact ⟨ad, e, hc 0 _ rfl, by rw [← add_field _ _ 1 (by omega)]; exact hc 1 _ rfl, by rw [← add_field _ _ 2 (by omega)]; exact hc 2 _ rfl, by rw [← add_field _ _ 3 (by omega)]; exact hc 3 _ rfl, by rw [← add_field _ _ 4 (by omega)]; exact hc 4 _ rfl, by rw [← add_field _ _ 5 (by omega)]; exact hc 5 _ rfl, by rw [← add_field _ _ 6 (by omega)]; exact hc 6 _ rfl, by rw [← add_field _ _ 7 (by omega)]; exact hc 7 _ rfl⟩
def k79 : Kd S79 := Kd.iso (Kd.pair (Kd.int .i64) (Kd.pair (Kd.int .i64) (Kd.pair (Kd.int .i64) (Kd.pair (Kd.int .i64) Kd.string)))) (fun x : S79 => (x.f0, x.f1, x.f2, x.f3, x.f4))
theorem k79_open {w : World} {x : S79} {cs : List Value} (h : k79.K w x cs) : cs = [.int .i64 x.f0, .int .i64 x.f1, .int .i64 x.f2, .int .i64 x.f3, .string x.f4] := by
  obtain ⟨_, _, rfl, rfl, ⟨_, _, rfl, rfl, ⟨_, _, rfl, rfl, ⟨_, _, rfl, rfl, rfl⟩⟩⟩⟩ := h
  exact rfl
def k82 : Kd S82 := Kd.iso (Kd.pair (Kd.int .i64) (Kd.pair (Kd.int .i64) (Kd.pair Kd.bool (Kd.pair k79 (Kd.pair (Kd.slice 117 k117) (Kd.slice 115 k115)))))) (fun x : S82 => (x.f0, x.f1, x.f2, x.f3, x.f4, x.f5))
theorem k82_open {w : World} {x : S82} {cs : List Value} (h : k82.K w x cs) : ∃ A8 c8 A9 c9, cs = [.int .i64 x.f0, .int .i64 x.f1, .bool x.f2, .int .i64 x.f3.f0, .int .i64 x.f3.f1, .int .i64 x.f3.f2, .int .i64 x.f3.f3, .string x.f3.f4, .slice A8 x.f4.length c8, .slice A9 x.f5.length c9] ∧ x.f4.length ≤ c8 ∧ k117.C w A8 x.f4.length x.f4 ∧ x.f5.length ≤ c9 ∧ k115.C w A9 x.f5.length x.f5 := by
  obtain ⟨_, _, rfl, rfl, ⟨_, _, rfl, rfl, ⟨_, _, rfl, rfl, ⟨_, _, rfl, s3, ⟨_, _, rfl, ⟨A8, c8, rfl, l8, g8⟩, ⟨A9, c9, rfl, l9, g9⟩⟩⟩⟩⟩⟩ := h
  obtain rfl := k79_open s3
  exact ⟨A8, c8, A9, c9, rfl, l8, g8, l9, g9⟩
/-- A state of type 155 at block g of W; what its slices lead to came in by w0. -/
def IsS155 (w0 W : World) (g : Nat) (f0 : List Int) (f1 : Int) (f2 : Int) : Prop := ∃ A0 c0, W.heap[g]? = some (.cells #[.slice A0 f0.length c0, .int .i64 f1, .int .i64 f2] 155 (0, 0)) ∧ w0.heap.size ≤ g ∧ Kd.C (Kd.int .u8) w0 A0 f0.length f0
theorem IsS155.grown {w0 W : World} {g : Nat} {f0 : List Int} {f1 : Int} {f2 : Int} {W1 : World} {row : Option Nat} (h : IsS155 w0 W g f0 f1 f2) (hw : W.grownBy W1 row) (hne : some g ≠ row) : IsS155 w0 W1 g f0 f1 f2 := by
  obtain ⟨A0, c0, hb, hg, hr0⟩ := h
  exact ⟨A0, c0, blk_grown hb hw hne, hg, hr0⟩
theorem IsS155.kept {w0 W : World} {g : Nat} {f0 : List Int} {f1 : Int} {f2 : Int} {W1 : World} {S : Nat → Prop} (h : IsS155 w0 W g f0 f1 f2) (hk : Kept W W1 S) (hne : ¬ S g) : IsS155 w0 W1 g f0 f1 f2 := by
  obtain ⟨A0, c0, hb, hg, hr0⟩ := h
  exact ⟨A0, c0, blk_kept hb hk hne, hg, hr0⟩
theorem IsS155.below {w0 W : World} {g : Nat} {f0 : List Int} {f1 : Int} {f2 : Int} {W1 : World} (h : IsS155 w0 W g f0 f1 f2) (hw : Below W.heap.size W W1) : IsS155 w0 W1 g f0 f1 f2 := h.grown (grown_of_below hw none) (by simp)
theorem IsS155.alloc {w0 W : World} {g : Nat} {f0 : List Int} {f1 : Int} {f2 : Int} (h : IsS155 w0 W g f0 f1 f2) (o : Obj) : IsS155 w0 (W.alloc o) g f0 f1 f2 := h.below (below_alloc (Below.refl _ _) o)
theorem IsS155.drewN {w0 W : World} {g : Nat} {f0 : List Int} {f1 : Int} {f2 : Int} (h : IsS155 w0 W g f0 f1 f2) (m : Nat) : IsS155 w0 (W.drewN m) g f0 f1 f2 := h
theorem IsS155.drew {w0 W : World} {g : Nat} {f0 : List Int} {f1 : Int} {f2 : Int} (h : IsS155 w0 W g f0 f1 f2) : IsS155 w0 W.drew g f0 f1 f2 := h
theorem IsS155.at_ {w0 W : World} {g : Nat} {f0 : List Int} {f1 : Int} {f2 : Int} {w' : World} {m : Nat} (hq : W.drewN m = w') (h : IsS155 w0 W g f0 f1 f2) : IsS155 w0 w' g f0 f1 f2 := by subst hq; exact IsS155.drewN h m
theorem IsS155.apart {w0 W : World} {g : Nat} {f0 : List Int} {f1 : Int} {f2 : Int} {α : Type} {d : Kd α} {e : Nat} {base : Nat} {ok : Nat → Prop} {v : Value} {xs : List α} (h : IsS155 w0 W g f0 f1 f2) (ho : d.R e W base ok v xs) (ht : ∀ q, q ∈ e :: d.E → q ≠ 155) : d.R e W base (fun k => ok k ∧ k ≠ g) v xs := by
  obtain ⟨A0, c0, hb, hg, hr0⟩ := h
  exact Kd.R_types ho hb ht
theorem IsS155.own_ne {w0 W : World} {g : Nat} {f0 : List Int} {f1 : Int} {f2 : Int} {α : Type} {d : Kd α} {e : Nat} {base : Nat} {ok : Nat → Prop} {v : Value} {xs : List α} (h : IsS155 w0 W g f0 f1 f2) (ho : d.R e W base ok v xs) (ht : e ≠ 155) : some g ≠ v.ownBlock := by
  obtain ⟨A0, c0, hb, hg, hr0⟩ := h
  exact Kd.R_ne ho hb ht
theorem IsS155.lt {w0 W : World} {g : Nat} {f0 : List Int} {f1 : Int} {f2 : Int} (h : IsS155 w0 W g f0 f1 f2) : g < W.heap.size := by
  obtain ⟨A0, c0, hb, hg, hr0⟩ := h
  exact blk_lt hb
theorem IsS155.ge {w0 W : World} {g : Nat} {f0 : List Int} {f1 : Int} {f2 : Int} (h : IsS155 w0 W g f0 f1 f2) : w0.heap.size ≤ g := by
  obtain ⟨A0, c0, hb, hg, hr0⟩ := h
  exact hg
theorem IsS155.far {w0 W : World} {g : Nat} {f0 : List Int} {f1 : Int} {f2 : Int} {p : Addr} (h : IsS155 w0 W g f0 f1 f2) (hne : g ≠ p.block) (u : Value) : IsS155 w0 (W.setCell p u) g f0 f1 f2 := by
  obtain ⟨A0, c0, hb, hg, hr0⟩ := h
  exact ⟨A0, c0, blk_far hb hne u, hg, hr0⟩
theorem IsS155.new (w0 W : World) (A0 : Option Addr) (c0 : Nat) (f0 : List Int) (f1 : Int) (f2 : Int) (hB : Below w0.heap.size w0 W) (hr0 : Kd.C (Kd.int .u8) w0 A0 f0.length f0) : IsS155 w0 (W.alloc (.cells #[.slice A0 f0.length c0, .int .i64 f1, .int .i64 f2] 155)) W.heap.size f0 f1 f2 := ⟨A0, c0, by simpa using heap_alloc_new W _, hB.size, hr0⟩
/-- A state of type 199 at block g of W; what its slices lead to came in by w0. -/
def IsS199 (w0 W : World) (g : Nat) (f0 : ByteArray) (f1 : Bool) : Prop := W.heap[g]? = some (.cells #[.string f0, .bool f1] 199 (0, 0)) ∧ w0.heap.size ≤ g
theorem IsS199.grown {w0 W : World} {g : Nat} {f0 : ByteArray} {f1 : Bool} {W1 : World} {row : Option Nat} (h : IsS199 w0 W g f0 f1) (hw : W.grownBy W1 row) (hne : some g ≠ row) : IsS199 w0 W1 g f0 f1 := by
  obtain ⟨hb, hg⟩ := h
  exact ⟨blk_grown hb hw hne, hg⟩
theorem IsS199.kept {w0 W : World} {g : Nat} {f0 : ByteArray} {f1 : Bool} {W1 : World} {S : Nat → Prop} (h : IsS199 w0 W g f0 f1) (hk : Kept W W1 S) (hne : ¬ S g) : IsS199 w0 W1 g f0 f1 := by
  obtain ⟨hb, hg⟩ := h
  exact ⟨blk_kept hb hk hne, hg⟩
theorem IsS199.below {w0 W : World} {g : Nat} {f0 : ByteArray} {f1 : Bool} {W1 : World} (h : IsS199 w0 W g f0 f1) (hw : Below W.heap.size W W1) : IsS199 w0 W1 g f0 f1 := h.grown (grown_of_below hw none) (by simp)
theorem IsS199.alloc {w0 W : World} {g : Nat} {f0 : ByteArray} {f1 : Bool} (h : IsS199 w0 W g f0 f1) (o : Obj) : IsS199 w0 (W.alloc o) g f0 f1 := h.below (below_alloc (Below.refl _ _) o)
theorem IsS199.drewN {w0 W : World} {g : Nat} {f0 : ByteArray} {f1 : Bool} (h : IsS199 w0 W g f0 f1) (m : Nat) : IsS199 w0 (W.drewN m) g f0 f1 := h
theorem IsS199.drew {w0 W : World} {g : Nat} {f0 : ByteArray} {f1 : Bool} (h : IsS199 w0 W g f0 f1) : IsS199 w0 W.drew g f0 f1 := h
theorem IsS199.at_ {w0 W : World} {g : Nat} {f0 : ByteArray} {f1 : Bool} {w' : World} {m : Nat} (hq : W.drewN m = w') (h : IsS199 w0 W g f0 f1) : IsS199 w0 w' g f0 f1 := by subst hq; exact IsS199.drewN h m
theorem IsS199.apart {w0 W : World} {g : Nat} {f0 : ByteArray} {f1 : Bool} {α : Type} {d : Kd α} {e : Nat} {base : Nat} {ok : Nat → Prop} {v : Value} {xs : List α} (h : IsS199 w0 W g f0 f1) (ho : d.R e W base ok v xs) (ht : ∀ q, q ∈ e :: d.E → q ≠ 199) : d.R e W base (fun k => ok k ∧ k ≠ g) v xs := by
  obtain ⟨hb, hg⟩ := h
  exact Kd.R_types ho hb ht
theorem IsS199.own_ne {w0 W : World} {g : Nat} {f0 : ByteArray} {f1 : Bool} {α : Type} {d : Kd α} {e : Nat} {base : Nat} {ok : Nat → Prop} {v : Value} {xs : List α} (h : IsS199 w0 W g f0 f1) (ho : d.R e W base ok v xs) (ht : e ≠ 199) : some g ≠ v.ownBlock := by
  obtain ⟨hb, hg⟩ := h
  exact Kd.R_ne ho hb ht
theorem IsS199.lt {w0 W : World} {g : Nat} {f0 : ByteArray} {f1 : Bool} (h : IsS199 w0 W g f0 f1) : g < W.heap.size := by
  obtain ⟨hb, hg⟩ := h
  exact blk_lt hb
theorem IsS199.ge {w0 W : World} {g : Nat} {f0 : ByteArray} {f1 : Bool} (h : IsS199 w0 W g f0 f1) : w0.heap.size ≤ g := by
  obtain ⟨hb, hg⟩ := h
  exact hg
theorem IsS199.far {w0 W : World} {g : Nat} {f0 : ByteArray} {f1 : Bool} {p : Addr} (h : IsS199 w0 W g f0 f1) (hne : g ≠ p.block) (u : Value) : IsS199 w0 (W.setCell p u) g f0 f1 := by
  obtain ⟨hb, hg⟩ := h
  exact ⟨blk_far hb hne u, hg⟩
theorem IsS199.new (w0 W : World) (f0 : ByteArray) (f1 : Bool) (hB : Below w0.heap.size w0 W) : IsS199 w0 (W.alloc (.cells #[.string f0, .bool f1] 199)) W.heap.size f0 f1 := ⟨by simpa using heap_alloc_new W _, hB.size⟩
theorem zl_ {w W0 W : World} (b : Aside0 (Below w.heap.size w W0)) (h : Below w.heap.size w W := by repeat (first | (with_reducible first | exact HB.out | apply below_alloc | apply pw_below_drewN | apply below_drew1 | refine below_set ?_ (Aside0.out (by with_reducible assumption)) | refine below_set ?_ (IsS155.ge (Aside0.out (by with_reducible assumption))) | refine below_set ?_ (IsS199.ge (Aside0.out (by with_reducible assumption)))) | exact HB.out)) : Below w.heap.size w W := h
theorem zs_ {w W0 W W1 : World} (b : Aside0 (Below w.heap.size w W0)) (hb : Below W.heap.size W W1) (h : Below w.heap.size w W := by repeat (first | (with_reducible first | exact HB.out | apply below_alloc | apply pw_below_drewN | apply below_drew1 | refine below_set ?_ (Aside0.out (by with_reducible assumption)) | refine below_set ?_ (IsS155.ge (Aside0.out (by with_reducible assumption))) | refine below_set ?_ (IsS199.ge (Aside0.out (by with_reducible assumption)))) | exact HB.out)) : Aside0 (Below w.heap.size w W1) := ⟨below_step h hb⟩
theorem zw_ {w W0 W : World} {g : Nat} (b : Aside0 (Below w.heap.size w W0)) (hg : g = W.heap.size) (h : Below w.heap.size w W := by repeat (first | (with_reducible first | exact HB.out | apply below_alloc | apply pw_below_drewN | apply below_drew1 | refine below_set ?_ (Aside0.out (by with_reducible assumption)) | refine below_set ?_ (IsS155.ge (Aside0.out (by with_reducible assumption))) | refine below_set ?_ (IsS199.ge (Aside0.out (by with_reducible assumption)))) | exact HB.out)) : Aside0 (w.heap.size ≤ g) := ⟨by rw [hg]; exact below_size h⟩
theorem zt_ {p : Prop} (h : p := by first | rfl | (simp [errW_none, errW_some] <;> rfl) | (simp [*, errW_none, errW_some] <;> rfl) | (simp [mp_beq_nil, mp_bne_nil]; done) | (simp [*, mp_beq_nil, mp_bne_nil]; done)) : p := h
theorem zc4 {w : World} {g : Nat} {t : TypeId} {a0 a1 a2 a3 : Value} (h : Aside0 (w.heap[g]? = some (.cells #[a0, a1, a2, a3] t (0, 0)))) : w.cell? ⟨g, 0, none⟩ = some a0 ∧ w.cell? ⟨g, 1, none⟩ = some a1 ∧ w.cell? ⟨g, 2, none⟩ = some a2 ∧ w.cell? ⟨g, 3, none⟩ = some a3 ∧ w.frozen? ⟨g, 0, none⟩ = false ∧ w.frozen? ⟨g, 1, none⟩ = false ∧ w.frozen? ⟨g, 2, none⟩ = false ∧ w.frozen? ⟨g, 3, none⟩ = false := ⟨(blk_cell h.out 0).trans rfl, (blk_cell h.out 1).trans rfl, (blk_cell h.out 2).trans rfl, (blk_cell h.out 3).trans rfl, blk_frozen h.out 0, blk_frozen h.out 1, blk_frozen h.out 2, blk_frozen h.out 3⟩
theorem zc5 {w : World} {g : Nat} {t : TypeId} {a0 a1 a2 a3 a4 : Value} (h : Aside0 (w.heap[g]? = some (.cells #[a0, a1, a2, a3, a4] t (0, 0)))) : w.cell? ⟨g, 0, none⟩ = some a0 ∧ w.cell? ⟨g, 1, none⟩ = some a1 ∧ w.cell? ⟨g, 2, none⟩ = some a2 ∧ w.cell? ⟨g, 3, none⟩ = some a3 ∧ w.cell? ⟨g, 4, none⟩ = some a4 ∧ w.frozen? ⟨g, 0, none⟩ = false ∧ w.frozen? ⟨g, 1, none⟩ = false ∧ w.frozen? ⟨g, 2, none⟩ = false ∧ w.frozen? ⟨g, 3, none⟩ = false ∧ w.frozen? ⟨g, 4, none⟩ = false := ⟨(blk_cell h.out 0).trans rfl, (blk_cell h.out 1).trans rfl, (blk_cell h.out 2).trans rfl, (blk_cell h.out 3).trans rfl, (blk_cell h.out 4).trans rfl, blk_frozen h.out 0, blk_frozen h.out 1, blk_frozen h.out 2, blk_frozen h.out 3, blk_frozen h.out 4⟩
theorem zc8 {w : World} {g : Nat} {t : TypeId} {a0 a1 a2 a3 a4 a5 a6 a7 : Value} (h : Aside0 (w.heap[g]? = some (.cells #[a0, a1, a2, a3, a4, a5, a6, a7] t (0, 0)))) : w.cell? ⟨g, 0, none⟩ = some a0 ∧ w.cell? ⟨g, 1, none⟩ = some a1 ∧ w.cell? ⟨g, 2, none⟩ = some a2 ∧ w.cell? ⟨g, 3, none⟩ = some a3 ∧ w.cell? ⟨g, 4, none⟩ = some a4 ∧ w.cell? ⟨g, 5, none⟩ = some a5 ∧ w.cell? ⟨g, 6, none⟩ = some a6 ∧ w.cell? ⟨g, 7, none⟩ = some a7 ∧ w.frozen? ⟨g, 0, none⟩ = false ∧ w.frozen? ⟨g, 1, none⟩ = false ∧ w.frozen? ⟨g, 2, none⟩ = false ∧ w.frozen? ⟨g, 3, none⟩ = false ∧ w.frozen? ⟨g, 4, none⟩ = false ∧ w.frozen? ⟨g, 5, none⟩ = false ∧ w.frozen? ⟨g, 6, none⟩ = false ∧ w.frozen? ⟨g, 7, none⟩ = false := ⟨(blk_cell h.out 0).trans rfl, (blk_cell h.out 1).trans rfl, (blk_cell h.out 2).trans rfl, (blk_cell h.out 3).trans rfl, (blk_cell h.out 4).trans rfl, (blk_cell h.out 5).trans rfl, (blk_cell h.out 6).trans rfl, (blk_cell h.out 7).trans rfl, blk_frozen h.out 0, blk_frozen h.out 1, blk_frozen h.out 2, blk_frozen h.out 3, blk_frozen h.out 4, blk_frozen h.out 5, blk_frozen h.out 6, blk_frozen h.out 7⟩
theorem zc10 {w : World} {g : Nat} {t : TypeId} {a0 a1 a2 a3 a4 a5 a6 a7 a8 a9 : Value} (h : Aside0 (w.heap[g]? = some (.cells #[a0, a1, a2, a3, a4, a5, a6, a7, a8, a9] t (0, 0)))) : w.cell? ⟨g, 0, none⟩ = some a0 ∧ w.cell? ⟨g, 1, none⟩ = some a1 ∧ w.cell? ⟨g, 2, none⟩ = some a2 ∧ w.cell? ⟨g, 3, none⟩ = some a3 ∧ w.cell? ⟨g, 4, none⟩ = some a4 ∧ w.cell? ⟨g, 5, none⟩ = some a5 ∧ w.cell? ⟨g, 6, none⟩ = some a6 ∧ w.cell? ⟨g, 7, none⟩ = some a7 ∧ w.cell? ⟨g, 8, none⟩ = some a8 ∧ w.cell? ⟨g, 9, none⟩ = some a9 ∧ w.frozen? ⟨g, 0, none⟩ = false ∧ w.frozen? ⟨g, 1, none⟩ = false ∧ w.frozen? ⟨g, 2, none⟩ = false ∧ w.frozen? ⟨g, 3, none⟩ = false ∧ w.frozen? ⟨g, 4, none⟩ = false ∧ w.frozen? ⟨g, 5, none⟩ = false ∧ w.frozen? ⟨g, 6, none⟩ = false ∧ w.frozen? ⟨g, 7, none⟩ = false ∧ w.frozen? ⟨g, 8, none⟩ = false ∧ w.frozen? ⟨g, 9, none⟩ = false := ⟨(blk_cell h.out 0).trans rfl, (blk_cell h.out 1).trans rfl, (blk_cell h.out 2).trans rfl, (blk_cell h.out 3).trans rfl, (blk_cell h.out 4).trans rfl, (blk_cell h.out 5).trans rfl, (blk_cell h.out 6).trans rfl, (blk_cell h.out 7).trans rfl, (blk_cell h.out 8).trans rfl, (blk_cell h.out 9).trans rfl, blk_frozen h.out 0, blk_frozen h.out 1, blk_frozen h.out 2, blk_frozen h.out 3, blk_frozen h.out 4, blk_frozen h.out 5, blk_frozen h.out 6, blk_frozen h.out 7, blk_frozen h.out 8, blk_frozen h.out 9⟩
end Go.Proofs.YtlifdodphkimpaaDoor.B
end

section
namespace Go.Proofs.YtlifdodphkimpaaDoor.B
open Go.RowKit Go.Proofs.YtlifdodphkimpaaDoorW.PrintWords Go.Proofs.YtlifdodphkimpaaDoorW.PrintLast Go.Proofs.YtlifdodphkimpaaDoorW.PrintMore
attribute [local go_sem] max2_int min2_int max_two min_two max_three min_three max_four min_four
theorem eqA85 (d : Nat) (w : World) (x0 y0 : Int) (x1 y1 : Int) (x2 y2 : Int) (x3 y3 : Int) (x4 y4 : ByteArray) :
    (Op.equalIn (d + 2) 85 (.agg #[.int .i64 x0, .int .i64 x1, .int .i64 x2, .int .i64 x3, .string x4]) (.agg #[.int .i64 y0, .int .i64 y1, .int .i64 y2, .int .i64 y3, .string y4])).run Tryd.prog w = .ok (x0 == y0 && (x1 == y1 && (x2 == y2 && (x3 == y3 && (x4.toList == y4.toList))))) w := by
  refine eqA_of Tryd.underlying85 (by kernel_rfl) ?_
  refine eqf_cons (by rfl) (by go_simp; rfl) (by go_simp; rfl) (by go_simp) ?_
  refine eqf_cons (by rfl) (by go_simp; rfl) (by go_simp; rfl) (by go_simp) ?_
  refine eqf_cons (by rfl) (by go_simp; rfl) (by go_simp; rfl) (by go_simp) ?_
  refine eqf_cons (by rfl) (by go_simp; rfl) (by go_simp; rfl) (by go_simp) ?_
  exact eqf_last (by rfl) (by go_simp; rfl) (by go_simp; rfl) (by go_simp)
set_option maxHeartbeats 8000000 in
set_option maxRecDepth 100000 in
theorem impl_within.calls (a0 : Int) (a1 : Int) (a2 : Int) (r : Bool) (w : World) (h : impl_within.f a0 a1 a2 = some r) :
  Calls Tryd.prog 80 #[.int .i64 a0,.int .i64 a1,.int .i64 a2] w fun e w' => e = .returned (.bool r) ∧ Drawn0 w w' := by
 have H : (if a0 ≥ a1 then (some (decide (a0 ≤ a2))) else (some false)) = some r := h
 clear h
 by_cases c4 : a0 ≥ a1
 ·rw [if_pos c4] at H
  have c4b0 : decide (a1 ≤ a0) = true := decide_eq_true c4
  clear c4
  obtain rfl := Option.some.inj H
  go_enter Tryd.func80,Tryd.ntmps80
  go_wp2
  go_ret
  exact ⟨by first | rfl | (simp;done) | (simp [*];done),by repeat (first | exact Drawn0.refl _ | apply Drawn0.step)⟩
 ·rw [if_neg c4] at H
  have c4b0 : decide (a1 ≤ a0) = false := decide_eq_false c4
  clear c4
  obtain rfl := Option.some.inj H
  go_enter Tryd.func80,Tryd.ntmps80
  go_wp2
  go_ret
  exact ⟨by first | rfl | (simp;done) | (simp [*];done),by repeat (first | exact Drawn0.refl _ | apply Drawn0.step)⟩
set_option maxHeartbeats 8000000 in
set_option maxRecDepth 100000 in
theorem impl_isAnswer.calls (a0_0 : Int) (a0_1 : Int) (a0_2 : Int) (a0_3 : Int) (r : Bool) (w : World) (h : impl_isAnswer.f a0_0 a0_1 a0_2 a0_3 = some r) :
  Calls Tryd.prog 102 #[.agg #[.int .i64 a0_0,.int .i64 a0_1,.int .i64 a0_2,.int .i64 a0_3]] w fun e w' => e = .returned (.bool r) ∧ Below w.heap.size w w' := by
 have hu63 := Tryd.underlying63
 have HB := am_ (Below.refl w.heap.size w)
 have H : ((impl_within.f a0_0 1 8).bind fun t977 => (if t977 = true then ((impl_within.f a0_1 0 1000000).bind fun t978 => (if t978 = true then ((impl_within.f a0_2 (-1) 255).bind fun t979 => (if t979 = true then ((impl_within.f a0_3 0 2000000000).bind fun t980 => (some t980)) else (some false))) else (some false))) else (some false))) = some r := h
 clear h
 replace H := Option.bind_eq_some_iff.mp H
 obtain ⟨t977,A20,H⟩ := H
 try dsimp only at H
 have A2 := am_ A20
 clear A20
 by_cases c3 : t977 = true
 ·subst c3
  have H1 : ((impl_within.f a0_1 0 1000000).bind fun t978 => (if t978 = true then ((impl_within.f a0_2 (-1) 255).bind fun t979 => (if t979 = true then ((impl_within.f a0_3 0 2000000000).bind fun t980 => (some t980)) else (some false))) else (some false))) = some r := by rw [if_pos rfl] at H;exact H
  clear H
  have H := H1
  clear H1
  replace H := Option.bind_eq_some_iff.mp H
  obtain ⟨t978,A40,H⟩ := H
  try dsimp only at H
  have A4 := am_ A40
  clear A40
  by_cases c5 : t978 = true
  ·subst c5
   have H1 : ((impl_within.f a0_2 (-1) 255).bind fun t979 => (if t979 = true then ((impl_within.f a0_3 0 2000000000).bind fun t980 => (some t980)) else (some false))) = some r := by rw [if_pos rfl] at H;exact H
   clear H
   have H := H1
   clear H1
   replace H := Option.bind_eq_some_iff.mp H
   obtain ⟨t979,A60,H⟩ := H
   try dsimp only at H
   have A6 := am_ A60
   clear A60
   by_cases c7 : t979 = true
   ·subst c7
    have H1 : ((impl_within.f a0_3 0 2000000000).bind fun t980 => (some t980)) = some r := by rw [if_pos rfl] at H;exact H
    clear H
    have H := H1
    clear H1
    replace H := Option.bind_eq_some_iff.mp H
    obtain ⟨t980,A80,H⟩ := H
    try dsimp only at H
    have A8 := am_ A80
    clear A80
    obtain rfl := Option.some.inj H
    go_enter Tryd.func102,Tryd.ntmps102
    go_wp2_with (first | ((with_reducible refine gate_dst (N := 1) rfl ?_);refine zbx (N := 1) (cs := #[.int .i64 a0_0,.int .i64 a0_1,.int .i64 a0_2,.int .i64 a0_3]) (t := 63) ?_;intro gb976 hg w9 hbox hb;have BK976 := am_ (hbox);have GW976 := zw_ HB hg;have GE976 := zw_ HB hg;replace HB := zs_ HB hb;clear hb hbox hg;obtain ⟨hcz10_0,hcz10_1,hcz10_2,hcz10_3,hfz10_0,hfz10_1,hfz10_2,hfz10_3⟩ := zc4 BK976) | ((with_reducible refine gate_callee (f := 80) rfl ?_);refine zgl (some 5) Tryd.func80 #[.int .i64 a0_0,.int .i64 1,.int .i64 8] ?_;(with_reducible refine (impl_within.calls a0_0 1 8 true _ A2.out).mono ?_);rintro e w' ⟨rfl,⟨nd,rfl⟩⟩;refine ⟨_,rfl,?_⟩) | (go_at_call 80;(with_reducible refine (impl_within.calls a0_1 0 1000000 true _ A4.out).mono ?_);rintro e w' ⟨rfl,⟨nd,rfl⟩⟩) | (go_at_call 80;(with_reducible refine (impl_within.calls a0_2 (-1) 255 true _ A6.out).mono ?_);rintro e w' ⟨rfl,⟨nd,rfl⟩⟩) | (go_at_call 80;(with_reducible refine (impl_within.calls a0_3 0 2000000000 t980 _ A8.out).mono ?_);rintro e w' ⟨rfl,⟨nd,rfl⟩⟩))
    go_ret
    exact ⟨zt_,zl_ HB⟩
   ·replace c7 := Bool.eq_false_iff.mpr c7
    subst c7
    have H1 : (some false) = some r := by rw [if_neg (show ¬ (false = true) by decide)] at H;exact H
    clear H
    have H := H1
    clear H1
    obtain rfl := Option.some.inj H
    go_enter Tryd.func102,Tryd.ntmps102
    go_wp2_with (first | ((with_reducible refine gate_dst (N := 1) rfl ?_);refine zbx (N := 1) (cs := #[.int .i64 a0_0,.int .i64 a0_1,.int .i64 a0_2,.int .i64 a0_3]) (t := 63) ?_;intro gb976 hg w11 hbox hb;have BK976 := am_ (hbox);have GW976 := zw_ HB hg;have GE976 := zw_ HB hg;replace HB := zs_ HB hb;clear hb hbox hg;obtain ⟨hcz12_0,hcz12_1,hcz12_2,hcz12_3,hfz12_0,hfz12_1,hfz12_2,hfz12_3⟩ := zc4 BK976) | ((with_reducible refine gate_callee (f := 80) rfl ?_);refine zgl (some 5) Tryd.func80 #[.int .i64 a0_0,.int .i64 1,.int .i64 8] ?_;(with_reducible refine (impl_within.calls a0_0 1 8 true _ A2.out).mono ?_);rintro e w' ⟨rfl,⟨nd,rfl⟩⟩;refine ⟨_,rfl,?_⟩) | (go_at_call 80;(with_reducible refine (impl_within.calls a0_1 0 1000000 true _ A4.out).mono ?_);rintro e w' ⟨rfl,⟨nd,rfl⟩⟩) | (go_at_call 80;(with_reducible refine (impl_within.calls a0_2 (-1) 255 false _ A6.out).mono ?_);rintro e w' ⟨rfl,⟨nd,rfl⟩⟩))
    go_ret
    exact ⟨zt_,zl_ HB⟩
  ·replace c5 := Bool.eq_false_iff.mpr c5
   subst c5
   have H1 : (some false) = some r := by rw [if_neg (show ¬ (false = true) by decide)] at H;exact H
   clear H
   have H := H1
   clear H1
   obtain rfl := Option.some.inj H
   go_enter Tryd.func102,Tryd.ntmps102
   go_wp2_with (first | ((with_reducible refine gate_dst (N := 1) rfl ?_);refine zbx (N := 1) (cs := #[.int .i64 a0_0,.int .i64 a0_1,.int .i64 a0_2,.int .i64 a0_3]) (t := 63) ?_;intro gb976 hg w13 hbox hb;have BK976 := am_ (hbox);have GW976 := zw_ HB hg;have GE976 := zw_ HB hg;replace HB := zs_ HB hb;clear hb hbox hg;obtain ⟨hcz14_0,hcz14_1,hcz14_2,hcz14_3,hfz14_0,hfz14_1,hfz14_2,hfz14_3⟩ := zc4 BK976) | ((with_reducible refine gate_callee (f := 80) rfl ?_);refine zgl (some 5) Tryd.func80 #[.int .i64 a0_0,.int .i64 1,.int .i64 8] ?_;(with_reducible refine (impl_within.calls a0_0 1 8 true _ A2.out).mono ?_);rintro e w' ⟨rfl,⟨nd,rfl⟩⟩;refine ⟨_,rfl,?_⟩) | (go_at_call 80;(with_reducible refine (impl_within.calls a0_1 0 1000000 false _ A4.out).mono ?_);rintro e w' ⟨rfl,⟨nd,rfl⟩⟩))
   go_ret
   exact ⟨zt_,zl_ HB⟩
 ·replace c3 := Bool.eq_false_iff.mpr c3
  subst c3
  have H1 : (some false) = some r := by rw [if_neg (show ¬ (false = true) by decide)] at H;exact H
  clear H
  have H := H1
  clear H1
  obtain rfl := Option.some.inj H
  go_enter Tryd.func102,Tryd.ntmps102
  go_wp2_with (first | ((with_reducible refine gate_dst (N := 1) rfl ?_);refine zbx (N := 1) (cs := #[.int .i64 a0_0,.int .i64 a0_1,.int .i64 a0_2,.int .i64 a0_3]) (t := 63) ?_;intro gb976 hg w15 hbox hb;have BK976 := am_ (hbox);have GW976 := zw_ HB hg;have GE976 := zw_ HB hg;replace HB := zs_ HB hb;clear hb hbox hg;obtain ⟨hcz16_0,hcz16_1,hcz16_2,hcz16_3,hfz16_0,hfz16_1,hfz16_2,hfz16_3⟩ := zc4 BK976) | ((with_reducible refine gate_callee (f := 80) rfl ?_);refine zgl (some 5) Tryd.func80 #[.int .i64 a0_0,.int .i64 1,.int .i64 8] ?_;(with_reducible refine (impl_within.calls a0_0 1 8 false _ A2.out).mono ?_);rintro e w' ⟨rfl,⟨nd,rfl⟩⟩;refine ⟨_,rfl,?_⟩))
  go_ret
  exact ⟨zt_,zl_ HB⟩
set_option maxHeartbeats 8000000 in
set_option maxRecDepth 100000 in
theorem impl_ClientOK_1.calls (a0_0 : Int) (a0_1 : Int) (a0_2 : Int) (a0_3 : Int) (r : Bool) (w : World) (h : impl_ClientOK_1.f a0_0 a0_1 a0_2 a0_3 = some r) :
  Calls Tryd.prog 101 #[.agg #[.int .i64 a0_0,.int .i64 a0_1,.int .i64 a0_2,.int .i64 a0_3]] w fun e w' => e = .returned (.bool r) ∧ Below w.heap.size w w' := by
 have hu63 := Tryd.underlying63
 have HB := am_ (Below.refl w.heap.size w)
 have H : ((impl_isAnswer.f a0_0 a0_1 a0_2 a0_3).bind fun t1223 => (some (!t1223))) = some r := h
 clear h
 replace H := Option.bind_eq_some_iff.mp H
 obtain ⟨t1223,A20,H⟩ := H
 try dsimp only at H
 have A2 := am_ A20
 clear A20
 obtain rfl := Option.some.inj H
 go_enter Tryd.func101,Tryd.ntmps101
 go_wp2_with (first | ((with_reducible refine gate_dst (N := 1) rfl ?_);refine zbx (N := 1) (cs := #[.int .i64 a0_0,.int .i64 a0_1,.int .i64 a0_2,.int .i64 a0_3]) (t := 63) ?_;intro gb1222 hg w3 hbox hb;have BK1222 := am_ (hbox);have GW1222 := zw_ HB hg;have GE1222 := zw_ HB hg;replace HB := zs_ HB hb;clear hb hbox hg;obtain ⟨hcz4_0,hcz4_1,hcz4_2,hcz4_3,hfz4_0,hfz4_1,hfz4_2,hfz4_3⟩ := zc4 BK1222) | ((with_reducible refine gate_callee (f := 102) rfl ?_);refine zgl (some 4) Tryd.func102 #[.agg #[.int .i64 a0_0,.int .i64 a0_1,.int .i64 a0_2,.int .i64 a0_3]] ?_;(with_reducible refine (impl_isAnswer.calls a0_0 a0_1 a0_2 a0_3 t1223 _ A2.out).mono ?_);rintro e w5 ⟨rfl,hb⟩;refine ⟨_,rfl,?_⟩;replace HB := zs_ HB hb;(try clear hb);(try clear hb2);(try clear hk);(try clear hi)))
 go_ret
 exact ⟨zt_,zl_ HB⟩
theorem contains_impl_ClientOK_1_tot (a b c d : Int) : impl_ClientOK_1.f a b c d = some ((impl_ClientOK_1.f a b c d).getD false) := by
 have h : ∃ r,impl_ClientOK_1.f a b c d = some r := by
  have hw : ∀ n lo hi,∃ r,impl_within.f n lo hi = some r := fun n lo hi => by
   unfold impl_within.f
   split <;> exact ⟨_,rfl⟩
  obtain ⟨r1,e1⟩ := hw a 1 8
  obtain ⟨r2,e2⟩ := hw b 0 1000000
  obtain ⟨r3,e3⟩ := hw c (-1) 255
  obtain ⟨r4,e4⟩ := hw d 0 2000000000
  unfold impl_ClientOK_1.f impl_isAnswer.f
  simp only [e1,e2,e3,e4,Option.bind_some]
  cases r1 <;> cases r2 <;> cases r3 <;> exact ⟨_,rfl⟩
 obtain ⟨r,hr⟩ := h
 rw [hr];rfl
def contains_impl_ClientOK_1_p (y : S63) : Bool := (impl_ClientOK_1.f y.f0 y.f1 y.f2 y.f3).getD false
theorem contains_impl_ClientOK_1_of {y : S63} {b : Bool} (h : contains_impl_ClientOK_1_p y = b) : impl_ClientOK_1.f y.f0 y.f1 y.f2 y.f3 = some b := by rw [contains_impl_ClientOK_1_tot,← h];rfl
set_option maxHeartbeats 2000000 in
theorem contains_impl_ClientOK_1_ix (A0 : Option Addr) (c0 : Nat) (l0 : List S63) (w : World) (hr0 : Kd.C k63 w A0 l0.length l0) (hc0 : l0.length ≤ c0) :
  Calls Tryd.prog 144 #[.slice A0 l0.length c0,.func (.func 101) #[] #[]] w fun e w' => (∃ r : Int,e = .returned (.int .i64 r) ∧ decide (0 ≤ r) = l0.any contains_impl_ClientOK_1_p) ∧ Below w.heap.size w w' := by
 have hu63 := Tryd.underlying63
 have hlen : (l0.length : Int) ≤ 9223372036854775807 := by have := hr0.2.1;omega
 have HR0 := am_ hr0
 have HL0 := am_ hlen
 have HC0 := am_ hc0
 clear hr0 hlen hc0
 go_enter Tryd.func144,Tryd.ntmps144
 go_wp2
 go_loopg [5,8] l0.length (fun gg _ s8 wr => ∃ x : Int,s8 = .int .i64 x ∧ Aside0 (0 ≤ x ∧ x ≤ l0.length ∧ ((l0.length : Int) - x).toNat ≤ gg) ∧ Aside0 (∀ j : Nat,(j : Int) < x → contains_impl_ClientOK_1_p (rd_T63 l0 (j : Int)) = false) ∧ Aside0 (Below w.heap.size w wr))
 case atStart => exact ⟨0,rfl,⟨by omega⟩,⟨fun j hj => absurd hj (by omega)⟩,⟨Below.refl _ _⟩⟩
 case round =>
  obtain ⟨x,rfl,HX,HA,HB⟩ := hrel
  by_cases hlt : x < (l0.length : Int)
  ·have c0b0 : decide (x < (l0.length : Int)) = true := decide_eq_true hlt
   have p0_ : 0 ≤ x := HX.out.1
   have q0_ : x < (l0.length : Int) := hlt
   have hm_ : rd_T63 l0 x ∈ l0 := by
    unfold rd_T63
    rw [List.getD,List.getElem?_eq_getElem (by omega : x.toNat < l0.length)]
    exact List.getElem_mem _
   have HM := am_ hm_
   clear hlt hm_
   obtain ⟨ad0,e0,hx0,hx1,hx2,hx3⟩ := at_T63 HR0.out x p0_ q0_
   cases e0
   replace hx0 := zx_ HB hx0
   replace hx1 := zx_ HB hx1
   replace hx2 := zx_ HB hx2
   replace hx3 := zx_ HB hx3
   have HP := am_ (And.intro p0_ q0_)
   replace p0_ := eq_true p0_
   replace q0_ := eq_true q0_
   cases hq : contains_impl_ClientOK_1_p (rd_T63 l0 x) with
   | true =>
    have HQ := am_ hq
    clear hq
    go_wp2_with (go_at_call 101;refine (impl_ClientOK_1.calls (rd_T63 l0 x).f0 (rd_T63 l0 x).f1 (rd_T63 l0 x).f2 (rd_T63 l0 x).f3 true _ (contains_impl_ClientOK_1_of HQ.out)).mono ?_;rintro e w2 ⟨rfl,hb⟩;replace HB := zs_ HB hb;clear hb)
    go_ret
    refine ⟨⟨x,rfl,?_⟩,zl_ HB⟩
    rw [decide_eq_true HP.out.1]
    exact (List.any_eq_true.2 ⟨_,HM.out,HQ.out⟩).symm
   | false =>
    have HQ := am_ hq
    clear hq
    go_wp2_with (go_at_call 101;refine (impl_ClientOK_1.calls (rd_T63 l0 x).f0 (rd_T63 l0 x).f1 (rd_T63 l0 x).f2 (rd_T63 l0 x).f3 false _ (contains_impl_ClientOK_1_of HQ.out)).mono ?_;rintro e w2 ⟨rfl,hb⟩;replace HB := zs_ HB hb;clear hb)
    go_roundg ((l0.length : Int) - (x + 1)).toNat
    case measure => have := HX.out;have := HP.out;omega
    case rel =>
     have hw : wrap64 (x + 1) = x + 1 := by have := HX.out;have := HP.out;have := HL0.out;unfold wrap64;omega
     refine ⟨wrap64 (x + 1),(by first | rfl | (simp;done) | (simp [*];done)),⟨by rw [hw];have := HX.out;have := HP.out;omega⟩,⟨fun j hj => ?_⟩,⟨zl_ HB⟩⟩
     rw [hw] at hj
     by_cases e : (j : Int) = x
     ·rw [e];exact HQ.out
     ·exact HA.out j (by omega)
  ·have c0b0 : decide (x < (l0.length : Int)) = false := decide_eq_false hlt
   have HE := am_ hlt
   clear hlt
   go_wp2
   go_ret
   refine ⟨⟨-1,rfl,?_⟩,zl_ HB⟩
   rw [decide_eq_false (by omega)]
   refine (List.any_eq_false.2 fun y hy => ?_).symm
   obtain ⟨j,hj,rfl⟩ := List.mem_iff_getElem.1 hy
   have := HA.out j (by have := HX.out;have := HE.out;omega)
   have e : rd_T63 l0 (j : Int) = l0[j] := by
    unfold rd_T63
    rw [List.getD,Int.toNat_natCast,List.getElem?_eq_getElem hj];rfl
   rw [e] at this
   rw [this]
   decide
theorem contains_impl_ClientOK_1.calls (A0 : Option Addr) (c0 : Nat) (l0 : List S63) (r : Bool) (w : World) (hr0 : Kd.C k63 w A0 l0.length l0) (hc0 : l0.length ≤ c0) (h : contains_impl_ClientOK_1.f l0 = some r) :
  Calls Tryd.prog 100 #[.slice A0 l0.length c0,.func (.func 101) #[] #[]] w fun e w' => e = .returned (.bool r) ∧ Below w.heap.size w w' := by
 have hr : l0.any contains_impl_ClientOK_1_p = r := Option.some.inj h
 have hix := contains_impl_ClientOK_1_ix A0 c0 l0 w hr0 hc0
 have HIX := am_ hix
 clear hr0 hc0 h hix
 go_enter Tryd.func100,Tryd.ntmps100
 go_wp2_with (go_at_call 144;refine HIX.out.mono ?_;rintro e w' ⟨⟨i_,rfl,hi_⟩,hb⟩;rw [hr] at hi_;have HB := am_ hb;clear hb)
 go_ret
 exact ⟨by simp [hi_],zl_ HB⟩
set_option maxHeartbeats 8000000 in
set_option maxRecDepth 100000 in
theorem impl_FaultsOf.calls (a0 : Int) (r1 : Int) (r2 : Int) (w : World) (h : impl_FaultsOf.f a0 = some (r1,r2)) :
  Calls Tryd.prog 120 #[.int .i64 a0] w fun e w' => e = .returned (.tuple #[.int .i64 r1,.int .i64 r2]) ∧ Drawn0 w w' := by
 have H : (if a0 = 1 then (some (wrap64 (Int.tdiv (wrap64 (a0 - 1)) 3),0)) else (if a0 = 4 then (some (wrap64 (Int.tdiv (wrap64 (a0 - 1)) 3),0)) else (if a0 = 7 then (some (wrap64 (Int.tdiv (wrap64 (a0 - 1)) 3),0)) else (some (0,4))))) = some (r1,r2) := h
 clear h
 by_cases c2 : a0 = 1
 ·rw [if_pos c2] at H
  have c2b0 : (a0 == 1) = true := beq_iff_eq.mpr c2
  have c2b1 : (a0 != 1) = false := bne_eq_false_iff_eq.mpr c2
  clear c2
  simp only [Option.some.injEq,Prod.mk.injEq] at H
  obtain ⟨rfl,rfl⟩ := H
  go_enter Tryd.func120,Tryd.ntmps120
  go_wp2
  go_ret2
  exact ⟨by first | rfl | (simp;done) | (simp [*];done),by repeat (first | exact Drawn0.refl _ | apply Drawn0.step)⟩
 ·rw [if_neg c2] at H
  have c2b0 : (a0 == 1) = false := beq_eq_false_iff_ne.mpr c2
  have c2b1 : (a0 != 1) = true := bne_iff_ne.mpr c2
  by_cases c3 : a0 = 4
  ·rw [if_pos c3] at H
   have c3b0 : (a0 == 4) = true := beq_iff_eq.mpr c3
   have c3b1 : (a0 != 4) = false := bne_eq_false_iff_eq.mpr c3
   clear c3
   simp only [Option.some.injEq,Prod.mk.injEq] at H
   obtain ⟨rfl,rfl⟩ := H
   go_enter Tryd.func120,Tryd.ntmps120
   go_wp2
   go_ret2
   exact ⟨by first | rfl | (simp;done) | (simp [*];done),by repeat (first | exact Drawn0.refl _ | apply Drawn0.step)⟩
  ·rw [if_neg c3] at H
   have c3b0 : (a0 == 4) = false := beq_eq_false_iff_ne.mpr c3
   have c3b1 : (a0 != 4) = true := bne_iff_ne.mpr c3
   by_cases c4 : a0 = 7
   ·rw [if_pos c4] at H
    have c4b0 : (a0 == 7) = true := beq_iff_eq.mpr c4
    have c4b1 : (a0 != 7) = false := bne_eq_false_iff_eq.mpr c4
    clear c4
    simp only [Option.some.injEq,Prod.mk.injEq] at H
    obtain ⟨rfl,rfl⟩ := H
    go_enter Tryd.func120,Tryd.ntmps120
    go_wp2
    go_ret2
    exact ⟨by first | rfl | (simp;done) | (simp [*];done),by repeat (first | exact Drawn0.refl _ | apply Drawn0.step)⟩
   ·rw [if_neg c4] at H
    have c4b0 : (a0 == 7) = false := beq_eq_false_iff_ne.mpr c4
    have c4b1 : (a0 != 7) = true := bne_iff_ne.mpr c4
    simp only [Option.some.injEq,Prod.mk.injEq] at H
    obtain ⟨rfl,rfl⟩ := H
    go_enter Tryd.func120,Tryd.ntmps120
    go_wp2
    go_ret2
    exact ⟨by first | rfl | (simp;done) | (simp [*];done),by repeat (first | exact Drawn0.refl _ | apply Drawn0.step)⟩
set_option maxHeartbeats 8000000 in
set_option maxRecDepth 100000 in
theorem impl_areNodes.calls (a0 : Int) (r : Bool) (w : World) (h : impl_areNodes.f a0 = some r) :
  Calls Tryd.prog 61 #[.int .i64 a0] w fun e w' => e = .returned (.bool r) ∧ Drawn0 w w' := by
 have H : ((impl_FaultsOf.f a0).bind fun bt403 => (some (bt403.2 == 0))) = some r := h
 clear h
 replace H := Option.bind_eq_some_iff.mp H
 obtain ⟨⟨t403,t404⟩,A20,H⟩ := H
 try dsimp only at H
 have A2 := am_ A20
 clear A20
 obtain rfl := Option.some.inj H
 go_enter Tryd.func61,Tryd.ntmps61
 go_wp2_with (first | ((with_reducible refine gate_callee (f := 120) rfl ?_);refine zgl (some 7) Tryd.func120 #[.int .i64 a0] ?_;(with_reducible refine (impl_FaultsOf.calls a0 t403 t404 _ A2.out).mono ?_);rintro e w' ⟨rfl,⟨nd,rfl⟩⟩;refine ⟨_,rfl,?_⟩))
 go_ret
 exact ⟨by first | rfl | (simp;done) | (simp [*];done),by repeat (first | exact Drawn0.refl _ | apply Drawn0.step)⟩
set_option maxHeartbeats 8000000 in
set_option maxRecDepth 100000 in
theorem impl_isReply.calls (a0_0 : Int) (a0_1 : Int) (a0_2 : Int) (a0_3 : Int) (a0_4 : Int) (a0_5 : Int) (a0_6 : Int) (a0_7 : ByteArray) (r : Bool) (w : World) (h : impl_isReply.f a0_0 a0_1 a0_2 a0_3 a0_4 a0_5 a0_6 a0_7 = some r) :
  Calls Tryd.prog 89 #[.agg #[.int .i64 a0_0,.int .i64 a0_1,.int .i64 a0_2,.int .i64 a0_3,.int .i64 a0_4,.int .i64 a0_5,.int .i64 a0_6,.string a0_7]] w fun e w' => e = .returned (.bool r) ∧ Below w.heap.size w w' := by
 have hu73 := Tryd.underlying73
 have hu63 := Tryd.underlying63
 have HB := am_ (Below.refl w.heap.size w)
 have H : ((impl_within.f a0_0 0 6).bind fun t982 => (if t982 = true then ((impl_within.f a0_1 0 255).bind fun t983 => (if t983 = true then ((impl_within.f a0_2 1 65535).bind fun t984 => (if t984 = true then ((impl_isAnswer.f a0_3 a0_4 a0_5 a0_6).bind fun t985 => (some t985)) else (some false))) else (some false))) else (some false))) = some r := h
 clear h
 replace H := Option.bind_eq_some_iff.mp H
 obtain ⟨t982,A20,H⟩ := H
 try dsimp only at H
 have A2 := am_ A20
 clear A20
 by_cases c3 : t982 = true
 ·subst c3
  have H1 : ((impl_within.f a0_1 0 255).bind fun t983 => (if t983 = true then ((impl_within.f a0_2 1 65535).bind fun t984 => (if t984 = true then ((impl_isAnswer.f a0_3 a0_4 a0_5 a0_6).bind fun t985 => (some t985)) else (some false))) else (some false))) = some r := by rw [if_pos rfl] at H;exact H
  clear H
  have H := H1
  clear H1
  replace H := Option.bind_eq_some_iff.mp H
  obtain ⟨t983,A40,H⟩ := H
  try dsimp only at H
  have A4 := am_ A40
  clear A40
  by_cases c5 : t983 = true
  ·subst c5
   have H1 : ((impl_within.f a0_2 1 65535).bind fun t984 => (if t984 = true then ((impl_isAnswer.f a0_3 a0_4 a0_5 a0_6).bind fun t985 => (some t985)) else (some false))) = some r := by rw [if_pos rfl] at H;exact H
   clear H
   have H := H1
   clear H1
   replace H := Option.bind_eq_some_iff.mp H
   obtain ⟨t984,A60,H⟩ := H
   try dsimp only at H
   have A6 := am_ A60
   clear A60
   by_cases c7 : t984 = true
   ·subst c7
    have H1 : ((impl_isAnswer.f a0_3 a0_4 a0_5 a0_6).bind fun t985 => (some t985)) = some r := by rw [if_pos rfl] at H;exact H
    clear H
    have H := H1
    clear H1
    replace H := Option.bind_eq_some_iff.mp H
    obtain ⟨t985,A80,H⟩ := H
    try dsimp only at H
    have A8 := am_ A80
    clear A80
    obtain rfl := Option.some.inj H
    go_enter Tryd.func89,Tryd.ntmps89
    go_wp2_with (first | ((with_reducible refine gate_dst (N := 1) rfl ?_);refine zbx (N := 1) (cs := #[.int .i64 a0_0,.int .i64 a0_1,.int .i64 a0_2,.int .i64 a0_3,.int .i64 a0_4,.int .i64 a0_5,.int .i64 a0_6,.string a0_7]) (t := 73) ?_;intro gb981 hg w9 hbox hb;have BK981 := am_ (hbox);have GW981 := zw_ HB hg;have GE981 := zw_ HB hg;replace HB := zs_ HB hb;clear hb hbox hg;obtain ⟨hcz10_0,hcz10_1,hcz10_2,hcz10_3,hcz10_4,hcz10_5,hcz10_6,hcz10_7,hfz10_0,hfz10_1,hfz10_2,hfz10_3,hfz10_4,hfz10_5,hfz10_6,hfz10_7⟩ := zc8 BK981) | ((with_reducible refine gate_callee (f := 80) rfl ?_);refine zgl (some 5) Tryd.func80 #[.int .i64 a0_0,.int .i64 0,.int .i64 6] ?_;(with_reducible refine (impl_within.calls a0_0 0 6 true _ A2.out).mono ?_);rintro e w' ⟨rfl,⟨nd,rfl⟩⟩;refine ⟨_,rfl,?_⟩) | (go_at_call 80;(with_reducible refine (impl_within.calls a0_1 0 255 true _ A4.out).mono ?_);rintro e w' ⟨rfl,⟨nd,rfl⟩⟩) | (go_at_call 80;(with_reducible refine (impl_within.calls a0_2 1 65535 true _ A6.out).mono ?_);rintro e w' ⟨rfl,⟨nd,rfl⟩⟩) | (go_at_call 102;(with_reducible refine (impl_isAnswer.calls a0_3 a0_4 a0_5 a0_6 t985 _ A8.out).mono ?_);rintro e w11 ⟨rfl,hb⟩;replace BK981 := zb BK981 hb;replace HB := zs_ HB hb;(try clear hb);(try clear hb2);(try clear hk);(try clear hi)))
    go_ret
    exact ⟨zt_,zl_ HB⟩
   ·replace c7 := Bool.eq_false_iff.mpr c7
    subst c7
    have H1 : (some false) = some r := by rw [if_neg (show ¬ (false = true) by decide)] at H;exact H
    clear H
    have H := H1
    clear H1
    obtain rfl := Option.some.inj H
    go_enter Tryd.func89,Tryd.ntmps89
    go_wp2_with (first | ((with_reducible refine gate_dst (N := 1) rfl ?_);refine zbx (N := 1) (cs := #[.int .i64 a0_0,.int .i64 a0_1,.int .i64 a0_2,.int .i64 a0_3,.int .i64 a0_4,.int .i64 a0_5,.int .i64 a0_6,.string a0_7]) (t := 73) ?_;intro gb981 hg w12 hbox hb;have BK981 := am_ (hbox);have GW981 := zw_ HB hg;have GE981 := zw_ HB hg;replace HB := zs_ HB hb;clear hb hbox hg;obtain ⟨hcz13_0,hcz13_1,hcz13_2,hcz13_3,hcz13_4,hcz13_5,hcz13_6,hcz13_7,hfz13_0,hfz13_1,hfz13_2,hfz13_3,hfz13_4,hfz13_5,hfz13_6,hfz13_7⟩ := zc8 BK981) | ((with_reducible refine gate_callee (f := 80) rfl ?_);refine zgl (some 5) Tryd.func80 #[.int .i64 a0_0,.int .i64 0,.int .i64 6] ?_;(with_reducible refine (impl_within.calls a0_0 0 6 true _ A2.out).mono ?_);rintro e w' ⟨rfl,⟨nd,rfl⟩⟩;refine ⟨_,rfl,?_⟩) | (go_at_call 80;(with_reducible refine (impl_within.calls a0_1 0 255 true _ A4.out).mono ?_);rintro e w' ⟨rfl,⟨nd,rfl⟩⟩) | (go_at_call 80;(with_reducible refine (impl_within.calls a0_2 1 65535 false _ A6.out).mono ?_);rintro e w' ⟨rfl,⟨nd,rfl⟩⟩))
    go_ret
    exact ⟨zt_,zl_ HB⟩
  ·replace c5 := Bool.eq_false_iff.mpr c5
   subst c5
   have H1 : (some false) = some r := by rw [if_neg (show ¬ (false = true) by decide)] at H;exact H
   clear H
   have H := H1
   clear H1
   obtain rfl := Option.some.inj H
   go_enter Tryd.func89,Tryd.ntmps89
   go_wp2_with (first | ((with_reducible refine gate_dst (N := 1) rfl ?_);refine zbx (N := 1) (cs := #[.int .i64 a0_0,.int .i64 a0_1,.int .i64 a0_2,.int .i64 a0_3,.int .i64 a0_4,.int .i64 a0_5,.int .i64 a0_6,.string a0_7]) (t := 73) ?_;intro gb981 hg w14 hbox hb;have BK981 := am_ (hbox);have GW981 := zw_ HB hg;have GE981 := zw_ HB hg;replace HB := zs_ HB hb;clear hb hbox hg;obtain ⟨hcz15_0,hcz15_1,hcz15_2,hcz15_3,hcz15_4,hcz15_5,hcz15_6,hcz15_7,hfz15_0,hfz15_1,hfz15_2,hfz15_3,hfz15_4,hfz15_5,hfz15_6,hfz15_7⟩ := zc8 BK981) | ((with_reducible refine gate_callee (f := 80) rfl ?_);refine zgl (some 5) Tryd.func80 #[.int .i64 a0_0,.int .i64 0,.int .i64 6] ?_;(with_reducible refine (impl_within.calls a0_0 0 6 true _ A2.out).mono ?_);rintro e w' ⟨rfl,⟨nd,rfl⟩⟩;refine ⟨_,rfl,?_⟩) | (go_at_call 80;(with_reducible refine (impl_within.calls a0_1 0 255 false _ A4.out).mono ?_);rintro e w' ⟨rfl,⟨nd,rfl⟩⟩))
   go_ret
   exact ⟨zt_,zl_ HB⟩
 ·replace c3 := Bool.eq_false_iff.mpr c3
  subst c3
  have H1 : (some false) = some r := by rw [if_neg (show ¬ (false = true) by decide)] at H;exact H
  clear H
  have H := H1
  clear H1
  obtain rfl := Option.some.inj H
  go_enter Tryd.func89,Tryd.ntmps89
  go_wp2_with (first | ((with_reducible refine gate_dst (N := 1) rfl ?_);refine zbx (N := 1) (cs := #[.int .i64 a0_0,.int .i64 a0_1,.int .i64 a0_2,.int .i64 a0_3,.int .i64 a0_4,.int .i64 a0_5,.int .i64 a0_6,.string a0_7]) (t := 73) ?_;intro gb981 hg w16 hbox hb;have BK981 := am_ (hbox);have GW981 := zw_ HB hg;have GE981 := zw_ HB hg;replace HB := zs_ HB hb;clear hb hbox hg;obtain ⟨hcz17_0,hcz17_1,hcz17_2,hcz17_3,hcz17_4,hcz17_5,hcz17_6,hcz17_7,hfz17_0,hfz17_1,hfz17_2,hfz17_3,hfz17_4,hfz17_5,hfz17_6,hfz17_7⟩ := zc8 BK981) | ((with_reducible refine gate_callee (f := 80) rfl ?_);refine zgl (some 5) Tryd.func80 #[.int .i64 a0_0,.int .i64 0,.int .i64 6] ?_;(with_reducible refine (impl_within.calls a0_0 0 6 false _ A2.out).mono ?_);rintro e w' ⟨rfl,⟨nd,rfl⟩⟩;refine ⟨_,rfl,?_⟩))
  go_ret
  exact ⟨zt_,zl_ HB⟩
set_option maxHeartbeats 8000000 in
set_option maxRecDepth 100000 in
theorem impl_number.calls (k : Nat) (a0 : Int) (a1 : Int) (r : ByteArray) (w : World) (h : impl_number.f k a0 a1 = some r) :
  Calls Tryd.prog 128 #[.int .i64 a0,.int .i64 a1] w fun e w' => e = .returned (.string r) ∧ Below w.heap.size w w' := by
 have HB := am_ (Below.refl w.heap.size w)
 have H : (if 0 ≤ a1 then (if (a1 : Int).toNat ≤ 281474976710656 then (impl_number.l0 k a0 (List.replicate (a1 : Int).toNat 0) (wrap64 (a1 - 1))) else (none)) else (none)) = some r := h
 clear h
 by_cases c3 : 0 ≤ a1
 ·rw [if_pos c3] at H
  have c3b0 := eq_true c3
  have c3b1 : decide (0 ≤ a1) = true := decide_eq_true c3
  clear c3
  by_cases c4 : (a1 : Int).toNat ≤ 281474976710656
  ·rw [if_pos c4] at H
   have c4b0 := eq_true c4
   have c4b1 : decide ((a1 : Int).toNat ≤ 281474976710656) = true := decide_eq_true c4
   clear c4
   obtain ⟨y413,hy413⟩ : ∃ y_ : List Int,y_ = (List.replicate (a1 : Int).toNat 0) := ⟨_,rfl⟩
   replace H : (impl_number.l0 k a0 y413 (wrap64 (a1 - 1))) = some r := by first | (rw [hy413];with_reducible exact H) | (have H2_ := (Option.bind_some _ _).symm.trans H;rw [hy413];with_reducible exact H2_) | (have H2_ := (Option.bind_some _ _).symm.trans H;with_reducible exact H2_) | with_reducible exact H | (rw [hy413];exact H) | exact H
   have Ny413 := am_ hy413
   clear hy413
   have H' := am_ H
   clear H
   go_enter Tryd.func128,Tryd.ntmps128
   go_wp2_with (first | ((with_reducible refine gate_dst (N := 8) rfl ?_);refine Kd.R_make (Kd.int .u8) _ 5 rfl (N := 8) rfl 46 _ _ rfl a1 rfl rfl Tryd.underlying46 (.int .u8 0) 1 info5 rfl (by decide) (by omega) 0 (ok := fun _ => True) (okp := fun _ => True) rfl (fun _ hk => hk) trivial (zo_) (Nat.le_trans (Nat.mul_le_mul_right _ (zo_ : a1.toNat ≤ 281474976710656)) (by omega)) (Below.refl _ _) (Nat.le_refl _) ?_;intro v414 w5 ho6 hb hg_ hnew_;clear hg_ hnew_;(first | rw [← Ny413.out] at ho6 | (simp only [Int.reduceToNat] at ho6;rw [← Ny413.out] at ho6));have HO415 := am_ (Kd.R_lower ho6 (below_size (zl_ HB)));replace HB := zs_ HB hb;clear hb ho6))
   go_loopg [0,6] k (fun kq v0 v6 w' => ∃ (x0_1 : Int) (x5_1 : List Int) (x6_1 : Int),v0 = .int .i64 x0_1 ∧ v6 = .int .i64 x6_1 ∧ Aside0 (impl_number.l0 kq x0_1 x5_1 x6_1 = some r) ∧ Aside0 (kq ≤ k) ∧ Aside0 (Kd.R (Kd.int .u8) 5 w' w.heap.size (fun _ => True) v414 x5_1) ∧ Aside0 (Below w.heap.size w w'))
   case atStart => exact ⟨(a0),(y413),(wrap64 (a1 - 1)),(by first | rfl | (simp;done) | (simp [*];done)),(by first | rfl | (simp;done) | (simp [*];done)),H',⟨Nat.le_refl _⟩,⟨zr HO415⟩,⟨zl_ HB⟩⟩
   case round =>
    clear H'
    try clear c1
    try clear p2
    try clear c3
    try clear c3b0
    try clear c3b1
    try clear c4
    try clear c4b0
    try clear c4b1
    try clear p6
    obtain ⟨x0_1,x5_1,x6_1,rfl,rfl,HA,HK1,HO_5,HB⟩ := hrel
    cases gk with
    | zero => exact absurd HA.out (by simp [impl_number.l0])
    | succ k1 =>
     have H := HA.out
     clear HA
     simp only [impl_number.l0] at H
     by_cases c7 : x6_1 ≥ 0
     ·rw [if_pos c7] at H
      have c7b0 : decide (0 ≤ x6_1) = true := decide_eq_true c7
      clear c7
      by_cases c8 : 0 ≤ x6_1
      ·rw [if_pos c8] at H
       have c8b0 : decide (0 ≤ x6_1) = true := decide_eq_true c8
       clear c8
       by_cases c9 : x6_1 < (x5_1.length : Int)
       ·rw [if_pos c9] at H
        have c9b0 : decide (x6_1 < (x5_1.length : Int)) = true := decide_eq_true c9
        clear c9
        obtain ⟨y416,hy416⟩ : ∃ y_ : List Int,y_ = (x5_1.set (x6_1 : Int).toNat ((x0_1) % 256)) := ⟨_,rfl⟩
        replace H : (impl_number.l0 k1 (x0_1 / 256) y416 (wrap64 (x6_1 - 1))) = some r := by first | (rw [hy416];with_reducible exact H) | (have H2_ := (Option.bind_some _ _).symm.trans H;rw [hy416];with_reducible exact H2_) | (have H2_ := (Option.bind_some _ _).symm.trans H;with_reducible exact H2_) | with_reducible exact H | (rw [hy416];exact H) | exact H
        have Ny416 := am_ hy416
        clear hy416
        have H' := am_ H
        clear H
        have p10 : 0 ≤ (x6_1 : Int) := zo_
        have q10 : (x6_1 : Int) < ((x5_1.length : Int) : Int) := zo_
        obtain ⟨go10,co10,eo10,gb10,gl10,cl10,HG10⟩ := Kd.R_form HO_5.out (by omega)
        (first | cases eo10 | (injection eo10 with ea_ en_ ec_;(first | subst ea_ | (injection ea_ with ea_;subst ea_));subst ec_;clear en_))
        have GB10 := am_ gb10
        have GG10 := am_ HG10
        clear gb10 gl10 HG10
        obtain ⟨hx10_0,hf10_0⟩ := Kd.R_celln 0 HO_5.out (x6_1 : Int) p10 q10
        replace p10 := eq_true p10
        replace q10 := eq_true q10
        have HP11 := Kd.R_putg HO_5.out (x6_1 : Int) ((x0_1) % 256)
        go_wp2_with (first | ((with_reducible refine gate_store (t := 5) (p := 19) rfl ?_);refine store_event (t := 5) (p := 19) (v := ?vo_w12) (w1 := (wr.setCell ⟨go10,(x6_1 : Int).toNat,none⟩ (.int .u8 ((x0_1) % 256)))) ?hg ?ho ?hn ?hr ?_;(case ho => rfl);(case hg => rfl);(case hn => rfl);(case hr => first | (go_simp;done) | (go_simp;rfl));intro w12 hw;have hg : wr.grownBy w12 (some go10) := (by rw [hw];exact HP11.2);have hp_ : Kd.R (Kd.int .u8) 5 w12 w.heap.size (fun _ => True) (.slice (some ⟨go10,0,none⟩) x5_1.length co10) y416 := (by rw [hw,Ny416.out];exact HP11.1);clear HP11;replace HO_5 := am_ (hp_);replace HB := am_ ((by rw [hw];exact below_set (HB.out) GB10.out : Below w.heap.size w w12));clear hg hw hp_))
        go_roundg k1
        case measure => have := HK1.out;omega
        case rel => exact ⟨(x0_1 / 256),(y416),(wrap64 (x6_1 - 1)),(by first | rfl | (simp;done) | (simp [*];done)),(by first | rfl | (simp;done) | (simp [*];done)),H',⟨by have := HK1.out;omega⟩,⟨zr HO_5⟩,⟨zl_ HB⟩⟩
       ·rw [if_neg c9] at H
        exact absurd H (by simp)
      ·rw [if_neg c8] at H
       exact absurd H (by simp)
     ·rw [if_neg c7] at H
      have c7b0 : decide (0 ≤ x6_1) = false := decide_eq_false c7
      clear c7
      obtain rfl := Option.some.inj H
      have hcv13 := own_string (P := Tryd.prog) Tryd.underlying46 Tryd.underlying5 Tryd.underlying9 (Kd.own_of_R HO_5.out)
      go_wp2
      go_ret
      exact ⟨zt_,zl_ HB⟩
  ·rw [if_neg c4] at H
   exact absurd H (by simp)
 ·rw [if_neg c3] at H
  exact absurd H (by simp)
def impl_answerText.T1 : Bool × List (List Nat × List Nat) := (true,[([],[]),([0],[0]),([1],[1]),([],[]),([3],[3]),([4,2],[4]),([2,5],[2,5]),([],[]),([7],[7]),([8],[8]),([9,5],[9]),([6,10],[6,10]),([],[]),([12],[12]),([13,10],[13]),([11,14],[11,14]),([15,14,0,1,2,3,4,5,6,7,8,9,10,11,12,13,14,15],[15])])
def impl_answerText.B1 : List Nat := [0,1,3,0,8,31,63,0,128,384,959,2047,0,4096,14271,32767,65535]
theorem impl_answerText.tab1 : rtab .any (opsOf Tryd.f142 1) = impl_answerText.T1 := by kernel_rfl
theorem impl_answerText.bits1 : waitsOk impl_answerText.T1.2 impl_answerText.B1 = true := by kernel_rfl
set_option maxHeartbeats 8000000 in
set_option maxRecDepth 100000 in
theorem impl_answerText.calls (k : Nat) (a0_0 : Int) (a0_1 : Int) (a0_2 : Int) (a0_3 : Int) (r : ByteArray) (w : World) (h : impl_answerText.f k a0_0 a0_1 a0_2 a0_3 = some r) :
  Calls Tryd.prog 142 #[.agg #[.int .i64 a0_0,.int .i64 a0_1,.int .i64 a0_2,.int .i64 a0_3]] w fun e w' => e = .returned (.string r) ∧ Below w.heap.size w w' := by
 have hu63 := Tryd.underlying63
 have HB := am_ (Below.refl w.heap.size w)
 have H : ((impl_number.f k a0_0 1).bind fun t990 => ((impl_number.f k a0_1 3).bind fun t991 => (if t990.size + t991.size ≤ 9223372036854775807 then ((impl_number.f k (wrap64 (a0_2 + 1)) 2).bind fun t992 => (if (t990 ++ t991).size + t992.size ≤ 9223372036854775807 then ((impl_number.f k a0_3 4).bind fun t993 => (if ((t990 ++ t991) ++ t992).size + t993.size ≤ 9223372036854775807 then (some (((t990 ++ t991) ++ t992) ++ t993)) else (none))) else (none))) else (none)))) = some r := h
 clear h
 replace H := Option.bind_eq_some_iff.mp H
 obtain ⟨t990,A20,H⟩ := H
 try dsimp only at H
 have A2 := am_ A20
 clear A20
 replace H := Option.bind_eq_some_iff.mp H
 obtain ⟨t991,A30,H⟩ := H
 try dsimp only at H
 have A3 := am_ A30
 clear A30
 by_cases c4 : t990.size + t991.size ≤ 9223372036854775807
 ·rw [if_pos c4] at H
  have c4b0 := eq_true c4
  have c4b1 : decide (t990.size + t991.size ≤ 9223372036854775807) = true := decide_eq_true c4
  try have c4b2 : (9223372036854775807 < t990.size + t991.size) = False := eq_false (Nat.not_lt.2 c4)
  replace H := Option.bind_eq_some_iff.mp H
  obtain ⟨t992,A50,H⟩ := H
  try dsimp only at H
  have A5 := am_ A50
  clear A50
  by_cases c6 : (t990 ++ t991).size + t992.size ≤ 9223372036854775807
  ·rw [if_pos c6] at H
   have c6b0 := eq_true c6
   have c6b1 : decide ((t990 ++ t991).size + t992.size ≤ 9223372036854775807) = true := decide_eq_true c6
   try have c6b2 : (9223372036854775807 < (t990 ++ t991).size + t992.size) = False := eq_false (Nat.not_lt.2 c6)
   (try have c6b3 := c6b2;simp only [ByteArray.size_append] at c6b3)
   replace H := Option.bind_eq_some_iff.mp H
   obtain ⟨t993,A70,H⟩ := H
   try dsimp only at H
   have A7 := am_ A70
   clear A70
   by_cases c8 : ((t990 ++ t991) ++ t992).size + t993.size ≤ 9223372036854775807
   ·rw [if_pos c8] at H
    have c8b0 := eq_true c8
    have c8b1 : decide (((t990 ++ t991) ++ t992).size + t993.size ≤ 9223372036854775807) = true := decide_eq_true c8
    try have c8b2 : (9223372036854775807 < ((t990 ++ t991) ++ t992).size + t993.size) = False := eq_false (Nat.not_lt.2 c8)
    (try have c8b3 := c8b2;simp only [ByteArray.size_append] at c8b3)
    obtain rfl := Option.some.inj H
    go_enter Tryd.func142,Tryd.ntmps142
    try go_wp2_with (first | ((with_reducible refine gate_dst (N := 1) rfl ?_);refine zbx (N := 1) (cs := #[.int .i64 a0_0,.int .i64 a0_1,.int .i64 a0_2,.int .i64 a0_3]) (t := 63) ?_;intro gb989 hg w9 hbox hb;have BK989 := am_ (hbox);have GW989 := zw_ HB hg;have GE989 := zw_ HB hg;replace HB := zs_ HB hb;clear hb hbox hg))
    replace BK989 := am_ (blk_drew BK989.out)
    replace HB := am_ (below_drew1 HB.out)
    refine start_ (n := 17) (S := fun w' => w'.cell? ⟨gb989,0,none⟩ = some (.int .i64 a0_0) ∧ w'.cell? ⟨gb989,1,none⟩ = some (.int .i64 a0_1) ∧ w'.cell? ⟨gb989,2,none⟩ = some (.int .i64 a0_2) ∧ w'.cell? ⟨gb989,3,none⟩ = some (.int .i64 a0_3)) (ds := []) #[false,false,false,false,false,false,false,false,false,false,false,false,false,false,false,false,false] (by kernel_rfl) rfl rfl ⟨(blk_cell BK989.out 0).trans rfl,(blk_cell BK989.out 1).trans rfl,(blk_cell BK989.out 2).trans rfl,(blk_cell BK989.out 3).trans rfl⟩ (fun hHeld => ?_);refine with_tabW impl_answerText.tab1 impl_answerText.bits1 (fun HT_ HW_ => ?_)
    generalize w9.drew = w10 at BK989 HB hHeld ⊢
    refine zpu 0 (N := some 3) HT_ ?_
    refine zpu 3 (N := some 6) HT_ ?_
    refine zpu 7 (N := some 10) HT_ ?_
    refine zpu 12 (N := some 15) HT_ ?_
    refine ztk 1 (N := some 4) HT_ HW_ hHeld ?_
    refine ztk 4 (N := some 7) HT_ HW_ hHeld ?_
    refine ztk 8 (N := some 11) HT_ HW_ hHeld ?_
    refine zpu 9 (N := some 12) HT_ ?_
    refine ztk 13 (N := some 16) HT_ HW_ hHeld ?_
    refine zon 2 (N := some 5) HT_ (fun K hK => ?_)
    refine zgo Tryd.func128 #[.int .i64 a0_0,.int .i64 1] ?_
    with_reducible refine (impl_number.calls k a0_0 1 t990 _ A2.out).mono ?_
    rintro e w11 ⟨rfl,hb⟩
    refine ⟨_,rfl,?_⟩
    replace BK989 := zb BK989 hb
    replace HB := zs_ HB hb
    (try clear hb)
    (try clear hb2)
    (try clear hk)
    (try clear hi)
    refine hK.out _ _ ⟨(blk_cell BK989.out 0).trans rfl,(blk_cell BK989.out 1).trans rfl,(blk_cell BK989.out 2).trans rfl,(blk_cell BK989.out 3).trans rfl⟩ (fun hHeld => ?_)
    clear hK K
    refine norm_ (a' := ?_) ?_ ?_
    rotate_left
    ·show Act.put _ (some 5) _ = _
     simp only [Act.put,p1_,p2_,p3_,i64_w,i32_w]
     rfl
    refine zon 5 (N := some 8) HT_ (fun K hK => ?_)
    refine zgo Tryd.func128 #[.int .i64 a0_1,.int .i64 3] ?_
    with_reducible refine (impl_number.calls k a0_1 3 t991 _ A3.out).mono ?_
    rintro e w12 ⟨rfl,hb⟩
    refine ⟨_,rfl,?_⟩
    replace BK989 := zb BK989 hb
    replace HB := zs_ HB hb
    (try clear hb)
    (try clear hb2)
    (try clear hk)
    (try clear hi)
    refine hK.out _ _ ⟨(blk_cell BK989.out 0).trans rfl,(blk_cell BK989.out 1).trans rfl,(blk_cell BK989.out 2).trans rfl,(blk_cell BK989.out 3).trans rfl⟩ (fun hHeld => ?_)
    clear hK K
    refine norm_ (a' := ?_) ?_ ?_
    rotate_left
    ·show Act.put _ (some 8) _ = _
     simp only [Act.put,p1_,p2_,p3_,i64_w,i32_w]
     rfl
    refine zpu 6 (N := some 9) HT_ ?_
    refine zon 10 (N := some 13) HT_ (fun K hK => ?_)
    refine zgo Tryd.func128 #[.int .i64 (wrap64 (a0_2 + 1)),.int .i64 2] ?_
    with_reducible refine (impl_number.calls k (wrap64 (a0_2 + 1)) 2 t992 _ A5.out).mono ?_
    rintro e w13 ⟨rfl,hb⟩
    refine ⟨_,rfl,?_⟩
    replace BK989 := zb BK989 hb
    replace HB := zs_ HB hb
    (try clear hb)
    (try clear hb2)
    (try clear hk)
    (try clear hi)
    refine hK.out _ _ ⟨(blk_cell BK989.out 0).trans rfl,(blk_cell BK989.out 1).trans rfl,(blk_cell BK989.out 2).trans rfl,(blk_cell BK989.out 3).trans rfl⟩ (fun hHeld => ?_)
    clear hK K
    refine norm_ (a' := ?_) ?_ ?_
    rotate_left
    ·show Act.put _ (some 13) _ = _
     simp only [Act.put,p1_,p2_,p3_,i64_w,i32_w]
     rfl
    refine zpu 11 (N := some 14) HT_ ?_
    refine zon 14 (N := some 17) HT_ (fun K hK => ?_)
    refine zgo Tryd.func128 #[.int .i64 a0_3,.int .i64 4] ?_
    with_reducible refine (impl_number.calls k a0_3 4 t993 _ A7.out).mono ?_
    rintro e w14 ⟨rfl,hb⟩
    refine ⟨_,rfl,?_⟩
    replace BK989 := zb BK989 hb
    replace HB := zs_ HB hb
    (try clear hb)
    (try clear hb2)
    (try clear hk)
    (try clear hi)
    refine hK.out _ _ ⟨(blk_cell BK989.out 0).trans rfl,(blk_cell BK989.out 1).trans rfl,(blk_cell BK989.out 2).trans rfl,(blk_cell BK989.out 3).trans rfl⟩ (fun hHeld => ?_)
    clear hK K
    refine norm_ (a' := ?_) ?_ ?_
    rotate_left
    ·show Act.put _ (some 17) _ = _
     simp only [Act.put,p1_,p2_,p3_,i64_w,i32_w]
     rfl
    refine zpu 15 (N := some 18) HT_ ?_
    refine zpu 16 (N := some 2) HT_ ?_
    refine done_ (done_of HT_.out (by kernel_rfl)) ?_
    try go_wp2
    go_ret
    exact ⟨zt_,zl_ HB⟩
   ·rw [if_neg c8] at H
    exact absurd H (by simp)
  ·rw [if_neg c6] at H
   exact absurd H (by simp)
 ·rw [if_neg c4] at H
  exact absurd H (by simp)
end Go.Proofs.YtlifdodphkimpaaDoor.B
end

section
namespace Go.Proofs.YtlifdodphkimpaaDoor.B
open Go.RowKit Go.Proofs.YtlifdodphkimpaaDoorW.PrintWords Go.Proofs.YtlifdodphkimpaaDoorW.PrintLast Go.Proofs.YtlifdodphkimpaaDoorW.PrintMore
/-- Block g holds the words l; they may be written. -/
structure Au (W : World) (g : Nat) (l : List Int) : Prop where
  cell : ∀ j, j < l.length → W.cell? ⟨g, j, none⟩ = some (.int .u32 (l.getD j 0))
  free : ∀ j, j < l.length → W.frozen? ⟨g, j, none⟩ = false
theorem Au.at {W W' : World} {g : Nat} {l : List Int} (h : Au W g l) (e : W'.heap[g]? = W.heap[g]?) : Au W' g l :=
  ⟨fun j hj => (World.cell?_of_block (a := ⟨g, j, none⟩) e).trans (h.cell j hj), fun j hj => (World.frozen?_of_block (a := ⟨g, j, none⟩) e).trans (h.free j hj)⟩
theorem Au.of_row {W : World} {g : Nat} (l : List Int) {e : Nat} (h : W.heap[g]? = some (.cells (l.map (Value.int .u32)).toArray e (0, 0))) : Au W g l := by
  refine ⟨fun j hj => ?_, fun j hj => ?_⟩
  · unfold World.cell?
    rw [h]
    simp [List.getD, List.getElem?_eq_getElem hj]
  · unfold World.frozen?
    rw [h]
    simp
theorem Au.set {W : World} {g : Nat} {l : List Int} (h : Au W g l) (j : Nat) (hj : j < l.length) (x : Int) : Au (W.setCell ⟨g, j, none⟩ (.int .u32 x)) g (l.set j x) := by
  refine ⟨fun i hi => ?_, fun i hi => ?_⟩
  · rw [List.length_set] at hi
    by_cases c : i = j
    · subst c
      rw [World.cell?_setCell_same _ _ _ (h.cell i hi)]
      simp [List.getD, hi]
    · rw [World.cell?_setCell_other _ _ _ _ (by simp <;> omega), h.cell i hi]
      simp [List.getD, List.getElem?_set, Ne.symm c]
  · rw [List.length_set] at hi
    rw [World.frozen?_setCell]
    exact h.free i hi
theorem setCell_old (W : World) (a : Addr) (v : Value) (k : Nat) (hk : k ≠ a.block) : (W.setCell a v).heap[k]? = W.heap[k]? := by
  simp [World.setCell, Array.getElem?_modify, Ne.symm hk]
theorem Au.far {W : World} {g g' : Nat} {l : List Int} (h : Au W g l) (hg : g ≠ g') (j : Nat) (v : Value) : Au (W.setCell ⟨g', j, none⟩ v) g l :=
  h.at (setCell_old W _ v g hg)
theorem Au.drew {W : World} {g : Nat} {l : List Int} (h : Au W g l) : Au W.drew g l := h.at rfl
theorem Au.drewN {W : World} {g : Nat} {l : List Int} (h : Au W g l) (n : Nat) : Au (W.drewN n) g l := h.at rfl
theorem Au.setCells {W : World} {g : Nat} {l : List Int} (h : Au W g l) (l' : List Int) (hl : l'.length = l.length) : Au (W.setCells g 0 (l'.map (Value.int .u32))) g l' := by
  refine ⟨fun j hj => ?_, fun j hj => ?_⟩
  · have := World.cell?_setCells_in g (l'.map (Value.int .u32)) 0 W (fun i hi => by rw [Nat.zero_add, h.cell i (by simpa [hl] using hi)]; rfl) j (by simpa using hj)
    rw [Nat.zero_add] at this
    rw [this]
    simp [List.getD, hj]
  · rw [World.frozen?_setCells]
    exact h.free j (by omega)
/-- What the block's walk keeps: its three arrays behind block n, and what was there. -/
structure Bk (w W : World) (n : Nat) (lh lr lw : List Int) : Prop where
  hh : Au W n lh
  hr : Au W (n + 1) lr
  hw : Au W (n + 2) lw
  below : Below n w W
  size : W.heap.size = n + 3
theorem w64id (x : Int) (h1 : -9223372036854775808 ≤ x) (h2 : x ≤ 9223372036854775807) : IntKind.i64.wrap x = x := by rw [IntKind.wrap_i64]; omega
theorem alloc_at (W : World) (o : Obj) (k : Nat) : (W.alloc o).heap[k]? = if k = W.heap.size then some o else W.heap[k]? := by
  simp [World.alloc, -World.alloc_eq, Array.getElem?_push]
theorem alloc_sz (W : World) (o : Obj) : (W.alloc o).heap.size = W.heap.size + 1 := by simp [World.alloc, -World.alloc_eq]
theorem Bk.start (w : World) (h a b : List Int) (t1 t2 t3 : Nat) :
    Bk w (((w.alloc (.cells (h.map (Value.int .u32)).toArray t1)).alloc (.cells (a.map (Value.int .u32)).toArray t2)).alloc (.cells (b.map (Value.int .u32)).toArray t3)) w.heap.size h a b := by
  refine ⟨Au.of_row (e := t1) _ ?_, Au.of_row (e := t2) _ ?_, Au.of_row (e := t3) _ ?_, ⟨rfl, rfl, rfl, ?_, fun k hk => ?_⟩, ?_⟩
  · rw [alloc_at, alloc_at, alloc_at, alloc_sz, alloc_sz, if_neg (by omega), if_neg (by omega), if_pos rfl]
  · rw [alloc_at, alloc_at, alloc_sz, alloc_sz, if_neg (by omega), if_pos rfl]
  · rw [alloc_at, alloc_sz, alloc_sz, if_pos rfl]
  · rw [alloc_sz, alloc_sz, alloc_sz]; omega
  · rw [alloc_at, alloc_at, alloc_at, alloc_sz, alloc_sz, if_neg (by omega), if_neg (by omega), if_neg (by omega)]
  · rw [alloc_sz, alloc_sz, alloc_sz]
theorem below_drew_h {w W : World} {n : Nat} (h : Below n w W) : Below n w W.drew := ⟨h.os, h.tape, h.output, h.size, h.block⟩
theorem below_set_h {w W : World} {n g j : Nat} {v : Value} (h : Below n w W) (hg : n ≤ g) : Below n w (W.setCell ⟨g, j, none⟩ v) :=
  ⟨h.os, h.tape, h.output, by simpa [World.setCell] using h.size, fun k hk => (setCell_old W _ v k (by dsimp only; omega)).trans (h.block k hk)⟩
/-- A store into the words. -/
theorem Bk.word {w W : World} {n : Nat} {lh lr lw : List Int} (h : Bk w W n lh lr lw) (j : Nat) (hj : j < lw.length) (x : Int) : Bk w (W.setCell ⟨n + 2, j, none⟩ (.int .u32 x)) n lh lr (lw.set j x) :=
  ⟨h.hh.far (by omega) j _, h.hr.far (by omega) j _, h.hw.set j hj x, below_set_h h.below (by omega), by simpa [World.setCell] using h.size⟩
theorem Bk.drew {w W : World} {n : Nat} {lh lr lw : List Int} (h : Bk w W n lh lr lw) : Bk w W.drew n lh lr lw :=
  ⟨h.hh.drew, h.hr.drew, h.hw.drew, below_drew_h h.below, h.size⟩
theorem Bk.old {w W : World} {n : Nat} {lh lr lw : List Int} (h : Bk w W n lh lr lw) {g j : Nat} {v : Value} (hg : g < n) (hc : w.cell? ⟨g, j, none⟩ = some v) : W.cell? ⟨g, j, none⟩ = some v :=
  (World.cell?_of_block (a := ⟨g, j, none⟩) (h.below.block g hg)).trans hc
theorem Bk.drewN {w W : World} {n : Nat} {lh lr lw : List Int} (h : Bk w W n lh lr lw) (m : Nat) : Bk w (W.drewN m) n lh lr lw :=
  ⟨h.hh.drewN m, h.hr.drewN m, h.hw.drewN m, ⟨h.below.os, h.below.tape, h.below.output, h.below.size, h.below.block⟩, h.size⟩
/-- .. with the eight letters behind them. -/
structure Bk2 (w W : World) (n : Nat) (lh lr lw la : List Int) : Prop where
  hh : Au W n lh
  hr : Au W (n + 1) lr
  hw : Au W (n + 2) lw
  ha : Au W (n + 3) la
  below : Below n w W
theorem Bk2.start {w W : World} {n : Nat} {lh lr lw : List Int} (h : Bk w W n lh lr lw) (la : List Int) (t : Nat) : Bk2 w (W.alloc (.cells (la.map (Value.int .u32)).toArray t)) n lh lr lw la := by
  have hs := h.size
  have e : ∀ k, k < n + 3 → (W.alloc (.cells (la.map (Value.int .u32)).toArray t)).heap[k]? = W.heap[k]? := fun k hk => by rw [alloc_at, if_neg (by omega)]
  refine ⟨h.hh.at (e _ (by omega)), h.hr.at (e _ (by omega)), h.hw.at (e _ (by omega)), Au.of_row (e := t) _ ?_, ⟨h.below.os, h.below.tape, h.below.output, ?_, fun k hk => (e k (by omega)).trans (h.below.block k hk)⟩⟩
  · rw [alloc_at, if_pos (by omega)]
  · rw [alloc_sz]; have := h.below.size; omega
theorem Bk2.drewN {w W : World} {n : Nat} {lh lr lw la : List Int} (h : Bk2 w W n lh lr lw la) (m : Nat) : Bk2 w (W.drewN m) n lh lr lw la :=
  ⟨h.hh.drewN m, h.hr.drewN m, h.hw.drewN m, h.ha.drewN m, ⟨h.below.os, h.below.tape, h.below.output, h.below.size, h.below.block⟩⟩
theorem Bk2.drew {w W : World} {n : Nat} {lh lr lw la : List Int} (h : Bk2 w W n lh lr lw la) : Bk2 w W.drew n lh lr lw la :=
  ⟨h.hh.drew, h.hr.drew, h.hw.drew, h.ha.drew, below_drew_h h.below⟩
theorem Bk2.set {w W : World} {n : Nat} {lh lr lw la : List Int} (h : Bk2 w W n lh lr lw la) (j : Nat) (hj : j < la.length) (x : Int) : Bk2 w (W.setCell ⟨n + 3, j, none⟩ (.int .u32 x)) n lh lr lw (la.set j x) :=
  ⟨h.hh.far (by omega) j _, h.hr.far (by omega) j _, h.hw.far (by omega) j _, h.ha.set j hj x, below_set_h h.below (by omega)⟩
theorem Bk2.head {w W : World} {n : Nat} {lh lr lw la : List Int} (h : Bk2 w W n lh lr lw la) (j : Nat) (hj : j < lh.length) (x : Int) : Bk2 w (W.setCell ⟨n, j, none⟩ (.int .u32 x)) n (lh.set j x) lr lw la :=
  ⟨h.hh.set j hj x, h.hr.far (by omega) j _, h.hw.far (by omega) j _, h.ha.far (by omega) j _, below_set_h h.below (by omega)⟩
theorem Bk2.out {w W : World} {n : Nat} {lh lr lw la : List Int} (h : Bk2 w W n lh lr lw la) (j : Nat) (hj : j < lr.length) (x : Int) : Bk2 w (W.setCell ⟨n + 1, j, none⟩ (.int .u32 x)) n lh (lr.set j x) lw la :=
  ⟨h.hh.far (by omega) j _, h.hr.set j hj x, h.hw.far (by omega) j _, h.ha.far (by omega) j _, below_set_h h.below (by omega)⟩
theorem Bk2.old {w W : World} {n : Nat} {lh lr lw la : List Int} (h : Bk2 w W n lh lr lw la) {g j : Nat} {v : Value} (hg : g < n) (hc : w.cell? ⟨g, j, none⟩ = some v) : W.cell? ⟨g, j, none⟩ = some v :=
  (World.cell?_of_block (a := ⟨g, j, none⟩) (h.below.block g hg)).trans hc
/-- Eight words, cell for cell. -/
theorem Au.eight {W : World} {g : Nat} {a0 a1 a2 a3 a4 a5 a6 a7 : Int} (h : Au W g [a0, a1, a2, a3, a4, a5, a6, a7]) :
    (W.cell? ⟨g, 0, none⟩ = some (.int .u32 a0) ∧ W.cell? ⟨g, 1, none⟩ = some (.int .u32 a1) ∧ W.cell? ⟨g, 2, none⟩ = some (.int .u32 a2) ∧ W.cell? ⟨g, 3, none⟩ = some (.int .u32 a3) ∧ W.cell? ⟨g, 4, none⟩ = some (.int .u32 a4) ∧ W.cell? ⟨g, 5, none⟩ = some (.int .u32 a5) ∧ W.cell? ⟨g, 6, none⟩ = some (.int .u32 a6) ∧ W.cell? ⟨g, 7, none⟩ = some (.int .u32 a7)) ∧
    (W.frozen? ⟨g, 0, none⟩ = false ∧ W.frozen? ⟨g, 1, none⟩ = false ∧ W.frozen? ⟨g, 2, none⟩ = false ∧ W.frozen? ⟨g, 3, none⟩ = false ∧ W.frozen? ⟨g, 4, none⟩ = false ∧ W.frozen? ⟨g, 5, none⟩ = false ∧ W.frozen? ⟨g, 6, none⟩ = false ∧ W.frozen? ⟨g, 7, none⟩ = false) :=
  ⟨⟨h.cell 0 (by simp), h.cell 1 (by simp), h.cell 2 (by simp), h.cell 3 (by simp), h.cell 4 (by simp), h.cell 5 (by simp), h.cell 6 (by simp), h.cell 7 (by simp)⟩,
   ⟨h.free 0 (by simp), h.free 1 (by simp), h.free 2 (by simp), h.free 3 (by simp), h.free 4 (by simp), h.free 5 (by simp), h.free 6 (by simp), h.free 7 (by simp)⟩⟩
theorem eight {l : List Int} (h : l.length = 8) : ∃ a0 a1 a2 a3 a4 a5 a6 a7, l = [a0, a1, a2, a3, a4, a5, a6, a7] := by
  match l, h with
  | [a0, a1, a2, a3, a4, a5, a6, a7], _ => exact ⟨a0, a1, a2, a3, a4, a5, a6, a7, rfl⟩
theorem u32w_h (x : Int) : IntKind.u32.wrap x = x % 4294967296 := by unfold IntKind.wrap; simp [IntKind.bits, IntKind.signed]
theorem or_comm_h (k : IntKind) (x y : Int) : Go.bits .or k x y = Go.bits .or k y x := by
  unfold Go.bits
  simp only [BitVec.or_comm]
/-- What a turn answers. -/
def turnH (x n : Int) : Int := Go.bits .or .u32 (shr .u32 x n) (shl .u32 x (32 - n))
theorem sturn2 (x : Int) : spec_l01Turn.f x 2 = some (turnH x 2) := by
  unfold spec_l01Turn.f
  rw [if_pos (by decide), show IntKind.u64.wrap (32 - 2) = 30 from by kernel_rfl, if_pos (by decide)]
  rfl
theorem sturn6 (x : Int) : spec_l01Turn.f x 6 = some (turnH x 6) := by
  unfold spec_l01Turn.f
  rw [if_pos (by decide), show IntKind.u64.wrap (32 - 6) = 26 from by kernel_rfl, if_pos (by decide)]
  rfl
theorem sturn7 (x : Int) : spec_l01Turn.f x 7 = some (turnH x 7) := by
  unfold spec_l01Turn.f
  rw [if_pos (by decide), show IntKind.u64.wrap (32 - 7) = 25 from by kernel_rfl, if_pos (by decide)]
  rfl
theorem sturn11 (x : Int) : spec_l01Turn.f x 11 = some (turnH x 11) := by
  unfold spec_l01Turn.f
  rw [if_pos (by decide), show IntKind.u64.wrap (32 - 11) = 21 from by kernel_rfl, if_pos (by decide)]
  rfl
theorem sturn13 (x : Int) : spec_l01Turn.f x 13 = some (turnH x 13) := by
  unfold spec_l01Turn.f
  rw [if_pos (by decide), show IntKind.u64.wrap (32 - 13) = 19 from by kernel_rfl, if_pos (by decide)]
  rfl
theorem sturn17 (x : Int) : spec_l01Turn.f x 17 = some (turnH x 17) := by
  unfold spec_l01Turn.f
  rw [if_pos (by decide), show IntKind.u64.wrap (32 - 17) = 15 from by kernel_rfl, if_pos (by decide)]
  rfl
theorem sturn18 (x : Int) : spec_l01Turn.f x 18 = some (turnH x 18) := by
  unfold spec_l01Turn.f
  rw [if_pos (by decide), show IntKind.u64.wrap (32 - 18) = 14 from by kernel_rfl, if_pos (by decide)]
  rfl
theorem sturn19 (x : Int) : spec_l01Turn.f x 19 = some (turnH x 19) := by
  unfold spec_l01Turn.f
  rw [if_pos (by decide), show IntKind.u64.wrap (32 - 19) = 13 from by kernel_rfl, if_pos (by decide)]
  rfl
theorem sturn22 (x : Int) : spec_l01Turn.f x 22 = some (turnH x 22) := by
  unfold spec_l01Turn.f
  rw [if_pos (by decide), show IntKind.u64.wrap (32 - 22) = 10 from by kernel_rfl, if_pos (by decide)]
  rfl
theorem sturn25 (x : Int) : spec_l01Turn.f x 25 = some (turnH x 25) := by
  unfold spec_l01Turn.f
  rw [if_pos (by decide), show IntKind.u64.wrap (32 - 25) = 7 from by kernel_rfl, if_pos (by decide)]
  rfl
set_option maxHeartbeats 8000000 in
set_option maxRecDepth 100000 in
theorem sturn_same (a0 : Int) (a1 : Int) (r : Int) (w : World) (h : spec_l01Turn.f a0 a1 = some r) :
    Calls Tryd.prog 179 #[.int .u32 a0, .int .u64 a1] w fun e w' => e = .returned (.int .u32 r) ∧ w' = w := by
  have H : (if 0 ≤ a1 then (if 0 ≤ (IntKind.u64.wrap (32 - a1)) then (some (Go.bits .or .u32 (shr .u32 a0 a1) (shl .u32 a0 (IntKind.u64.wrap (32 - a1))))) else (none)) else (none)) = some r := h
  clear h
  by_cases c3 : 0 ≤ a1
  · rw [if_pos c3] at H
    have c3b0 := eq_true c3
    have c3b1 : decide (0 ≤ a1) = true := decide_eq_true c3
    clear c3
    obtain ⟨ji4, hji4⟩ : ∃ j_ : Int, (shr .u32 a0 a1) = j_ := ⟨_, rfl⟩
    replace H : (if 0 ≤ (IntKind.u64.wrap (32 - a1)) then (some (Go.bits .or .u32 (ji4) (shl .u32 a0 (IntKind.u64.wrap (32 - a1))))) else (none)) = some r := by first | (rw [hji4] at H; exact H) | (simp only [hji4] at H ⊢; exact H)
    have hji4_ : (a0 / 2 ^ min a1.toNat 32) = ji4 := hji4
    have hji4z : a1 ≤ 32 → (a0 / 2 ^ a1.toNat) = ji4 := shr_small hji4
    obtain ⟨ji5, hji5⟩ : ∃ j_ : Int, (IntKind.u64.wrap (32 - a1)) = j_ := ⟨_, rfl⟩
    replace H : (if 0 ≤ (ji5) then (some (Go.bits .or .u32 (ji4) (shl .u32 a0 (ji5)))) else (none)) = some r := by first | (rw [hji5] at H; exact H) | (simp only [hji5] at H ⊢; exact H)
    by_cases c6 : 0 ≤ (ji5)
    · rw [if_pos c6] at H
      have c6b0 := eq_true c6
      have c6b1 : decide (0 ≤ (ji5)) = true := decide_eq_true c6
      clear c6
      obtain ⟨ji7, hji7⟩ : ∃ j_ : Int, (shl .u32 a0 (ji5)) = j_ := ⟨_, rfl⟩
      replace H : (some (Go.bits .or .u32 (ji4) (ji7))) = some r := by first | (rw [hji7] at H; exact H) | (simp only [hji7] at H ⊢; exact H)
      have hji7_ : (IntKind.u32.wrap (a0 * 2 ^ min (ji5).toNat 32)) = ji7 := hji7
      have hji7z : (ji5) ≤ 32 → (IntKind.u32.wrap (a0 * 2 ^ (ji5).toNat)) = ji7 := shl_small hji7
      obtain rfl := Option.some.inj H
      go_enter Tryd.func179, Tryd.ntmps179
      go_wp2
      go_ret
      exact ⟨by first | rfl | (simp; done) | (simp only [← hji4, ← hji5, ← hji7] <;> (first | rfl | simp)) | (simp [*]; done), rfl⟩
    · rw [if_neg c6] at H
      exact absurd H (by simp)
  · rw [if_neg c3] at H
    exact absurd H (by simp)
theorem stn2 (x : Int) (w : World) : Calls Tryd.prog 179 #[.int .u32 x, .int .u64 2] w fun e w' => e = .returned (.int .u32 (turnH x 2)) ∧ w' = w := sturn_same x 2 _ w (sturn2 x)
theorem stn6 (x : Int) (w : World) : Calls Tryd.prog 179 #[.int .u32 x, .int .u64 6] w fun e w' => e = .returned (.int .u32 (turnH x 6)) ∧ w' = w := sturn_same x 6 _ w (sturn6 x)
theorem stn7 (x : Int) (w : World) : Calls Tryd.prog 179 #[.int .u32 x, .int .u64 7] w fun e w' => e = .returned (.int .u32 (turnH x 7)) ∧ w' = w := sturn_same x 7 _ w (sturn7 x)
theorem stn11 (x : Int) (w : World) : Calls Tryd.prog 179 #[.int .u32 x, .int .u64 11] w fun e w' => e = .returned (.int .u32 (turnH x 11)) ∧ w' = w := sturn_same x 11 _ w (sturn11 x)
theorem stn13 (x : Int) (w : World) : Calls Tryd.prog 179 #[.int .u32 x, .int .u64 13] w fun e w' => e = .returned (.int .u32 (turnH x 13)) ∧ w' = w := sturn_same x 13 _ w (sturn13 x)
theorem stn17 (x : Int) (w : World) : Calls Tryd.prog 179 #[.int .u32 x, .int .u64 17] w fun e w' => e = .returned (.int .u32 (turnH x 17)) ∧ w' = w := sturn_same x 17 _ w (sturn17 x)
theorem stn18 (x : Int) (w : World) : Calls Tryd.prog 179 #[.int .u32 x, .int .u64 18] w fun e w' => e = .returned (.int .u32 (turnH x 18)) ∧ w' = w := sturn_same x 18 _ w (sturn18 x)
theorem stn19 (x : Int) (w : World) : Calls Tryd.prog 179 #[.int .u32 x, .int .u64 19] w fun e w' => e = .returned (.int .u32 (turnH x 19)) ∧ w' = w := sturn_same x 19 _ w (sturn19 x)
theorem stn22 (x : Int) (w : World) : Calls Tryd.prog 179 #[.int .u32 x, .int .u64 22] w fun e w' => e = .returned (.int .u32 (turnH x 22)) ∧ w' = w := sturn_same x 22 _ w (sturn22 x)
theorem stn25 (x : Int) (w : World) : Calls Tryd.prog 179 #[.int .u32 x, .int .u64 25] w fun e w' => e = .returned (.int .u32 (turnH x 25)) ∧ w' = w := sturn_same x 25 _ w (sturn25 x)
theorem w64n (x : Int) (h1 : -9223372036854775808 ≤ x) (h2 : x ≤ 9223372036854775807) : wrap64 x = x := (i64_w x).symm.trans (w64id x h1 h2)
def word4 (x0 x1 x2 x3 : Int) : Int := Go.bits .or .u32 (Go.bits .or .u32 (Go.bits .or .u32 (IntKind.u32.wrap (IntKind.u32.wrap x0 * 16777216)) (IntKind.u32.wrap (IntKind.u32.wrap x1 * 65536))) (IntKind.u32.wrap (IntKind.u32.wrap x2 * 256))) (IntKind.u32.wrap x3)
theorem step0 (h bs ks ws : List Int) (i : Nat) (r : List Int) (hb : bs.length = 64) (hw : ws.length = 64) (hi : i < 16) (H : spec_l01Block.lv0 h bs ks ws i = some r) :
    spec_l01Block.lv0 h bs ks (ws.set i (word4 (bs.getD (4 * i) 0) (bs.getD (4 * i + 1) 0) (bs.getD (4 * i + 2) 0) (bs.getD (4 * i + 3) 0))) ((i + 1 : Nat) : Int) = some r := by
  have c1 : (i : Int) < 16 := by omega
  have c2 : (0 : Int) ≤ 4 * (i : Int) := by omega
  have c3 : 4 * (i : Int) < (bs.length : Int) := by omega
  have c4 : (0 : Int) ≤ 4 * (i : Int) + 1 := by omega
  have c5 : 4 * (i : Int) + 1 < (bs.length : Int) := by omega
  have c6 : (0 : Int) ≤ 4 * (i : Int) + 2 := by omega
  have c7 : 4 * (i : Int) + 2 < (bs.length : Int) := by omega
  have c8 : (0 : Int) ≤ 4 * (i : Int) + 3 := by omega
  have c9 : 4 * (i : Int) + 3 < (bs.length : Int) := by omega
  have d1 : (0 : Int) ≤ (i : Int) := by omega
  have d2 : (i : Int) < (ws.length : Int) := by omega
  have e0 : (4 * (i : Int)).toNat = 4 * i := by omega
  have e1 : (4 * (i : Int) + 1).toNat = 4 * i + 1 := by omega
  have e2 : (4 * (i : Int) + 2).toNat = 4 * i + 2 := by omega
  have e3 : (4 * (i : Int) + 3).toNat = 4 * i + 3 := by omega
  have w : wrap64 ((i : Int) + 1) = ((i + 1 : Nat) : Int) := by rw [w64n _ (by omega) (by omega)]; omega
  have w0 : wrap64 (4 * (i : Int)) = 4 * (i : Int) := w64n _ (by omega) (by omega)
  have w1 : wrap64 (4 * (i : Int) + 1) = 4 * (i : Int) + 1 := w64n _ (by omega) (by omega)
  have w2 : wrap64 (4 * (i : Int) + 2) = 4 * (i : Int) + 2 := w64n _ (by omega) (by omega)
  have w3 : wrap64 (4 * (i : Int) + 3) = 4 * (i : Int) + 3 := w64n _ (by omega) (by omega)
  rw [spec_l01Block.lv0_eq] at H
  simp only [w, w0, w1, w2, w3, if_pos c1, if_pos c2, if_pos c3, if_pos c4, if_pos c5, if_pos c6, if_pos c7, if_pos c8, if_pos c9, if_pos d1, if_pos d2, rd, e0, e1, e2, e3, Int.toNat_natCast] at H
  simpa only [word4, u32w_h] using H
theorem exit0 (h bs ks ws : List Int) (r : List Int) (i : Int) (hi : ¬ i < 16) (H : spec_l01Block.lv0 h bs ks ws i = some r) : spec_l01Block.lv1 h ks ws ((16 : Nat) : Int) = some r := by
  rw [spec_l01Block.lv0_eq, if_neg hi] at H
  rw [show ((16 : Nat) : Int) = 16 from rfl]
  exact H
def wordX (a b c d : Int) : Int := (a + b + c + d) % 4294967296
def sig (x p q s : Int) : Int := Go.bits .xor .u32 (Go.bits .xor .u32 (turnH x p) (turnH x q)) s
theorem sub_nat (i k : Nat) (h : k ≤ i) : ((i : Int) - (k : Int)).toNat = i - k := by omega
theorem wsub (i k : Nat) (hk : k ≤ i) (hi : i ≤ 64) : wrap64 ((i : Int) - (k : Int)) = (i : Int) - (k : Int) := w64n _ (by omega) (by omega)
theorem wadd (i : Nat) (hi : i ≤ 64) : wrap64 ((i : Int) + 1) = ((i + 1 : Nat) : Int) := by rw [w64n _ (by omega) (by omega)]; omega
theorem step1 (h ks ws : List Int) (i : Nat) (r : List Int) (hw : ws.length = 64) (h16 : 16 ≤ i) (hi : i < 64) (H : spec_l01Block.lv1 h ks ws i = some r) :
    spec_l01Block.lv1 h ks (ws.set i (wordX (ws.getD (i - 16) 0) (sig (ws.getD (i - 15) 0) 7 18 (ws.getD (i - 15) 0 / 8)) (ws.getD (i - 7) 0) (sig (ws.getD (i - 2) 0) 17 19 (ws.getD (i - 2) 0 / 1024)))) ((i + 1 : Nat) : Int) = some r := by
  have g1 : 15 ≤ i := by omega
  have g2 : 2 ≤ i := by omega
  have g3 : 7 ≤ i := by omega
  have g4 : i ≤ 64 := by omega
  have c1 : (i : Int) < 64 := by omega
  have c2 : (0 : Int) ≤ (i : Int) - 15 := by omega
  have c3 : (i : Int) - 15 < (ws.length : Int) := by omega
  have c4 : (0 : Int) ≤ (i : Int) - 2 := by omega
  have c5 : (i : Int) - 2 < (ws.length : Int) := by omega
  have c6 : (0 : Int) ≤ (i : Int) - 16 := by omega
  have c7 : (i : Int) - 16 < (ws.length : Int) := by omega
  have c8 : (0 : Int) ≤ (i : Int) - 7 := by omega
  have c9 : (i : Int) - 7 < (ws.length : Int) := by omega
  have d1 : (0 : Int) ≤ (i : Int) := by omega
  have d2 : (i : Int) < (ws.length : Int) := by omega
  have e0 : ((i : Int) - 15).toNat = i - 15 := sub_nat i 15 g1
  have e1 : ((i : Int) - 2).toNat = i - 2 := sub_nat i 2 g2
  have e2 : ((i : Int) - 16).toNat = i - 16 := sub_nat i 16 h16
  have e3 : ((i : Int) - 7).toNat = i - 7 := sub_nat i 7 g3
  have w : wrap64 ((i : Int) + 1) = ((i + 1 : Nat) : Int) := wadd i g4
  have w1 : wrap64 ((i : Int) - 15) = (i : Int) - 15 := wsub i 15 g1 g4
  have w2 : wrap64 ((i : Int) - 2) = (i : Int) - 2 := wsub i 2 g2 g4
  have w3 : wrap64 ((i : Int) - 16) = (i : Int) - 16 := wsub i 16 h16 g4
  have w4 : wrap64 ((i : Int) - 7) = (i : Int) - 7 := wsub i 7 g3 g4
  rw [spec_l01Block.lv1_eq] at H
  simp only [w, w1, w2, w3, w4, if_pos c1, if_pos c2, if_pos c3, if_pos c4, if_pos c5, if_pos c6, if_pos c7, if_pos c8, if_pos c9, if_pos d1, if_pos d2, spec_l01Turn.v, sturn7, sturn18, sturn17, sturn19, Option.bind_some, rd, e0, e1, e2, e3, Int.toNat_natCast] at H
  simpa only [wordX, sig, u32w_h, Int.emod_add_emod] using H
theorem exit1 (h ks ws : List Int) (r : List Int) (hh : h.length = 8) (i : Int) (hi : ¬ i < 64) (H : spec_l01Block.lv1 h ks ws i = some r) : spec_l01Block.lv2 h ks ws h ((0 : Nat) : Int) = some r := by
  rw [spec_l01Block.lv1_eq, if_neg hi, Option.bind_some, if_pos (by simp; omega), List.nil_append] at H
  rw [show ((0 : Nat) : Int) = 0 from rfl]
  exact H
theorem ch_bv (n : Nat) (o e f g : BitVec n) (ho : o = BitVec.allOnes n) : (e &&& f) ^^^ ((o ^^^ e) &&& g) = (e &&& f) ||| ((o ^^^ e) &&& g) := by
  subst ho
  apply BitVec.eq_of_getLsbD_eq
  intro j hj
  simp only [BitVec.getLsbD_xor, BitVec.getLsbD_and, BitVec.getLsbD_or, BitVec.getLsbD_allOnes, hj, decide_true]
  cases e.getLsbD j <;> cases f.getLsbD j <;> cases g.getLsbD j <;> rfl
theorem bits_of (b : BitVec IntKind.u32.bits) : BitVec.ofInt IntKind.u32.bits (IntKind.u32.wrap (b.toNat : Int)) = b := by
  have := b.isLt
  rw [show (2 ^ IntKind.u32.bits : Nat) = 4294967296 from rfl] at this
  rw [u32w_h, Int.emod_eq_of_lt (by omega) (by omega)]
  simp
theorem and_back (x y : Int) : BitVec.ofInt IntKind.u32.bits (Go.bits .and .u32 x y) = BitVec.ofInt IntKind.u32.bits x &&& BitVec.ofInt IntKind.u32.bits y := bits_of _
theorem xor_back (x y : Int) : BitVec.ofInt IntKind.u32.bits (Go.bits .xor .u32 x y) = BitVec.ofInt IntKind.u32.bits x ^^^ BitVec.ofInt IntKind.u32.bits y := bits_of _
theorem ch_eq (e f g : Int) : Go.bits .xor .u32 (Go.bits .and .u32 e f) (Go.bits .and .u32 (Go.bits .xor .u32 4294967295 e) g) = Go.bits .or .u32 (Go.bits .and .u32 e f) (Go.bits .and .u32 (Go.bits .xor .u32 4294967295 e) g) := by
  have h : ∀ x y : Int, BitVec.ofInt IntKind.u32.bits x ^^^ BitVec.ofInt IntKind.u32.bits y = BitVec.ofInt IntKind.u32.bits x ||| BitVec.ofInt IntKind.u32.bits y → Go.bits .xor .u32 x y = Go.bits .or .u32 x y := by
    intro x y h
    show IntKind.u32.wrap ((BitVec.ofInt IntKind.u32.bits x ^^^ BitVec.ofInt IntKind.u32.bits y).toNat : Int) = IntKind.u32.wrap ((BitVec.ofInt IntKind.u32.bits x ||| BitVec.ofInt IntKind.u32.bits y).toNat : Int)
    rw [h]
  apply h
  rw [and_back, and_back, xor_back]
  exact ch_bv _ _ _ _ _ (by decide)
def pF (a7 e f g k x : Int) : Int := (a7 + sig e 6 11 (turnH e 25) + Go.bits .or .u32 (Go.bits .and .u32 e f) (Go.bits .and .u32 (Go.bits .xor .u32 4294967295 e) g) + k + x)
def qF (a b c : Int) : Int := (sig a 2 13 (turnH a 22) + Go.bits .xor .u32 (Go.bits .xor .u32 (Go.bits .and .u32 a b) (Go.bits .and .u32 a c)) (Go.bits .and .u32 b c))
theorem step2 (h ks ws : List Int) (a0 a1 a2 a3 a4 a5 a6 a7 : Int) (i : Nat) (r : List Int) (hw : ws.length = 64) (hk : ks.length = 64) (hi : i < 64) (H : spec_l01Block.lv2 h ks ws [a0, a1, a2, a3, a4, a5, a6, a7] i = some r) :
    spec_l01Block.lv2 h ks ws [(pF a7 a4 a5 a6 (ks.getD i 0) (ws.getD i 0) + qF a0 a1 a2) % 4294967296, a0, a1, a2, (a3 + pF a7 a4 a5 a6 (ks.getD i 0) (ws.getD i 0)) % 4294967296, a4, a5, a6] ((i + 1 : Nat) : Int) = some r := by
  have c1 : (i : Int) < 64 := by omega
  have c7 : (0 : Int) ≤ (i : Int) := by omega
  have c8 : (i : Int) < (ks.length : Int) := by omega
  have c9 : (i : Int) < (ws.length : Int) := by omega
  have w : wrap64 ((i : Int) + 1) = ((i + 1 : Nat) : Int) := wadd i (by omega)
  have l : ([a0, a1, a2, a3, a4, a5, a6, a7] : List Int).length = 8 := rfl
  rw [spec_l01Block.lv2_eq] at H
  have k0 : (4 : Int) < ((8 : Nat) : Int) := by decide
  have k1 : (0 : Int) < ((8 : Nat) : Int) := by decide
  have k2 : (7 : Int) < ((8 : Nat) : Int) := by decide
  have k3 : (5 : Int) < ((8 : Nat) : Int) := by decide
  have k4 : (6 : Int) < ((8 : Nat) : Int) := by decide
  have k5 : (1 : Int) < ((8 : Nat) : Int) := by decide
  have k6 : (2 : Int) < ((8 : Nat) : Int) := by decide
  have k7 : (3 : Int) < ((8 : Nat) : Int) := by decide
  have r0 : rd [a0, a1, a2, a3, a4, a5, a6, a7] 0 = a0 := rfl
  have r1 : rd [a0, a1, a2, a3, a4, a5, a6, a7] 1 = a1 := rfl
  have r2 : rd [a0, a1, a2, a3, a4, a5, a6, a7] 2 = a2 := rfl
  have r3 : rd [a0, a1, a2, a3, a4, a5, a6, a7] 3 = a3 := rfl
  have r4 : rd [a0, a1, a2, a3, a4, a5, a6, a7] 4 = a4 := rfl
  have r5 : rd [a0, a1, a2, a3, a4, a5, a6, a7] 5 = a5 := rfl
  have r6 : rd [a0, a1, a2, a3, a4, a5, a6, a7] 6 = a6 := rfl
  have r7 : rd [a0, a1, a2, a3, a4, a5, a6, a7] 7 = a7 := rfl
  have rk : rd ks (i : Int) = ks.getD i 0 := by simp [rd]
  have rw_ : rd ws (i : Int) = ws.getD i 0 := by simp [rd]
  simp only [l, w, r0, r1, r2, r3, r4, r5, r6, r7, rk, rw_, if_pos c1, if_pos c7, if_pos c8, if_pos c9, if_pos k0, if_pos k1, if_pos k2, if_pos k3, if_pos k4, if_pos k5, if_pos k6, if_pos k7, spec_l01Turn.v, sturn6, sturn11, sturn25, sturn2, sturn13, sturn22, Option.bind_some, ch_eq] at H
  simpa only [pF, qF, sig, u32w_h, Int.emod_add_emod, Int.add_emod_emod] using H
theorem u32max_h : IntKind.u32.max = 4294967295 := by decide
def pW (a7 e f g k x : Int) : Int := IntKind.u32.wrap (IntKind.u32.wrap (IntKind.u32.wrap (IntKind.u32.wrap (a7 + sig e 6 11 (turnH e 25)) + Go.bits .or .u32 (Go.bits .and .u32 e f) (Go.bits .and .u32 (Go.bits .xor .u32 IntKind.u32.max e) g)) + k) + x)
def qW (a b c : Int) : Int := IntKind.u32.wrap (sig a 2 13 (turnH a 22) + Go.bits .xor .u32 (Go.bits .xor .u32 (Go.bits .and .u32 a b) (Go.bits .and .u32 a c)) (Go.bits .and .u32 b c))
theorem step2w (h ks ws : List Int) (a0 a1 a2 a3 a4 a5 a6 a7 : Int) (i : Nat) (r : List Int) (hw : ws.length = 64) (hk : ks.length = 64) (hi : i < 64) (xk xw xp xq : Int) (hxk : ks.getD i 0 = xk) (hxw : ws.getD i 0 = xw) (hp : pW a7 a4 a5 a6 xk xw = xp) (hq : qW a0 a1 a2 = xq) (H : spec_l01Block.lv2 h ks ws [a0, a1, a2, a3, a4, a5, a6, a7] i = some r) :
    spec_l01Block.lv2 h ks ws [(xp + xq) % 4294967296, a0, a1, a2, (a3 + xp) % 4294967296, a4, a5, a6] ((i + 1 : Nat) : Int) = some r := by
  have := step2 h ks ws a0 a1 a2 a3 a4 a5 a6 a7 i r hw hk hi H
  rw [hxk, hxw] at this
  rw [← this, ← hp, ← hq]
  simp only [pW, qW, pF, qF, u32w_h, u32max_h, Int.emod_add_emod, Int.add_emod_emod]
def pX (a7 e f g k x : Int) : Int := IntKind.u32.wrap (IntKind.u32.wrap (IntKind.u32.wrap (IntKind.u32.wrap (a7 + sig e 6 11 (turnH e 25)) + Go.bits .xor .u32 (Go.bits .and .u32 e f) (Go.bits .and .u32 (Go.bits .xor .u32 IntKind.u32.max e) g)) + k) + x)
theorem pX_eq (a7 e f g k x : Int) : pX a7 e f g k x = pW a7 e f g k x := by
  unfold pX pW
  rw [u32max_h, ch_eq]
theorem exit2 (h ks ws v : List Int) (r : List Int) (i : Int) (hi : ¬ i < 64) (H : spec_l01Block.lv2 h ks ws v i = some r) : spec_l01Block.lv3 h v ((0 : Nat) : Int) = some r := by
  rw [spec_l01Block.lv2_eq, if_neg hi] at H
  rw [show ((0 : Nat) : Int) = 0 from rfl]
  exact H
theorem step3 (h v : List Int) (i : Nat) (r : List Int) (hh : h.length = 8) (hv : v.length = 8) (hi : i < 8) (H : spec_l01Block.lv3 h v i = some r) :
    spec_l01Block.lv3 (h.set i (IntKind.u32.wrap (h.getD i 0 + v.getD i 0))) v ((i + 1 : Nat) : Int) = some r := by
  have g0 : (i : Int) < 8 := by omega
  have g1 : (0 : Int) ≤ i := by omega
  have g2 : (i : Int) < (h.length : Int) := by omega
  have g3 : (i : Int) < (v.length : Int) := by omega
  have w : wrap64 ((i : Int) + 1) = ((i + 1 : Nat) : Int) := wadd i (by omega)
  have r0 : rd h (i : Int) = h.getD i 0 := by simp [rd]
  have r1 : rd v (i : Int) = v.getD i 0 := by simp [rd]
  rw [spec_l01Block.lv3_eq, w, if_pos g0, if_pos g1, if_pos g2, if_pos g3, r0, r1] at H
  simpa only [u32w_h, Int.toNat_natCast] using H
theorem exit3 (h v : List Int) (r : List Int) (i : Int) (hi : ¬ i < 8) (H : spec_l01Block.lv3 h v i = some r) : h = r := by
  rw [spec_l01Block.lv3_eq, if_neg hi] at H
  exact Option.some.inj H
theorem start0 (h bs ks : List Int) (r : List Int) (H : spec_l01Block.v h bs ks = some r) : spec_l01Block.lv0 h bs ks (List.replicate 64 0) ((0 : Nat) : Int) = some r := by
  rw [spec_l01Block.v_eq] at H
  split at H
  · rw [if_pos (by omega)] at H
    rw [show ((0 : Nat) : Int) = 0 from rfl]
    exact H
  · cases H
set_option maxHeartbeats 8000000 in
set_option maxRecDepth 100000 in
theorem rot_same (a0 : Int) (a1 : Int) (r : Int) (w : World) (h : bits_RotateLeft32.f a0 a1 = some r) :
    Calls Tryd.prog 196 #[.int .u32 a0, .int .i64 a1] w fun e w' => e = .returned (.int .u32 r) ∧ w' = w := by
  have H : (if 0 ≤ (Go.bits .and .u64 (IntKind.u64.wrap (a1)) 31) then (if 0 ≤ (IntKind.u64.wrap (32 - (Go.bits .and .u64 (IntKind.u64.wrap (a1)) 31))) then (some (Go.bits .or .u32 (shl .u32 a0 (Go.bits .and .u64 (IntKind.u64.wrap (a1)) 31)) (shr .u32 a0 (IntKind.u64.wrap (32 - (Go.bits .and .u64 (IntKind.u64.wrap (a1)) 31)))))) else (none)) else (none)) = some r := h
  clear h
  obtain ⟨ji3, hji3⟩ : ∃ j_ : Int, (Go.bits .and .u64 (IntKind.u64.wrap (a1)) 31) = j_ := ⟨_, rfl⟩
  replace H : (if 0 ≤ (ji3) then (if 0 ≤ (IntKind.u64.wrap (32 - (ji3))) then (some (Go.bits .or .u32 (shl .u32 a0 (ji3)) (shr .u32 a0 (IntKind.u64.wrap (32 - (ji3)))))) else (none)) else (none)) = some r := by first | (rw [hji3] at H; exact H) | (simp only [hji3] at H ⊢; exact H)
  by_cases c4 : 0 ≤ (ji3)
  · rw [if_pos c4] at H
    have c4b0 := eq_true c4
    have c4b1 : decide (0 ≤ (ji3)) = true := decide_eq_true c4
    clear c4
    obtain ⟨ji5, hji5⟩ : ∃ j_ : Int, (shl .u32 a0 (ji3)) = j_ := ⟨_, rfl⟩
    replace H : (if 0 ≤ (IntKind.u64.wrap (32 - (ji3))) then (some (Go.bits .or .u32 (ji5) (shr .u32 a0 (IntKind.u64.wrap (32 - (ji3)))))) else (none)) = some r := by first | (rw [hji5] at H; exact H) | (simp only [hji5] at H ⊢; exact H)
    have hji5_ : (IntKind.u32.wrap (a0 * 2 ^ min (ji3).toNat 32)) = ji5 := hji5
    have hji5z : (ji3) ≤ 32 → (IntKind.u32.wrap (a0 * 2 ^ (ji3).toNat)) = ji5 := shl_small hji5
    obtain ⟨ji6, hji6⟩ : ∃ j_ : Int, (IntKind.u64.wrap (32 - (ji3))) = j_ := ⟨_, rfl⟩
    replace H : (if 0 ≤ (ji6) then (some (Go.bits .or .u32 (ji5) (shr .u32 a0 (ji6)))) else (none)) = some r := by first | (rw [hji6] at H; exact H) | (simp only [hji6] at H ⊢; exact H)
    by_cases c7 : 0 ≤ (ji6)
    · rw [if_pos c7] at H
      have c7b0 := eq_true c7
      have c7b1 : decide (0 ≤ (ji6)) = true := decide_eq_true c7
      clear c7
      obtain ⟨ji8, hji8⟩ : ∃ j_ : Int, (shr .u32 a0 (ji6)) = j_ := ⟨_, rfl⟩
      replace H : (some (Go.bits .or .u32 (ji5) (ji8))) = some r := by first | (rw [hji8] at H; exact H) | (simp only [hji8] at H ⊢; exact H)
      have hji8_ : (a0 / 2 ^ min (ji6).toNat 32) = ji8 := hji8
      have hji8z : (ji6) ≤ 32 → (a0 / 2 ^ (ji6).toNat) = ji8 := shr_small hji8
      obtain rfl := Option.some.inj H
      go_enter Tryd.func196, Tryd.ntmps196
      go_wp2
      go_ret
      exact ⟨by first | rfl | (simp; done) | (simp only [← hji3, ← hji5, ← hji6, ← hji8] <;> (first | rfl | simp)) | (simp [*]; done), rfl⟩
    · rw [if_neg c7] at H
      exact absurd H (by simp)
  · rw [if_neg c4] at H
    exact absurd H (by simp)
set_option maxHeartbeats 8000000 in
set_option maxRecDepth 100000 in
theorem turned_same (a0 : Int) (a1 : Int) (r : Int) (w : World) (h : impl_turned.f a0 a1 = some r) :
    Calls Tryd.prog 181 #[.int .u32 a0, .int .i64 a1] w fun e w' => e = .returned (.int .u32 r) ∧ w' = w := by
  have H : ((bits_RotateLeft32.f a0 (wrap64 (-a1))).bind fun t209 => (some t209)) = some r := h
  clear h
  replace H := Option.bind_eq_some_iff.mp H
  obtain ⟨t209, A30, H⟩ := H
  replace H : (some t209) = some r := H
  have A3 := Aside0.mk A30
  clear A30
  obtain rfl := Option.some.inj H
  go_enter Tryd.func181, Tryd.ntmps181
  go_wp2_with (first | ((with_reducible refine gate_callee (f := 196) rfl ?_); refine goesL_ (some 8) rfl rfl Tryd.func196 (by kernel_rfl) rfl #[.int .u32 a0, .int .i64 (wrap64 (-a1))] rfl (by (try simp only [List.map_toArray, List.map_cons, List.map_nil]); first | done | rfl | (simp only [List.length_drop, List.length_take]; rfl)) ?_; (with_reducible refine (rot_same a0 (wrap64 (-a1)) t209 _ A3.out).mono ?_); rintro e w' ⟨rfl, rfl⟩; refine ⟨_, rfl, ?_⟩))
  go_ret
  exact ⟨by first | rfl | (simp; done) | (simp [*]; done), rfl⟩
theorem turned_f (x n s : Int) (h1 : Go.bits .and .u64 (IntKind.u64.wrap (wrap64 (-n))) 31 = s) (h2 : IntKind.u64.wrap (32 - s) = n) (h3 : 32 - n = s) (h4 : 0 ≤ s) (h5 : 0 ≤ n) : impl_turned.f x n = some (turnH x n) := by
  unfold impl_turned.f bits_RotateLeft32.f
  rw [h1, h2, if_pos h4, if_pos h5, Option.bind_some, turnH, or_comm_h, h3]
theorem turned_at (x n s : Int) (w : World) (h1 : Go.bits .and .u64 (IntKind.u64.wrap (wrap64 (-n))) 31 = s) (h2 : IntKind.u64.wrap (32 - s) = n) (h3 : 32 - n = s) (h4 : 0 ≤ s) (h5 : 0 ≤ n) :
    Calls Tryd.prog 181 #[.int .u32 x, .int .i64 n] w fun e w' => e = .returned (.int .u32 (turnH x n)) ∧ w' = w :=
  turned_same x n _ w (turned_f x n s h1 h2 h3 h4 h5)
theorem turn2 (x : Int) (w : World) : Calls Tryd.prog 181 #[.int .u32 x, .int .i64 2] w fun e w' => e = .returned (.int .u32 (turnH x 2)) ∧ w' = w := turned_at x 2 30 w (by kernel_rfl) (by kernel_rfl) (by decide) (by decide) (by decide)
theorem turn6 (x : Int) (w : World) : Calls Tryd.prog 181 #[.int .u32 x, .int .i64 6] w fun e w' => e = .returned (.int .u32 (turnH x 6)) ∧ w' = w := turned_at x 6 26 w (by kernel_rfl) (by kernel_rfl) (by decide) (by decide) (by decide)
theorem turn7 (x : Int) (w : World) : Calls Tryd.prog 181 #[.int .u32 x, .int .i64 7] w fun e w' => e = .returned (.int .u32 (turnH x 7)) ∧ w' = w := turned_at x 7 25 w (by kernel_rfl) (by kernel_rfl) (by decide) (by decide) (by decide)
theorem turn11 (x : Int) (w : World) : Calls Tryd.prog 181 #[.int .u32 x, .int .i64 11] w fun e w' => e = .returned (.int .u32 (turnH x 11)) ∧ w' = w := turned_at x 11 21 w (by kernel_rfl) (by kernel_rfl) (by decide) (by decide) (by decide)
theorem turn13 (x : Int) (w : World) : Calls Tryd.prog 181 #[.int .u32 x, .int .i64 13] w fun e w' => e = .returned (.int .u32 (turnH x 13)) ∧ w' = w := turned_at x 13 19 w (by kernel_rfl) (by kernel_rfl) (by decide) (by decide) (by decide)
theorem turn17 (x : Int) (w : World) : Calls Tryd.prog 181 #[.int .u32 x, .int .i64 17] w fun e w' => e = .returned (.int .u32 (turnH x 17)) ∧ w' = w := turned_at x 17 15 w (by kernel_rfl) (by kernel_rfl) (by decide) (by decide) (by decide)
theorem turn18 (x : Int) (w : World) : Calls Tryd.prog 181 #[.int .u32 x, .int .i64 18] w fun e w' => e = .returned (.int .u32 (turnH x 18)) ∧ w' = w := turned_at x 18 14 w (by kernel_rfl) (by kernel_rfl) (by decide) (by decide) (by decide)
theorem turn19 (x : Int) (w : World) : Calls Tryd.prog 181 #[.int .u32 x, .int .i64 19] w fun e w' => e = .returned (.int .u32 (turnH x 19)) ∧ w' = w := turned_at x 19 13 w (by kernel_rfl) (by kernel_rfl) (by decide) (by decide) (by decide)
theorem turn22 (x : Int) (w : World) : Calls Tryd.prog 181 #[.int .u32 x, .int .i64 22] w fun e w' => e = .returned (.int .u32 (turnH x 22)) ∧ w' = w := turned_at x 22 10 w (by kernel_rfl) (by kernel_rfl) (by decide) (by decide) (by decide)
theorem turn25 (x : Int) (w : World) : Calls Tryd.prog 181 #[.int .u32 x, .int .i64 25] w fun e w' => e = .returned (.int .u32 (turnH x 25)) ∧ w' = w := turned_at x 25 7 w (by kernel_rfl) (by kernel_rfl) (by decide) (by decide) (by decide)
theorem res121 (tmps : Array Value) (W : World) (g : Nat) (h4 : tmps.getD 4 undef = .pointer (some ⟨g, 0, none⟩)) (b0 b1 b2 b3 b4 b5 b6 b7 : Int)
    (r0 : W.cell? ⟨g, 0, none⟩ = some (.int .u32 b0)) (r1 : W.cell? ⟨g, 1, none⟩ = some (.int .u32 b1)) (r2 : W.cell? ⟨g, 2, none⟩ = some (.int .u32 b2)) (r3 : W.cell? ⟨g, 3, none⟩ = some (.int .u32 b3))
    (r4 : W.cell? ⟨g, 4, none⟩ = some (.int .u32 b4)) (r5 : W.cell? ⟨g, 5, none⟩ = some (.int .u32 b5)) (r6 : W.cell? ⟨g, 6, none⟩ = some (.int .u32 b6)) (r7 : W.cell? ⟨g, 7, none⟩ = some (.int .u32 b7)) :
    (results Tryd.f160 tmps).run Tryd.prog W = .ok (.agg #[.int .u32 b0, .int .u32 b1, .int .u32 b2, .int .u32 b3, .int .u32 b4, .int .u32 b5, .int .u32 b6, .int .u32 b7]) W := by
  have h4' : tmps[4]?.getD undef = .pointer (some ⟨g, 0, none⟩) := by simpa using h4
  have hres : Tryd.f160.results = #[.cell 4 178] := rfl
  simp only [results, hres, List.mapM_toArray, List.mapM_cons, List.mapM_nil, h4, asAddr]
  go_simp
set_option maxHeartbeats 4000000 in
set_option maxRecDepth 100000 in
theorem block_walk (h0 h1 h2 h3 h4 h5 h6 h7 : Int) (gb ob cb : Nat) (bs ks r : List Int) (w : World) (hgb : gb < w.heap.size) (hbl : bs.length = 64) (hob : ob < 1000000000000)
    (hb : ∀ j, j < 64 → w.cell? ⟨gb, ob + j, none⟩ = some (.int .u8 (bs.getD j 0))) (hL : ∀ j, j < 64 → w.cell? ⟨0, j, none⟩ = some (.int .u32 (ks.getD j 0))) (hkl : ks.length = 64) (H : spec_l01Block.v [h0, h1, h2, h3, h4, h5, h6, h7] bs ks = some r) :
    Calls Tryd.prog 160 #[.agg #[.int .u32 h0, .int .u32 h1, .int .u32 h2, .int .u32 h3, .int .u32 h4, .int .u32 h5, .int .u32 h6, .int .u32 h7], .slice (some ⟨gb, ob, none⟩) 64 cb] w fun e w' => e = .returned (.agg (r.map (Value.int .u32)).toArray) ∧ Below w.heap.size w w' ∧ r.length = 8 := by
  have HB := Aside0.mk hb
  have HL := Aside0.mk hL
  clear hb hL
  have H0 := Aside0.mk (start0 _ _ _ _ H)
  clear H
  go_enter Tryd.func160, Tryd.ntmps160
  go_wp2
  generalize hn : w.heap.size = n at *
  generalize hW : World.alloc _ _ = W3
  have F := Aside0.mk (show Bk w W3 n [h0, h1, h2, h3, h4, h5, h6, h7] (List.replicate 8 0) (List.replicate 64 0) from by subst hn; subst hW; exact Bk.start w [h0, h1, h2, h3, h4, h5, h6, h7] (List.replicate 8 0) (List.replicate 64 0) 178 178 193)
  clear hW
  simp only [Nat.add_assoc, Nat.reduceAdd]
  go_loopg [16] 16 (fun gg v16 wr => ∃ (i : Nat) (ws : List Int), i ≤ 16 ∧ gg + i = 16 ∧ v16 = .int .i64 (i : Int) ∧ ws.length = 64 ∧ Aside0 (spec_l01Block.lv0 [h0, h1, h2, h3, h4, h5, h6, h7] bs ks ws (i : Int) = some r) ∧ Aside0 (Bk w wr n [h0, h1, h2, h3, h4, h5, h6, h7] (List.replicate 8 0) ws))
  case atStart => exact ⟨0, _, by omega, rfl, rfl, List.length_replicate, H0, F⟩
  case round =>
    clear F H0
    obtain ⟨i, ws, hi, hg, rfl, hws, H0, F⟩ := hrel
    by_cases hlt : i < 16
    · have c1 : ((i : Int) < 16) := by omega
      obtain ⟨q0, hq0⟩ : ∃ q, q = 4 * i := ⟨_, rfl⟩
      obtain ⟨q1, hq1⟩ : ∃ q, q = 4 * i + 1 := ⟨_, rfl⟩
      obtain ⟨q2, hq2⟩ : ∃ q, q = 4 * i + 2 := ⟨_, rfl⟩
      obtain ⟨q3, hq3⟩ : ∃ q, q = 4 * i + 3 := ⟨_, rfl⟩
      have w0 : IntKind.i64.wrap (4 * (i : Int)) = (q0 : Int) := (w64id _ (by omega) (by omega)).trans (by omega)
      have w1 : IntKind.i64.wrap ((q0 : Int) + 1) = (q1 : Int) := (w64id _ (by omega) (by omega)).trans (by omega)
      have w2 : IntKind.i64.wrap ((q0 : Int) + 2) = (q2 : Int) := (w64id _ (by omega) (by omega)).trans (by omega)
      have w3 : IntKind.i64.wrap ((q0 : Int) + 3) = (q3 : Int) := (w64id _ (by omega) (by omega)).trans (by omega)
      have b0 := F.out.old hgb (HB.out q0 (by omega))
      have b1 := F.out.old hgb (HB.out q1 (by omega))
      have b2 := F.out.old hgb (HB.out q2 (by omega))
      have b3 := F.out.old hgb (HB.out q3 (by omega))
      have e0 : (q0 : Int) < 64 := by omega
      have e1 : (q1 : Int) < 64 := by omega
      have e2 : (q2 : Int) < 64 := by omega
      have e3 : (q3 : Int) < 64 := by omega
      have ei : (i : Int) < 64 := by omega
      have z0 := F.out.hw.cell i (by omega)
      have z1 := F.out.hw.free i (by omega)
      have H1 := Aside0.mk (step0 _ _ _ _ _ _ hbl hws hlt H0.out)
      rw [← hq1, ← hq2, ← hq3, ← hq0] at H1
      generalize hx0 : bs.getD q0 0 = x0 at b0 H1
      generalize hx1 : bs.getD q1 0 = x1 at b1 H1
      generalize hx2 : bs.getD q2 0 = x2 at b2 H1
      generalize hx3 : bs.getD q3 0 = x3 at b3 H1
      generalize ws.getD i 0 = xi at z0
      clear hq0 hq1 hq2 hq3 hx0 hx1 hx2 hx3
      go_wp2
      go_still_tail 35, (by kernel_rfl)
      change wpList _ _ _ _ _ wr.drew
      have z2 : wr.drew.cell? ⟨n + 2, i, none⟩ = some (.int .u32 xi) := z0
      have z3 : wr.drew.frozen? ⟨n + 2, i, none⟩ = false := z1
      have F2 := Aside0.mk (F.out.drew.word i (by omega) (word4 x0 x1 x2 x3))
      generalize wr.drew = w4 at z2 z3 F2 ⊢
      clear z0 z1 b0 b1 b2 b3 F
      go_wp2
      go_roundg (16 - (i + 1))
      case measure => omega
      case rel => exact ⟨i + 1, _, by omega, by omega, by go_num, by rw [List.length_set]; exact hws, H1, F2⟩
    · have hlt2 : ¬ ((i : Int) < 16) := by omega
      have H1 := Aside0.mk (exit0 _ _ _ _ _ _ hlt2 H0.out)
      clear H0
      go_wp2
      go_loopg [7] 48 (fun gg v7 wr => ∃ (i : Nat) (ws : List Int), i ≤ 64 ∧ 16 ≤ i ∧ gg + i = 64 ∧ v7 = .int .i64 (i : Int) ∧ ws.length = 64 ∧ Aside0 (spec_l01Block.lv1 [h0, h1, h2, h3, h4, h5, h6, h7] ks ws (i : Int) = some r) ∧ Aside0 (Bk w wr n [h0, h1, h2, h3, h4, h5, h6, h7] (List.replicate 8 0) ws))
      case atStart => exact ⟨16, ws, by omega, by omega, rfl, rfl, hws, H1, F⟩
      case round =>
        clear F H1 hlt2 hlt hi hws
        obtain ⟨i, ws, hi, h16, hg, rfl, hws, H0, F⟩ := hrel
        by_cases hlt : i < 64
        · have c1 : ((i : Int) < 64) := by omega
          obtain ⟨q0, hq0⟩ : ∃ q, q = i - 16 := ⟨_, rfl⟩
          obtain ⟨q1, hq1⟩ : ∃ q, q = i - 15 := ⟨_, rfl⟩
          obtain ⟨q2, hq2⟩ : ∃ q, q = i - 7 := ⟨_, rfl⟩
          obtain ⟨q3, hq3⟩ : ∃ q, q = i - 2 := ⟨_, rfl⟩
          have w0 : IntKind.i64.wrap ((i : Int) - 16) = (q0 : Int) := (w64id _ (by omega) (by omega)).trans (by omega)
          have w1 : IntKind.i64.wrap ((i : Int) - 15) = (q1 : Int) := by clear w0; exact (w64id _ (by omega) (by omega)).trans (by omega)
          have w2 : IntKind.i64.wrap ((i : Int) - 7) = (q2 : Int) := by clear w0 w1; exact (w64id _ (by omega) (by omega)).trans (by omega)
          have w3 : IntKind.i64.wrap ((i : Int) - 2) = (q3 : Int) := by clear w0 w1 w2; exact (w64id _ (by omega) (by omega)).trans (by omega)
          have g0 : q0 < ws.length := by clear w0 w1 w2 w3; omega
          have g1 : q1 < ws.length := by clear w0 w1 w2 w3; omega
          have g2 : q2 < ws.length := by clear w0 w1 w2 w3; omega
          have g3 : q3 < ws.length := by clear w0 w1 w2 w3; omega
          have g4 : i < ws.length := by clear w0 w1 w2 w3; omega
          have b0 := F.out.hw.cell q0 g0
          have b1 := F.out.hw.cell q1 g1
          have b2 := F.out.hw.cell q2 g2
          have b3 := F.out.hw.cell q3 g3
          have e0 : (q0 : Int) < 64 := by clear w0 w1 w2 w3; omega
          have e1 : (q1 : Int) < 64 := by clear w0 w1 w2 w3; omega
          have e2 : (q2 : Int) < 64 := by clear w0 w1 w2 w3; omega
          have e3 : (q3 : Int) < 64 := by clear w0 w1 w2 w3; omega
          have z0 := F.out.hw.cell i g4
          have z1 := F.out.hw.free i g4
          have H1 := Aside0.mk (step1 _ _ _ _ _ hws h16 hlt H0.out)
          rw [← hq0, ← hq1, ← hq2, ← hq3] at H1
          generalize hx0 : ws.getD q0 0 = x0 at b0 H1
          generalize hx1 : ws.getD q1 0 = x1 at b1 H1
          generalize hx2 : ws.getD q2 0 = x2 at b2 H1
          generalize hx3 : ws.getD q3 0 = x3 at b3 H1
          generalize ws.getD i 0 = xi at z0
          clear hq0 hq1 hq2 hq3 hx0 hx1 hx2 hx3 g0 g1 g2 g3 H0
          go_wp2
          go_quiet (fail)
          have F3 := Aside0.mk (F.out.drewN nq)
          have b0_ : (wr.drewN nq).cell? _ = _ := b0
          have b1_ : (wr.drewN nq).cell? _ = _ := b1
          have b2_ : (wr.drewN nq).cell? _ = _ := b2
          have b3_ : (wr.drewN nq).cell? _ = _ := b3
          have z0_ : (wr.drewN nq).cell? _ = _ := z0
          have z1_ : (wr.drewN nq).frozen? _ = _ := z1
          clear b0 b1 b2 b3 z0 z1 F
          generalize wr.drewN nq = w5 at b0_ b1_ b2_ b3_ z0_ z1_ F3 ⊢
          go_wp2
          refine wp_region_still_tail 29 (by kernel_rfl) (by kernel_rfl) ?_
          simp only [List.take_succ_cons, List.take_zero, List.drop_succ_cons, List.drop_zero]
          repeat still_step
          still_call (turn7 _ _)
          repeat still_step
          still_call (turn18 _ _)
          repeat still_step
          still_call (turn17 _ _)
          repeat still_step
          still_call (turn19 _ _)
          repeat still_step
          refine wpStill_nil ?_
          change wpList _ _ _ _ _ w5.drew
          have z2 : w5.drew.cell? ⟨n + 2, i, none⟩ = some (.int .u32 xi) := z0_
          have z3 : w5.drew.frozen? ⟨n + 2, i, none⟩ = false := z1_
          have F2 := Aside0.mk (F3.out.drew.word i g4 (wordX x0 (sig x1 7 18 (x1 / 8)) x2 (sig x3 17 19 (x3 / 1024))))
          generalize w5.drew = w4 at z2 z3 F2 ⊢
          clear z0_ z1_ b0_ b1_ b2_ b3_ F3 w0 w1 w2 w3
          go_wp2
          go_roundg (64 - (i + 1))
          case measure => omega
          case rel => exact ⟨i + 1, _, by omega, by omega, by omega, by go_num, by rw [List.length_set]; exact hws, H1, F2⟩
        · have hlt2 : ¬ ((i : Int) < 64) := by omega
          have H1 := Aside0.mk (exit1 _ _ _ _ rfl _ hlt2 H0.out)
          clear H0
          obtain ⟨⟨a0, a1, a2, a3, a4, a5, a6, a7⟩, -⟩ := F.out.hh.eight
          have hsz := F.out.size
          go_wp2
          have F2 : Aside0 (Bk2 w (wr.alloc (.cells #[.int .u32 h0, .int .u32 h1, .int .u32 h2, .int .u32 h3, .int .u32 h4, .int .u32 h5, .int .u32 h6, .int .u32 h7] 178)) n [h0, h1, h2, h3, h4, h5, h6, h7] (List.replicate 8 0) ws [h0, h1, h2, h3, h4, h5, h6, h7]) := Aside0.mk (Bk2.start F.out [h0, h1, h2, h3, h4, h5, h6, h7] 178)
          generalize World.alloc _ _ = w5 at F2 ⊢
          clear a0 a1 a2 a3 a4 a5 a6 a7 hsz F
          go_loopg [97] 64 (fun gg v97 wr => ∃ (i : Nat) (a0 a1 a2 a3 a4 a5 a6 a7 : Int), i ≤ 64 ∧ gg + i = 64 ∧ v97 = .int .i64 (i : Int) ∧ Aside0 (spec_l01Block.lv2 [h0, h1, h2, h3, h4, h5, h6, h7] ks ws [a0, a1, a2, a3, a4, a5, a6, a7] (i : Int) = some r) ∧ Aside0 (Bk2 w wr n [h0, h1, h2, h3, h4, h5, h6, h7] (List.replicate 8 0) ws [a0, a1, a2, a3, a4, a5, a6, a7]))
          case atStart => exact ⟨0, h0, h1, h2, h3, h4, h5, h6, h7, by omega, rfl, rfl, H1, F2⟩
          case round =>
            clear F2 H1 hlt2 hlt hi h16
            obtain ⟨i, a0, a1, a2, a3, a4, a5, a6, a7, hi, hg, rfl, H0, F⟩ := hrel
            by_cases hlt : i < 64
            · have c1 : ((i : Int) < 64) := by omega
              obtain ⟨⟨c0, d1, d2, d3, d4, d5, d6, d7⟩, -⟩ := F.out.ha.eight
              have bk := F.out.old (by omega) (HL.out i (by omega))
              have bw := F.out.hw.cell i (by omega)
              obtain ⟨xk, hxk⟩ : ∃ x, ks.getD i 0 = x := ⟨_, rfl⟩
              obtain ⟨xw, hxw⟩ : ∃ x, ws.getD i 0 = x := ⟨_, rfl⟩
              rw [hxk] at bk
              rw [hxw] at bw
              have HX := Aside0.mk (And.intro hxk hxw)
              clear hxk hxw
              go_wp2
              refine wp_region_still_lit (by kernel_rfl) (by kernel_rfl) ?_
              repeat still_step
              still_call (turn6 _ _)
              repeat still_step
              still_call (turn11 _ _)
              repeat still_step
              still_call (turn25 _ _)
              repeat still_step
              refine wpStill_nil ?_
              have F3 := Aside0.mk F.out.drew
              have c0_ : wr.drew.cell? _ = _ := c0
              have d1_ : wr.drew.cell? _ = _ := d1
              have d2_ : wr.drew.cell? _ = _ := d2
              have d3_ : wr.drew.cell? _ = _ := d3
              have d4_ : wr.drew.cell? _ = _ := d4
              have d5_ : wr.drew.cell? _ = _ := d5
              have d6_ : wr.drew.cell? _ = _ := d6
              have d7_ : wr.drew.cell? _ = _ := d7
              clear c0 d1 d2 d3 d4 d5 d6 d7 bk bw F
              generalize hxp : IntKind.u32.wrap (IntKind.u32.wrap (_ + xk) + xw) = xp
              have hp : pW a7 a4 a5 a6 xk xw = xp := hxp
              have HP := Aside0.mk hp
              clear hxp hp
              rw [show ({ heap := wr.heap, tape := wr.tape, drawn := wr.drawn + 1, os := wr.os, output := wr.output } : World) = wr.drew from rfl]
              generalize wr.drew = w6 at c0_ d1_ d2_ d3_ d4_ d5_ d6_ d7_ F3 ⊢
              go_wp2
              refine wp_region_still_lit (by kernel_rfl) (by kernel_rfl) ?_
              repeat still_step
              still_call (turn2 _ _)
              repeat still_step
              still_call (turn13 _ _)
              repeat still_step
              still_call (turn22 _ _)
              repeat still_step
              refine wpStill_nil ?_
              obtain ⟨⟨c0, d1, d2, d3, d4, d5, d6, d7⟩, ⟨f0, f1, f2, f3, f4, f5, f6, f7⟩⟩ := F3.out.drew.ha.eight
              have F4 := Aside0.mk F3.out.drew
              clear c0_ d1_ d2_ d3_ d4_ d5_ d6_ d7_ F3
              generalize hxq : IntKind.u32.wrap (_ + Go.bits .xor .u32 _ (Go.bits .and .u32 a1 a2)) = xq
              have hq : qW a0 a1 a2 = xq := hxq
              have HQ := Aside0.mk hq
              clear hxq hq
              rw [show ({ heap := w6.heap, tape := w6.tape, drawn := w6.drawn + 1, os := w6.os, output := w6.output } : World) = w6.drew from rfl]
              generalize w6.drew = w7 at c0 d1 d2 d3 d4 d5 d6 d7 f0 f1 f2 f3 f4 f5 f6 f7 F4 ⊢
              have H1 := Aside0.mk (step2w _ _ _ _ _ _ _ _ _ _ _ _ _ hws hkl hlt xk xw xp xq HX.out.1 HX.out.2 HP.out HQ.out H0.out)
              clear H0
              go_wp2
              go_roundg (64 - (i + 1))
              case measure => omega
              case rel =>
                have F5 := ((((((((F4.out.set 0 (by simp) ((xp + xq) % 4294967296)).set 1 (by simp) a0).set 2 (by simp) a1).set 3 (by simp) a2).set 4 (by simp) ((a3 + xp) % 4294967296)).set 5 (by simp) a4).set 6 (by simp) a5).set 7 (by simp) a6)
                exact ⟨i + 1, _, _, _, _, _, _, _, _, by omega, by omega, by go_num, H1, ⟨F5⟩⟩
            · have hlt2 : ¬ ((i : Int) < 64) := by omega
              have H1 := Aside0.mk (exit2 _ _ _ _ _ _ hlt2 H0.out)
              clear H0
              go_wp2
              go_loopg [182] 8 (fun gg v182 wr => ∃ (i : Nat) (lh : List Int), i ≤ 8 ∧ gg + i = 8 ∧ v182 = .int .i64 (i : Int) ∧ lh.length = 8 ∧ Aside0 (spec_l01Block.lv3 lh [a0, a1, a2, a3, a4, a5, a6, a7] (i : Int) = some r) ∧ Aside0 (Bk2 w wr n lh (List.replicate 8 0) ws [a0, a1, a2, a3, a4, a5, a6, a7]))
              case atStart => exact ⟨0, _, by omega, rfl, rfl, rfl, H1, F⟩
              case round =>
                clear F H1 hlt2 hlt hi
                obtain ⟨i, lh, hi, hg, rfl, hlh, H0, F⟩ := hrel
                by_cases hlt : i < 8
                · have c1 : ((i : Int) < 8) := by omega
                  have H1 := Aside0.mk (step3 _ _ _ _ hlh rfl hlt H0.out)
                  have b0 := F.out.hh.cell i (by omega)
                  have b1 := F.out.ha.cell i (by simpa using hlt)
                  have z1 := F.out.hh.free i (by omega)
                  clear H0
                  obtain ⟨x0, hx0⟩ : ∃ x, lh.getD i 0 = x := ⟨_, rfl⟩
                  obtain ⟨x1, hx1⟩ : ∃ x, ([a0, a1, a2, a3, a4, a5, a6, a7] : List Int).getD i 0 = x := ⟨_, rfl⟩
                  rw [hx0] at b0 H1
                  rw [hx1] at b1 H1
                  rw [u32w_h] at H1
                  clear hx0 hx1
                  go_wp2
                  refine wp_region_still_tail 8 (by kernel_rfl) (by kernel_rfl) ?_
                  simp only [List.take_succ_cons, List.take_zero, List.drop_succ_cons, List.drop_zero]
                  repeat still_step
                  refine wpStill_nil ?_
                  change wpList _ _ _ _ _ wr.drew
                  have z2 : wr.drew.cell? ⟨n, i, none⟩ = some (.int .u32 x0) := b0
                  have z3 : wr.drew.frozen? ⟨n, i, none⟩ = false := z1
                  have F2 := Aside0.mk (F.out.drew.head i (by omega) ((x0 + x1) % 4294967296))
                  generalize wr.drew = w4 at z2 z3 F2 ⊢
                  clear z1 b0 b1 F
                  go_wp2
                  go_roundg (8 - (i + 1))
                  case measure => omega
                  case rel => exact ⟨i + 1, _, by omega, by omega, by go_num, by rw [List.length_set]; exact hlh, H1, F2⟩
                · have hlt2 : ¬ ((i : Int) < 8) := by omega
                  have e := exit3 _ _ _ _ hlt2 H0.out
                  subst e
                  clear H0
                  obtain ⟨b0, b1, b2, b3, b4, b5, b6, b7, rfl⟩ := eight hlh
                  obtain ⟨⟨c0, d1, d2, d3, d4, d5, d6, d7⟩, -⟩ := F.out.hh.eight
                  obtain ⟨⟨k0, k1, k2, k3, k4, k5, k6, k7⟩, ⟨f0, f1, f2, f3, f4, f5, f6, f7⟩⟩ := Au.eight (show Au wr (n + 1) [0, 0, 0, 0, 0, 0, 0, 0] from F.out.hr)
                  go_wp2
                  have F5 := (((((((F.out.out 0 (by simp) b0).out 1 (by simp) b1).out 2 (by simp) b2).out 3 (by simp) b3).out 4 (by simp) b4).out 5 (by simp) b5).out 6 (by simp) b6).out 7 (by simp) b7
                  obtain ⟨⟨r0, r1, r2, r3, r4, r5, r6, r7⟩, -⟩ := F5.hr.eight
                  have hbl := F5.below
                  clear c0 d1 d2 d3 d4 d5 d6 d7 k0 k1 k2 k3 k4 k5 k6 k7 f0 f1 f2 f3 f4 f5 f6 f7 F F5
                  (try simp only [Exit.inBlock, Exit.then])
                  generalize World.setCell (World.setCell (World.setCell (World.setCell (World.setCell (World.setCell (World.setCell (World.setCell wr _ _) _ _) _ _) _ _) _ _) _ _) _ _) _ _ = W8 at hbl r0 r1 r2 r3 r4 r5 r6 r7 ⊢
                  refine bodyPost_ret (res121 _ _ (n + 1) (by rfl) _ _ _ _ _ _ _ _ r0 r1 r2 r3 r4 r5 r6 r7) rfl ?_
                  first | exact ⟨rfl, hbl, rfl⟩ | exact ⟨rfl, hbl⟩
def hashIV : List Int := [1779033703, 3144134277, 1013904242, 2773480762, 1359893119, 2600822924, 528734635, 1541459225]
def roundKs : List Int := [1116352408, 1899447441, 3049323471, 3921009573, 961987163, 1508970993, 2453635748, 2870763221, 3624381080, 310598401, 607225278, 1426881987, 1925078388, 2162078206, 2614888103, 3248222580, 3835390401, 4022224774, 264347078, 604807628, 770255983, 1249150122, 1555081692, 1996064986, 2554220882, 2821834349, 2952996808, 3210313671, 3336571891, 3584528711, 113926993, 338241895, 666307205, 773529912, 1294757372, 1396182291, 1695183700, 1986661051, 2177026350, 2456956037, 2730485921, 2820302411, 3259730800, 3345764771, 3516065817, 3600352804, 4094571909, 275423344, 430227734, 506948616, 659060556, 883997877, 958139571, 1322822218, 1537002063, 1747873779, 1955562222, 2024104815, 2227730452, 2361852424, 2428436474, 2756734187, 3204031479, 3329325298]
theorem hstart (x : List Int) (r : ByteArray) (hx : x.length ≤ 40000000) (H : spec_l01Hash.v x = some r) : spec_l01Hash.lv0 x hashIV (x ++ [128]) = some r := by
  rw [spec_l01Hash.v_eq, Option.bind_some, if_pos (by simp; omega), Option.bind_some, if_pos (by simp; omega), List.nil_append] at H
  exact H
theorem hpad (x h all : List Int) (r : ByteArray) (ha : all.length < 140737488355328) (hc : all.length % 64 ≠ 56) (H : spec_l01Hash.lv0 x h all = some r) : spec_l01Hash.lv0 x h (all ++ [0]) = some r := by
  rw [spec_l01Hash.lv0_eq, if_neg (by omega), if_pos ha] at H
  exact H
theorem hpadded (x h all : List Int) (r : ByteArray) (hc : all.length % 64 = 56) (H : spec_l01Hash.lv0 x h all = some r) : spec_l01Hash.lv1 x h all 7 = some r := by
  rw [spec_l01Hash.lv0_eq, if_pos (by omega)] at H
  exact H
theorem shr_at (n : Int) (k : Nat) (hk : k ≤ 56) : shr .i64 n (k : Int) = n / 2 ^ k := by
  unfold shr
  rw [Int.toNat_natCast, Nat.min_eq_left (by show k ≤ 64; omega)]
/-- The eight bytes of the length. -/
def be8 (n : Int) : List Int := [n / 256 / 256 / 256 / 256 / 256 / 256 / 256 % 256, n / 256 / 256 / 256 / 256 / 256 / 256 % 256, n / 256 / 256 / 256 / 256 / 256 % 256, n / 256 / 256 / 256 / 256 % 256, n / 256 / 256 / 256 % 256, n / 256 / 256 % 256, n / 256 % 256, n % 256]
theorem number8 (n : Int) : impl_number.v n 8 = some (strOfNums (be8 n)) := by
  have w8 : wrap64 (8 - 1) = 7 := w64n _ (by omega) (by omega)
  have w7 : wrap64 (7 - 1) = 6 := w64n _ (by omega) (by omega)
  have w6 : wrap64 (6 - 1) = 5 := w64n _ (by omega) (by omega)
  have w5 : wrap64 (5 - 1) = 4 := w64n _ (by omega) (by omega)
  have w4 : wrap64 (4 - 1) = 3 := w64n _ (by omega) (by omega)
  have w3 : wrap64 (3 - 1) = 2 := w64n _ (by omega) (by omega)
  have w2 : wrap64 (2 - 1) = 1 := w64n _ (by omega) (by omega)
  have w0 : wrap64 (1 - 1) = 0 := w64n _ (by omega) (by omega)
  have w1 : wrap64 (0 - 1) = -1 := w64n _ (by omega) (by omega)
  rw [impl_number.v_eq, if_pos (by decide), if_pos (by decide), w8]
  rw [impl_number.lv0_eq, if_pos (by decide), if_pos (by decide), if_pos (by simp), w7]
  rw [impl_number.lv0_eq, if_pos (by decide), if_pos (by decide), if_pos (by simp), w6]
  rw [impl_number.lv0_eq, if_pos (by decide), if_pos (by decide), if_pos (by simp), w5]
  rw [impl_number.lv0_eq, if_pos (by decide), if_pos (by decide), if_pos (by simp), w4]
  rw [impl_number.lv0_eq, if_pos (by decide), if_pos (by decide), if_pos (by simp), w3]
  rw [impl_number.lv0_eq, if_pos (by decide), if_pos (by decide), if_pos (by simp), w2]
  rw [impl_number.lv0_eq, if_pos (by decide), if_pos (by decide), if_pos (by simp), w0]
  rw [impl_number.lv0_eq, if_pos (by decide), if_pos (by decide), if_pos (by simp), w1, impl_number.lv0_eq, if_neg (by decide)]
  rfl
def be4 (n : Int) : List Int := [n / 256 / 256 / 256 % 256, n / 256 / 256 % 256, n / 256 % 256, n % 256]
theorem number4 (n : Int) : impl_number.v n 4 = some (strOfNums (be4 n)) := by
  have w4 : wrap64 (4 - 1) = 3 := w64n _ (by omega) (by omega)
  have w3 : wrap64 (3 - 1) = 2 := w64n _ (by omega) (by omega)
  have w2 : wrap64 (2 - 1) = 1 := w64n _ (by omega) (by omega)
  have w0 : wrap64 (1 - 1) = 0 := w64n _ (by omega) (by omega)
  have w1 : wrap64 (0 - 1) = -1 := w64n _ (by omega) (by omega)
  rw [impl_number.v_eq, if_pos (by decide), if_pos (by decide), w4]
  rw [impl_number.lv0_eq, if_pos (by decide), if_pos (by decide), if_pos (by simp), w3]
  rw [impl_number.lv0_eq, if_pos (by decide), if_pos (by decide), if_pos (by simp), w2]
  rw [impl_number.lv0_eq, if_pos (by decide), if_pos (by decide), if_pos (by simp), w0]
  rw [impl_number.lv0_eq, if_pos (by decide), if_pos (by decide), if_pos (by simp), w1, impl_number.lv0_eq, if_neg (by decide)]
  rfl
theorem hlen_step (x h all : List Int) (r : ByteArray) (k : Nat) (hk : k < 8) (ha : all.length < 140737488355328) (H : spec_l01Hash.lv1 x h all (k : Int) = some r) :
    spec_l01Hash.lv1 x h (all ++ [wrap64 (8 * (x.length : Int)) / 2 ^ (8 * k) % 256]) ((k : Int) - 1) = some r := by
  have e1 : wrap64 (8 * (k : Int)) = ((8 * k : Nat) : Int) := by rw [w64n _ (by omega) (by omega)]; omega
  have e2 : IntKind.u64.wrap ((8 * k : Nat) : Int) = ((8 * k : Nat) : Int) := by
    clear e1
    unfold IntKind.wrap
    simp [IntKind.bits, IntKind.signed]
    omega
  have e3 : (0 : Int) ≤ ((8 * k : Nat) : Int) := by clear e1 e2; omega
  have e4 : (k : Int) ≥ 0 := by clear e1 e2; omega
  have e5 : wrap64 ((k : Int) - 1) = (k : Int) - 1 := by clear e1 e2; exact w64n _ (by omega) (by omega)
  rw [spec_l01Hash.lv1_eq, e1, e2, e5, if_pos e4, if_pos e3, if_pos ha, shr_at _ _ (by clear e1 e2 e5; omega)] at H
  exact H
theorem hlen_end (x h all : List Int) (r : ByteArray) (H : spec_l01Hash.lv1 x h all (-1) = some r) : spec_l01Hash.lv2 h all roundKs ((64 * 0 : Nat) : Int) = some r := by
  rw [spec_l01Hash.lv1_eq, if_neg (by decide), spec_l01Consts.v_eq, Option.bind_some] at H
  exact H
theorem hlen (x h all : List Int) (r : ByteArray) (ha : all.length < 100000000) (hx : x.length ≤ 40000000) (H : spec_l01Hash.lv1 x h all 7 = some r) :
    spec_l01Hash.lv2 h (all ++ be8 (wrap64 (8 * (x.length : Int)))) roundKs ((64 * 0 : Nat) : Int) = some r := by
  generalize hn : wrap64 (8 * (x.length : Int)) = n
  have h7 := hlen_step x h _ r 7 (by decide) (by omega) H
  have h6 := hlen_step x h _ r 6 (by decide) (by simp; omega) h7
  have h5 := hlen_step x h _ r 5 (by decide) (by simp; omega) h6
  have h4 := hlen_step x h _ r 4 (by decide) (by simp; omega) h5
  have h3 := hlen_step x h _ r 3 (by decide) (by simp; omega) h4
  have h2 := hlen_step x h _ r 2 (by decide) (by simp; omega) h3
  have h1 := hlen_step x h _ r 1 (by decide) (by simp; omega) h2
  have h0 := hlen_step x h _ r 0 (by decide) (by simp; omega) h1
  have he := hlen_end x h _ r h0
  rw [hn] at he
  simp only [List.append_assoc, List.cons_append, List.nil_append] at he
  have v2 : n / 256 / 256 = n / 65536 := by omega
  have v3 : n / 256 / 256 / 256 = n / 16777216 := by omega
  have v4 : n / 256 / 256 / 256 / 256 = n / 4294967296 := by omega
  have v5 : n / 256 / 256 / 256 / 256 / 256 = n / 1099511627776 := by omega
  have v6 : n / 256 / 256 / 256 / 256 / 256 / 256 = n / 281474976710656 := by omega
  have v7 : n / 256 / 256 / 256 / 256 / 256 / 256 / 256 = n / 72057594037927936 := by omega
  unfold be8
  rw [v7, v6, v5, v4, v3, v2]
  simpa using he
theorem hround (hv all : List Int) (r : ByteArray) (m K : Nat) (hl : all.length = 64 * K) (hK : K ≤ 2000000) (hm : m < K) (H : spec_l01Hash.lv2 hv all roundKs ((64 * m : Nat) : Int) = some r) :
    ∃ h', spec_l01Block.v hv ((all.take (64 * m + 64)).drop (64 * m)) roundKs = some h' ∧ spec_l01Hash.lv2 h' all roundKs ((64 * (m + 1) : Nat) : Int) = some r := by
  have e1 : wrap64 (((64 * m : Nat) : Int) + 64) = ((64 * (m + 1) : Nat) : Int) := by rw [w64n _ (by omega) (by omega)]; omega
  have g1 : ((64 * m : Nat) : Int) < (all.length : Int) := by clear e1; omega
  have g2 : (0 : Int) ≤ ((64 * m : Nat) : Int) := by clear e1; omega
  have g3 : ((64 * m : Nat) : Int) ≤ ((64 * (m + 1) : Nat) : Int) := by clear e1; omega
  have g4 : ((64 * (m + 1) : Nat) : Int) ≤ (all.length : Int) := by clear e1; omega
  rw [spec_l01Hash.lv2_eq, e1, if_pos g1, if_pos g2, if_pos g3, if_pos g4, Int.toNat_natCast, Int.toNat_natCast] at H
  obtain ⟨h', e, H⟩ := Option.bind_eq_some_iff.1 H
  exact ⟨h', e, H⟩
theorem hrounds (hv all : List Int) (r : ByteArray) (i : Int) (hi : ¬ i < (all.length : Int)) (H : spec_l01Hash.lv2 hv all roundKs i = some r) : spec_l01Hash.lv3 hv [] ((0 : Nat) : Int) = some r := by
  rw [spec_l01Hash.lv2_eq, if_neg hi] at H
  rw [show ((0 : Nat) : Int) = 0 from rfl]
  exact H
theorem hout (hv o : List Int) (r : ByteArray) (i : Nat) (hh : hv.length = 8) (hi : i < 8) (ho : o.length ≤ 1000) (H : spec_l01Hash.lv3 hv o (i : Int) = some r) :
    spec_l01Hash.lv3 hv (o ++ be4 (hv.getD i 0)) ((i + 1 : Nat) : Int) = some r := by
  have g1 : (i : Int) < 8 := by omega
  have g2 : (0 : Int) ≤ (i : Int) := by omega
  have g3 : (i : Int) < (hv.length : Int) := by omega
  have e1 : wrap64 ((i : Int) + 1) = ((i + 1 : Nat) : Int) := wadd i (by omega)
  have e2 : rd hv (i : Int) = hv.getD i 0 := by simp [rd]
  rw [spec_l01Hash.lv3_eq, e1, if_pos g1, if_pos g2, if_pos g3, Option.bind_some, if_pos (by simp; omega), e2] at H
  have v2 : hv.getD i 0 / 256 / 256 = hv.getD i 0 / 65536 := by clear e1 e2; omega
  have v3 : hv.getD i 0 / 256 / 256 / 256 = hv.getD i 0 / 16777216 := by clear e1 e2 v2; omega
  unfold be4
  rw [v3, v2]
  exact H
theorem hdone (hv o : List Int) (r : ByteArray) (i : Int) (hi : ¬ i < 8) (H : spec_l01Hash.lv3 hv o i = some r) : strOfNums o = r := by
  rw [spec_l01Hash.lv3_eq, if_neg hi] at H
  exact Option.some.inj H
theorem be8_len (n : Int) : (be8 n).length = 8 := by unfold be8; rfl
theorem be4_len (n : Int) : (be4 n).length = 4 := by unfold be4; rfl
theorem bytes_num (l : List Int) (h : ∀ x ∈ l, 0 ≤ x ∧ x < 256) : bytesOf (strOfNums l) = l := by
  unfold bytesOf
  rw [strOfNums_data, List.map_map]
  conv => rhs; rw [← List.map_id l]
  apply List.map_congr_left
  intro x hx
  have := h x hx
  simp only [Function.comp_apply, id]
  rw [UInt8.toNat_ofNat_of_lt' (by show x.toNat < 256; omega)]
  omega
theorem num8 (n : Int) : ∃ k y, impl_number.f k n 8 = some y ∧ bytesOf y = be8 n ∧ y.size = 8 := by
  obtain ⟨k, hk⟩ := (impl_number.v_lim n 8).at_ (strOfNums (be8 n)) (number8 n)
  have hb : bytesOf (strOfNums (be8 n)) = be8 n := bytes_num _ (by
    intro x hx
    unfold be8 at hx
    simp only [List.mem_cons, List.not_mem_nil, or_false] at hx
    rcases hx with rfl | rfl | rfl | rfl | rfl | rfl | rfl | rfl <;> omega)
  exact ⟨k, _, hk, hb, by rw [← bytesOf_length, hb, be8_len]⟩
theorem num4 (n : Int) : ∃ k y, impl_number.f k n 4 = some y ∧ bytesOf y = be4 n ∧ y.size = 4 := by
  obtain ⟨k, hk⟩ := (impl_number.v_lim n 4).at_ (strOfNums (be4 n)) (number4 n)
  have hb : bytesOf (strOfNums (be4 n)) = be4 n := bytes_num _ (by
    intro x hx
    unfold be4 at hx
    simp only [List.mem_cons, List.not_mem_nil, or_false] at hx
    rcases hx with rfl | rfl | rfl | rfl <;> omega)
  exact ⟨k, _, hk, hb, by rw [← bytesOf_length, hb, be4_len]⟩
/-- What the hash's walk keeps: its bytes, its eight words. -/
structure Ih (w W : World) (n g cap gh : Nat) (al hv : List Int) : Prop where
  hs : Hs w W n g cap al
  ha : Au W gh hv
  ne : g ≠ gh
  mine : n ≤ gh
  lt : gh < W.heap.size
theorem Ih.start {w W : World} {n g cap : Nat} {al : List Int} (h : Hs w W n g cap al) (hv : List Int) (t : Nat) : Ih w (W.alloc (.cells (hv.map (Value.int .u32)).toArray t)) n g cap W.heap.size al hv := by
  have h1 := h.lt
  have h2 := h.mine
  refine ⟨h.alloc _, Au.of_row (e := t) _ ?_, by omega, by omega, by rw [alloc_sz]; omega⟩
  rw [alloc_at, if_pos rfl]
theorem Ih.on {w W W' : World} {n g cap gh : Nat} {al hv : List Int} (h : Ih w W n g cap gh al hv) (b : Below W.heap.size W W') : Ih w W' n g cap gh al hv :=
  ⟨h.hs.on b, h.ha.at (b.block gh h.lt), h.ne, h.mine, Nat.lt_of_lt_of_le h.lt b.size⟩
theorem Ih.drew {w W : World} {n g cap gh : Nat} {al hv : List Int} (h : Ih w W n g cap gh al hv) : Ih w W.drew n g cap gh al hv :=
  h.on ⟨rfl, rfl, rfl, Nat.le_refl _, fun _ _ => rfl⟩
theorem Ih.set {w W : World} {n g cap gh : Nat} {al hv : List Int} (h : Ih w W n g cap gh al hv) (j : Nat) (hj : j < hv.length) (x : Int) : Ih w (W.setCell ⟨gh, j, none⟩ (.int .u32 x)) n g cap gh al (hv.set j x) := by
  have hs : (W.setCell ⟨gh, j, none⟩ (.int .u32 x)).heap.size = W.heap.size := by simp [World.setCell]
  exact ⟨⟨h.hs.row.at (setCell_old W _ _ g h.ne), h.hs.mine, by rw [hs]; exact h.hs.lt, below_set_h h.hs.below h.mine⟩, h.ha.set j hj x, h.ne, h.mine, by rw [hs]; exact h.lt⟩
theorem cut64 (al : List Int) (o j : Nat) (hj : j < 64) : ((al.take (o + 64)).drop o).getD j 0 = al.getD (o + j) 0 := by
  simp only [List.getD, List.getElem?_drop, List.getElem?_take]
  rw [if_pos (by omega)]
theorem str_add (a b : List Int) : strOfNums a ++ strOfNums b = strOfNums (a ++ b) := by
  apply ByteArray.ext
  apply Array.toList_inj.1
  rw [ByteArray.data_append, Array.toList_append, strOfNums_data, strOfNums_data, strOfNums_data, List.map_append]
theorem be4_wrap (x : Int) : be4 (wrap64 x) = be4 x := by
  rw [← i64_w, IntKind.wrap_i64]
  unfold be4
  have h : ∀ a b : Int, a % 4294967296 = b % 4294967296 → a / 256 / 256 / 256 % 256 = b / 256 / 256 / 256 % 256 ∧ a / 256 / 256 % 256 = b / 256 / 256 % 256 ∧ a / 256 % 256 = b / 256 % 256 ∧ a % 256 = b % 256 := by
    intro a b h
    refine ⟨by omega, by omega, by omega, by omega⟩
  obtain ⟨h1, h2, h3, h4⟩ := h ((x + 9223372036854775808) % 18446744073709551616 - 9223372036854775808) x (by omega)
  rw [h1, h2, h3, h4]
theorem str_back (s : ByteArray) : strOfNums (bytesOf s) = s := by
  apply ByteArray.ext
  apply Array.toList_inj.1
  rw [strOfNums_data]
  unfold bytesOf
  rw [List.map_map]
  conv => rhs; rw [← List.map_id s.data.toList]
  apply List.map_congr_left
  intro x hx
  simp
theorem num4s (x : Int) : ∃ k y, impl_number.f k (wrap64 x) 4 = some y ∧ y = strOfNums (be4 x) ∧ y.size = 4 := by
  obtain ⟨k, y, h1, h2, h3⟩ := num4 (wrap64 x)
  exact ⟨k, y, h1, by rw [← str_back y, h2, be4_wrap], h3⟩
theorem strsz (l : List Int) : (strOfNums l).size = l.length := by
  show (strOfNums l).data.size = _
  simp [strOfNums]
set_option maxRecDepth 100000 in
theorem idx122 (a0 a1 a2 a3 a4 a5 a6 a7 : Int) (W : World) (i : Nat) (hi : i < 8) : Sem.run Tryd.prog (Instr.index 178 (Value.agg #[.int .u32 a0, .int .u32 a1, .int .u32 a2, .int .u32 a3, .int .u32 a4, .int .u32 a5, .int .u32 a6, .int .u32 a7]) (Value.int .i64 (i : Int))) W = .ok (.int .u32 (([a0, a1, a2, a3, a4, a5, a6, a7] : List Int).getD i 0)) W := by
  match i, hi with
  | 0, _ => go_simp; rfl
  | 1, _ => go_simp; rfl
  | 2, _ => go_simp; rfl
  | 3, _ => go_simp; rfl
  | 4, _ => go_simp; rfl
  | 5, _ => go_simp; rfl
  | 6, _ => go_simp; rfl
  | 7, _ => go_simp; rfl
set_option maxHeartbeats 400000 in
set_option maxRecDepth 100000 in
theorem hash_walk (s r : ByteArray) (w : World) (hL : ∀ j, j < 64 → w.cell? ⟨0, j, none⟩ = some (.int .u32 (roundKs.getD j 0))) (hs : s.size ≤ 40000000) (H : spec_l01Hash.v (bytesOf s) = some r) :
    Calls Tryd.prog 127 #[.string s] w fun e w' => e = .returned (.string r) ∧ Below w.heap.size w w' := by
  have h0 : 0 < w.heap.size := World.block_lt_of_cell? w _ (hL 0 (by decide))
  have HL := Aside0.mk hL
  have hxl : (bytesOf s).length = s.size := bytesOf_length s
  have H0 := Aside0.mk (hstart _ _ (by omega) H)
  have HX := Aside0.mk hxl
  clear hL H hxl
  go_enter Tryd.func127, Tryd.ntmps127
  go_wp2_with (first | ((with_reducible refine gate_dst (N := 9) rfl ?_); refine conv_hs 5 rfl 9 46 _ rfl s rfl Tryd.underlying9 Tryd.underlying46 Tryd.underlying5 ?_; intro g cap w1 F0; have F := Aside0.mk F0; clear F0) | ((with_reducible refine gate_builtin (b := .append) (xs := #[.tmp 9, .tmp 10]) rfl ?_); at_builtin; refine append1_hs (l := bytesOf s) 46 5 rfl (.tmp 9) (.tmp 10) rfl Tryd.underlying46 info5 128 (by rw [bytesOf_length]; rfl) rfl F.out (by rw [bytesOf_length]; omega) ?_; clear F; intro g' cap' w2 F0; have F := Aside0.mk F0; clear F0))
  have HG := Aside0.mk h0
  clear h0
  go_loopg [3] (56 + 64 - (s.size + 1) % 64) (fun gg v3 wr => ∃ (g cap : Nat) (l : List Int), (l.length + gg) % 64 = 56 ∧ l.length + gg ≤ 41000000 ∧ v3 = .slice (some ⟨g, 0, none⟩) l.length cap ∧ Aside0 (spec_l01Hash.lv0 (bytesOf s) hashIV l = some r) ∧ Aside0 (Hs w wr w.heap.size g cap l))
  case atStart => exact ⟨_, _, bytesOf s ++ [128], by rw [List.length_append, HX.out, List.length_singleton]; omega, by rw [List.length_append, HX.out, List.length_singleton]; omega, by simp, H0, F⟩
  case round =>
    clear F H0
    obtain ⟨g3, cap3, l, hm, hle, rfl, H0, F⟩ := hrel
    by_cases c : l.length % 64 = 56
    · have c1 : ((l.length : Int).tmod 64 = 56) := by rw [Int.tmod_eq_emod_of_nonneg (by omega)]; omega
      have H1 := Aside0.mk (hlen _ _ _ _ (by omega) (by have := HX.out; omega) (hpadded _ _ _ _ c H0.out))
      obtain ⟨ky, y, hky, hby, hys⟩ := num8 (wrap64 (8 * ((bytesOf s).length : Int)))
      rw [← hby] at H1
      have hw8 : wrap64 (8 * (s.size : Int)) = 8 * (s.size : Int) := by clear hky hby H1; exact w64n _ (by omega) (by omega)
      rw [HX.out, hw8] at hky
      clear hw8
      have HK := Aside0.mk hky
      clear hky hby H0
      have hlw : (8 * (s.size : Int)) ≤ 9223372036854775807 := by omega
      go_wp2_with (first | (go_at_call 128; with_reducible refine (impl_number.calls ky _ _ y _ HK.out).mono ?_; rintro e w5 ⟨rfl, hb5⟩; have HB5 := Aside0.mk hb5; clear hb5) | ((with_reducible refine gate_builtin (b := .append) (xs := #[.tmp 19, .tmp 23]) rfl ?_); at_builtin; refine appendS_hs (l := l) 46 9 5 rfl (.tmp 19) (.tmp 23) rfl Tryd.underlying46 Tryd.underlying9 info5 y (by rfl) rfl (by omega) (F.out.on HB5.out) (by omega) ?_; clear F HB5; intro g' cap' w2 F0; have F := Aside0.mk F0; clear F0))
      have HA : (l ++ bytesOf y).length = l.length + 8 := by rw [List.length_append, bytesOf_length, hys]
      rw [show (bytesOf y).length = 8 by rw [bytesOf_length, hys]]
      have FI : Aside0 (Ih w (w2.alloc (.cells #[.int .u32 1779033703, .int .u32 3144134277, .int .u32 1013904242, .int .u32 2773480762, .int .u32 1359893119, .int .u32 2600822924, .int .u32 528734635, .int .u32 1541459225] 178)) w.heap.size g' cap' w2.heap.size (l ++ bytesOf y) hashIV) := Aside0.mk (Ih.start F.out hashIV 178)
      clear F
      generalize w2.alloc _ = w6 at FI ⊢
      generalize w2.heap.size = gh at FI ⊢
      rw [← HA]
      generalize l ++ bytesOf y = al at HA H1 FI ⊢
      obtain ⟨K, hK⟩ : ∃ K, al.length = 64 * K := ⟨al.length / 64, by omega⟩
      have hKb : K ≤ 2000000 := by omega
      have hcap := FI.out.hs.row.room
      rw [hK] at hcap ⊢
      have HN := Aside0.mk hK
      clear HA hm hle hlw c1 c hK
      go_loopg [3] K (fun gg v3 wr => ∃ (m o ln cp : Nat) (hv : List Int), gg + m = K ∧ (0 < gg → o = 64 * m ∧ cp + o = cap') ∧ ln = 64 * gg ∧ v3 = .slice (some ⟨g', o, none⟩) ln cp ∧ hv.length = 8 ∧ Aside0 (spec_l01Hash.lv2 hv al roundKs ((64 * m : Nat) : Int) = some r) ∧ Aside0 (Ih w wr w.heap.size g' cap' gh al hv))
      case atStart => exact ⟨0, 0, _, _, _, by omega, fun _ => ⟨rfl, rfl⟩, rfl, rfl, rfl, H1, FI⟩
      case round =>
        clear FI H1
        obtain ⟨m, o, ln, cp, hv, hgm, hoc, hln, rfl, hh, H1, FI⟩ := hrel
        by_cases c : 0 < gk
        · obtain ⟨ho, hcp⟩ := hoc c
          have c1 : ((ln : Int) > 0) := by omega
          have c2 : (64 : Int) ≤ (ln : Int) := by omega
          have c3 : (64 : Int) ≤ (cp : Int) := by omega
          obtain ⟨h', e1, H2⟩ := hround hv al r m K HN.out hKb (by omega) H1.out
          have H2 := Aside0.mk H2
          rw [← ho] at e1
          have E1 := Aside0.mk e1
          have HO := Aside0.mk (And.intro ho (And.intro hln (And.intro hcp hgm)))
          clear e1 H1 ho hln hcp hgm hoc
          obtain ⟨a0, a1, a2, a3, a4, a5, a6, a7, rfl⟩ := eight hh
          obtain ⟨⟨c0, d1, d2, d3, d4, d5, d6, d7⟩, -⟩ := FI.out.ha.eight
          go_wp2
          refine wp_region_still_tail 3 (by kernel_rfl) (by kernel_rfl) ?_
          simp only [List.take_succ_cons, List.take_zero, List.drop_succ_cons, List.drop_zero]
          repeat still_step
          refine wpStill_nil ?_
          change wpList _ _ _ _ _ wr.drew
          have F3 := Aside0.mk FI.out.drew
          clear c0 d1 d2 d3 d4 d5 d6 d7 FI
          generalize wr.drew = w7 at F3 ⊢
          have hb7 : ∀ j, j < 64 → w7.cell? ⟨g', o + j, none⟩ = some (.int .u8 (((al.take (o + 64)).drop o).getD j 0)) := fun j hj => by
            rw [cut64 al o j hj]
            exact F3.out.hs.row.cell (o + j) (by have := HN.out; have := HO.out; omega)
          have hl7 : ∀ j, j < 64 → w7.cell? ⟨0, j, none⟩ = some (.int .u32 (roundKs.getD j 0)) := fun j hj =>
            (World.cell?_of_block (a := ⟨0, j, none⟩) (F3.out.hs.below.block 0 HG.out)).trans (HL.out j hj)
          have hbl7 : ((al.take (o + 64)).drop o).length = 64 := by have := HN.out; have := HO.out; rw [List.length_drop, List.length_take]; omega
          have HC := Aside0.mk (block_walk a0 a1 a2 a3 a4 a5 a6 a7 g' o cp _ roundKs h' w7 F3.out.hs.lt hbl7 (by have := HO.out; omega) hb7 hl7 rfl E1.out)
          clear hb7 hl7 hbl7
          go_wp2_with (go_at_call 160; with_reducible refine HC.out.mono ?_; rintro e w8 ⟨rfl, hb8, h8⟩; have HB8 := Aside0.mk hb8; clear hb8)
          have F8 := Aside0.mk (F3.out.on HB8.out)
          clear F3 HB8 HC
          obtain ⟨b0, b1, b2, b3, b4, b5, b6, b7, rfl⟩ := eight h8
          obtain ⟨⟨c0, d1, d2, d3, d4, d5, d6, d7⟩, ⟨f0, f1, f2, f3, f4, f5, f6, f7⟩⟩ := F8.out.ha.eight
          simp only [List.map_cons, List.map_nil]
          have hlc : (ln : Int) ≤ (cp : Int) := by have := HO.out; omega
          have hst : Sem.run Tryd.prog (storeCells ⟨gh, 0, none⟩ [.int .u32 b0, .int .u32 b1, .int .u32 b2, .int .u32 b3, .int .u32 b4, .int .u32 b5, .int .u32 b6, .int .u32 b7]) w8 = .ok () ((((((((w8.setCell ⟨gh, 0, none⟩ (.int .u32 b0)).setCell ⟨gh, 1, none⟩ (.int .u32 b1)).setCell ⟨gh, 2, none⟩ (.int .u32 b2)).setCell ⟨gh, 3, none⟩ (.int .u32 b3)).setCell ⟨gh, 4, none⟩ (.int .u32 b4)).setCell ⟨gh, 5, none⟩ (.int .u32 b5)).setCell ⟨gh, 6, none⟩ (.int .u32 b6)).setCell ⟨gh, 7, none⟩ (.int .u32 b7)) := by
            have := run_storeCells_cells (P := Tryd.prog) gh 0 [.int .u32 b0, .int .u32 b1, .int .u32 b2, .int .u32 b3, .int .u32 b4, .int .u32 b5, .int .u32 b6, .int .u32 b7] 0 w8 (fun j hj => by simp only [Nat.zero_add]; rw [F8.out.ha.cell j (by simpa using hj)]; rfl) (fun j hj => by simp only [Nat.zero_add]; exact F8.out.ha.free j (by simpa using hj)) (fun v hv => by simp only [List.mem_cons, List.not_mem_nil, or_false] at hv; rcases hv with rfl | rfl | rfl | rfl | rfl | rfl | rfl | rfl <;> rfl)
            exact this
          have F9 := Aside0.mk ((((((((F8.out.set 0 (by simp) b0).set 1 (by simp) b1).set 2 (by simp) b2).set 3 (by simp) b3).set 4 (by simp) b4).set 5 (by simp) b5).set 6 (by simp) b6).set 7 (by simp) b7)
          clear c0 d1 d2 d3 d4 d5 d6 d7 f0 f1 f2 f3 f4 f5 f6 f7
          rw [hst]
          clear hst
          generalize World.setCell (World.setCell (World.setCell (World.setCell (World.setCell (World.setCell (World.setCell (World.setCell w8 _ _) _ _) _ _) _ _) _ _) _ _) _ _) _ _ = w9 at F9 ⊢
          by_cases hc64 : cp = 64
          · have hl0 : ln = 64 := by have := HO.out; omega
            subst hc64
            subst hl0
            go_wp2
            go_roundg (gk - 1)
            case measure => omega
            case rel =>
              have := HO.out
              exact ⟨m + 1, o, 0, 0, [b0, b1, b2, b3, b4, b5, b6, b7], by omega, by omega, by omega, rfl, rfl, H2, F9⟩
          · have hc65 : (64 : Int) < (cp : Int) := by omega
            go_wp2
            go_roundg (gk - 1)
            case measure => omega
            case rel =>
              have := HO.out
              exact ⟨m + 1, o + 64, ln - 64, cp - 64, [b0, b1, b2, b3, b4, b5, b6, b7], by omega, by omega, by omega, rfl, rfl, H2, F9⟩
        · have hk0 : gk = 0 := by omega
          subst hk0
          have hln0 : ln = 0 := by omega
          subst hln0
          have H2 := Aside0.mk (hrounds hv al r _ (by have := HN.out; omega) H1.out)
          obtain ⟨a0, a1, a2, a3, a4, a5, a6, a7, rfl⟩ := eight hh
          obtain ⟨⟨c0, d1, d2, d3, d4, d5, d6, d7⟩, -⟩ := FI.out.ha.eight
          have hbel := Aside0.mk FI.out.hs.below
          clear H1 hoc hln FI
          go_wp2
          clear c0 d1 d2 d3 d4 d5 d6 d7
          go_loopg [5, 36] 8 (fun gg v5 v36 wr => ∃ (i : Nat) (ol : List Int), i ≤ 8 ∧ gg + i = 8 ∧ v36 = .int .i64 (i : Int) ∧ v5 = .string (strOfNums ol) ∧ ol.length = 4 * i ∧ Aside0 (spec_l01Hash.lv3 [a0, a1, a2, a3, a4, a5, a6, a7] ol (i : Int) = some r) ∧ Aside0 (Below w.heap.size w wr))
          case atStart => exact ⟨0, [], by omega, by omega, rfl, rfl, rfl, H2, hbel⟩
          case round =>
            clear H2 hbel
            obtain ⟨i, ol, hi, hg, rfl, rfl, hol, H2, hbel⟩ := hrel
            by_cases hlt : i < 8
            · have c1 : ((i : Int) < 8) := by omega
              have H3 := Aside0.mk (hout _ _ _ _ rfl hlt (by omega) H2.out)
              clear H2
              have hix := idx122 a0 a1 a2 a3 a4 a5 a6 a7 wr i hlt
              obtain ⟨x, hx⟩ : ∃ x, ([a0, a1, a2, a3, a4, a5, a6, a7] : List Int).getD i 0 = x := ⟨_, rfl⟩
              rw [hx] at hix H3
              clear hx
              obtain ⟨ky4, y4, hk4, hy4, hs4⟩ := num4s x
              have HK4 := Aside0.mk hk4
              have HY4 := Aside0.mk hy4
              clear hk4 hy4
              have hso : (strOfNums ol).size = ol.length := strsz ol
              have hcat : (strOfNums ol).size + y4.size ≤ 9223372036854775807 := by omega
              have hcat2 : ((strOfNums ol).size : Int) + (y4.size : Int) ≤ 9223372036854775807 := by omega
              have hcat3 : ¬ (9223372036854775807 < ((strOfNums ol).size : Int) + (y4.size : Int)) := by omega
              clear hso
              go_wp2_with (go_at_call 128; with_reducible refine (impl_number.calls ky4 _ _ y4 _ HK4.out).mono ?_; rintro e w5 ⟨rfl, hb5⟩; have HB5 := Aside0.mk hb5; clear hb5)
              go_roundg (8 - (i + 1))
              case measure => omega
              case rel => exact ⟨i + 1, _, by omega, by omega, by go_num, by rw [HY4.out, str_add], by rw [List.length_append, be4_len]; omega, H3, ⟨(hbel.out).trans (HB5.out.mono hbel.out.size)⟩⟩
            · have hlt2 : ¬ ((i : Int) < 8) := by omega
              have e := hdone _ _ _ _ hlt2 H2.out
              subst e
              go_wp2
              go_ret
              exact ⟨rfl, hbel.out⟩
    · have c1 : ¬ ((l.length : Int).tmod 64 = 56) := by rw [Int.tmod_eq_emod_of_nonneg (by omega)]; omega
      have H1 := Aside0.mk (hpad _ _ _ _ (by omega) c H0.out)
      clear H0
      go_wp2_with (first | ((with_reducible refine gate_builtin (b := .append) (xs := #[.tmp 16, .tmp 17]) rfl ?_); at_builtin; refine append1_hs (l := l) 46 5 rfl (.tmp 16) (.tmp 17) rfl Tryd.underlying46 info5 0 (by rfl) rfl F.out (by omega) ?_; clear F; intro g' cap' w2 F0; have F := Aside0.mk F0; clear F0))
      have hgk : 1 ≤ gk := by omega
      go_roundg (gk - 1)
      case measure => omega
      case rel => exact ⟨_, _, _, by rw [List.length_append, List.length_singleton]; omega, by rw [List.length_append, List.length_singleton]; omega, by simp, H1, F⟩
/-- The variable of the round's words, as the program's text lays it. -/
structure Laid (w : World) : Prop where
  cells : ∀ j, j < 64 → w.cell? ⟨0, j, none⟩ = some (.int .u32 (roundKs.getD j 0))
theorem Laid.on {w W : World} (h : Laid w) (b : Below w.heap.size w W) : Laid W :=
  ⟨fun j hj => (World.cell?_of_block (a := ⟨0, j, none⟩) (b.block 0 (World.block_lt_of_cell? w _ (h.cells 0 (by decide))))).trans (h.cells j hj)⟩
end Go.Proofs.YtlifdodphkimpaaDoor.B
end

section
namespace Go.Proofs.YtlifdodphkimpaaDoor.B
open Go.RowKit Go.Proofs.YtlifdodphkimpaaDoorW.PrintWords Go.Proofs.YtlifdodphkimpaaDoorW.PrintLast Go.Proofs.YtlifdodphkimpaaDoorW.PrintMore
attribute [local go_sem] max2_int min2_int max_two min_two max_three min_three max_four min_four
theorem impl_hash.calls (k : Nat) (a0 : ByteArray) (r : ByteArray) (w : World) (hL : Laid w) (h : impl_hash.f k a0 = some r) :
  Calls Tryd.prog 127 #[.string a0] w fun e w' => e = .returned (.string r) ∧ Below w.heap.size w w' := by
 unfold impl_hash.f at h
 by_cases c : a0.size ≤ 40000000
 ·rw [if_pos c] at h
  exact hash_walk a0 r w hL.cells c ((spec_l01Hash.v_lim _).up k r h)
 ·rw [if_neg c] at h
  cases h
set_option maxHeartbeats 8000000 in
set_option maxRecDepth 100000 in
theorem impl_mark.calls (k : Nat) (a0 : Int) (a1 : ByteArray) (r : ByteArray) (w : World) (hL : Laid w) (h : impl_mark.f k a0 a1 = some r) :
  Calls Tryd.prog 141 #[.int .i64 a0,.string a1] w fun e w' => e = .returned (.string r) ∧ Below w.heap.size w w' := by
 have HLD := am_ hL
 clear hL
 have HB := am_ (Below.refl w.heap.size w)
 have H : ((impl_number.f k a0 1).bind fun t986 => (if 8 + t986.size ≤ 9223372036854775807 then ((impl_hash.f k ((⟨#[110,111,100,101,32,107,101,121]⟩ : ByteArray) ++ t986)).bind fun t987 => (if t987.size + a1.size ≤ 9223372036854775807 then ((impl_hash.f k (t987 ++ a1)).bind fun t988 => (if 0 ≤ 8 then (if 8 ≤ (t988.size : Int) then (some (t988.extract 0 8)) else (none)) else (none))) else (none))) else (none))) = some r := h
 clear h
 replace H := Option.bind_eq_some_iff.mp H
 obtain ⟨t986,A30,H⟩ := H
 try dsimp only at H
 have A3 := am_ A30
 clear A30
 by_cases c4 : 8 + t986.size ≤ 9223372036854775807
 ·rw [if_pos c4] at H
  have c4b0 := eq_true c4
  have c4b1 : decide (8 + t986.size ≤ 9223372036854775807) = true := decide_eq_true c4
  try have c4b2 : (9223372036854775807 < 8 + t986.size) = False := eq_false (Nat.not_lt.2 c4)
  replace H := Option.bind_eq_some_iff.mp H
  obtain ⟨t987,A50,H⟩ := H
  try dsimp only at H
  have A5 := am_ A50
  clear A50
  by_cases c6 : t987.size + a1.size ≤ 9223372036854775807
  ·rw [if_pos c6] at H
   have c6b0 := eq_true c6
   have c6b1 : decide (t987.size + a1.size ≤ 9223372036854775807) = true := decide_eq_true c6
   try have c6b2 : (9223372036854775807 < t987.size + a1.size) = False := eq_false (Nat.not_lt.2 c6)
   replace H := Option.bind_eq_some_iff.mp H
   obtain ⟨t988,A70,H⟩ := H
   try dsimp only at H
   have A7 := am_ A70
   clear A70
   by_cases c8 : 0 ≤ 8
   ·rw [if_pos c8] at H
    have c8b0 := eq_true c8
    have c8b1 : decide (0 ≤ 8) = true := decide_eq_true c8
    clear c8
    by_cases c9 : 8 ≤ (t988.size : Int)
    ·rw [if_pos c9] at H
     have c9b0 := eq_true c9
     have c9b1 : decide (8 ≤ (t988.size : Int)) = true := decide_eq_true c9
     clear c9
     obtain rfl := Option.some.inj H
     go_enter Tryd.func141,Tryd.ntmps141
     go_wp2_with (first | ((with_reducible refine gate_callee (f := 128) rfl ?_);refine zgl (some 6) Tryd.func128 #[.int .i64 a0,.int .i64 1] ?_;(with_reducible refine (impl_number.calls k a0 1 t986 _ A3.out).mono ?_);rintro e w10 ⟨rfl,hb⟩;refine ⟨_,rfl,?_⟩;replace HB := zs_ HB hb;(try clear hb);(try clear hb2);(try clear hk);(try clear hi)) | ((with_reducible refine gate_callee (f := 127) rfl ?_);refine zgl (some 8) Tryd.func127 #[.string ((⟨#[110,111,100,101,32,107,101,121]⟩ : ByteArray) ++ t986)] ?_;(with_reducible refine (impl_hash.calls k ((⟨#[110,111,100,101,32,107,101,121]⟩ : ByteArray) ++ t986) t987 _ ?side1 A5.out).mono ?_);(case side1 => exact HLD.out.on (zl_ HB));rintro e w11 ⟨rfl,hb⟩;refine ⟨_,rfl,?_⟩;replace HB := zs_ HB hb;(try clear hb);(try clear hb2);(try clear hk);(try clear hi)) | ((with_reducible refine gate_callee (f := 127) rfl ?_);refine zgl (some 11) Tryd.func127 #[.string (t987 ++ a1)] ?_;(with_reducible refine (impl_hash.calls k (t987 ++ a1) t988 _ ?side1 A7.out).mono ?_);(case side1 => exact HLD.out.on (zl_ HB));rintro e w12 ⟨rfl,hb⟩;refine ⟨_,rfl,?_⟩;replace HB := zs_ HB hb;(try clear hb);(try clear hb2);(try clear hk);(try clear hi)))
     go_ret
     exact ⟨zt_,zl_ HB⟩
    ·rw [if_neg c9] at H
     exact absurd H (by simp)
   ·rw [if_neg c8] at H
    exact absurd H (by simp)
  ·rw [if_neg c6] at H
   exact absurd H (by simp)
 ·rw [if_neg c4] at H
  exact absurd H (by simp)
def impl_replyMac.T1 : Bool × List (List Nat × List Nat) := (true,[([],[]),([0],[0]),([],[]),([2],[2]),([3],[3]),([4],[4]),([],[]),([6],[6]),([7,4],[7]),([5,8],[5,8]),([],[]),([10],[10]),([11,8],[11]),([9,12],[9,12]),([1,13,12],[1,13]),([14,14,0,1,2,3,4,5,6,7,8,9,10,11,12,13,14],[14])])
def impl_replyMac.B1 : List Nat := [0,1,0,4,12,28,0,64,220,508,0,1024,3548,8188,16383,32767]
theorem impl_replyMac.tab1 : rtab .any (opsOf Tryd.f90 1) = impl_replyMac.T1 := by kernel_rfl
theorem impl_replyMac.bits1 : waitsOk impl_replyMac.T1.2 impl_replyMac.B1 = true := by kernel_rfl
set_option maxHeartbeats 8000000 in
set_option maxRecDepth 100000 in
theorem impl_replyMac.calls (k : Nat) (a0_0 : Int) (a0_1 : Int) (a0_2 : Int) (a0_3 : Int) (a0_4 : Int) (a0_5 : Int) (a0_6 : Int) (a0_7 : ByteArray) (r : ByteArray) (w : World) (hL : Laid w) (h : impl_replyMac.f k a0_0 a0_1 a0_2 a0_3 a0_4 a0_5 a0_6 a0_7 = some r) :
  Calls Tryd.prog 90 #[.agg #[.int .i64 a0_0,.int .i64 a0_1,.int .i64 a0_2,.int .i64 a0_3,.int .i64 a0_4,.int .i64 a0_5,.int .i64 a0_6,.string a0_7]] w fun e w' => e = .returned (.string r) ∧ Below w.heap.size w w' := by
 have hu73 := Tryd.underlying73
 have hu63 := Tryd.underlying63
 have HLD := am_ hL
 clear hL
 have HB := am_ (Below.refl w.heap.size w)
 have H : ((impl_number.f k a0_1 1).bind fun t995 => (if 5 + t995.size ≤ 9223372036854775807 then ((impl_number.f k a0_2 2).bind fun t996 => (if ((⟨#[114,101,112,108,121]⟩ : ByteArray) ++ t995).size + t996.size ≤ 9223372036854775807 then ((impl_answerText.f k a0_3 a0_4 a0_5 a0_6).bind fun t997 => (if (((⟨#[114,101,112,108,121]⟩ : ByteArray) ++ t995) ++ t996).size + t997.size ≤ 9223372036854775807 then ((impl_mark.f k a0_0 ((((⟨#[114,101,112,108,121]⟩ : ByteArray) ++ t995) ++ t996) ++ t997)).bind fun t998 => (some t998)) else (none))) else (none))) else (none))) = some r := h
 clear h
 replace H := Option.bind_eq_some_iff.mp H
 obtain ⟨t995,A20,H⟩ := H
 try dsimp only at H
 have A2 := am_ A20
 clear A20
 by_cases c3 : 5 + t995.size ≤ 9223372036854775807
 ·rw [if_pos c3] at H
  have c3b0 := eq_true c3
  have c3b1 : decide (5 + t995.size ≤ 9223372036854775807) = true := decide_eq_true c3
  try have c3b2 : (9223372036854775807 < 5 + t995.size) = False := eq_false (Nat.not_lt.2 c3)
  replace H := Option.bind_eq_some_iff.mp H
  obtain ⟨t996,A40,H⟩ := H
  try dsimp only at H
  have A4 := am_ A40
  clear A40
  by_cases c5 : ((⟨#[114,101,112,108,121]⟩ : ByteArray) ++ t995).size + t996.size ≤ 9223372036854775807
  ·rw [if_pos c5] at H
   have c5b0 := eq_true c5
   have c5b1 : decide (((⟨#[114,101,112,108,121]⟩ : ByteArray) ++ t995).size + t996.size ≤ 9223372036854775807) = true := decide_eq_true c5
   try have c5b2 : (9223372036854775807 < ((⟨#[114,101,112,108,121]⟩ : ByteArray) ++ t995).size + t996.size) = False := eq_false (Nat.not_lt.2 c5)
   (try have c5b3 := c5b2;simp only [ByteArray.size_append,show (⟨#[114,101,112,108,121]⟩ : ByteArray).size = 5 from rfl] at c5b3)
   replace H := Option.bind_eq_some_iff.mp H
   obtain ⟨t997,A60,H⟩ := H
   try dsimp only at H
   have A6 := am_ A60
   clear A60
   by_cases c7 : (((⟨#[114,101,112,108,121]⟩ : ByteArray) ++ t995) ++ t996).size + t997.size ≤ 9223372036854775807
   ·rw [if_pos c7] at H
    have c7b0 := eq_true c7
    have c7b1 : decide ((((⟨#[114,101,112,108,121]⟩ : ByteArray) ++ t995) ++ t996).size + t997.size ≤ 9223372036854775807) = true := decide_eq_true c7
    try have c7b2 : (9223372036854775807 < (((⟨#[114,101,112,108,121]⟩ : ByteArray) ++ t995) ++ t996).size + t997.size) = False := eq_false (Nat.not_lt.2 c7)
    (try have c7b3 := c7b2;simp only [ByteArray.size_append,show (⟨#[114,101,112,108,121]⟩ : ByteArray).size = 5 from rfl] at c7b3)
    replace H := Option.bind_eq_some_iff.mp H
    obtain ⟨t998,A80,H⟩ := H
    try dsimp only at H
    have A8 := am_ A80
    clear A80
    obtain rfl := Option.some.inj H
    go_enter Tryd.func90,Tryd.ntmps90
    try go_wp2_with (first | ((with_reducible refine gate_dst (N := 1) rfl ?_);refine zbx (N := 1) (cs := #[.int .i64 a0_0,.int .i64 a0_1,.int .i64 a0_2,.int .i64 a0_3,.int .i64 a0_4,.int .i64 a0_5,.int .i64 a0_6,.string a0_7]) (t := 73) ?_;intro gb994 hg w9 hbox hb;have BK994 := am_ (hbox);have GW994 := zw_ HB hg;have GE994 := zw_ HB hg;replace HB := zs_ HB hb;clear hb hbox hg))
    replace BK994 := am_ (blk_drew BK994.out)
    replace HB := am_ (below_drew1 HB.out)
    refine start_ (n := 16) (S := fun w' => w'.cell? ⟨gb994,0,none⟩ = some (.int .i64 a0_0) ∧ w'.cell? ⟨gb994,1,none⟩ = some (.int .i64 a0_1) ∧ w'.cell? ⟨gb994,2,none⟩ = some (.int .i64 a0_2) ∧ w'.cell? ⟨gb994,3,none⟩ = some (.int .i64 a0_3) ∧ w'.cell? ⟨gb994,4,none⟩ = some (.int .i64 a0_4) ∧ w'.cell? ⟨gb994,5,none⟩ = some (.int .i64 a0_5) ∧ w'.cell? ⟨gb994,6,none⟩ = some (.int .i64 a0_6) ∧ w'.cell? ⟨gb994,7,none⟩ = some (.string a0_7)) (ds := []) #[false,false,false,false,false,false,false,false,false,false,false,false,false,false,false,false] (by kernel_rfl) rfl rfl ⟨(blk_cell BK994.out 0).trans rfl,(blk_cell BK994.out 1).trans rfl,(blk_cell BK994.out 2).trans rfl,(blk_cell BK994.out 3).trans rfl,(blk_cell BK994.out 4).trans rfl,(blk_cell BK994.out 5).trans rfl,(blk_cell BK994.out 6).trans rfl,(blk_cell BK994.out 7).trans rfl⟩ (fun hHeld => ?_);refine with_tabW impl_replyMac.tab1 impl_replyMac.bits1 (fun HT_ HW_ => ?_)
    generalize w9.drew = w10 at BK994 HB hHeld ⊢
    refine zpu 0 (N := some 3) HT_ ?_
    refine zpu 2 (N := some 5) HT_ ?_
    refine zpu 6 (N := some 9) HT_ ?_
    refine zpu 10 (N := some 13) HT_ ?_
    refine ztk 1 (N := some 4) HT_ HW_ hHeld ?_
    refine ztk 3 (N := some 6) HT_ HW_ hHeld ?_
    refine ztk 7 (N := some 10) HT_ HW_ hHeld ?_
    refine ztk 11 (N := some 14) HT_ HW_ hHeld ?_
    refine zon 4 (N := some 7) HT_ (fun K hK => ?_)
    refine zgo Tryd.func128 #[.int .i64 a0_1,.int .i64 1] ?_
    with_reducible refine (impl_number.calls k a0_1 1 t995 _ A2.out).mono ?_
    rintro e w11 ⟨rfl,hb⟩
    refine ⟨_,rfl,?_⟩
    replace BK994 := zb BK994 hb
    replace HB := zs_ HB hb
    (try clear hb)
    (try clear hb2)
    (try clear hk)
    (try clear hi)
    refine hK.out _ _ ⟨(blk_cell BK994.out 0).trans rfl,(blk_cell BK994.out 1).trans rfl,(blk_cell BK994.out 2).trans rfl,(blk_cell BK994.out 3).trans rfl,(blk_cell BK994.out 4).trans rfl,(blk_cell BK994.out 5).trans rfl,(blk_cell BK994.out 6).trans rfl,(blk_cell BK994.out 7).trans rfl⟩ (fun hHeld => ?_)
    clear hK K
    refine norm_ (a' := ?_) ?_ ?_
    rotate_left
    ·show Act.put _ (some 7) _ = _
     simp only [Act.put,p1_,p2_,p3_,i64_w,i32_w]
     rfl
    refine zpu 5 (N := some 8) HT_ ?_
    refine zon 8 (N := some 11) HT_ (fun K hK => ?_)
    refine zgo Tryd.func128 #[.int .i64 a0_2,.int .i64 2] ?_
    with_reducible refine (impl_number.calls k a0_2 2 t996 _ A4.out).mono ?_
    rintro e w12 ⟨rfl,hb⟩
    refine ⟨_,rfl,?_⟩
    replace BK994 := zb BK994 hb
    replace HB := zs_ HB hb
    (try clear hb)
    (try clear hb2)
    (try clear hk)
    (try clear hi)
    refine hK.out _ _ ⟨(blk_cell BK994.out 0).trans rfl,(blk_cell BK994.out 1).trans rfl,(blk_cell BK994.out 2).trans rfl,(blk_cell BK994.out 3).trans rfl,(blk_cell BK994.out 4).trans rfl,(blk_cell BK994.out 5).trans rfl,(blk_cell BK994.out 6).trans rfl,(blk_cell BK994.out 7).trans rfl⟩ (fun hHeld => ?_)
    clear hK K
    refine norm_ (a' := ?_) ?_ ?_
    rotate_left
    ·show Act.put _ (some 11) _ = _
     simp only [Act.put,p1_,p2_,p3_,i64_w,i32_w]
     rfl
    refine zpu 9 (N := some 12) HT_ ?_
    refine zon 12 (N := some 15) HT_ (fun K hK => ?_)
    refine zgo Tryd.func142 #[.agg #[.int .i64 a0_3,.int .i64 a0_4,.int .i64 a0_5,.int .i64 a0_6]] ?_
    with_reducible refine (impl_answerText.calls k a0_3 a0_4 a0_5 a0_6 t997 _ A6.out).mono ?_
    rintro e w13 ⟨rfl,hb⟩
    refine ⟨_,rfl,?_⟩
    replace BK994 := zb BK994 hb
    replace HB := zs_ HB hb
    (try clear hb)
    (try clear hb2)
    (try clear hk)
    (try clear hi)
    refine hK.out _ _ ⟨(blk_cell BK994.out 0).trans rfl,(blk_cell BK994.out 1).trans rfl,(blk_cell BK994.out 2).trans rfl,(blk_cell BK994.out 3).trans rfl,(blk_cell BK994.out 4).trans rfl,(blk_cell BK994.out 5).trans rfl,(blk_cell BK994.out 6).trans rfl,(blk_cell BK994.out 7).trans rfl⟩ (fun hHeld => ?_)
    clear hK K
    refine norm_ (a' := ?_) ?_ ?_
    rotate_left
    ·show Act.put _ (some 15) _ = _
     simp only [Act.put,p1_,p2_,p3_,i64_w,i32_w]
     rfl
    refine zpu 13 (N := some 16) HT_ ?_
    refine zon 14 (N := some 17) HT_ (fun K hK => ?_)
    refine zgo Tryd.func141 #[.int .i64 a0_0,.string ((((⟨#[114,101,112,108,121]⟩ : ByteArray) ++ t995) ++ t996) ++ t997)] ?_
    with_reducible refine (impl_mark.calls k a0_0 ((((⟨#[114,101,112,108,121]⟩ : ByteArray) ++ t995) ++ t996) ++ t997) t998 _ ?side1 A8.out).mono ?_
    (case side1 => exact HLD.out.on (zl_ HB))
    rintro e w14 ⟨rfl,hb⟩
    refine ⟨_,rfl,?_⟩
    replace BK994 := zb BK994 hb
    replace HB := zs_ HB hb
    (try clear hb)
    (try clear hb2)
    (try clear hk)
    (try clear hi)
    refine hK.out _ _ ⟨(blk_cell BK994.out 0).trans rfl,(blk_cell BK994.out 1).trans rfl,(blk_cell BK994.out 2).trans rfl,(blk_cell BK994.out 3).trans rfl,(blk_cell BK994.out 4).trans rfl,(blk_cell BK994.out 5).trans rfl,(blk_cell BK994.out 6).trans rfl,(blk_cell BK994.out 7).trans rfl⟩ (fun hHeld => ?_)
    clear hK K
    refine norm_ (a' := ?_) ?_ ?_
    rotate_left
    ·show Act.put _ (some 17) _ = _
     simp only [Act.put,p1_,p2_,p3_,i64_w,i32_w]
     rfl
    refine zpu 15 (N := some 2) HT_ ?_
    refine done_ (done_of HT_.out (by kernel_rfl)) ?_
    try go_wp2
    go_ret
    exact ⟨zt_,zl_ HB⟩
   ·rw [if_neg c7] at H
    exact absurd H (by simp)
  ·rw [if_neg c5] at H
   exact absurd H (by simp)
 ·rw [if_neg c3] at H
  exact absurd H (by simp)
def impl_ReplyOK.T1 : Bool × List (List Nat × List Nat) := (true,[([],[]),([0],[0]),([1,1],[1]),([2],[2]),([3,2,2],[2,3]),([2,4],[2,4]),([5,4],[5]),([6],[6]),([7,6],[6,7]),([6],[6]),([8,9,6],[6,8,9]),([6,10],[6,10]),([11,6],[11]),([12],[12]),([13,12],[12,13]),([12],[12]),([15,12,12],[12,15]),([14,16,12],[12,14,16]),([12,17],[12,17]),([18,16,0,1,2,3,4,5,6,7,8,9,10,11,12,13,14,15,16,17,18],[18])])
def impl_ReplyOK.B1 : List Nat := [0,1,3,7,15,31,63,127,255,127,1023,2047,4095,8191,16383,8191,40959,131071,262143,524287]
theorem impl_ReplyOK.tab1 : rtab .any (opsOf Tryd.f41 1) = impl_ReplyOK.T1 := by kernel_rfl
theorem impl_ReplyOK.bits1 : waitsOk impl_ReplyOK.T1.2 impl_ReplyOK.B1 = true := by kernel_rfl
set_option maxHeartbeats 8000000 in
set_option maxRecDepth 100000 in
theorem impl_ReplyOK.calls (k : Nat) (a0 : Int) (a1_0 : Int) (a1_1 : Int) (a1_2 : Int) (a1_3 : Int) (a1_4 : Int) (a1_5 : Int) (a1_6 : Int) (a1_7 : ByteArray) (r : Bool) (w : World) (hL : Laid w) (h : impl_ReplyOK.f k a0 a1_0 a1_1 a1_2 a1_3 a1_4 a1_5 a1_6 a1_7 = some r) :
  Calls Tryd.prog 41 #[.int .i64 a0,.agg #[.int .i64 a1_0,.int .i64 a1_1,.int .i64 a1_2,.int .i64 a1_3,.int .i64 a1_4,.int .i64 a1_5,.int .i64 a1_6,.string a1_7]] w fun e w' => e = .returned (.bool r) ∧ Below w.heap.size w w' := by
 have hu73 := Tryd.underlying73
 have HLD := am_ hL
 clear hL
 have HB := am_ (Below.refl w.heap.size w)
 have H : ((impl_areNodes.f a0).bind fun t1000 => (if t1000 = true then ((impl_isReply.f a1_0 a1_1 a1_2 a1_3 a1_4 a1_5 a1_6 a1_7).bind fun t1001 => (if t1001 = true then (if a1_0 < a0 then ((impl_replyMac.f k a1_0 a1_1 a1_2 a1_3 a1_4 a1_5 a1_6 a1_7).bind fun t1002 => (some (a1_7.toList == t1002.toList))) else (some false)) else (some false))) else (some false))) = some r := h
 clear h
 replace H := Option.bind_eq_some_iff.mp H
 obtain ⟨t1000,A30,H⟩ := H
 try dsimp only at H
 have A3 := am_ A30
 clear A30
 by_cases c4 : t1000 = true
 ·subst c4
  have H1 : ((impl_isReply.f a1_0 a1_1 a1_2 a1_3 a1_4 a1_5 a1_6 a1_7).bind fun t1001 => (if t1001 = true then (if a1_0 < a0 then ((impl_replyMac.f k a1_0 a1_1 a1_2 a1_3 a1_4 a1_5 a1_6 a1_7).bind fun t1002 => (some (a1_7.toList == t1002.toList))) else (some false)) else (some false))) = some r := by rw [if_pos rfl] at H;exact H
  clear H
  have H := H1
  clear H1
  replace H := Option.bind_eq_some_iff.mp H
  obtain ⟨t1001,A50,H⟩ := H
  try dsimp only at H
  have A5 := am_ A50
  clear A50
  by_cases c6 : t1001 = true
  ·subst c6
   have H1 : (if a1_0 < a0 then ((impl_replyMac.f k a1_0 a1_1 a1_2 a1_3 a1_4 a1_5 a1_6 a1_7).bind fun t1002 => (some (a1_7.toList == t1002.toList))) else (some false)) = some r := by rw [if_pos rfl] at H;exact H
   clear H
   have H := H1
   clear H1
   by_cases c7 : a1_0 < a0
   ·rw [if_pos c7] at H
    have c7b0 : decide (a1_0 < a0) = true := decide_eq_true c7
    clear c7
    replace H := Option.bind_eq_some_iff.mp H
    obtain ⟨t1002,A80,H⟩ := H
    try dsimp only at H
    have A8 := am_ A80
    clear A80
    obtain rfl := Option.some.inj H
    go_enter Tryd.func41,Tryd.ntmps41
    try go_wp2_with (first | ((with_reducible refine gate_dst (N := 3) rfl ?_);refine zbx (N := 3) (cs := #[.int .i64 a1_0,.int .i64 a1_1,.int .i64 a1_2,.int .i64 a1_3,.int .i64 a1_4,.int .i64 a1_5,.int .i64 a1_6,.string a1_7]) (t := 73) ?_;intro gb999 hg w9 hbox hb;have BK999 := am_ (hbox);have GW999 := zw_ HB hg;have GE999 := zw_ HB hg;replace HB := zs_ HB hb;clear hb hbox hg))
    replace BK999 := am_ (blk_drew BK999.out)
    replace HB := am_ (below_drew1 HB.out)
    refine start_ (n := 20) (S := fun w' => w'.cell? ⟨gb999,0,none⟩ = some (.int .i64 a1_0) ∧ w'.cell? ⟨gb999,1,none⟩ = some (.int .i64 a1_1) ∧ w'.cell? ⟨gb999,2,none⟩ = some (.int .i64 a1_2) ∧ w'.cell? ⟨gb999,3,none⟩ = some (.int .i64 a1_3) ∧ w'.cell? ⟨gb999,4,none⟩ = some (.int .i64 a1_4) ∧ w'.cell? ⟨gb999,5,none⟩ = some (.int .i64 a1_5) ∧ w'.cell? ⟨gb999,6,none⟩ = some (.int .i64 a1_6) ∧ w'.cell? ⟨gb999,7,none⟩ = some (.string a1_7)) (ds := []) #[false,false,false,false,false,false,false,false,false,false,false,false,false,false,false,false,false,false,false,false] (by kernel_rfl) rfl rfl ⟨(blk_cell BK999.out 0).trans rfl,(blk_cell BK999.out 1).trans rfl,(blk_cell BK999.out 2).trans rfl,(blk_cell BK999.out 3).trans rfl,(blk_cell BK999.out 4).trans rfl,(blk_cell BK999.out 5).trans rfl,(blk_cell BK999.out 6).trans rfl,(blk_cell BK999.out 7).trans rfl⟩ (fun hHeld => ?_);refine with_tabW impl_ReplyOK.tab1 impl_ReplyOK.bits1 (fun HT_ HW_ => ?_)
    generalize w9.drew = w10 at BK999 HB hHeld ⊢
    refine zpu 0 (N := some 5) HT_ ?_
    refine zon 1 (N := some 6) HT_ (fun K hK => ?_)
    refine zgo Tryd.func61 #[.int .i64 a0] ?_
    with_reducible refine (impl_areNodes.calls a0 true _ A3.out).mono ?_
    rintro e w' ⟨rfl,⟨nd,rfl⟩⟩
    refine ⟨_,rfl,?_⟩
    refine hK.out _ _ ⟨(blk_cell BK999.out 0).trans rfl,(blk_cell BK999.out 1).trans rfl,(blk_cell BK999.out 2).trans rfl,(blk_cell BK999.out 3).trans rfl,(blk_cell BK999.out 4).trans rfl,(blk_cell BK999.out 5).trans rfl,(blk_cell BK999.out 6).trans rfl,(blk_cell BK999.out 7).trans rfl⟩ (fun hHeld => ?_)
    clear hK K
    refine norm_ (a' := ?_) ?_ ?_
    rotate_left
    ·show Act.put _ (some 6) _ = _
     simp only [Act.put,p1_,p2_,p3_,i64_w,i32_w]
     rfl
    refine zpu 2 (N := some 7) HT_ ?_
    refine ztk 3 (N := some 8) HT_ HW_ hHeld ?_
    refine zon 4 (N := some 9) HT_ (fun K hK => ?_)
    refine zgo Tryd.func89 #[.agg #[.int .i64 a1_0,.int .i64 a1_1,.int .i64 a1_2,.int .i64 a1_3,.int .i64 a1_4,.int .i64 a1_5,.int .i64 a1_6,.string a1_7]] ?_
    with_reducible refine (impl_isReply.calls a1_0 a1_1 a1_2 a1_3 a1_4 a1_5 a1_6 a1_7 true _ A5.out).mono ?_
    rintro e w11 ⟨rfl,hb⟩
    refine ⟨_,rfl,?_⟩
    replace BK999 := zb BK999 hb
    replace HB := zs_ HB hb
    (try clear hb)
    (try clear hb2)
    (try clear hk)
    (try clear hi)
    refine hK.out _ _ ⟨(blk_cell BK999.out 0).trans rfl,(blk_cell BK999.out 1).trans rfl,(blk_cell BK999.out 2).trans rfl,(blk_cell BK999.out 3).trans rfl,(blk_cell BK999.out 4).trans rfl,(blk_cell BK999.out 5).trans rfl,(blk_cell BK999.out 6).trans rfl,(blk_cell BK999.out 7).trans rfl⟩ (fun hHeld => ?_)
    clear hK K
    refine norm_ (a' := ?_) ?_ ?_
    rotate_left
    ·show Act.put _ (some 9) _ = _
     simp only [Act.put,p1_,p2_,p3_,i64_w,i32_w]
     rfl
    refine zpu 5 (N := some 10) HT_ ?_
    refine zpu 6 (N := some 11) HT_ ?_
    refine zpu 7 (N := some 12) HT_ ?_
    refine zpu 9 (N := some 14) HT_ ?_
    refine ztk 8 (N := some 13) HT_ HW_ hHeld ?_
    refine zpu 10 (N := some 15) HT_ ?_
    refine zpu 11 (N := some 16) HT_ ?_
    refine zpu 12 (N := some 17) HT_ ?_
    refine zpu 13 (N := some 18) HT_ ?_
    refine ztk 14 (N := some 19) HT_ HW_ hHeld ?_
    refine ztk 15 (N := some 20) HT_ HW_ hHeld ?_
    refine zon 16 (N := some 21) HT_ (fun K hK => ?_)
    refine zgo Tryd.func90 #[.agg #[.int .i64 a1_0,.int .i64 a1_1,.int .i64 a1_2,.int .i64 a1_3,.int .i64 a1_4,.int .i64 a1_5,.int .i64 a1_6,.string a1_7]] ?_
    with_reducible refine (impl_replyMac.calls k a1_0 a1_1 a1_2 a1_3 a1_4 a1_5 a1_6 a1_7 t1002 _ ?side1 A8.out).mono ?_
    (case side1 => exact HLD.out.on (zl_ HB))
    rintro e w12 ⟨rfl,hb⟩
    refine ⟨_,rfl,?_⟩
    replace BK999 := zb BK999 hb
    replace HB := zs_ HB hb
    (try clear hb)
    (try clear hb2)
    (try clear hk)
    (try clear hi)
    refine hK.out _ _ ⟨(blk_cell BK999.out 0).trans rfl,(blk_cell BK999.out 1).trans rfl,(blk_cell BK999.out 2).trans rfl,(blk_cell BK999.out 3).trans rfl,(blk_cell BK999.out 4).trans rfl,(blk_cell BK999.out 5).trans rfl,(blk_cell BK999.out 6).trans rfl,(blk_cell BK999.out 7).trans rfl⟩ (fun hHeld => ?_)
    clear hK K
    refine norm_ (a' := ?_) ?_ ?_
    rotate_left
    ·show Act.put _ (some 21) _ = _
     simp only [Act.put,p1_,p2_,p3_,i64_w,i32_w]
     rfl
    refine zpu 17 (N := some 22) HT_ ?_
    refine zpu 18 (N := some 23) HT_ ?_
    refine zpu 19 (N := some 4) HT_ ?_
    refine done_ (done_of HT_.out (by kernel_rfl)) ?_
    try go_wp2
    go_ret
    exact ⟨zt_,zl_ HB⟩
   ·rw [if_neg c7] at H
    have c7b0 : decide (a1_0 < a0) = false := decide_eq_false c7
    clear c7
    obtain rfl := Option.some.inj H
    go_enter Tryd.func41,Tryd.ntmps41
    try go_wp2_with (first | ((with_reducible refine gate_dst (N := 3) rfl ?_);refine zbx (N := 3) (cs := #[.int .i64 a1_0,.int .i64 a1_1,.int .i64 a1_2,.int .i64 a1_3,.int .i64 a1_4,.int .i64 a1_5,.int .i64 a1_6,.string a1_7]) (t := 73) ?_;intro gb999 hg w13 hbox hb;have BK999 := am_ (hbox);have GW999 := zw_ HB hg;have GE999 := zw_ HB hg;replace HB := zs_ HB hb;clear hb hbox hg))
    replace BK999 := am_ (blk_drew BK999.out)
    replace HB := am_ (below_drew1 HB.out)
    refine start_ (n := 20) (S := fun w' => w'.cell? ⟨gb999,0,none⟩ = some (.int .i64 a1_0) ∧ w'.cell? ⟨gb999,1,none⟩ = some (.int .i64 a1_1) ∧ w'.cell? ⟨gb999,2,none⟩ = some (.int .i64 a1_2) ∧ w'.cell? ⟨gb999,3,none⟩ = some (.int .i64 a1_3) ∧ w'.cell? ⟨gb999,4,none⟩ = some (.int .i64 a1_4) ∧ w'.cell? ⟨gb999,5,none⟩ = some (.int .i64 a1_5) ∧ w'.cell? ⟨gb999,6,none⟩ = some (.int .i64 a1_6) ∧ w'.cell? ⟨gb999,7,none⟩ = some (.string a1_7)) (ds := []) #[false,false,false,false,false,false,false,false,false,false,false,false,false,false,false,false,false,false,false,false] (by kernel_rfl) rfl rfl ⟨(blk_cell BK999.out 0).trans rfl,(blk_cell BK999.out 1).trans rfl,(blk_cell BK999.out 2).trans rfl,(blk_cell BK999.out 3).trans rfl,(blk_cell BK999.out 4).trans rfl,(blk_cell BK999.out 5).trans rfl,(blk_cell BK999.out 6).trans rfl,(blk_cell BK999.out 7).trans rfl⟩ (fun hHeld => ?_);refine with_tabW impl_ReplyOK.tab1 impl_ReplyOK.bits1 (fun HT_ HW_ => ?_)
    generalize w13.drew = w14 at BK999 HB hHeld ⊢
    refine zpu 0 (N := some 5) HT_ ?_
    refine zon 1 (N := some 6) HT_ (fun K hK => ?_)
    refine zgo Tryd.func61 #[.int .i64 a0] ?_
    with_reducible refine (impl_areNodes.calls a0 true _ A3.out).mono ?_
    rintro e w' ⟨rfl,⟨nd,rfl⟩⟩
    refine ⟨_,rfl,?_⟩
    refine hK.out _ _ ⟨(blk_cell BK999.out 0).trans rfl,(blk_cell BK999.out 1).trans rfl,(blk_cell BK999.out 2).trans rfl,(blk_cell BK999.out 3).trans rfl,(blk_cell BK999.out 4).trans rfl,(blk_cell BK999.out 5).trans rfl,(blk_cell BK999.out 6).trans rfl,(blk_cell BK999.out 7).trans rfl⟩ (fun hHeld => ?_)
    clear hK K
    refine norm_ (a' := ?_) ?_ ?_
    rotate_left
    ·show Act.put _ (some 6) _ = _
     simp only [Act.put,p1_,p2_,p3_,i64_w,i32_w]
     rfl
    refine zpu 2 (N := some 7) HT_ ?_
    refine ztk 3 (N := some 8) HT_ HW_ hHeld ?_
    refine zon 4 (N := some 9) HT_ (fun K hK => ?_)
    refine zgo Tryd.func89 #[.agg #[.int .i64 a1_0,.int .i64 a1_1,.int .i64 a1_2,.int .i64 a1_3,.int .i64 a1_4,.int .i64 a1_5,.int .i64 a1_6,.string a1_7]] ?_
    with_reducible refine (impl_isReply.calls a1_0 a1_1 a1_2 a1_3 a1_4 a1_5 a1_6 a1_7 true _ A5.out).mono ?_
    rintro e w15 ⟨rfl,hb⟩
    refine ⟨_,rfl,?_⟩
    replace BK999 := zb BK999 hb
    replace HB := zs_ HB hb
    (try clear hb)
    (try clear hb2)
    (try clear hk)
    (try clear hi)
    refine hK.out _ _ ⟨(blk_cell BK999.out 0).trans rfl,(blk_cell BK999.out 1).trans rfl,(blk_cell BK999.out 2).trans rfl,(blk_cell BK999.out 3).trans rfl,(blk_cell BK999.out 4).trans rfl,(blk_cell BK999.out 5).trans rfl,(blk_cell BK999.out 6).trans rfl,(blk_cell BK999.out 7).trans rfl⟩ (fun hHeld => ?_)
    clear hK K
    refine norm_ (a' := ?_) ?_ ?_
    rotate_left
    ·show Act.put _ (some 9) _ = _
     simp only [Act.put,p1_,p2_,p3_,i64_w,i32_w]
     rfl
    refine zpu 5 (N := some 10) HT_ ?_
    refine zpu 6 (N := some 11) HT_ ?_
    refine zpu 7 (N := some 12) HT_ ?_
    refine zpu 9 (N := some 14) HT_ ?_
    refine ztk 8 (N := some 13) HT_ HW_ hHeld ?_
    refine zpu 10 (N := some 15) HT_ ?_
    refine zpu 11 (N := some 16) HT_ ?_
    refine zpu 12 (N := some 17) HT_ ?_
    refine zpx 13 (N := some 18) HT_ ?_
    refine zpx 14 (N := some 19) HT_ ?_
    refine zpx 15 (N := some 20) HT_ ?_
    refine zpx 16 (N := some 21) HT_ ?_
    refine zpx 17 (N := some 22) HT_ ?_
    refine zpu 18 (N := some 23) HT_ ?_
    refine zpu 19 (N := some 4) HT_ ?_
    refine done_ (done_of HT_.out (by kernel_rfl)) ?_
    try go_wp2
    go_ret
    exact ⟨zt_,zl_ HB⟩
  ·replace c6 := Bool.eq_false_iff.mpr c6
   subst c6
   have H1 : (some false) = some r := by rw [if_neg (show ¬ (false = true) by decide)] at H;exact H
   clear H
   have H := H1
   clear H1
   obtain rfl := Option.some.inj H
   go_enter Tryd.func41,Tryd.ntmps41
   try go_wp2_with (first | ((with_reducible refine gate_dst (N := 3) rfl ?_);refine zbx (N := 3) (cs := #[.int .i64 a1_0,.int .i64 a1_1,.int .i64 a1_2,.int .i64 a1_3,.int .i64 a1_4,.int .i64 a1_5,.int .i64 a1_6,.string a1_7]) (t := 73) ?_;intro gb999 hg w16 hbox hb;have BK999 := am_ (hbox);have GW999 := zw_ HB hg;have GE999 := zw_ HB hg;replace HB := zs_ HB hb;clear hb hbox hg))
   replace BK999 := am_ (blk_drew BK999.out)
   replace HB := am_ (below_drew1 HB.out)
   refine start_ (n := 20) (S := fun w' => w'.cell? ⟨gb999,0,none⟩ = some (.int .i64 a1_0) ∧ w'.cell? ⟨gb999,1,none⟩ = some (.int .i64 a1_1) ∧ w'.cell? ⟨gb999,2,none⟩ = some (.int .i64 a1_2) ∧ w'.cell? ⟨gb999,3,none⟩ = some (.int .i64 a1_3) ∧ w'.cell? ⟨gb999,4,none⟩ = some (.int .i64 a1_4) ∧ w'.cell? ⟨gb999,5,none⟩ = some (.int .i64 a1_5) ∧ w'.cell? ⟨gb999,6,none⟩ = some (.int .i64 a1_6) ∧ w'.cell? ⟨gb999,7,none⟩ = some (.string a1_7)) (ds := []) #[false,false,false,false,false,false,false,false,false,false,false,false,false,false,false,false,false,false,false,false] (by kernel_rfl) rfl rfl ⟨(blk_cell BK999.out 0).trans rfl,(blk_cell BK999.out 1).trans rfl,(blk_cell BK999.out 2).trans rfl,(blk_cell BK999.out 3).trans rfl,(blk_cell BK999.out 4).trans rfl,(blk_cell BK999.out 5).trans rfl,(blk_cell BK999.out 6).trans rfl,(blk_cell BK999.out 7).trans rfl⟩ (fun hHeld => ?_);refine with_tabW impl_ReplyOK.tab1 impl_ReplyOK.bits1 (fun HT_ HW_ => ?_)
   generalize w16.drew = w17 at BK999 HB hHeld ⊢
   refine zpu 0 (N := some 5) HT_ ?_
   refine zon 1 (N := some 6) HT_ (fun K hK => ?_)
   refine zgo Tryd.func61 #[.int .i64 a0] ?_
   with_reducible refine (impl_areNodes.calls a0 true _ A3.out).mono ?_
   rintro e w' ⟨rfl,⟨nd,rfl⟩⟩
   refine ⟨_,rfl,?_⟩
   refine hK.out _ _ ⟨(blk_cell BK999.out 0).trans rfl,(blk_cell BK999.out 1).trans rfl,(blk_cell BK999.out 2).trans rfl,(blk_cell BK999.out 3).trans rfl,(blk_cell BK999.out 4).trans rfl,(blk_cell BK999.out 5).trans rfl,(blk_cell BK999.out 6).trans rfl,(blk_cell BK999.out 7).trans rfl⟩ (fun hHeld => ?_)
   clear hK K
   refine norm_ (a' := ?_) ?_ ?_
   rotate_left
   ·show Act.put _ (some 6) _ = _
    simp only [Act.put,p1_,p2_,p3_,i64_w,i32_w]
    rfl
   refine zpu 2 (N := some 7) HT_ ?_
   refine ztk 3 (N := some 8) HT_ HW_ hHeld ?_
   refine zon 4 (N := some 9) HT_ (fun K hK => ?_)
   refine zgo Tryd.func89 #[.agg #[.int .i64 a1_0,.int .i64 a1_1,.int .i64 a1_2,.int .i64 a1_3,.int .i64 a1_4,.int .i64 a1_5,.int .i64 a1_6,.string a1_7]] ?_
   with_reducible refine (impl_isReply.calls a1_0 a1_1 a1_2 a1_3 a1_4 a1_5 a1_6 a1_7 false _ A5.out).mono ?_
   rintro e w18 ⟨rfl,hb⟩
   refine ⟨_,rfl,?_⟩
   replace BK999 := zb BK999 hb
   replace HB := zs_ HB hb
   (try clear hb)
   (try clear hb2)
   (try clear hk)
   (try clear hi)
   refine hK.out _ _ ⟨(blk_cell BK999.out 0).trans rfl,(blk_cell BK999.out 1).trans rfl,(blk_cell BK999.out 2).trans rfl,(blk_cell BK999.out 3).trans rfl,(blk_cell BK999.out 4).trans rfl,(blk_cell BK999.out 5).trans rfl,(blk_cell BK999.out 6).trans rfl,(blk_cell BK999.out 7).trans rfl⟩ (fun hHeld => ?_)
   clear hK K
   refine norm_ (a' := ?_) ?_ ?_
   rotate_left
   ·show Act.put _ (some 9) _ = _
    simp only [Act.put,p1_,p2_,p3_,i64_w,i32_w]
    rfl
   refine zpu 5 (N := some 10) HT_ ?_
   refine zpu 6 (N := some 11) HT_ ?_
   refine zpx 7 (N := some 12) HT_ ?_
   refine zpx 8 (N := some 13) HT_ ?_
   refine zpx 9 (N := some 14) HT_ ?_
   refine zpx 10 (N := some 15) HT_ ?_
   refine zpu 11 (N := some 16) HT_ ?_
   refine zpu 12 (N := some 17) HT_ ?_
   refine zpx 13 (N := some 18) HT_ ?_
   refine zpx 14 (N := some 19) HT_ ?_
   refine zpx 15 (N := some 20) HT_ ?_
   refine zpx 16 (N := some 21) HT_ ?_
   refine zpx 17 (N := some 22) HT_ ?_
   refine zpu 18 (N := some 23) HT_ ?_
   refine zpu 19 (N := some 4) HT_ ?_
   refine done_ (done_of HT_.out (by kernel_rfl)) ?_
   try go_wp2
   go_ret
   exact ⟨zt_,zl_ HB⟩
 ·replace c4 := Bool.eq_false_iff.mpr c4
  subst c4
  have H1 : (some false) = some r := by rw [if_neg (show ¬ (false = true) by decide)] at H;exact H
  clear H
  have H := H1
  clear H1
  obtain rfl := Option.some.inj H
  go_enter Tryd.func41,Tryd.ntmps41
  try go_wp2_with (first | ((with_reducible refine gate_dst (N := 3) rfl ?_);refine zbx (N := 3) (cs := #[.int .i64 a1_0,.int .i64 a1_1,.int .i64 a1_2,.int .i64 a1_3,.int .i64 a1_4,.int .i64 a1_5,.int .i64 a1_6,.string a1_7]) (t := 73) ?_;intro gb999 hg w19 hbox hb;have BK999 := am_ (hbox);have GW999 := zw_ HB hg;have GE999 := zw_ HB hg;replace HB := zs_ HB hb;clear hb hbox hg))
  replace BK999 := am_ (blk_drew BK999.out)
  replace HB := am_ (below_drew1 HB.out)
  refine start_ (n := 20) (S := fun w' => True) (ds := []) #[false,false,false,false,false,false,false,false,false,false,false,false,false,false,false,false,false,false,false,false] (by kernel_rfl) rfl rfl trivial (fun hHeld => ?_);refine with_tabW impl_ReplyOK.tab1 impl_ReplyOK.bits1 (fun HT_ HW_ => ?_)
  generalize w19.drew = w20 at BK999 HB hHeld ⊢
  refine zpu 0 (N := some 5) HT_ ?_
  refine zon 1 (N := some 6) HT_ (fun K hK => ?_)
  refine zgo Tryd.func61 #[.int .i64 a0] ?_
  with_reducible refine (impl_areNodes.calls a0 false _ A3.out).mono ?_
  rintro e w' ⟨rfl,⟨nd,rfl⟩⟩
  refine ⟨_,rfl,?_⟩
  refine hK.out _ _ trivial (fun hHeld => ?_)
  clear hK K
  refine norm_ (a' := ?_) ?_ ?_
  rotate_left
  ·show Act.put _ (some 6) _ = _
   simp only [Act.put,p1_,p2_,p3_,i64_w,i32_w]
   rfl
  refine zpu 2 (N := some 7) HT_ ?_
  refine zpx 3 (N := some 8) HT_ ?_
  refine zpx 4 (N := some 9) HT_ ?_
  refine zpu 5 (N := some 10) HT_ ?_
  refine zpu 6 (N := some 11) HT_ ?_
  refine zpx 7 (N := some 12) HT_ ?_
  refine zpx 8 (N := some 13) HT_ ?_
  refine zpx 9 (N := some 14) HT_ ?_
  refine zpx 10 (N := some 15) HT_ ?_
  refine zpu 11 (N := some 16) HT_ ?_
  refine zpu 12 (N := some 17) HT_ ?_
  refine zpx 13 (N := some 18) HT_ ?_
  refine zpx 14 (N := some 19) HT_ ?_
  refine zpx 15 (N := some 20) HT_ ?_
  refine zpx 16 (N := some 21) HT_ ?_
  refine zpx 17 (N := some 22) HT_ ?_
  refine zpu 18 (N := some 23) HT_ ?_
  refine zpu 19 (N := some 4) HT_ ?_
  refine done_ (done_of HT_.out (by kernel_rfl)) ?_
  try go_wp2
  go_ret
  exact ⟨zt_,zl_ HB⟩
end Go.Proofs.YtlifdodphkimpaaDoor.B
end

section
namespace Go.Proofs.YtlifdodphkimpaaDoor.B
open Go Go.RowKit Go.Maps Go.ChangeMaps Go.MapKept Go.ChangeShapes Go.Proofs.YtlifdodphkimpaaDoorW.PrintWords
open Go.WideMaps (KeyLaw)
theorem gm_deep : laidOutB Tryd.prog = true := by kernel_rfl
theorem gm_row : (63 : TypeId) < Tryd.prog.types.size := of_decide_eq_true (by kernel_rfl)
theorem gm_law : KeyLaw Tryd.prog 63 := deep_law_laid gm_deep (m := 3) (by omega) gm_row (by kernel_rfl) (by kernel_rfl)
theorem gm_zero (w : World) : (zeroValue 24).run Tryd.prog w = .ok (.slice none 0 0) w := by kernel_rfl
theorem gm_info : (Tryd.prog.info? 3).map (fun i => (i.zero, i.size, i.bytes)) = some (some (.int .i64 0), 1, 8) := by kernel_rfl
theorem gm_keyty : Tryd.prog.keyType 63 = true := by kernel_rfl
theorem gm_cells : Tryd.prog.cellsOf 63 = 4 := by kernel_rfl
theorem gm_cells3 : Tryd.prog.cellsOf 3 = 1 := by kernel_rfl
theorem gm_size : (Tryd.prog.types.size == 0) = false := by kernel_rfl
def gkv (a : Int × Int × Int × Int) : Value := .agg #[.int .i64 a.1, .int .i64 a.2.1, .int .i64 a.2.2.1, .int .i64 a.2.2.2]
def gwf (a : Int × Int × Int × Int) : Prop := gb64 a.1 ∧ gb64 a.2.1 ∧ gb64 a.2.2.1 ∧ gb64 a.2.2.2
theorem gb_wf {x : Int} (h : gb64 x) : (Lit.int .i64 x).wf = true := WalkArith.wf_i64 (by unfold gb64 at h; omega)
theorem key_four (P : Program) (k d : Nat) {fs : Array Field} (hu : P.underlying k = some (.struct fs)) (hn : fs.all (·.name != "_") = true) (hf : fs.toList.map (fun f => (f.type, f.offset)) = [(3, 0), (3, 1), (3, 2), (3, 3)]) (h3 : P.underlying 3 = some (.int .i64)) (hk : P.keyType k = true) (hc : P.cellsOf k = 4) (hc3 : P.cellsOf 3 = 1) (hd : P.types.size = d + 1)
    (a1 a2 a3 a4 : Int) (w1 : (Lit.int .i64 a1).wf = true) (w2 : (Lit.int .i64 a2).wf = true) (w3 : (Lit.int .i64 a3).wf = true) (w4 : (Lit.int .i64 a4).wf = true) : ∃ l, keyOf P k (.agg #[.int .i64 a1, .int .i64 a2, .int .i64 a3, .int .i64 a4]) = some l := by
  have hm : (fs.toList.mapM fun f => P.keyLits (d + 1) f.type (([.int .i64 a1, .int .i64 a2, .int .i64 a3, .int .i64 a4] : List Value).drop f.offset |>.take (P.cellsOf f.type))) = some [[.int .i64 a1], [.int .i64 a2], [.int .i64 a3], [.int .i64 a4]] := by
    have e : (fs.toList.mapM fun f => P.keyLits (d + 1) f.type (([.int .i64 a1, .int .i64 a2, .int .i64 a3, .int .i64 a4] : List Value).drop f.offset |>.take (P.cellsOf f.type))) = ((fs.toList.map (fun f => (f.type, f.offset))).mapM fun p => P.keyLits (d + 1) p.1 (([.int .i64 a1, .int .i64 a2, .int .i64 a3, .int .i64 a4] : List Value).drop p.2 |>.take (P.cellsOf p.1))) := by
      rw [List.mapM_map]
      rfl
    rw [e, hf]
    simp [hc3, Program.keyLits, h3, w1, w2, w3, w4]
  have hkl : P.keyLits (d + 1 + 1) k [.int .i64 a1, .int .i64 a2, .int .i64 a3, .int .i64 a4] = some ([[.int .i64 a1], [.int .i64 a2], [.int .i64 a3], [.int .i64 a4]] : List (List Lit)).flatten := by
    rw [Program.keyLits.eq_def]
    simp only [hu, hc]
    rw [if_pos ⟨by simp, hn⟩, hm]
    rfl
  refine ⟨.string (keyBytes ([[.int .i64 a1], [.int .i64 a2], [.int .i64 a3], [.int .i64 a4]] : List (List Lit)).flatten), ?_⟩
  unfold keyOf
  rw [hu]
  simp only [hk, Value.formed, hu, hc, hd, Value.cells, hkl]
  rfl
theorem gm_key (a : Int × Int × Int × Int) (h : gwf a) : ∃ l, keyOf Tryd.prog 63 (gkv a) = some l := by
  obtain ⟨d, hd⟩ := Nat.exists_eq_succ_of_ne_zero (n := Tryd.prog.types.size) (fun e => by have := gm_size; rw [e] at this; cases this)
  exact key_four Tryd.prog 63 d Tryd.underlying63 (by kernel_rfl) (by rfl) Tryd.underlying3 gm_keyty gm_cells gm_cells3 hd _ _ _ _ (gb_wf h.1) (gb_wf h.2.1) (gb_wf h.2.2.1) (gb_wf h.2.2.2)
theorem gm_inj {a b : Int × Int × Int × Int} {l : Lit} (h1 : keyOf Tryd.prog 63 (gkv a) = some l) (h2 : keyOf Tryd.prog 63 (gkv b) = some l) : a = b := by
  have h := gm_law.inj h1 h2
  obtain ⟨a1, a2, a3, a4⟩ := a
  obtain ⟨b1, b2, b3, b4⟩ := b
  simpa [gkv] using h
theorem gm_has_of {k : Nat} {m : GMap} {a b c d n : Int} {r : Bool} (h : gm_has.f k m a b c d n = some r) : gwf (a, b, c, d) ∧ m.length < 1000000000 ∧ slices_Contains_int_int.f k (gl m (a, b, c, d)) n = some r := by
  unfold gm_has.f at h
  split at h
  · rename_i hc
    exact ⟨⟨hc.1, hc.2.1, hc.2.2.1, hc.2.2.2.1⟩, hc.2.2.2.2, h⟩
  · cases h
theorem gm_len_of {m : GMap} {a b c d : Int} {r : Int} (h : gm_len.f m a b c d = some r) : gwf (a, b, c, d) ∧ m.length < 1000000000 ∧ ((gl m (a, b, c, d)).length : Int) = r := by
  unfold gm_len.f at h
  split at h
  · rename_i hc
    exact ⟨⟨hc.1, hc.2.1, hc.2.2.1, hc.2.2.2.1⟩, hc.2.2.2.2, Option.some.inj h⟩
  · cases h
theorem gm_put_of {m m' : GMap} {a b c d n : Int} (h : gm_put.f m a b c d n = some m') : gwf (a, b, c, d) ∧ gb64 n ∧ m.length < 1000000000 ∧ m' = ((a, b, c, d), gl m (a, b, c, d) ++ [n]) :: m := by
  unfold gm_put.f at h
  split at h
  · rename_i hc
    exact ⟨hc.1, hc.2.1, hc.2.2, (Option.some.inj h).symm⟩
  · cases h
section
variable {w0 W w1 W2 : World} {base base' B g : Nat} {v : Value} {m m' : GMap}
theorem row_move {e n : Nat} {v : Value} {xs : List Value} (ho : W.ownsRow base e 1 v n xs) (hm : ∀ (g : Nat) (cur : Array Value), W.heap[g]? = some (Obj.cells cur e (0, 0)) → w1.heap[g]? = some (Obj.cells cur e (0, 0))) : w1.ownsRow base e 1 v n xs := by
  obtain ⟨h1, h2 | ⟨g, cap, cur, h2, h3, h4, h5⟩⟩ := ho
  · exact ⟨h1, .inl h2⟩
  · exact ⟨h1, .inr ⟨g, cap, cur, h2, h3, hm g cur h4, h5⟩⟩
theorem ints_move {e : Nat} {q : IntKind} {v : Value} {zs : List Int} (ho : W.ownsInts base e q v zs) (hm : ∀ (g : Nat) (cur : Array Value), W.heap[g]? = some (Obj.cells cur e (0, 0)) → w1.heap[g]? = some (Obj.cells cur e (0, 0))) : w1.ownsInts base e q v zs := ⟨row_move ho.1 hm, ho.2⟩
theorem groups_move {P : Program} {k e b n : Nat} {q : IntKind} {D : DataW Unit} (h : W.ownsGroups P k base e q b n D) (hb1 : ∀ o, W.heap[b]? = some o → w1.heap[b]? = some o) (hm : ∀ (g : Nat) (cur : Array Value), W.heap[g]? = some (Obj.cells cur e (0, 0)) → w1.heap[g]? = some (Obj.cells cur e (0, 0))) : w1.ownsGroups P k base e q b n D := by
  obtain ⟨es, clock, hb, F, hs, hD, hbb, hlen, hap⟩ := h
  obtain ⟨F2, hmap2, _⟩ := F.stay (R' := rowElem w1 base e q) (fun x hx z hz => by
    obtain ⟨zs, ho, rfl⟩ := rowElem_inv hz
    exact rowElem_mk (ints_move ho hm))
  refine ⟨es, clock, hb1 _ hb, F2, hs, by rw [hmap2]; exact hD, hbb, fun x hx zs ho => ?_, hap⟩
  obtain ⟨y, hy⟩ := F.reads x hx
  obtain ⟨z, hz, _⟩ := Go.WideElems.rd_val hy
  obtain ⟨ys, ho', _⟩ := rowElem_inv hz
  rw [ho.unique (ints_move ho' hm)]
  exact hlen x hx ys ho'
def GLink (D : DataW Unit) (m : GMap) : Prop := ∀ a l, keyOf Tryd.prog 63 (gkv a) = some l → (gl m a = [] ∧ D.atKey l .nil = .nil) ∨ D.atKey l .nil = .slice (lits .i64 (gl m a)) []
def Gm (W : World) (base : Nat) (v : Value) (m : GMap) : Prop :=
  ∃ (B : Nat) (D : DataW Unit), v = .map (some B) ∧ base ≤ B ∧ B + 1 ≤ W.heap.size ∧ W.ownsGroups Tryd.prog 63 (B + 1) 3 .i64 B m.length D ∧ IsMap D ∧ GLink D m
theorem Gm_map (h : Gm W base v m) : ∃ B, v = .map (some B) := by
  obtain ⟨B, D, h1, _⟩ := h
  exact ⟨B, h1⟩
theorem Gm_lower (h : Gm W base v m) (hb : base' ≤ base) : Gm W base' v m := by
  obtain ⟨B, D, h1, h2, h3⟩ := h
  exact ⟨B, D, h1, Nat.le_trans hb h2, h3⟩
theorem Gm_below (h : Gm W base v m) (hb : Below W.heap.size W w1) : Gm w1 base v m := by
  obtain ⟨B, D, h1, h2, h3, h4, h5⟩ := h
  have hlt : ∀ (g : Nat) (o : Obj), W.heap[g]? = some o → g < W.heap.size := fun g o ho => (Array.getElem?_eq_some_iff.1 ho).1
  exact ⟨B, D, h1, h2, Nat.le_trans h3 hb.size, groups_move h4 (fun o ho => (hb.block B (hlt _ _ ho)).trans ho) (fun g cur ho => (hb.block g (hlt _ _ ho)).trans ho), h5⟩
theorem Gm_far {cs : Array Value} {t : Nat} {p : Nat × Nat} (h : Gm W base v m) (hg : W.heap[g]? = some (.cells cs t p)) (ht : t ≠ 3) (hm : ∀ k, k ≠ g → w1.heap[k]? = W.heap[k]?) (hs : w1.heap.size = W.heap.size) : Gm w1 base v m := by
  obtain ⟨B, D, h1, h2, h3, h4, h5⟩ := h
  refine ⟨B, D, h1, h2, by rw [hs]; exact h3, groups_move h4 (fun o ho => (hm B (fun e => ?_)).trans ho) (fun g' cur ho => (hm g' (fun e => ?_)).trans ho), h5⟩
  · subst e
    obtain ⟨es, clock, hb, _⟩ := h4
    rw [hb] at hg
    cases hg
  · subst e
    rw [ho] at hg
    injection hg with hg
    injection hg with _ hg _
    exact ht hg.symm
theorem Gm_alloc (h : Gm W base v m) (o : Obj) : Gm (W.alloc o) base v m := Gm_below h (below_alloc (Below.refl _ _) o)
theorem Gm_drew (h : Gm W base v m) : Gm W.drew base v m := Gm_below h (below_drew (Below.refl _ _))
theorem Gm_drewN (h : Gm W base v m) (k : Nat) : Gm (W.drewN k) base v m := Gm_below h (pw_below_drewN (Below.refl _ _) k)
theorem zrG (b : Aside0 (Gm W base v m)) (f : Gm W base v m → Gm w1 base v m := by intro h_; (with_reducible repeat (first | apply Gm_alloc | apply Gm_drewN | apply Gm_drew)); exact h_) : Gm w1 base v m := f b.out
theorem zrbG (b : Aside0 (Gm W base v m)) (hb : Below w1.heap.size w1 W2) (f : Gm W base v m → Gm w1 base v m := by intro h_; (with_reducible repeat (first | apply Gm_alloc | apply Gm_drewN | apply Gm_drew)); exact h_) : Aside0 (Gm W2 base v m) := ⟨Gm_below (f b.out) hb⟩
variable {ops : Array Oper} {rest : List Oper} {o o1 o2 o3 o4 o5 : Oper} {a : Act} {Q : Exit → Act → World → Prop} {Kc : Act → World → Prop}
theorem gm_make (hgd : o.guard = none) (t : TypeId) (ho : o.op = .makeMap t none)
    (h : ∀ v1 w1, Gm w1 W.heap.size v1 [] → Below W.heap.size W w1 → True → True → wpList Tryd.prog ops Q rest (a.put o.dst v1) w1) : wpList Tryd.prog ops Q (o :: rest) a W := by
  have hrun : (execOp a.eval o).run Tryd.prog W = .ok (.value (.map (some W.heap.size))) (W.alloc (.map #[] 0)) := by
    have := @run_makeMap Tryd.prog
    simp [execOp, ho, this]
  refine Kd.event_run hgd hrun (h _ _ ⟨W.heap.size, .map [], rfl, Nat.le_refl _, by simp, World.ownsGroups_made _ _ _ _ _, isMap_empty, fun a l hl => .inl ⟨rfl, rfl⟩⟩ (below_alloc (Below.refl _ _) _) trivial trivial)
theorem lits_inj {q : IntKind} {xs ys : List Int} (h : (lits q xs : List (DataW Unit)) = lits q ys) : xs = ys := by
  unfold lits at h
  exact (List.map_inj_right (fun a b hab => by simpa using hab)).1 h
theorem link_zs {D : DataW Unit} {key : Int × Int × Int × Int} {l : Lit} {v : Value} {zs : List Int} (hl : GLink D m) (hk : keyOf Tryd.prog 63 (gkv key) = some l) (hat : D.atKey l .nil = rowDatum .i64 v zs) (ho : W.ownsInts base 3 .i64 v zs) : zs = gl m key := by
  rcases hl key l hk with ⟨h1, h2⟩ | h2
  · rw [h2] at hat
    rcases ho.datum (H := Unit) with ⟨_, h3⟩ | h3
    · rw [h3, h1]
    · rw [h3] at hat
      cases hat
  · rw [h2] at hat
    rcases ho.datum (H := Unit) with ⟨h3, _⟩ | h3
    · rw [h3] at hat
      cases hat
    · rw [h3] at hat
      have h4 : (lits .i64 (gl m key) : List (DataW Unit)) = lits .i64 zs := congrArg (fun d : DataW Unit => match d with | .slice xs _ => xs | _ => []) hat
      exact (lits_inj h4).symm
theorem ints_C {v : Value} {zs : List Int} (ho : W.ownsInts base 3 .i64 v zs) : ∃ A c, v = .slice A zs.length c ∧ zs.length ≤ c ∧ Kd.C (Kd.int .i64) W A zs.length zs := by
  have hR := Kd.R_of_own (h1 := fun _ => rfl) (enc := Value.int .i64) (ok := fun _ => True) (xs := zs) ho.1 (fun _ _ => trivial)
  obtain ⟨A, c, h1, h2, h3⟩ := Kd.R_reads (d := Kd.int .i64) hR
  exact ⟨A, c, h1, h2, h3⟩
theorem gm_at (h : Gm W base v m) (hm : m.length < 1000000000) {key : Int × Int × Int × Int} (hw : gwf key) {t : TypeId} (ht : Tryd.prog.underlying t = some (.map 63 24)) :
    ∃ A c, (Instr.lookup t v (gkv key) false).run Tryd.prog W = .ok (.slice A (gl m key).length c) W ∧ (gl m key).length ≤ c ∧ Kd.C (Kd.int .i64) W A (gl m key).length (gl m key) := by
  obtain ⟨B, D, rfl, h2, h3, h4, h5, h6⟩ := h
  obtain ⟨l, hl⟩ := gm_key key hw
  obtain ⟨v1, zs, hrun, hat, hoi, _, _⟩ := h4.at (Keyed.of_law gm_law) ht (gm_zero W) (by unfold maxLen; omega) hl
  obtain rfl := link_zs h6 hl hat hoi
  obtain ⟨A, c, rfl, hc, hC⟩ := ints_C hoi
  exact ⟨A, c, hrun, hc, hC⟩
theorem gm_look (hgd : o.guard = none) (t : TypeId) (x y : Operand) (ho : o.op = .lookup t x y false) (ht : Tryd.prog.underlying t = some (.map 63 24)) (key : Int × Int × Int × Int) (hx : a.eval x = v) (hy : a.eval y = gkv key) (hw : gwf key) (hm : m.length < 1000000000) (hG : Gm W base v m)
    (h : ∀ A c, (gl m key).length ≤ c → Kd.C (Kd.int .i64) W A (gl m key).length (gl m key) → wpList Tryd.prog ops Q rest (a.put o.dst (.slice A (gl m key).length c)) W) : wpList Tryd.prog ops Q (o :: rest) a W := by
  obtain ⟨A, c, hrun, hc, hC⟩ := gm_at hG hm hw ht
  exact Kd.event_run hgd (by simp [execOp, ho, hx, hy, hrun]) (h A c hc hC)
theorem gm_look_step (hwt : Region.wanted o (yielded ops a.tmps) = true) (t : TypeId) (x y : Operand) (ho : o.op = .lookup t x y false) (ht : Tryd.prog.underlying t = some (.map 63 24)) (key : Int × Int × Int × Int) (hx : a.eval x = v) (hy : a.eval y = gkv key) (hw : gwf key) (hm : m.length < 1000000000) (hG : Gm W base v m)
    (h : ∀ A c, (gl m key).length ≤ c → Kd.C (Kd.int .i64) W A (gl m key).length (gl m key) → Kc (a.put o.dst (.slice A (gl m key).length c)) W) : if Region.wanted o (yielded ops a.tmps) = true then Oper.wp Tryd.prog o a W Kc Q else Kc (a.put o.dst undef) W := by
  obtain ⟨A, c, hrun, hc, hC⟩ := gm_at hG hm hw ht
  exact event_step hwt (by simp [execOp, ho, hx, hy, hrun]) (h A c hc hC)
/-- 'm[k] = append(m[k], x)': the entry, its parts, the append, the store. -/
theorem gm_append (g1 : o1.guard = none) (g2 : o2.guard = none) (g3 : o3.guard = none) (g4 : o4.guard = none) (g5 : o5.guard = none) (t : TypeId) (x1 y1 x2 s3 x3 x4 x5 s5 y5 : Operand)
    (h1 : o1.op = .mapEntry t x1 y1) (h2 : o2.op = .extract x2 0) (h3 : o3.op = .call { callee := .builtin .append, args := #[s3, x3], argTypes := #[24, 24] }) (h4 : o4.op = .extract x4 1) (h5 : o5.op = .entryStore t x5 s5 y5)
    (ht : Tryd.prog.underlying t = some (.map 63 24)) (key : Int × Int × Int × Int) (n : Int) (n0 : Nat) (e1 : a.eval x1 = v) (e2 : a.eval y1 = gkv key) (hn0 : n0 = W.heap.size)
    (e3 : ∀ p, (a.put o1.dst p).eval x2 = p) (e4 : ∀ p q, ((a.put o1.dst p).put o2.dst q).eval s3 = q) (e5 : ∀ p q, ((a.put o1.dst p).put o2.dst q).eval x3 = .slice (some ⟨n0, 0, none⟩) 1 1) (e6 : ∀ p q r, (((a.put o1.dst p).put o2.dst q).put o3.dst r).eval x4 = p)
    (e7 : ∀ p q r s, ((((a.put o1.dst p).put o2.dst q).put o3.dst r).put o4.dst s).eval x5 = v) (e8 : ∀ p q r s, ((((a.put o1.dst p).put o2.dst q).put o3.dst r).put o4.dst s).eval s5 = s) (e9 : ∀ p q r s, ((((a.put o1.dst p).put o2.dst q).put o3.dst r).put o4.dst s).eval y5 = r)
    (hw : gwf key) (hn : gb64 n) (hm : m.length < 1000000000) (hG : Gm W base v m) (HB : Below base w0 W) (hbase : base ≤ W.heap.size)
    (h : ∀ p q r s w2, Gm w2 base v ((key, gl m key ++ [n]) :: m) → (∀ (g : Nat) (cs : Array Value) (t : Nat) (p : Nat × Nat), W.heap[g]? = some (Obj.cells cs t p) → t ≠ 3 → w2.heap[g]? = some (Obj.cells cs t p)) → Below base w0 w2 → wpList Tryd.prog ops Q rest (((((a.put o1.dst p).put o2.dst q).put o3.dst r).put o4.dst s).put o5.dst undef) w2) :
    wpList Tryd.prog ops Q (o1 :: o2 :: o3 :: o4 :: o5 :: rest) a (W.alloc (.cells #[.int .i64 n] 3)) := by
  have hG' := Gm_alloc hG (.cells #[.int .i64 n] 3)
  obtain ⟨B, D, rfl, q2, q3, q4, q5, q6⟩ := hG'
  obtain ⟨W1, hW1⟩ : ∃ W1, W1 = W.alloc (.cells #[.int .i64 n] 3) := ⟨_, rfl⟩
  have hs1 : W1.heap.size = W.heap.size + 1 := by rw [hW1]; simp
  have HB1 : Below base w0 W1 := by rw [hW1]; exact HB.trans ((below_alloc (Below.refl _ _) _).mono hbase)
  have hold : ∀ (g : Nat) (o : Obj), W.heap[g]? = some o → W1.heap[g]? = some o := fun g o ho => by
    have hlt : g < W.heap.size := (Array.getElem?_eq_some_iff.1 ho).1
    rw [hW1, (below_alloc (Below.refl W.heap.size W) _).block g hlt]
    exact ho
  have hnew : W1.cell? ⟨n0, 0, none⟩ = some (.int .i64 n) := by rw [hW1, hn0]; simp
  rw [← hW1] at q3 q4 ⊢
  obtain ⟨l, hl⟩ := gm_key key hw
  obtain ⟨v1, zs, st, wE, hE, gE, hat, hoi, hoiE, hzl, hsE, hback⟩ := entry_groups gm_law ht gm_zero q4 (by unfold maxLen; omega) hl
  obtain rfl := link_zs q6 hl hat hoi
  have hBm : ∃ es clock, W1.heap[B]? = some (.map es clock) := by obtain ⟨es, clock, hb, _⟩ := q4; exact ⟨es, clock, hb⟩
  have hne : ∀ (g : Nat) (cs : Array Value) (t : Nat) (p : Nat × Nat), W1.heap[g]? = some (Obj.cells cs t p) → g ≠ B := fun g cs t p ho e => by
    obtain ⟨es, clock, hb⟩ := hBm
    rw [e, hb] at ho
    cases ho
  have hcE : ∀ (g : Nat) (cs : Array Value) (t : Nat) (p : Nat × Nat), W1.heap[g]? = some (Obj.cells cs t p) → wE.heap[g]? = some (.cells cs t p) := fun g cs t p ho =>
    (gE.block g (Array.getElem?_eq_some_iff.1 ho).1 (fun e => hne g cs t p ho (by cases e; rfl))).trans ho
  have hnewE : wE.cell? ⟨n0, 0, none⟩ = some (.int .i64 n) := by
    have hb : n0 < W1.heap.size := by omega
    have : wE.heap[n0]? = W1.heap[n0]? := gE.block n0 hb (fun e => by
      have e' : n0 = B := by cases e; rfl
      obtain ⟨es, clock, hB⟩ := hBm
      unfold World.cell? at hnew
      rw [e', hB] at hnew
      cases hnew)
    unfold World.cell? at hnew ⊢
    rw [this]
    exact hnew
  obtain ⟨i0, hi, hz0, hz1, hz2⟩ := info_parts gm_info
  obtain ⟨v2, w2, hA, hown2, hg2, _, hloc⟩ := run_append_own_at (P := Tryd.prog) wE (B + 1) 24 o3.type 3 i0 (.int .i64 0) 1 8 Tryd.underlying24 hi hz0 hz1 hz2 rfl (by decide) v1 (gl m key).length ((gl m key).map (Value.int .i64)) hoiE.1
    ⟨n0, 0, none⟩ 1 1 [.int .i64 n] rfl (fun j u hj => by
      cases j with
      | zero => simp at hj; subst hj; rw [add0]; exact hnewE
      | succ j => simp at hj) (fun u hu => by simp at hu; subst hu; rfl) (by unfold maxLen; omega) (by omega) (by omega)
  have hown3 := hoiE.appended hown2 (gb_wf hn)
  obtain ⟨w3, hS, hG3, hg3⟩ := hback w2 v2 (gl m key ++ [n]) hg2 hown3 (by simp; omega) (hloc.imp id (fun hx => ⟨_, hx, by omega⟩))
  -- the walk
  refine wpList_plain g1 fun K1 hK1 => ?_
  unfold Oper.wp execOp
  simp only [h1, Sem.run_bind, Sem.run_pure, Result.andThen_ok, e1, e2, hE]
  refine hK1 _ _ ?_
  refine wpList_plain g2 fun K2 hK2 => ?_
  unfold Oper.wp execOp
  simp only [h2, Sem.run_bind, Sem.run_pure, Result.andThen_ok, e3, List.getElem_toArray, List.getElem_cons_zero, List.getElem_cons_succ]
  refine hK2 ((a.put o1.dst (.tuple #[v1, goInt st])).put o2.dst v1) wE ?_
  refine wpList_plain g3 fun K3 hK3 => ?_
  unfold Oper.wp execOp
  simp only [h3, resolve, invoke, builtin, Sem.run_bind, Sem.run_pure, Result.andThen_ok, List.map_toArray, List.map_cons, List.map_nil, e4, e5, hA]
  refine hK3 _ _ ?_
  refine wpList_plain g4 fun K4 hK4 => ?_
  unfold Oper.wp execOp
  simp only [h4, Sem.run_bind, Sem.run_pure, Result.andThen_ok, e6, List.getElem_toArray, List.getElem_cons_zero, List.getElem_cons_succ]
  refine hK4 ((((a.put o1.dst (.tuple #[v1, goInt st])).put o2.dst v1).put o3.dst v2).put o4.dst (goInt st)) w2 ?_
  refine wpList_plain g5 fun K5 hK5 => ?_
  unfold Oper.wp execOp
  simp only [h5, Sem.run_bind, Sem.run_pure, Result.andThen_ok, e7, e8, e9, hS]
  refine hK5 _ _ (h _ _ _ _ w3 ?_ ?_ ?_)
  · refine ⟨B, _, rfl, q2, ?_, hG3, q5.put _ _, ?_⟩
    · have := hg2.size; have := hg3.size; omega
    · intro a' l' hl'
      rw [hown3.datum_pos (by simp)]
      by_cases e : key = a'
      · subst e
        obtain rfl : l = l' := by rw [hl] at hl'; exact Option.some.inj hl'
        rw [atKey_put_same q5 ((Keyed.of_law gm_law).key hl)]
        right
        simp [gl]
      · have hll : l' ≠ l := fun e' => e (gm_inj (hl.trans (by rw [e'])) hl')
        rw [atKey_put_other hll]
        simpa [gl, e] using q6 a' l' hl'
  · intro g cs t p ho ht3
    have o1 := hold _ _ ho
    have o2 := hcE _ _ _ _ o1
    have hvne : v1.ownBlock ≠ some g := fun e => by
      rcases hoiE.1.2 with ⟨rfl, _⟩ | ⟨g', cap, cur, rfl, _, hc, _⟩
      · cases e
      · have : g' = g := by simpa [Value.ownBlock] using e
        subst this
        rw [hc] at o2
        injection o2 with o2
        injection o2 with _ o2 _
        exact ht3 o2.symm
    have o3 : w2.heap[g]? = some (.cells cs t p) := (hg2.block g (by rw [hsE]; exact (Array.getElem?_eq_some_iff.1 o1).1) (fun e => hvne e.symm)).trans o2
    exact (hg3.block g (Array.getElem?_eq_some_iff.1 o3).1 (fun e => hne g cs t p o1 (by cases e; rfl))).trans o3
  · have b1 := HB1.grown gE (by omega) (fun j hj => by cases hj; exact q2)
    have b2 := b1.grown hg2 (by omega) (fun j hj => by have := (hoiE.1.lt j hj).1; omega)
    exact b2.grown hg3 (by have := hg2.size; omega) (fun j hj => by cases hj; exact q2)
end
end Go.Proofs.YtlifdodphkimpaaDoor.B
end

section
namespace Go.Proofs.YtlifdodphkimpaaDoor.B
open Go.RowKit Go.Proofs.YtlifdodphkimpaaDoorW.PrintWords Go.Proofs.YtlifdodphkimpaaDoorW.PrintLast Go.Proofs.YtlifdodphkimpaaDoorW.PrintMore
attribute [local go_sem] max2_int min2_int max_two min_two max_three min_three max_four min_four
set_option maxHeartbeats 8000000 in
set_option maxRecDepth 100000 in
theorem slices_Index_int_int.calls (k : Nat) (A0 : Option Addr) (c0 : Nat) (l0 : List Int) (a1 : Int) (r : Int) (w : World) (hr0 : Kd.C (Kd.int .i64) w A0 l0.length l0) (hc0 : l0.length ≤ c0) (h : slices_Index_int_int.f k l0 a1 = some r) :
  Calls Tryd.prog 166 #[.slice A0 l0.length c0,.int .i64 a1] w fun e w' => e = .returned (.int .i64 r) ∧ Drawn0 w w' := by
 have HR0 := am_ hr0
 have HC0 := am_ hc0
 clear hr0 hc0
 have H : (slices_Index_int_int.l0 k l0 a1 (l0.length : Int) 0) = some r := h
 clear h
 have H' := am_ H
 clear H
 go_enter Tryd.func166,Tryd.ntmps166
 go_wp2
 go_loopg [8] k (fun kq v8 w' => ∃ (x8_1 : Int),v8 = .int .i64 x8_1 ∧ Aside0 (slices_Index_int_int.l0 kq l0 a1 (l0.length : Int) x8_1 = some r) ∧ Aside0 (kq ≤ k) ∧ Drawn0 w w')
 case atStart => exact ⟨(0),(by first | rfl | (simp;done) | (simp [*];done)),H',⟨Nat.le_refl _⟩,by repeat (first | exact Drawn0.refl _ | apply Drawn0.step)⟩
 case round =>
  clear H'
  try clear c1
  try clear p2
  obtain ⟨x8_1,rfl,HA,HK1,⟨m1,rfl⟩⟩ := hrel
  cases gk with
  | zero => exact absurd HA.out (by simp [slices_Index_int_int.l0])
  | succ k1 =>
   have H := HA.out
   clear HA
   simp only [slices_Index_int_int.l0] at H
   by_cases c3 : x8_1 < (l0.length : Int)
   ·rw [if_pos c3] at H
    have c3b0 : decide (x8_1 < (l0.length : Int)) = true := decide_eq_true c3
    clear c3
    by_cases c4 : 0 ≤ x8_1
    ·rw [if_pos c4] at H
     have c4b0 : decide (0 ≤ x8_1) = true := decide_eq_true c4
     clear c4
     by_cases c5 : x8_1 < (l0.length : Int)
     ·rw [if_pos c5] at H
      have c5b0 : decide (x8_1 < (l0.length : Int)) = true := decide_eq_true c5
      clear c5
      by_cases c6 : a1 = (rd l0 x8_1)
      ·rw [if_pos c6] at H
       have c6b0 : (a1 == (rd l0 x8_1)) = true := beq_iff_eq.mpr c6
       have c6b1 : (a1 != (rd l0 x8_1)) = false := bne_eq_false_iff_eq.mpr c6
       clear c6
       obtain rfl := Option.some.inj H
       have p1003 : 0 ≤ (x8_1 : Int) := zo_
       have q1003 : x8_1 < (l0.length : Int) := zo_
       obtain ⟨ad1003,e1003,hx1003_0⟩ := Kd.at_int HR0.out x8_1 p1003 q1003
       cases e1003
       replace p1003 := eq_true p1003
       replace q1003 := eq_true q1003
       go_wp2
       go_ret
       exact ⟨by first | rfl | (simp;done) | (simp [*];done),by repeat (first | exact Drawn0.refl _ | apply Drawn0.step)⟩
      ·rw [if_neg c6] at H
       have c6b0 : (a1 == (rd l0 x8_1)) = false := beq_eq_false_iff_ne.mpr c6
       have c6b1 : (a1 != (rd l0 x8_1)) = true := bne_iff_ne.mpr c6
       have H' := am_ H
       clear H
       have p1003 : 0 ≤ (x8_1 : Int) := zo_
       have q1003 : x8_1 < (l0.length : Int) := zo_
       obtain ⟨ad1003,e1003,hx1003_0⟩ := Kd.at_int HR0.out x8_1 p1003 q1003
       cases e1003
       replace p1003 := eq_true p1003
       replace q1003 := eq_true q1003
       go_wp2
       go_roundg k1
       case measure => have := HK1.out;omega
       case rel => exact ⟨(wrap64 (x8_1 + 1)),(by first | rfl | (simp;done) | (simp [*];done)),H',⟨by have := HK1.out;omega⟩,by repeat (first | exact Drawn0.refl _ | apply Drawn0.step)⟩
     ·rw [if_neg c5] at H
      exact absurd H (by simp)
    ·rw [if_neg c4] at H
     exact absurd H (by simp)
   ·rw [if_neg c3] at H
    have c3b0 : decide (x8_1 < (l0.length : Int)) = false := decide_eq_false c3
    clear c3
    obtain rfl := Option.some.inj H
    go_wp2
    go_ret
    exact ⟨by first | rfl | (simp;done) | (simp [*];done),by repeat (first | exact Drawn0.refl _ | apply Drawn0.step)⟩
set_option maxHeartbeats 8000000 in
set_option maxRecDepth 100000 in
theorem slices_Contains_int_int.calls (k : Nat) (A0 : Option Addr) (c0 : Nat) (l0 : List Int) (a1 : Int) (r : Bool) (w : World) (hr0 : Kd.C (Kd.int .i64) w A0 l0.length l0) (hc0 : l0.length ≤ c0) (h : slices_Contains_int_int.f k l0 a1 = some r) :
  Calls Tryd.prog 140 #[.slice A0 l0.length c0,.int .i64 a1] w fun e w' => e = .returned (.bool r) ∧ Drawn0 w w' := by
 have HR0 := am_ hr0
 have HC0 := am_ hc0
 clear hr0 hc0
 have H : ((slices_Index_int_int.f k l0 a1).bind fun t1004 => (some (decide (t1004 ≥ 0)))) = some r := h
 clear h
 replace H := Option.bind_eq_some_iff.mp H
 obtain ⟨t1004,A30,H⟩ := H
 try dsimp only at H
 have A3 := am_ A30
 clear A30
 obtain rfl := Option.some.inj H
 go_enter Tryd.func140,Tryd.ntmps140
 go_wp2_with (first | ((with_reducible refine gate_callee (f := 166) rfl ?_);refine zgl (some 7) Tryd.func166 #[.slice A0 l0.length c0,.int .i64 a1] ?_;(with_reducible refine (slices_Index_int_int.calls k _ _ l0 a1 t1004 _ ?side1 ?side2 A3.out).mono ?_);(case side1 => repeat (first | exact HR0.out | (with_reducible refine Kd.C_alloc ?_ _) | (with_reducible refine Kd.C_drewN ?_ _) | (with_reducible refine Kd.C_drew ?_)));(case side2 => exact HC0.out);rintro e w' ⟨rfl,⟨nd,rfl⟩⟩;refine ⟨_,rfl,?_⟩))
 go_ret
 exact ⟨by first | rfl | (simp;done) | (simp [*];done),by repeat (first | exact Drawn0.refl _ | apply Drawn0.step)⟩
def impl_decided.T5 : Bool × List (List Nat × List Nat) := (true,[([],[]),([0],[0]),([],[]),([1,2],[1,2]),([3],[3]),([4],[4]),([5,4],[4,5]),([4],[4]),([6,7,4],[4,6,7]),([4,8],[4,8]),([9,4],[9]),([10],[10]),([10],[10]),([11,12,10,10],[10,11,12]),([13,10],[10,13]),([10,14],[10,14]),([15,13],[15]),([16],[16]),([16],[16]),([18,16],[16,18]),([17,19,16],[16,17,19]),([16],[16]),([21,16],[16,21]),([20,22,16,16],[16,20,22]),([16,23],[16,23])])
def impl_decided.B5 : List Nat := [0,1,0,7,15,31,63,31,255,511,1023,2047,2047,8191,16383,32767,65535,131071,131071,393215,1048575,131071,2228223,8388607,16777215]
theorem impl_decided.tab5 : rtab .any (opsOf Tryd.f86 5) = impl_decided.T5 := by kernel_rfl
theorem impl_decided.bits5 : waitsOk impl_decided.T5.2 impl_decided.B5 = true := by kernel_rfl
set_option maxHeartbeats 8000000 in
set_option maxRecDepth 100000 in
theorem impl_decided.calls (k : Nat) (a0 : Int) (a1 : Int) (a2 : Int) (A3 : Option Addr) (c3 : Nat) (l3 : List (S73)) (r1 : Int) (r2 : Int) (r3 : Int) (r4 : Int) (r5 : Bool) (w : World) (hr3 : Kd.C k73 w A3 l3.length l3) (hc3 : l3.length ≤ c3) (hL : Laid w) (h : impl_decided.f k a0 a1 a2 l3 = some (r1,r2,r3,r4,r5)) :
  Calls Tryd.prog 86 #[.int .i64 a0,.int .i64 a1,.int .i64 a2,.slice A3 l3.length c3] w fun e w' => e = .returned (.tuple #[.agg #[.int .i64 r1,.int .i64 r2,.int .i64 r3,.int .i64 r4],.bool r5]) ∧ Below w.heap.size w w' := by
 have hu63 := Tryd.underlying63
 have hu73 := Tryd.underlying73
 have HR3 := am_ hr3
 have HC3 := am_ hc3
 clear hr3 hc3
 have HLD := am_ hL
 clear hL
 have HB := am_ (Below.refl w.heap.size w)
 have H : (impl_decided.l0 k a0 a1 a2 (([] : GMap)) l3 (l3.length : Int) 0) = some (r1,r2,r3,r4,r5) := h
 clear h
 obtain ⟨y1006,hy1006⟩ : ∃ y_ : GMap,y_ = (([] : GMap)) := ⟨_,rfl⟩
 replace H : (impl_decided.l0 k a0 a1 a2 y1006 l3 (l3.length : Int) 0) = some (r1,r2,r3,r4,r5) := by first | (rw [hy1006];with_reducible exact H) | (have H2_ := (Option.bind_some _ _).symm.trans H;rw [hy1006];with_reducible exact H2_) | (have H2_ := (Option.bind_some _ _).symm.trans H;with_reducible exact H2_) | with_reducible exact H | (rw [hy1006];exact H) | exact H
 have Ny1006 := am_ hy1006
 clear hy1006
 have H' := am_ H
 clear H
 go_enter Tryd.func86,Tryd.ntmps86
 go_wp2_with (first | ((with_reducible refine gate_dst (N := 8) rfl ?_);refine zbx (N := 8) (cs := #[.int .i64 0,.int .i64 0,.int .i64 0,.int .i64 0]) (t := 63) ?_;intro gb1005 hg w5 hbox hb;have BK1005 := am_ (hbox);have GW1005 := zw_ HB hg;have GE1005 := zw_ HB hg;replace HB := zs_ HB hb;clear hb hbox hg) | ((with_reducible refine gate_dst (N := 13) rfl ?_);refine gm_make rfl 159 rfl ?_;intro v1007 w6 ho7 hb hg_ hnew_;clear hg_ hnew_;(first | rw [← Ny1006.out] at ho7 | (simp only [Int.reduceToNat] at ho7;rw [← Ny1006.out] at ho7));have HO1008 := am_ (Gm_lower ho7 (below_size (zl_ HB)));replace BK1005 := zb BK1005 hb;replace HB := zs_ HB hb;clear hb ho7))
 go_loopg [16] k (fun kq v16 w' => ∃ (x10_1 : GMap) (x16_1 : Int) (x1006000_1 : Int) (x1006001_1 : Int) (x1006002_1 : Int) (x1006003_1 : Int),v16 = .int .i64 x16_1 ∧ Aside0 (impl_decided.l0 kq a0 a1 a2 x10_1 l3 (l3.length : Int) x16_1 = some (r1,r2,r3,r4,r5)) ∧ Aside0 (kq ≤ k) ∧ Aside0 (Gm w' w.heap.size v1007 x10_1) ∧ Aside0 (w'.heap[gb1005]? = some (.cells #[.int .i64 x1006000_1,.int .i64 x1006001_1,.int .i64 x1006002_1,.int .i64 x1006003_1] 63 (0,0))) ∧ Aside0 (Below w.heap.size w w'))
 case atStart => exact ⟨(y1006),(0),(0),(0),(0),(0),(by first | rfl | (simp;done) | (simp [*];done)),H',⟨Nat.le_refl _⟩,⟨zrG HO1008⟩,⟨by (with_reducible repeat (first | apply k1_ | apply k2_ | apply k3_));exact BK1005.out⟩,⟨zl_ HB⟩⟩
 case round =>
  clear H'
  try clear p2
  try clear c3
  obtain ⟨x10_1,x16_1,x1006000_1,x1006001_1,x1006002_1,x1006003_1,rfl,HA,HK1,HO_10,BK1005,HB⟩ := hrel
  cases gk with
  | zero => exact absurd HA.out (by simp [impl_decided.l0])
  | succ k1 =>
   have H := HA.out
   clear HA
   simp only [impl_decided.l0] at H
   by_cases c8 : x16_1 < (l3.length : Int)
   ·rw [if_pos c8] at H
    have c8b0 : decide (x16_1 < (l3.length : Int)) = true := decide_eq_true c8
    clear c8
    by_cases c9 : 0 ≤ x16_1
    ·rw [if_pos c9] at H
     have c9b0 : decide (0 ≤ x16_1) = true := decide_eq_true c9
     clear c9
     by_cases c10 : x16_1 < (l3.length : Int)
     ·rw [if_pos c10] at H
      have c10b0 : decide (x16_1 < (l3.length : Int)) = true := decide_eq_true c10
      clear c10
      have HC11 := am_ H
      clear H
      have p1009 : 0 ≤ (x16_1 : Int) := zo_
      have q1009 : x16_1 < (l3.length : Int) := zo_
      obtain ⟨ad1009,e1009,hx1009_0,hx1009_1,hx1009_2,hx1009_3,hx1009_4,hx1009_5,hx1009_6,hx1009_7⟩ := at_T73 HR3.out x16_1 p1009 q1009
      cases e1009
      replace hx1009_0 := zx_ HB hx1009_0
      replace hx1009_1 := zx_ HB hx1009_1
      replace hx1009_2 := zx_ HB hx1009_2
      replace hx1009_3 := zx_ HB hx1009_3
      replace hx1009_4 := zx_ HB hx1009_4
      replace hx1009_5 := zx_ HB hx1009_5
      replace hx1009_6 := zx_ HB hx1009_6
      replace hx1009_7 := zx_ HB hx1009_7
      replace p1009 := eq_true p1009
      replace q1009 := eq_true q1009
      go_upto_region 5 with (first | ((with_reducible refine gate_dst (N := 12) rfl ?_);refine zbx (N := 12) (cs := #[.int .i64 0,.int .i64 0,.int .i64 0,.int .i64 0,.int .i64 0,.int .i64 0,.int .i64 0,.string ⟨#[]⟩]) (t := 73) ?_;intro gb1010 hg w12 hbox hb;replace HO_10 := zrbG HO_10 hb;have BK1010 := am_ (hbox);have GW1010 := zw_ HB hg;have GE1010 := zw_ HB hg;replace HB := zs_ HB hb;have NB1005_1010 := zl hg BK1005;have NB1010_1005 := zg hg BK1005;replace BK1005 := zb BK1005 hb;clear hb hbox hg;have hnb13 := NB1010_1005.out;have hnc13 := NB1005_1010.out;obtain ⟨hcz14_0,hcz14_1,hcz14_2,hcz14_3,hcz14_4,hcz14_5,hcz14_6,hcz14_7,hfz14_0,hfz14_1,hfz14_2,hfz14_3,hfz14_4,hfz14_5,hfz14_6,hfz14_7⟩ := zc8 BK1010))
      (try simp only [Act.put,p1_,p2_,p3_])
      go_cut [44] (fun v44 wc => ∃ (kq : Nat) (x44_10 : Bool),v44 = .bool x44_10 ∧ Aside0 (impl_decided.j1 kq a0 a1 a2 x10_1 l3 (l3.length : Int) x16_1 x44_10 ((rd_T73 l3 x16_1).f0) ((rd_T73 l3 x16_1).f1) ((rd_T73 l3 x16_1).f2) ((rd_T73 l3 x16_1).f3.f0) ((rd_T73 l3 x16_1).f3.f1) ((rd_T73 l3 x16_1).f3.f2) ((rd_T73 l3 x16_1).f3.f3) ((rd_T73 l3 x16_1).f4) = some (r1,r2,r3,r4,r5)) ∧ Aside0 (kq ≤ k1) ∧ Aside0 (Gm wc w.heap.size v1007 x10_1) ∧ Aside0 (wc.heap[gb1005]? = some (.cells #[.int .i64 x1006000_1,.int .i64 x1006001_1,.int .i64 x1006002_1,.int .i64 x1006003_1] 63 (0,0))) ∧ Aside0 (wc.heap[gb1010]? = some (.cells #[.int .i64 ((rd_T73 l3 x16_1).f0),.int .i64 ((rd_T73 l3 x16_1).f1),.int .i64 ((rd_T73 l3 x16_1).f2),.int .i64 ((rd_T73 l3 x16_1).f3.f0),.int .i64 ((rd_T73 l3 x16_1).f3.f1),.int .i64 ((rd_T73 l3 x16_1).f3.f2),.int .i64 ((rd_T73 l3 x16_1).f3.f3),.string ((rd_T73 l3 x16_1).f4)] 73 (0,0))) ∧ Aside0 (Below w.heap.size w wc))
      case first =>
       have H := HC11.out
       clear HC11
       by_cases c15 : ((rd_T73 l3 x16_1).f1) = a1
       ·rw [if_pos c15] at H
        have c15b0 : (((rd_T73 l3 x16_1).f1) == a1) = true := beq_iff_eq.mpr c15
        have c15b1 : (((rd_T73 l3 x16_1).f1) != a1) = false := bne_eq_false_iff_eq.mpr c15
        clear c15
        (first | rw [c15b0] | (simp only [i64_w,i32_w];rw [c15b0]) | skip)
        by_cases c16 : ((rd_T73 l3 x16_1).f2) = a2
        ·rw [if_pos c16] at H
         have c16b0 : (((rd_T73 l3 x16_1).f2) == a2) = true := beq_iff_eq.mpr c16
         have c16b1 : (((rd_T73 l3 x16_1).f2) != a2) = false := bne_eq_false_iff_eq.mpr c16
         clear c16
         replace H := Option.bind_eq_some_iff.mp H
         obtain ⟨t1011,A170,H⟩ := H
         try dsimp only at H
         have A17 := am_ A170
         clear A170
         by_cases c18 : t1011 = true
         ·subst c18
          have H1 : ((gm_has.f k1 x10_1 ((rd_T73 l3 x16_1).f3.f0) ((rd_T73 l3 x16_1).f3.f1) ((rd_T73 l3 x16_1).f3.f2) ((rd_T73 l3 x16_1).f3.f3) ((rd_T73 l3 x16_1).f0)).bind fun t1012 => (impl_decided.j1 k1 a0 a1 a2 x10_1 l3 (l3.length : Int) x16_1 t1012 ((rd_T73 l3 x16_1).f0) ((rd_T73 l3 x16_1).f1) ((rd_T73 l3 x16_1).f2) ((rd_T73 l3 x16_1).f3.f0) ((rd_T73 l3 x16_1).f3.f1) ((rd_T73 l3 x16_1).f3.f2) ((rd_T73 l3 x16_1).f3.f3) ((rd_T73 l3 x16_1).f4))) = some (r1,r2,r3,r4,r5) := by rw [if_pos rfl] at H;exact H
          clear H
          have H := H1
          clear H1
          replace H := Option.bind_eq_some_iff.mp H
          obtain ⟨t1012,A190,H⟩ := H
          try dsimp only at H
          have A19 := am_ A190
          clear A190
          have H' := am_ H
          clear H
          try go_wp2
          have n0_ : Aside0 (Gm ((((((((w12.setCell ⟨gb1010,0,none⟩ (.int .i64 ((rd_T73 l3 x16_1).f0))).setCell ⟨gb1010,1,none⟩ (.int .i64 ((rd_T73 l3 x16_1).f1))).setCell ⟨gb1010,2,none⟩ (.int .i64 ((rd_T73 l3 x16_1).f2))).setCell ⟨gb1010,3,none⟩ (.int .i64 ((rd_T73 l3 x16_1).f3.f0))).setCell ⟨gb1010,4,none⟩ (.int .i64 ((rd_T73 l3 x16_1).f3.f1))).setCell ⟨gb1010,5,none⟩ (.int .i64 ((rd_T73 l3 x16_1).f3.f2))).setCell ⟨gb1010,6,none⟩ (.int .i64 ((rd_T73 l3 x16_1).f3.f3))).setCell ⟨gb1010,7,none⟩ (.string ((rd_T73 l3 x16_1).f4))) w.heap.size v1007 x10_1) := ⟨Gm_far HO_10.out BK1010.out (by decide) (by intro k_ hk_;(repeat (refine (Below.heap_setCell _ _ _ _ hk_).trans ?_));rfl) (by simp)⟩
          have n1_ : Aside0 (((((((((w12.setCell ⟨gb1010,0,none⟩ (.int .i64 ((rd_T73 l3 x16_1).f0))).setCell ⟨gb1010,1,none⟩ (.int .i64 ((rd_T73 l3 x16_1).f1))).setCell ⟨gb1010,2,none⟩ (.int .i64 ((rd_T73 l3 x16_1).f2))).setCell ⟨gb1010,3,none⟩ (.int .i64 ((rd_T73 l3 x16_1).f3.f0))).setCell ⟨gb1010,4,none⟩ (.int .i64 ((rd_T73 l3 x16_1).f3.f1))).setCell ⟨gb1010,5,none⟩ (.int .i64 ((rd_T73 l3 x16_1).f3.f2))).setCell ⟨gb1010,6,none⟩ (.int .i64 ((rd_T73 l3 x16_1).f3.f3))).setCell ⟨gb1010,7,none⟩ (.string ((rd_T73 l3 x16_1).f4))).heap[gb1005]? = some (.cells #[.int .i64 x1006000_1,.int .i64 x1006001_1,.int .i64 x1006002_1,.int .i64 x1006003_1] 63 (0,0))) := ⟨zq BK1005⟩
          have n2_ : Aside0 (((((((((w12.setCell ⟨gb1010,0,none⟩ (.int .i64 ((rd_T73 l3 x16_1).f0))).setCell ⟨gb1010,1,none⟩ (.int .i64 ((rd_T73 l3 x16_1).f1))).setCell ⟨gb1010,2,none⟩ (.int .i64 ((rd_T73 l3 x16_1).f2))).setCell ⟨gb1010,3,none⟩ (.int .i64 ((rd_T73 l3 x16_1).f3.f0))).setCell ⟨gb1010,4,none⟩ (.int .i64 ((rd_T73 l3 x16_1).f3.f1))).setCell ⟨gb1010,5,none⟩ (.int .i64 ((rd_T73 l3 x16_1).f3.f2))).setCell ⟨gb1010,6,none⟩ (.int .i64 ((rd_T73 l3 x16_1).f3.f3))).setCell ⟨gb1010,7,none⟩ (.string ((rd_T73 l3 x16_1).f4))).heap[gb1010]? = some (.cells #[.int .i64 ((rd_T73 l3 x16_1).f0),.int .i64 ((rd_T73 l3 x16_1).f1),.int .i64 ((rd_T73 l3 x16_1).f2),.int .i64 ((rd_T73 l3 x16_1).f3.f0),.int .i64 ((rd_T73 l3 x16_1).f3.f1),.int .i64 ((rd_T73 l3 x16_1).f3.f2),.int .i64 ((rd_T73 l3 x16_1).f3.f3),.string ((rd_T73 l3 x16_1).f4)] 73 (0,0))) := ⟨zq BK1010⟩
          have n3_ : Aside0 (Below w.heap.size w ((((((((w12.setCell ⟨gb1010,0,none⟩ (.int .i64 ((rd_T73 l3 x16_1).f0))).setCell ⟨gb1010,1,none⟩ (.int .i64 ((rd_T73 l3 x16_1).f1))).setCell ⟨gb1010,2,none⟩ (.int .i64 ((rd_T73 l3 x16_1).f2))).setCell ⟨gb1010,3,none⟩ (.int .i64 ((rd_T73 l3 x16_1).f3.f0))).setCell ⟨gb1010,4,none⟩ (.int .i64 ((rd_T73 l3 x16_1).f3.f1))).setCell ⟨gb1010,5,none⟩ (.int .i64 ((rd_T73 l3 x16_1).f3.f2))).setCell ⟨gb1010,6,none⟩ (.int .i64 ((rd_T73 l3 x16_1).f3.f3))).setCell ⟨gb1010,7,none⟩ (.string ((rd_T73 l3 x16_1).f4)))) := ⟨zl_ HB⟩
          (try clear HO_10)
          (try clear BK1005)
          (try clear BK1010)
          (try clear HB)
          generalize ((((((((w12.setCell ⟨gb1010,0,none⟩ (.int .i64 ((rd_T73 l3 x16_1).f0))).setCell ⟨gb1010,1,none⟩ (.int .i64 ((rd_T73 l3 x16_1).f1))).setCell ⟨gb1010,2,none⟩ (.int .i64 ((rd_T73 l3 x16_1).f2))).setCell ⟨gb1010,3,none⟩ (.int .i64 ((rd_T73 l3 x16_1).f3.f0))).setCell ⟨gb1010,4,none⟩ (.int .i64 ((rd_T73 l3 x16_1).f3.f1))).setCell ⟨gb1010,5,none⟩ (.int .i64 ((rd_T73 l3 x16_1).f3.f2))).setCell ⟨gb1010,6,none⟩ (.int .i64 ((rd_T73 l3 x16_1).f3.f3))).setCell ⟨gb1010,7,none⟩ (.string ((rd_T73 l3 x16_1).f4))) = w20 at n0_ n1_ n2_ n3_ ⊢
          have HO_10 := n0_
          have BK1005 := n1_
          have BK1010 := n2_
          have HB := n3_
          clear n0_ n1_ n2_ n3_
          replace HO_10 := am_ (Gm_drew HO_10.out)
          replace BK1005 := am_ (blk_drew BK1005.out)
          replace BK1010 := am_ (blk_drew BK1010.out)
          replace HB := am_ (below_drew1 HB.out)
          refine start_ (n := 25) (S := fun w' => w'.cell? ⟨gb1010,0,none⟩ = some (.int .i64 ((rd_T73 l3 x16_1).f0)) ∧ w'.cell? ⟨gb1010,1,none⟩ = some (.int .i64 ((rd_T73 l3 x16_1).f1)) ∧ w'.cell? ⟨gb1010,2,none⟩ = some (.int .i64 ((rd_T73 l3 x16_1).f2)) ∧ w'.cell? ⟨gb1010,3,none⟩ = some (.int .i64 ((rd_T73 l3 x16_1).f3.f0)) ∧ w'.cell? ⟨gb1010,4,none⟩ = some (.int .i64 ((rd_T73 l3 x16_1).f3.f1)) ∧ w'.cell? ⟨gb1010,5,none⟩ = some (.int .i64 ((rd_T73 l3 x16_1).f3.f2)) ∧ w'.cell? ⟨gb1010,6,none⟩ = some (.int .i64 ((rd_T73 l3 x16_1).f3.f3)) ∧ w'.cell? ⟨gb1010,7,none⟩ = some (.string ((rd_T73 l3 x16_1).f4))) (ds := []) #[false,false,false,false,false,false,false,false,false,false,false,false,false,false,false,false,false,false,false,false,false,false,false,false,false] (by kernel_rfl) rfl rfl ⟨(blk_cell BK1010.out 0).trans rfl,(blk_cell BK1010.out 1).trans rfl,(blk_cell BK1010.out 2).trans rfl,(blk_cell BK1010.out 3).trans rfl,(blk_cell BK1010.out 4).trans rfl,(blk_cell BK1010.out 5).trans rfl,(blk_cell BK1010.out 6).trans rfl,(blk_cell BK1010.out 7).trans rfl⟩ (fun hHeld => ?_);refine with_tabW impl_decided.tab5 impl_decided.bits5 (fun HT_ HW_ => ?_)
          generalize w20.drew = w21 at HO_10 BK1005 BK1010 HB hHeld ⊢
          refine zpu 0 (N := some 20) HT_ ?_
          refine zpu 2 (N := some 22) HT_ ?_
          refine ztk 1 (N := some 21) HT_ HW_ hHeld ?_
          refine zpu 3 (N := some 23) HT_ ?_
          refine zpu 4 (N := some 24) HT_ ?_
          refine zpu 5 (N := some 25) HT_ ?_
          refine zpu 7 (N := some 27) HT_ ?_
          refine ztk 6 (N := some 26) HT_ HW_ hHeld ?_
          refine zpu 8 (N := some 28) HT_ ?_
          refine zpu 9 (N := some 29) HT_ ?_
          refine zpu 10 (N := some 30) HT_ ?_
          refine zpu 11 (N := some 31) HT_ ?_
          refine ztk 12 (N := some 32) HT_ HW_ hHeld ?_
          refine zon 13 (N := some 33) HT_ (fun K hK => ?_)
          refine zgo Tryd.func41 #[.int .i64 a0,.agg #[.int .i64 ((rd_T73 l3 x16_1).f0),.int .i64 ((rd_T73 l3 x16_1).f1),.int .i64 ((rd_T73 l3 x16_1).f2),.int .i64 ((rd_T73 l3 x16_1).f3.f0),.int .i64 ((rd_T73 l3 x16_1).f3.f1),.int .i64 ((rd_T73 l3 x16_1).f3.f2),.int .i64 ((rd_T73 l3 x16_1).f3.f3),.string ((rd_T73 l3 x16_1).f4)]] ?_
          with_reducible refine (impl_ReplyOK.calls k1 a0 ((rd_T73 l3 x16_1).f0) ((rd_T73 l3 x16_1).f1) ((rd_T73 l3 x16_1).f2) ((rd_T73 l3 x16_1).f3.f0) ((rd_T73 l3 x16_1).f3.f1) ((rd_T73 l3 x16_1).f3.f2) ((rd_T73 l3 x16_1).f3.f3) ((rd_T73 l3 x16_1).f4) true _ ?side1 A17.out).mono ?_
          (case side1 => exact HLD.out.on (zl_ HB))
          rintro e w22 ⟨rfl,hb⟩
          refine ⟨_,rfl,?_⟩
          replace HO_10 := zrbG HO_10 hb
          replace BK1005 := zb BK1005 hb
          replace BK1010 := zb BK1010 hb
          replace HB := zs_ HB hb
          (try clear hb)
          (try clear hb2)
          (try clear hk)
          (try clear hi)
          obtain ⟨Ao23,eo23⟩ := Gm_map HO_10.out
          subst eo23
          refine hK.out _ _ ⟨(blk_cell BK1010.out 0).trans rfl,(blk_cell BK1010.out 1).trans rfl,(blk_cell BK1010.out 2).trans rfl,(blk_cell BK1010.out 3).trans rfl,(blk_cell BK1010.out 4).trans rfl,(blk_cell BK1010.out 5).trans rfl,(blk_cell BK1010.out 6).trans rfl,(blk_cell BK1010.out 7).trans rfl⟩ (fun hHeld => ?_)
          clear hK K
          refine norm_ (a' := ?_) ?_ ?_
          rotate_left
          ·show Act.put _ (some 33) _ = _
           simp only [Act.put,p1_,p2_,p3_,i64_w,i32_w]
           rfl
          refine zpu 14 (N := some 34) HT_ ?_
          refine zpu 15 (N := some 35) HT_ ?_
          refine zpu 16 (N := some 36) HT_ ?_
          refine zpu 17 (N := some 37) HT_ ?_
          refine zpu 18 (N := some 38) HT_ ?_
          refine zpu 21 (N := some 41) HT_ ?_
          refine ztk 19 (N := some 39) HT_ HW_ hHeld ?_
          refine ztk 22 (N := some 42) HT_ HW_ hHeld ?_
          refine zon 20 (N := some 40) HT_ (fun K hK => ?_)
          refine gm_look_step (by rfl) 159 (.tmp 37) (.tmp 39) rfl Tryd.underlying159 (((rd_T73 l3 x16_1).f3.f0),((rd_T73 l3 x16_1).f3.f1),((rd_T73 l3 x16_1).f3.f2),((rd_T73 l3 x16_1).f3.f3)) rfl rfl (gm_has_of A19.out).1 (gm_has_of A19.out).2.1 (zrG HO_10) ?_
          intro Av_ cv_ hcv_ HV_
          refine hK.out _ _ ⟨(blk_cell BK1010.out 0).trans rfl,(blk_cell BK1010.out 1).trans rfl,(blk_cell BK1010.out 2).trans rfl,(blk_cell BK1010.out 3).trans rfl,(blk_cell BK1010.out 4).trans rfl,(blk_cell BK1010.out 5).trans rfl,(blk_cell BK1010.out 6).trans rfl,(blk_cell BK1010.out 7).trans rfl⟩ (fun hHeld => ?_)
          clear hK K
          refine norm_ (a' := ?_) ?_ ?_
          rotate_left
          ·show Act.put _ (some 40) _ = _
           simp only [Act.put,p1_,p2_,p3_,i64_w,i32_w]
           rfl
          refine zon 23 (N := some 43) HT_ (fun K hK => ?_)
          refine zgo Tryd.func140 #[.slice Av_ (gl x10_1 (((rd_T73 l3 x16_1).f3.f0),((rd_T73 l3 x16_1).f3.f1),((rd_T73 l3 x16_1).f3.f2),((rd_T73 l3 x16_1).f3.f3))).length cv_,.int .i64 ((rd_T73 l3 x16_1).f0)] ?_
          with_reducible refine (slices_Contains_int_int.calls k1 _ _ (gl x10_1 (((rd_T73 l3 x16_1).f3.f0),((rd_T73 l3 x16_1).f3.f1),((rd_T73 l3 x16_1).f3.f2),((rd_T73 l3 x16_1).f3.f3))) ((rd_T73 l3 x16_1).f0) t1012 _ HV_ hcv_ (gm_has_of A19.out).2.2).mono ?_
          rintro e w24 ⟨rfl,⟨nd,hq_⟩⟩
          have hb := (show Below w22.heap.size w22 w24 from by rw [hq_];exact pw_below_drewN (Below.refl _ _) _)
          clear hq_
          refine ⟨_,rfl,?_⟩
          replace HO_10 := zrbG HO_10 hb
          replace BK1005 := zb BK1005 hb
          replace BK1010 := zb BK1010 hb
          replace HB := zs_ HB hb
          (try clear hb)
          (try clear hb2)
          (try clear hk)
          (try clear hi)
          refine hK.out _ _ ⟨(blk_cell BK1010.out 0).trans rfl,(blk_cell BK1010.out 1).trans rfl,(blk_cell BK1010.out 2).trans rfl,(blk_cell BK1010.out 3).trans rfl,(blk_cell BK1010.out 4).trans rfl,(blk_cell BK1010.out 5).trans rfl,(blk_cell BK1010.out 6).trans rfl,(blk_cell BK1010.out 7).trans rfl⟩ (fun hHeld => ?_)
          clear hK K
          refine norm_ (a' := ?_) ?_ ?_
          rotate_left
          ·show Act.put _ (some 43) _ = _
           simp only [Act.put,p1_,p2_,p3_,i64_w,i32_w]
           rfl
          refine zpu 24 (N := some 44) HT_ ?_
          refine done_ (done_of HT_.out (by kernel_rfl)) ?_
          try go_wp2
          go_meet
          case rel => exact ⟨_,(t1012),(by first | rfl | (simp;done) | (simp [*];done)),H',⟨by have := HK1.out;first | omega | exact Nat.le_refl _⟩,⟨zrG HO_10⟩,⟨by (with_reducible repeat (first | apply k1_ | apply k2_ | apply k3_));exact BK1005.out⟩,⟨by (with_reducible repeat (first | apply k1_ | apply k2_ | apply k3_));exact BK1010.out⟩,⟨zl_ HB⟩⟩
         ·replace c18 := Bool.eq_false_iff.mpr c18
          subst c18
          have H1 : (impl_decided.j1 k1 a0 a1 a2 x10_1 l3 (l3.length : Int) x16_1 true ((rd_T73 l3 x16_1).f0) ((rd_T73 l3 x16_1).f1) ((rd_T73 l3 x16_1).f2) ((rd_T73 l3 x16_1).f3.f0) ((rd_T73 l3 x16_1).f3.f1) ((rd_T73 l3 x16_1).f3.f2) ((rd_T73 l3 x16_1).f3.f3) ((rd_T73 l3 x16_1).f4)) = some (r1,r2,r3,r4,r5) := by rw [if_neg (show ¬ (false = true) by decide)] at H;exact H
          clear H
          have H := H1
          clear H1
          have H' := am_ H
          clear H
          try go_wp2
          have n0_ : Aside0 (Gm ((((((((w12.setCell ⟨gb1010,0,none⟩ (.int .i64 ((rd_T73 l3 x16_1).f0))).setCell ⟨gb1010,1,none⟩ (.int .i64 ((rd_T73 l3 x16_1).f1))).setCell ⟨gb1010,2,none⟩ (.int .i64 ((rd_T73 l3 x16_1).f2))).setCell ⟨gb1010,3,none⟩ (.int .i64 ((rd_T73 l3 x16_1).f3.f0))).setCell ⟨gb1010,4,none⟩ (.int .i64 ((rd_T73 l3 x16_1).f3.f1))).setCell ⟨gb1010,5,none⟩ (.int .i64 ((rd_T73 l3 x16_1).f3.f2))).setCell ⟨gb1010,6,none⟩ (.int .i64 ((rd_T73 l3 x16_1).f3.f3))).setCell ⟨gb1010,7,none⟩ (.string ((rd_T73 l3 x16_1).f4))) w.heap.size v1007 x10_1) := ⟨Gm_far HO_10.out BK1010.out (by decide) (by intro k_ hk_;(repeat (refine (Below.heap_setCell _ _ _ _ hk_).trans ?_));rfl) (by simp)⟩
          have n1_ : Aside0 (((((((((w12.setCell ⟨gb1010,0,none⟩ (.int .i64 ((rd_T73 l3 x16_1).f0))).setCell ⟨gb1010,1,none⟩ (.int .i64 ((rd_T73 l3 x16_1).f1))).setCell ⟨gb1010,2,none⟩ (.int .i64 ((rd_T73 l3 x16_1).f2))).setCell ⟨gb1010,3,none⟩ (.int .i64 ((rd_T73 l3 x16_1).f3.f0))).setCell ⟨gb1010,4,none⟩ (.int .i64 ((rd_T73 l3 x16_1).f3.f1))).setCell ⟨gb1010,5,none⟩ (.int .i64 ((rd_T73 l3 x16_1).f3.f2))).setCell ⟨gb1010,6,none⟩ (.int .i64 ((rd_T73 l3 x16_1).f3.f3))).setCell ⟨gb1010,7,none⟩ (.string ((rd_T73 l3 x16_1).f4))).heap[gb1005]? = some (.cells #[.int .i64 x1006000_1,.int .i64 x1006001_1,.int .i64 x1006002_1,.int .i64 x1006003_1] 63 (0,0))) := ⟨zq BK1005⟩
          have n2_ : Aside0 (((((((((w12.setCell ⟨gb1010,0,none⟩ (.int .i64 ((rd_T73 l3 x16_1).f0))).setCell ⟨gb1010,1,none⟩ (.int .i64 ((rd_T73 l3 x16_1).f1))).setCell ⟨gb1010,2,none⟩ (.int .i64 ((rd_T73 l3 x16_1).f2))).setCell ⟨gb1010,3,none⟩ (.int .i64 ((rd_T73 l3 x16_1).f3.f0))).setCell ⟨gb1010,4,none⟩ (.int .i64 ((rd_T73 l3 x16_1).f3.f1))).setCell ⟨gb1010,5,none⟩ (.int .i64 ((rd_T73 l3 x16_1).f3.f2))).setCell ⟨gb1010,6,none⟩ (.int .i64 ((rd_T73 l3 x16_1).f3.f3))).setCell ⟨gb1010,7,none⟩ (.string ((rd_T73 l3 x16_1).f4))).heap[gb1010]? = some (.cells #[.int .i64 ((rd_T73 l3 x16_1).f0),.int .i64 ((rd_T73 l3 x16_1).f1),.int .i64 ((rd_T73 l3 x16_1).f2),.int .i64 ((rd_T73 l3 x16_1).f3.f0),.int .i64 ((rd_T73 l3 x16_1).f3.f1),.int .i64 ((rd_T73 l3 x16_1).f3.f2),.int .i64 ((rd_T73 l3 x16_1).f3.f3),.string ((rd_T73 l3 x16_1).f4)] 73 (0,0))) := ⟨zq BK1010⟩
          have n3_ : Aside0 (Below w.heap.size w ((((((((w12.setCell ⟨gb1010,0,none⟩ (.int .i64 ((rd_T73 l3 x16_1).f0))).setCell ⟨gb1010,1,none⟩ (.int .i64 ((rd_T73 l3 x16_1).f1))).setCell ⟨gb1010,2,none⟩ (.int .i64 ((rd_T73 l3 x16_1).f2))).setCell ⟨gb1010,3,none⟩ (.int .i64 ((rd_T73 l3 x16_1).f3.f0))).setCell ⟨gb1010,4,none⟩ (.int .i64 ((rd_T73 l3 x16_1).f3.f1))).setCell ⟨gb1010,5,none⟩ (.int .i64 ((rd_T73 l3 x16_1).f3.f2))).setCell ⟨gb1010,6,none⟩ (.int .i64 ((rd_T73 l3 x16_1).f3.f3))).setCell ⟨gb1010,7,none⟩ (.string ((rd_T73 l3 x16_1).f4)))) := ⟨zl_ HB⟩
          (try clear HO_10)
          (try clear BK1005)
          (try clear BK1010)
          (try clear HB)
          generalize ((((((((w12.setCell ⟨gb1010,0,none⟩ (.int .i64 ((rd_T73 l3 x16_1).f0))).setCell ⟨gb1010,1,none⟩ (.int .i64 ((rd_T73 l3 x16_1).f1))).setCell ⟨gb1010,2,none⟩ (.int .i64 ((rd_T73 l3 x16_1).f2))).setCell ⟨gb1010,3,none⟩ (.int .i64 ((rd_T73 l3 x16_1).f3.f0))).setCell ⟨gb1010,4,none⟩ (.int .i64 ((rd_T73 l3 x16_1).f3.f1))).setCell ⟨gb1010,5,none⟩ (.int .i64 ((rd_T73 l3 x16_1).f3.f2))).setCell ⟨gb1010,6,none⟩ (.int .i64 ((rd_T73 l3 x16_1).f3.f3))).setCell ⟨gb1010,7,none⟩ (.string ((rd_T73 l3 x16_1).f4))) = w25 at n0_ n1_ n2_ n3_ ⊢
          have HO_10 := n0_
          have BK1005 := n1_
          have BK1010 := n2_
          have HB := n3_
          clear n0_ n1_ n2_ n3_
          replace HO_10 := am_ (Gm_drew HO_10.out)
          replace BK1005 := am_ (blk_drew BK1005.out)
          replace BK1010 := am_ (blk_drew BK1010.out)
          replace HB := am_ (below_drew1 HB.out)
          refine start_ (n := 25) (S := fun w' => w'.cell? ⟨gb1010,0,none⟩ = some (.int .i64 ((rd_T73 l3 x16_1).f0)) ∧ w'.cell? ⟨gb1010,1,none⟩ = some (.int .i64 ((rd_T73 l3 x16_1).f1)) ∧ w'.cell? ⟨gb1010,2,none⟩ = some (.int .i64 ((rd_T73 l3 x16_1).f2)) ∧ w'.cell? ⟨gb1010,3,none⟩ = some (.int .i64 ((rd_T73 l3 x16_1).f3.f0)) ∧ w'.cell? ⟨gb1010,4,none⟩ = some (.int .i64 ((rd_T73 l3 x16_1).f3.f1)) ∧ w'.cell? ⟨gb1010,5,none⟩ = some (.int .i64 ((rd_T73 l3 x16_1).f3.f2)) ∧ w'.cell? ⟨gb1010,6,none⟩ = some (.int .i64 ((rd_T73 l3 x16_1).f3.f3)) ∧ w'.cell? ⟨gb1010,7,none⟩ = some (.string ((rd_T73 l3 x16_1).f4))) (ds := []) #[false,false,false,false,false,false,false,false,false,false,false,false,false,false,false,false,false,false,false,false,false,false,false,false,false] (by kernel_rfl) rfl rfl ⟨(blk_cell BK1010.out 0).trans rfl,(blk_cell BK1010.out 1).trans rfl,(blk_cell BK1010.out 2).trans rfl,(blk_cell BK1010.out 3).trans rfl,(blk_cell BK1010.out 4).trans rfl,(blk_cell BK1010.out 5).trans rfl,(blk_cell BK1010.out 6).trans rfl,(blk_cell BK1010.out 7).trans rfl⟩ (fun hHeld => ?_);refine with_tabW impl_decided.tab5 impl_decided.bits5 (fun HT_ HW_ => ?_)
          generalize w25.drew = w26 at HO_10 BK1005 BK1010 HB hHeld ⊢
          refine zpu 0 (N := some 20) HT_ ?_
          refine zpu 2 (N := some 22) HT_ ?_
          refine ztk 1 (N := some 21) HT_ HW_ hHeld ?_
          refine zpu 3 (N := some 23) HT_ ?_
          refine zpu 4 (N := some 24) HT_ ?_
          refine zpu 5 (N := some 25) HT_ ?_
          refine zpu 7 (N := some 27) HT_ ?_
          refine ztk 6 (N := some 26) HT_ HW_ hHeld ?_
          refine zpu 8 (N := some 28) HT_ ?_
          refine zpu 9 (N := some 29) HT_ ?_
          refine zpu 10 (N := some 30) HT_ ?_
          refine zpu 11 (N := some 31) HT_ ?_
          refine ztk 12 (N := some 32) HT_ HW_ hHeld ?_
          refine zon 13 (N := some 33) HT_ (fun K hK => ?_)
          refine zgo Tryd.func41 #[.int .i64 a0,.agg #[.int .i64 ((rd_T73 l3 x16_1).f0),.int .i64 ((rd_T73 l3 x16_1).f1),.int .i64 ((rd_T73 l3 x16_1).f2),.int .i64 ((rd_T73 l3 x16_1).f3.f0),.int .i64 ((rd_T73 l3 x16_1).f3.f1),.int .i64 ((rd_T73 l3 x16_1).f3.f2),.int .i64 ((rd_T73 l3 x16_1).f3.f3),.string ((rd_T73 l3 x16_1).f4)]] ?_
          with_reducible refine (impl_ReplyOK.calls k1 a0 ((rd_T73 l3 x16_1).f0) ((rd_T73 l3 x16_1).f1) ((rd_T73 l3 x16_1).f2) ((rd_T73 l3 x16_1).f3.f0) ((rd_T73 l3 x16_1).f3.f1) ((rd_T73 l3 x16_1).f3.f2) ((rd_T73 l3 x16_1).f3.f3) ((rd_T73 l3 x16_1).f4) false _ ?side1 A17.out).mono ?_
          (case side1 => exact HLD.out.on (zl_ HB))
          rintro e w27 ⟨rfl,hb⟩
          refine ⟨_,rfl,?_⟩
          replace HO_10 := zrbG HO_10 hb
          replace BK1005 := zb BK1005 hb
          replace BK1010 := zb BK1010 hb
          replace HB := zs_ HB hb
          (try clear hb)
          (try clear hb2)
          (try clear hk)
          (try clear hi)
          refine hK.out _ _ ⟨(blk_cell BK1010.out 0).trans rfl,(blk_cell BK1010.out 1).trans rfl,(blk_cell BK1010.out 2).trans rfl,(blk_cell BK1010.out 3).trans rfl,(blk_cell BK1010.out 4).trans rfl,(blk_cell BK1010.out 5).trans rfl,(blk_cell BK1010.out 6).trans rfl,(blk_cell BK1010.out 7).trans rfl⟩ (fun hHeld => ?_)
          clear hK K
          refine norm_ (a' := ?_) ?_ ?_
          rotate_left
          ·show Act.put _ (some 33) _ = _
           simp only [Act.put,p1_,p2_,p3_,i64_w,i32_w]
           rfl
          refine zpu 14 (N := some 34) HT_ ?_
          refine zpu 15 (N := some 35) HT_ ?_
          refine zpu 16 (N := some 36) HT_ ?_
          refine zpx 17 (N := some 37) HT_ ?_
          refine zpx 18 (N := some 38) HT_ ?_
          refine zpx 19 (N := some 39) HT_ ?_
          refine zpx 20 (N := some 40) HT_ ?_
          refine zpx 21 (N := some 41) HT_ ?_
          refine zpx 22 (N := some 42) HT_ ?_
          refine zpx 23 (N := some 43) HT_ ?_
          refine zpu 24 (N := some 44) HT_ ?_
          refine done_ (done_of HT_.out (by kernel_rfl)) ?_
          try go_wp2
          go_meet
          case rel => exact ⟨_,(true),(by first | rfl | (simp;done) | (simp [*];done)),H',⟨by have := HK1.out;first | omega | exact Nat.le_refl _⟩,⟨zrG HO_10⟩,⟨by (with_reducible repeat (first | apply k1_ | apply k2_ | apply k3_));exact BK1005.out⟩,⟨by (with_reducible repeat (first | apply k1_ | apply k2_ | apply k3_));exact BK1010.out⟩,⟨zl_ HB⟩⟩
        ·rw [if_neg c16] at H
         have c16b0 : (((rd_T73 l3 x16_1).f2) == a2) = false := beq_eq_false_iff_ne.mpr c16
         have c16b1 : (((rd_T73 l3 x16_1).f2) != a2) = true := bne_iff_ne.mpr c16
         have H' := am_ H
         clear H
         try go_wp2
         have n0_ : Aside0 (Gm ((((((((w12.setCell ⟨gb1010,0,none⟩ (.int .i64 ((rd_T73 l3 x16_1).f0))).setCell ⟨gb1010,1,none⟩ (.int .i64 ((rd_T73 l3 x16_1).f1))).setCell ⟨gb1010,2,none⟩ (.int .i64 ((rd_T73 l3 x16_1).f2))).setCell ⟨gb1010,3,none⟩ (.int .i64 ((rd_T73 l3 x16_1).f3.f0))).setCell ⟨gb1010,4,none⟩ (.int .i64 ((rd_T73 l3 x16_1).f3.f1))).setCell ⟨gb1010,5,none⟩ (.int .i64 ((rd_T73 l3 x16_1).f3.f2))).setCell ⟨gb1010,6,none⟩ (.int .i64 ((rd_T73 l3 x16_1).f3.f3))).setCell ⟨gb1010,7,none⟩ (.string ((rd_T73 l3 x16_1).f4))) w.heap.size v1007 x10_1) := ⟨Gm_far HO_10.out BK1010.out (by decide) (by intro k_ hk_;(repeat (refine (Below.heap_setCell _ _ _ _ hk_).trans ?_));rfl) (by simp)⟩
         have n1_ : Aside0 (((((((((w12.setCell ⟨gb1010,0,none⟩ (.int .i64 ((rd_T73 l3 x16_1).f0))).setCell ⟨gb1010,1,none⟩ (.int .i64 ((rd_T73 l3 x16_1).f1))).setCell ⟨gb1010,2,none⟩ (.int .i64 ((rd_T73 l3 x16_1).f2))).setCell ⟨gb1010,3,none⟩ (.int .i64 ((rd_T73 l3 x16_1).f3.f0))).setCell ⟨gb1010,4,none⟩ (.int .i64 ((rd_T73 l3 x16_1).f3.f1))).setCell ⟨gb1010,5,none⟩ (.int .i64 ((rd_T73 l3 x16_1).f3.f2))).setCell ⟨gb1010,6,none⟩ (.int .i64 ((rd_T73 l3 x16_1).f3.f3))).setCell ⟨gb1010,7,none⟩ (.string ((rd_T73 l3 x16_1).f4))).heap[gb1005]? = some (.cells #[.int .i64 x1006000_1,.int .i64 x1006001_1,.int .i64 x1006002_1,.int .i64 x1006003_1] 63 (0,0))) := ⟨zq BK1005⟩
         have n2_ : Aside0 (((((((((w12.setCell ⟨gb1010,0,none⟩ (.int .i64 ((rd_T73 l3 x16_1).f0))).setCell ⟨gb1010,1,none⟩ (.int .i64 ((rd_T73 l3 x16_1).f1))).setCell ⟨gb1010,2,none⟩ (.int .i64 ((rd_T73 l3 x16_1).f2))).setCell ⟨gb1010,3,none⟩ (.int .i64 ((rd_T73 l3 x16_1).f3.f0))).setCell ⟨gb1010,4,none⟩ (.int .i64 ((rd_T73 l3 x16_1).f3.f1))).setCell ⟨gb1010,5,none⟩ (.int .i64 ((rd_T73 l3 x16_1).f3.f2))).setCell ⟨gb1010,6,none⟩ (.int .i64 ((rd_T73 l3 x16_1).f3.f3))).setCell ⟨gb1010,7,none⟩ (.string ((rd_T73 l3 x16_1).f4))).heap[gb1010]? = some (.cells #[.int .i64 ((rd_T73 l3 x16_1).f0),.int .i64 ((rd_T73 l3 x16_1).f1),.int .i64 ((rd_T73 l3 x16_1).f2),.int .i64 ((rd_T73 l3 x16_1).f3.f0),.int .i64 ((rd_T73 l3 x16_1).f3.f1),.int .i64 ((rd_T73 l3 x16_1).f3.f2),.int .i64 ((rd_T73 l3 x16_1).f3.f3),.string ((rd_T73 l3 x16_1).f4)] 73 (0,0))) := ⟨zq BK1010⟩
         have n3_ : Aside0 (Below w.heap.size w ((((((((w12.setCell ⟨gb1010,0,none⟩ (.int .i64 ((rd_T73 l3 x16_1).f0))).setCell ⟨gb1010,1,none⟩ (.int .i64 ((rd_T73 l3 x16_1).f1))).setCell ⟨gb1010,2,none⟩ (.int .i64 ((rd_T73 l3 x16_1).f2))).setCell ⟨gb1010,3,none⟩ (.int .i64 ((rd_T73 l3 x16_1).f3.f0))).setCell ⟨gb1010,4,none⟩ (.int .i64 ((rd_T73 l3 x16_1).f3.f1))).setCell ⟨gb1010,5,none⟩ (.int .i64 ((rd_T73 l3 x16_1).f3.f2))).setCell ⟨gb1010,6,none⟩ (.int .i64 ((rd_T73 l3 x16_1).f3.f3))).setCell ⟨gb1010,7,none⟩ (.string ((rd_T73 l3 x16_1).f4)))) := ⟨zl_ HB⟩
         (try clear HO_10)
         (try clear BK1005)
         (try clear BK1010)
         (try clear HB)
         generalize ((((((((w12.setCell ⟨gb1010,0,none⟩ (.int .i64 ((rd_T73 l3 x16_1).f0))).setCell ⟨gb1010,1,none⟩ (.int .i64 ((rd_T73 l3 x16_1).f1))).setCell ⟨gb1010,2,none⟩ (.int .i64 ((rd_T73 l3 x16_1).f2))).setCell ⟨gb1010,3,none⟩ (.int .i64 ((rd_T73 l3 x16_1).f3.f0))).setCell ⟨gb1010,4,none⟩ (.int .i64 ((rd_T73 l3 x16_1).f3.f1))).setCell ⟨gb1010,5,none⟩ (.int .i64 ((rd_T73 l3 x16_1).f3.f2))).setCell ⟨gb1010,6,none⟩ (.int .i64 ((rd_T73 l3 x16_1).f3.f3))).setCell ⟨gb1010,7,none⟩ (.string ((rd_T73 l3 x16_1).f4))) = w28 at n0_ n1_ n2_ n3_ ⊢
         have HO_10 := n0_
         have BK1005 := n1_
         have BK1010 := n2_
         have HB := n3_
         clear n0_ n1_ n2_ n3_
         replace HO_10 := am_ (Gm_drew HO_10.out)
         replace BK1005 := am_ (blk_drew BK1005.out)
         replace BK1010 := am_ (blk_drew BK1010.out)
         replace HB := am_ (below_drew1 HB.out)
         refine start_ (n := 25) (S := fun w' => w'.cell? ⟨gb1010,0,none⟩ = some (.int .i64 ((rd_T73 l3 x16_1).f0)) ∧ w'.cell? ⟨gb1010,1,none⟩ = some (.int .i64 ((rd_T73 l3 x16_1).f1)) ∧ w'.cell? ⟨gb1010,2,none⟩ = some (.int .i64 ((rd_T73 l3 x16_1).f2)) ∧ w'.cell? ⟨gb1010,3,none⟩ = some (.int .i64 ((rd_T73 l3 x16_1).f3.f0)) ∧ w'.cell? ⟨gb1010,4,none⟩ = some (.int .i64 ((rd_T73 l3 x16_1).f3.f1)) ∧ w'.cell? ⟨gb1010,5,none⟩ = some (.int .i64 ((rd_T73 l3 x16_1).f3.f2)) ∧ w'.cell? ⟨gb1010,6,none⟩ = some (.int .i64 ((rd_T73 l3 x16_1).f3.f3)) ∧ w'.cell? ⟨gb1010,7,none⟩ = some (.string ((rd_T73 l3 x16_1).f4))) (ds := []) #[false,false,false,false,false,false,false,false,false,false,false,false,false,false,false,false,false,false,false,false,false,false,false,false,false] (by kernel_rfl) rfl rfl ⟨(blk_cell BK1010.out 0).trans rfl,(blk_cell BK1010.out 1).trans rfl,(blk_cell BK1010.out 2).trans rfl,(blk_cell BK1010.out 3).trans rfl,(blk_cell BK1010.out 4).trans rfl,(blk_cell BK1010.out 5).trans rfl,(blk_cell BK1010.out 6).trans rfl,(blk_cell BK1010.out 7).trans rfl⟩ (fun hHeld => ?_);refine with_tabW impl_decided.tab5 impl_decided.bits5 (fun HT_ HW_ => ?_)
         generalize w28.drew = w29 at HO_10 BK1005 BK1010 HB hHeld ⊢
         refine zpu 0 (N := some 20) HT_ ?_
         refine zpu 2 (N := some 22) HT_ ?_
         refine ztk 1 (N := some 21) HT_ HW_ hHeld ?_
         refine zpu 3 (N := some 23) HT_ ?_
         refine zpu 4 (N := some 24) HT_ ?_
         refine zpu 5 (N := some 25) HT_ ?_
         refine zpu 7 (N := some 27) HT_ ?_
         refine ztk 6 (N := some 26) HT_ HW_ hHeld ?_
         refine zpu 8 (N := some 28) HT_ ?_
         refine zpu 9 (N := some 29) HT_ ?_
         refine zpu 10 (N := some 30) HT_ ?_
         refine zpx 11 (N := some 31) HT_ ?_
         refine zpx 12 (N := some 32) HT_ ?_
         refine zpx 13 (N := some 33) HT_ ?_
         refine zpx 14 (N := some 34) HT_ ?_
         refine zpu 15 (N := some 35) HT_ ?_
         refine zpu 16 (N := some 36) HT_ ?_
         refine zpx 17 (N := some 37) HT_ ?_
         refine zpx 18 (N := some 38) HT_ ?_
         refine zpx 19 (N := some 39) HT_ ?_
         refine zpx 20 (N := some 40) HT_ ?_
         refine zpx 21 (N := some 41) HT_ ?_
         refine zpx 22 (N := some 42) HT_ ?_
         refine zpx 23 (N := some 43) HT_ ?_
         refine zpu 24 (N := some 44) HT_ ?_
         refine done_ (done_of HT_.out (by kernel_rfl)) ?_
         try go_wp2
         go_meet
         case rel => exact ⟨_,(true),(by first | rfl | (simp;done) | (simp [*];done)),H',⟨by have := HK1.out;first | omega | exact Nat.le_refl _⟩,⟨zrG HO_10⟩,⟨by (with_reducible repeat (first | apply k1_ | apply k2_ | apply k3_));exact BK1005.out⟩,⟨by (with_reducible repeat (first | apply k1_ | apply k2_ | apply k3_));exact BK1010.out⟩,⟨zl_ HB⟩⟩
       ·rw [if_neg c15] at H
        have c15b0 : (((rd_T73 l3 x16_1).f1) == a1) = false := beq_eq_false_iff_ne.mpr c15
        have c15b1 : (((rd_T73 l3 x16_1).f1) != a1) = true := bne_iff_ne.mpr c15
        (first | rw [c15b0] | (simp only [i64_w,i32_w];rw [c15b0]) | skip)
        have H' := am_ H
        clear H
        try go_wp2
        have n0_ : Aside0 (Gm ((((((((w12.setCell ⟨gb1010,0,none⟩ (.int .i64 ((rd_T73 l3 x16_1).f0))).setCell ⟨gb1010,1,none⟩ (.int .i64 ((rd_T73 l3 x16_1).f1))).setCell ⟨gb1010,2,none⟩ (.int .i64 ((rd_T73 l3 x16_1).f2))).setCell ⟨gb1010,3,none⟩ (.int .i64 ((rd_T73 l3 x16_1).f3.f0))).setCell ⟨gb1010,4,none⟩ (.int .i64 ((rd_T73 l3 x16_1).f3.f1))).setCell ⟨gb1010,5,none⟩ (.int .i64 ((rd_T73 l3 x16_1).f3.f2))).setCell ⟨gb1010,6,none⟩ (.int .i64 ((rd_T73 l3 x16_1).f3.f3))).setCell ⟨gb1010,7,none⟩ (.string ((rd_T73 l3 x16_1).f4))) w.heap.size v1007 x10_1) := ⟨Gm_far HO_10.out BK1010.out (by decide) (by intro k_ hk_;(repeat (refine (Below.heap_setCell _ _ _ _ hk_).trans ?_));rfl) (by simp)⟩
        have n1_ : Aside0 (((((((((w12.setCell ⟨gb1010,0,none⟩ (.int .i64 ((rd_T73 l3 x16_1).f0))).setCell ⟨gb1010,1,none⟩ (.int .i64 ((rd_T73 l3 x16_1).f1))).setCell ⟨gb1010,2,none⟩ (.int .i64 ((rd_T73 l3 x16_1).f2))).setCell ⟨gb1010,3,none⟩ (.int .i64 ((rd_T73 l3 x16_1).f3.f0))).setCell ⟨gb1010,4,none⟩ (.int .i64 ((rd_T73 l3 x16_1).f3.f1))).setCell ⟨gb1010,5,none⟩ (.int .i64 ((rd_T73 l3 x16_1).f3.f2))).setCell ⟨gb1010,6,none⟩ (.int .i64 ((rd_T73 l3 x16_1).f3.f3))).setCell ⟨gb1010,7,none⟩ (.string ((rd_T73 l3 x16_1).f4))).heap[gb1005]? = some (.cells #[.int .i64 x1006000_1,.int .i64 x1006001_1,.int .i64 x1006002_1,.int .i64 x1006003_1] 63 (0,0))) := ⟨zq BK1005⟩
        have n2_ : Aside0 (((((((((w12.setCell ⟨gb1010,0,none⟩ (.int .i64 ((rd_T73 l3 x16_1).f0))).setCell ⟨gb1010,1,none⟩ (.int .i64 ((rd_T73 l3 x16_1).f1))).setCell ⟨gb1010,2,none⟩ (.int .i64 ((rd_T73 l3 x16_1).f2))).setCell ⟨gb1010,3,none⟩ (.int .i64 ((rd_T73 l3 x16_1).f3.f0))).setCell ⟨gb1010,4,none⟩ (.int .i64 ((rd_T73 l3 x16_1).f3.f1))).setCell ⟨gb1010,5,none⟩ (.int .i64 ((rd_T73 l3 x16_1).f3.f2))).setCell ⟨gb1010,6,none⟩ (.int .i64 ((rd_T73 l3 x16_1).f3.f3))).setCell ⟨gb1010,7,none⟩ (.string ((rd_T73 l3 x16_1).f4))).heap[gb1010]? = some (.cells #[.int .i64 ((rd_T73 l3 x16_1).f0),.int .i64 ((rd_T73 l3 x16_1).f1),.int .i64 ((rd_T73 l3 x16_1).f2),.int .i64 ((rd_T73 l3 x16_1).f3.f0),.int .i64 ((rd_T73 l3 x16_1).f3.f1),.int .i64 ((rd_T73 l3 x16_1).f3.f2),.int .i64 ((rd_T73 l3 x16_1).f3.f3),.string ((rd_T73 l3 x16_1).f4)] 73 (0,0))) := ⟨zq BK1010⟩
        have n3_ : Aside0 (Below w.heap.size w ((((((((w12.setCell ⟨gb1010,0,none⟩ (.int .i64 ((rd_T73 l3 x16_1).f0))).setCell ⟨gb1010,1,none⟩ (.int .i64 ((rd_T73 l3 x16_1).f1))).setCell ⟨gb1010,2,none⟩ (.int .i64 ((rd_T73 l3 x16_1).f2))).setCell ⟨gb1010,3,none⟩ (.int .i64 ((rd_T73 l3 x16_1).f3.f0))).setCell ⟨gb1010,4,none⟩ (.int .i64 ((rd_T73 l3 x16_1).f3.f1))).setCell ⟨gb1010,5,none⟩ (.int .i64 ((rd_T73 l3 x16_1).f3.f2))).setCell ⟨gb1010,6,none⟩ (.int .i64 ((rd_T73 l3 x16_1).f3.f3))).setCell ⟨gb1010,7,none⟩ (.string ((rd_T73 l3 x16_1).f4)))) := ⟨zl_ HB⟩
        (try clear HO_10)
        (try clear BK1005)
        (try clear BK1010)
        (try clear HB)
        generalize ((((((((w12.setCell ⟨gb1010,0,none⟩ (.int .i64 ((rd_T73 l3 x16_1).f0))).setCell ⟨gb1010,1,none⟩ (.int .i64 ((rd_T73 l3 x16_1).f1))).setCell ⟨gb1010,2,none⟩ (.int .i64 ((rd_T73 l3 x16_1).f2))).setCell ⟨gb1010,3,none⟩ (.int .i64 ((rd_T73 l3 x16_1).f3.f0))).setCell ⟨gb1010,4,none⟩ (.int .i64 ((rd_T73 l3 x16_1).f3.f1))).setCell ⟨gb1010,5,none⟩ (.int .i64 ((rd_T73 l3 x16_1).f3.f2))).setCell ⟨gb1010,6,none⟩ (.int .i64 ((rd_T73 l3 x16_1).f3.f3))).setCell ⟨gb1010,7,none⟩ (.string ((rd_T73 l3 x16_1).f4))) = w30 at n0_ n1_ n2_ n3_ ⊢
        have HO_10 := n0_
        have BK1005 := n1_
        have BK1010 := n2_
        have HB := n3_
        clear n0_ n1_ n2_ n3_
        replace HO_10 := am_ (Gm_drew HO_10.out)
        replace BK1005 := am_ (blk_drew BK1005.out)
        replace BK1010 := am_ (blk_drew BK1010.out)
        replace HB := am_ (below_drew1 HB.out)
        refine start_ (n := 25) (S := fun w' => w'.cell? ⟨gb1010,0,none⟩ = some (.int .i64 ((rd_T73 l3 x16_1).f0)) ∧ w'.cell? ⟨gb1010,1,none⟩ = some (.int .i64 ((rd_T73 l3 x16_1).f1)) ∧ w'.cell? ⟨gb1010,2,none⟩ = some (.int .i64 ((rd_T73 l3 x16_1).f2)) ∧ w'.cell? ⟨gb1010,3,none⟩ = some (.int .i64 ((rd_T73 l3 x16_1).f3.f0)) ∧ w'.cell? ⟨gb1010,4,none⟩ = some (.int .i64 ((rd_T73 l3 x16_1).f3.f1)) ∧ w'.cell? ⟨gb1010,5,none⟩ = some (.int .i64 ((rd_T73 l3 x16_1).f3.f2)) ∧ w'.cell? ⟨gb1010,6,none⟩ = some (.int .i64 ((rd_T73 l3 x16_1).f3.f3)) ∧ w'.cell? ⟨gb1010,7,none⟩ = some (.string ((rd_T73 l3 x16_1).f4))) (ds := []) #[false,false,false,false,false,false,false,false,false,false,false,false,false,false,false,false,false,false,false,false,false,false,false,false,false] (by kernel_rfl) rfl rfl ⟨(blk_cell BK1010.out 0).trans rfl,(blk_cell BK1010.out 1).trans rfl,(blk_cell BK1010.out 2).trans rfl,(blk_cell BK1010.out 3).trans rfl,(blk_cell BK1010.out 4).trans rfl,(blk_cell BK1010.out 5).trans rfl,(blk_cell BK1010.out 6).trans rfl,(blk_cell BK1010.out 7).trans rfl⟩ (fun hHeld => ?_);refine with_tabW impl_decided.tab5 impl_decided.bits5 (fun HT_ HW_ => ?_)
        generalize w30.drew = w31 at HO_10 BK1005 BK1010 HB hHeld ⊢
        refine zpu 0 (N := some 20) HT_ ?_
        refine zpu 2 (N := some 22) HT_ ?_
        refine ztk 1 (N := some 21) HT_ HW_ hHeld ?_
        refine zpu 3 (N := some 23) HT_ ?_
        refine zpu 4 (N := some 24) HT_ ?_
        refine zpx 5 (N := some 25) HT_ ?_
        refine zpx 6 (N := some 26) HT_ ?_
        refine zpx 7 (N := some 27) HT_ ?_
        refine zpx 8 (N := some 28) HT_ ?_
        refine zpu 9 (N := some 29) HT_ ?_
        refine zpu 10 (N := some 30) HT_ ?_
        refine zpx 11 (N := some 31) HT_ ?_
        refine zpx 12 (N := some 32) HT_ ?_
        refine zpx 13 (N := some 33) HT_ ?_
        refine zpx 14 (N := some 34) HT_ ?_
        refine zpu 15 (N := some 35) HT_ ?_
        refine zpu 16 (N := some 36) HT_ ?_
        refine zpx 17 (N := some 37) HT_ ?_
        refine zpx 18 (N := some 38) HT_ ?_
        refine zpx 19 (N := some 39) HT_ ?_
        refine zpx 20 (N := some 40) HT_ ?_
        refine zpx 21 (N := some 41) HT_ ?_
        refine zpx 22 (N := some 42) HT_ ?_
        refine zpx 23 (N := some 43) HT_ ?_
        refine zpu 24 (N := some 44) HT_ ?_
        refine done_ (done_of HT_.out (by kernel_rfl)) ?_
        try go_wp2
        go_meet
        case rel => exact ⟨_,(true),(by first | rfl | (simp;done) | (simp [*];done)),H',⟨by have := HK1.out;first | omega | exact Nat.le_refl _⟩,⟨zrG HO_10⟩,⟨by (with_reducible repeat (first | apply k1_ | apply k2_ | apply k3_));exact BK1005.out⟩,⟨by (with_reducible repeat (first | apply k1_ | apply k2_ | apply k3_));exact BK1010.out⟩,⟨zl_ HB⟩⟩
      case rest =>
       clear HC11
       try clear c1
       try clear p2
       try clear c4
       try clear c15
       try clear c15b0
       try clear c15b1
       try clear c16
       try clear c16b0
       try clear c16b1
       obtain ⟨kq,x44_10,rfl,HA,HJ10,HO_10,BK1005,BK1010,HB⟩ := hcut
       cases kq with
       | zero => exact absurd HA.out (by simp [impl_decided.j1])
       | succ kj10 =>
        have H := HA.out
        clear HA
        simp only [impl_decided.j1] at H
        by_cases c32 : x44_10 = true
        ·subst c32
         have H1 : (impl_decided.l0 kj10 a0 a1 a2 x10_1 l3 (l3.length : Int) (wrap64 (x16_1 + 1))) = some (r1,r2,r3,r4,r5) := by rw [if_pos rfl] at H;exact H
         clear H
         have H := H1
         clear H1
         have H' := am_ H
         clear H
         go_wp2
         go_roundg kj10
         case measure => have := HK1.out;have := HJ10.out;omega
         case rel => exact ⟨(x10_1),(wrap64 (x16_1 + 1)),(x1006000_1),(x1006001_1),(x1006002_1),(x1006003_1),(by first | rfl | (simp;done) | (simp [*];done)),H',⟨by have := HK1.out;have := HJ10.out;omega⟩,⟨zrG HO_10⟩,⟨by (with_reducible repeat (first | apply k1_ | apply k2_ | apply k3_));exact BK1005.out⟩,⟨zl_ HB⟩⟩
        ·replace c32 := Bool.eq_false_iff.mpr c32
         subst c32
         have H1 : ((gm_put.f x10_1 ((rd_T73 l3 x16_1).f3.f0) ((rd_T73 l3 x16_1).f3.f1) ((rd_T73 l3 x16_1).f3.f2) ((rd_T73 l3 x16_1).f3.f3) ((rd_T73 l3 x16_1).f0)).bind fun t1013 => ((gm_len.f t1013 ((rd_T73 l3 x16_1).f3.f0) ((rd_T73 l3 x16_1).f3.f1) ((rd_T73 l3 x16_1).f3.f2) ((rd_T73 l3 x16_1).f3.f3)).bind fun t1016 => (if t1016 > (wrap64 (Int.tdiv (wrap64 (a0 - 1)) 3)) then (some (((rd_T73 l3 x16_1).f3.f0),((rd_T73 l3 x16_1).f3.f1),((rd_T73 l3 x16_1).f3.f2),((rd_T73 l3 x16_1).f3.f3),true)) else (impl_decided.l0 kj10 a0 a1 a2 t1013 l3 (l3.length : Int) (wrap64 (x16_1 + 1)))))) = some (r1,r2,r3,r4,r5) := by rw [if_neg (show ¬ (false = true) by decide)] at H;exact H
         clear H
         have H := H1
         clear H1
         replace H := Option.bind_eq_some_iff.mp H
         obtain ⟨t1013,A330,H⟩ := H
         try dsimp only at H
         have A33 := am_ A330
         clear A330
         replace H := Option.bind_eq_some_iff.mp H
         obtain ⟨t1016,A340,H⟩ := H
         try dsimp only at H
         have A34 := am_ A340
         clear A340
         obtain rfl := (gm_len_of A34.out).2.2
         by_cases c35 : ((gl t1013 (((rd_T73 l3 x16_1).f3.f0),((rd_T73 l3 x16_1).f3.f1),((rd_T73 l3 x16_1).f3.f2),((rd_T73 l3 x16_1).f3.f3))).length : Int) > (wrap64 (Int.tdiv (wrap64 (a0 - 1)) 3))
         ·rw [if_pos c35] at H
          have c35b0 : decide ((wrap64 (Int.tdiv (wrap64 (a0 - 1)) 3)) < ((gl t1013 (((rd_T73 l3 x16_1).f3.f0),((rd_T73 l3 x16_1).f3.f1),((rd_T73 l3 x16_1).f3.f2),((rd_T73 l3 x16_1).f3.f3))).length : Int)) = true := decide_eq_true c35
          clear c35
          simp only [Option.some.injEq,Prod.mk.injEq] at H
          obtain ⟨rfl,rfl,rfl,rfl,rfl⟩ := H
          have hnb36 := NB1010_1005.out
          have hnc36 := NB1005_1010.out
          obtain ⟨hcz37_0,hcz37_1,hcz37_2,hcz37_3,hcz37_4,hcz37_5,hcz37_6,hcz37_7,hfz37_0,hfz37_1,hfz37_2,hfz37_3,hfz37_4,hfz37_5,hfz37_6,hfz37_7⟩ := zc8 BK1010
          obtain ⟨Ao38,eo38⟩ := Gm_map HO_10.out
          subst eo38
          go_wp2_with (first | ((with_reducible refine gate_dst (N := 52) rfl ?_);refine gm_append rfl rfl rfl rfl rfl 159 _ _ _ _ _ _ _ _ _ rfl rfl rfl rfl rfl Tryd.underlying159 (((rd_T73 l3 x16_1).f3.f0),((rd_T73 l3 x16_1).f3.f1),((rd_T73 l3 x16_1).f3.f2),((rd_T73 l3 x16_1).f3.f3)) ((rd_T73 l3 x16_1).f0) _ rfl rfl rfl (fun _ => rfl) (fun _ _ => rfl) (fun _ _ => rfl) (fun _ _ _ => rfl) (fun _ _ _ _ => rfl) (fun _ _ _ _ => rfl) (fun _ _ _ _ => rfl) (gm_put_of A33.out).1 (gm_put_of A33.out).2.1 (gm_put_of A33.out).2.2.1 (zrG HO_10) (zl_ HB) (below_size (zl_ HB)) ?_;intro p_ q_ r_ s_ w39 ho0 hk hb;rw [← (gm_put_of A33.out).2.2.2] at ho0;have HO1015 := am_ ho0;clear HO_10;replace BK1005 := am_ (hk _ _ _ _ (zk BK1005) (by decide));replace BK1010 := am_ (hk _ _ _ _ (zk BK1010) (by decide));replace HB := am_ hb;clear hk hb ho0;obtain ⟨hcz40_0,hcz40_1,hcz40_2,hcz40_3,hcz40_4,hcz40_5,hcz40_6,hcz40_7,hfz40_0,hfz40_1,hfz40_2,hfz40_3,hfz40_4,hfz40_5,hfz40_6,hfz40_7⟩ := zc8 BK1010) | ((with_reducible refine gate_dst (N := 58) rfl ?_);refine gm_look rfl 159 (.tmp 55) (.tmp 57) rfl Tryd.underlying159 (((rd_T73 l3 x16_1).f3.f0),((rd_T73 l3 x16_1).f3.f1),((rd_T73 l3 x16_1).f3.f2),((rd_T73 l3 x16_1).f3.f3)) rfl rfl (gm_len_of A34.out).1 (gm_len_of A34.out).2.1 (zrG HO1015) ?_;intro Av_ cv_ hcv_ HV_;obtain ⟨hcz43_0,hcz43_1,hcz43_2,hcz43_3,hcz43_4,hcz43_5,hcz43_6,hcz43_7,hfz43_0,hfz43_1,hfz43_2,hfz43_3,hfz43_4,hfz43_5,hfz43_6,hfz43_7⟩ := zc8 BK1010;obtain ⟨hcz44_0,hcz44_1,hcz44_2,hcz44_3,hfz44_0,hfz44_1,hfz44_2,hfz44_3⟩ := zc4 BK1005))
          refine bodyPost_ret (results_ct rfl _ _ gb1005 63 #[.int .i64 ((rd_T73 l3 x16_1).f3.f0),.int .i64 ((rd_T73 l3 x16_1).f3.f1),.int .i64 ((rd_T73 l3 x16_1).f3.f2),.int .i64 ((rd_T73 l3 x16_1).f3.f3)] (0,0) _ rfl (zq BK1005) Tryd.underlying63 rfl (by kernel_rfl)) rfl ?_
          exact ⟨zt_,zl_ HB⟩
         ·rw [if_neg c35] at H
          have c35b0 : decide ((wrap64 (Int.tdiv (wrap64 (a0 - 1)) 3)) < ((gl t1013 (((rd_T73 l3 x16_1).f3.f0),((rd_T73 l3 x16_1).f3.f1),((rd_T73 l3 x16_1).f3.f2),((rd_T73 l3 x16_1).f3.f3))).length : Int)) = false := decide_eq_false c35
          clear c35
          have H' := am_ H
          clear H
          have hnb45 := NB1010_1005.out
          have hnc45 := NB1005_1010.out
          obtain ⟨hcz46_0,hcz46_1,hcz46_2,hcz46_3,hcz46_4,hcz46_5,hcz46_6,hcz46_7,hfz46_0,hfz46_1,hfz46_2,hfz46_3,hfz46_4,hfz46_5,hfz46_6,hfz46_7⟩ := zc8 BK1010
          obtain ⟨Ao47,eo47⟩ := Gm_map HO_10.out
          subst eo47
          go_wp2_with (first | ((with_reducible refine gate_dst (N := 52) rfl ?_);refine gm_append rfl rfl rfl rfl rfl 159 _ _ _ _ _ _ _ _ _ rfl rfl rfl rfl rfl Tryd.underlying159 (((rd_T73 l3 x16_1).f3.f0),((rd_T73 l3 x16_1).f3.f1),((rd_T73 l3 x16_1).f3.f2),((rd_T73 l3 x16_1).f3.f3)) ((rd_T73 l3 x16_1).f0) _ rfl rfl rfl (fun _ => rfl) (fun _ _ => rfl) (fun _ _ => rfl) (fun _ _ _ => rfl) (fun _ _ _ _ => rfl) (fun _ _ _ _ => rfl) (fun _ _ _ _ => rfl) (gm_put_of A33.out).1 (gm_put_of A33.out).2.1 (gm_put_of A33.out).2.2.1 (zrG HO_10) (zl_ HB) (below_size (zl_ HB)) ?_;intro p_ q_ r_ s_ w48 ho0 hk hb;rw [← (gm_put_of A33.out).2.2.2] at ho0;have HO1015 := am_ ho0;clear HO_10;replace BK1005 := am_ (hk _ _ _ _ (zk BK1005) (by decide));replace BK1010 := am_ (hk _ _ _ _ (zk BK1010) (by decide));replace HB := am_ hb;clear hk hb ho0;obtain ⟨hcz49_0,hcz49_1,hcz49_2,hcz49_3,hcz49_4,hcz49_5,hcz49_6,hcz49_7,hfz49_0,hfz49_1,hfz49_2,hfz49_3,hfz49_4,hfz49_5,hfz49_6,hfz49_7⟩ := zc8 BK1010) | ((with_reducible refine gate_dst (N := 58) rfl ?_);refine gm_look rfl 159 (.tmp 55) (.tmp 57) rfl Tryd.underlying159 (((rd_T73 l3 x16_1).f3.f0),((rd_T73 l3 x16_1).f3.f1),((rd_T73 l3 x16_1).f3.f2),((rd_T73 l3 x16_1).f3.f3)) rfl rfl (gm_len_of A34.out).1 (gm_len_of A34.out).2.1 (zrG HO1015) ?_;intro Av_ cv_ hcv_ HV_))
          go_roundg kj10
          case measure => have := HK1.out;have := HJ10.out;omega
          case rel => exact ⟨(t1013),(wrap64 (x16_1 + 1)),(x1006000_1),(x1006001_1),(x1006002_1),(x1006003_1),(by first | rfl | (simp;done) | (simp [*];done)),H',⟨by have := HK1.out;have := HJ10.out;omega⟩,⟨zrG HO1015⟩,⟨by (with_reducible repeat (first | apply k1_ | apply k2_ | apply k3_));exact BK1005.out⟩,⟨zl_ HB⟩⟩
     ·rw [if_neg c10] at H
      exact absurd H (by simp)
    ·rw [if_neg c9] at H
     exact absurd H (by simp)
   ·rw [if_neg c8] at H
    have c8b0 : decide (x16_1 < (l3.length : Int)) = false := decide_eq_false c8
    clear c8
    simp only [Option.some.injEq,Prod.mk.injEq] at H
    obtain ⟨rfl,rfl,rfl,rfl,rfl⟩ := H
    obtain ⟨hcz52_0,hcz52_1,hcz52_2,hcz52_3,hfz52_0,hfz52_1,hfz52_2,hfz52_3⟩ := zc4 BK1005
    go_wp2
    refine bodyPost_ret (results_ct rfl _ _ gb1005 63 #[.int .i64 0,.int .i64 0,.int .i64 0,.int .i64 0] (0,0) _ rfl (zq BK1005) Tryd.underlying63 rfl (by kernel_rfl)) rfl ?_
    exact ⟨zt_,zl_ HB⟩
set_option maxHeartbeats 8000000 in
set_option maxRecDepth 100000 in
theorem impl_isLetter.calls (a0 : Int) (r : Bool) (w : World) (h : impl_isLetter.f a0 = some r) :
  Calls Tryd.prog 180 #[.int .u8 a0] w fun e w' => e = .returned (.bool r) ∧ Drawn0 w w' := by
 have H : (if a0 ≥ 97 then (if a0 ≤ 122 then (some true) else (if a0 ≥ 65 then (if a0 ≤ 90 then (some true) else (some (a0 == 95))) else (some (a0 == 95)))) else (if a0 ≥ 65 then (if a0 ≤ 90 then (some true) else (some (a0 == 95))) else (some (a0 == 95)))) = some r := h
 clear h
 by_cases c2 : a0 ≥ 97
 ·rw [if_pos c2] at H
  have c2b0 : decide (97 ≤ a0) = true := decide_eq_true c2
  clear c2
  by_cases c3 : a0 ≤ 122
  ·rw [if_pos c3] at H
   have c3b0 : decide (a0 ≤ 122) = true := decide_eq_true c3
   clear c3
   obtain rfl := Option.some.inj H
   go_enter Tryd.func180,Tryd.ntmps180
   go_wp2
   go_ret
   exact ⟨by first | rfl | (simp;done) | (simp [*];done),by repeat (first | exact Drawn0.refl _ | apply Drawn0.step)⟩
  ·rw [if_neg c3] at H
   have c3b0 : decide (a0 ≤ 122) = false := decide_eq_false c3
   clear c3
   by_cases c4 : a0 ≥ 65
   ·rw [if_pos c4] at H
    have c4b0 : decide (65 ≤ a0) = true := decide_eq_true c4
    clear c4
    by_cases c5 : a0 ≤ 90
    ·rw [if_pos c5] at H
     have c5b0 : decide (a0 ≤ 90) = true := decide_eq_true c5
     clear c5
     obtain rfl := Option.some.inj H
     go_enter Tryd.func180,Tryd.ntmps180
     go_wp2
     go_ret
     exact ⟨by first | rfl | (simp;done) | (simp [*];done),by repeat (first | exact Drawn0.refl _ | apply Drawn0.step)⟩
    ·rw [if_neg c5] at H
     have c5b0 : decide (a0 ≤ 90) = false := decide_eq_false c5
     clear c5
     obtain rfl := Option.some.inj H
     go_enter Tryd.func180,Tryd.ntmps180
     go_wp2
     go_ret
     exact ⟨by first | rfl | (simp;done) | (simp [*];done),by repeat (first | exact Drawn0.refl _ | apply Drawn0.step)⟩
   ·rw [if_neg c4] at H
    have c4b0 : decide (65 ≤ a0) = false := decide_eq_false c4
    clear c4
    obtain rfl := Option.some.inj H
    go_enter Tryd.func180,Tryd.ntmps180
    go_wp2
    go_ret
    exact ⟨by first | rfl | (simp;done) | (simp [*];done),by repeat (first | exact Drawn0.refl _ | apply Drawn0.step)⟩
 ·rw [if_neg c2] at H
  have c2b0 : decide (97 ≤ a0) = false := decide_eq_false c2
  clear c2
  by_cases c6 : a0 ≥ 65
  ·rw [if_pos c6] at H
   have c6b0 : decide (65 ≤ a0) = true := decide_eq_true c6
   clear c6
   by_cases c7 : a0 ≤ 90
   ·rw [if_pos c7] at H
    have c7b0 : decide (a0 ≤ 90) = true := decide_eq_true c7
    clear c7
    obtain rfl := Option.some.inj H
    go_enter Tryd.func180,Tryd.ntmps180
    go_wp2
    go_ret
    exact ⟨by first | rfl | (simp;done) | (simp [*];done),by repeat (first | exact Drawn0.refl _ | apply Drawn0.step)⟩
   ·rw [if_neg c7] at H
    have c7b0 : decide (a0 ≤ 90) = false := decide_eq_false c7
    clear c7
    obtain rfl := Option.some.inj H
    go_enter Tryd.func180,Tryd.ntmps180
    go_wp2
    go_ret
    exact ⟨by first | rfl | (simp;done) | (simp [*];done),by repeat (first | exact Drawn0.refl _ | apply Drawn0.step)⟩
  ·rw [if_neg c6] at H
   have c6b0 : decide (65 ≤ a0) = false := decide_eq_false c6
   clear c6
   obtain rfl := Option.some.inj H
   go_enter Tryd.func180,Tryd.ntmps180
   go_wp2
   go_ret
   exact ⟨by first | rfl | (simp;done) | (simp [*];done),by repeat (first | exact Drawn0.refl _ | apply Drawn0.step)⟩
end Go.Proofs.YtlifdodphkimpaaDoor.B
end
