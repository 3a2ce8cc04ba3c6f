/- A part of the proof that FnExactNewReplica returns true at every input: plain functions, contracts and lemmas. No conditions. -/
import Derived.Test.YtlifdodphkimpaaQNewReplicaa
import Derived.Lib.SlBy
import Derived.Lib.Walk
set_option linter.unusedVariables false
set_option linter.unusedSimpArgs false
set_option linter.unusedSectionVars false
section
namespace Go.Proofs.Ytlifdodphkimpaa.A
open Go.RowKit Go.Proofs.YtlifdodphkimpaaW.PrintWords Go.Proofs.YtlifdodphkimpaaW.PrintLast Go.Proofs.YtlifdodphkimpaaW.PrintMore
abbrev k1_ := @blk_drewN
abbrev k2_ := @blk_drew
abbrev k3_ := @blk_alloc
abbrev r1_ := @Kd.R_alloc
abbrev r2_ := @Kd.R_drewN
abbrev r3_ := @Kd.R_drew
theorem am_ {p : Prop} (h : p) : Aside0 p := ⟨h⟩
theorem p1_ {α : Type _} (l : List α) (i : Nat) (a : α) : l.toArray.setIfInBounds i a = (l.set i a).toArray := List.setIfInBounds_toArray ..
theorem p2_ {α : Type _} (x : α) (xs : List α) (a : α) : (x :: xs).set 0 a = a :: xs := List.set_cons_zero
theorem p3_ {α : Type _} (x : α) (xs : List α) (i : Nat) (a : α) : (x :: xs).set (i + 1) a = x :: xs.set i a := List.set_cons_succ
attribute [local go_sem] max2_int min2_int max_two min_two max_three min_three max_four min_four
def errW : Option Int → Value
  | none => .nilIface
  | some c => .iface 0 (.int .i64 c)
theorem errW_none : errW none = .nilIface := rfl
theorem errW_some (c : Int) : errW (some c) = .iface 0 (.int .i64 c) := rfl
theorem info46 : (Try.prog.info? 46).map (fun i => (i.zero, i.size, i.bytes)) = some (some (.agg #[(.string ⟨#[]⟩), (.slice none 0 0)]), 2, 40) := by kernel_rfl
theorem info51 : (Try.prog.info? 51).map (fun i => (i.zero, i.size, i.bytes)) = some (some (.agg #[(.string ⟨#[]⟩), (.slice none 0 0), (.slice none 0 0), (.bool false), (.bool false)]), 5, 72) := by kernel_rfl
def k55 : Kd S55 := Kd.iso (Kd.pair (Kd.int .i64) (Kd.pair (Kd.int .i64) (Kd.pair (Kd.int .i64) (Kd.pair (Kd.int .i64) (Kd.pair Kd.string (Kd.pair Kd.string Kd.string)))))) (fun x : S55 => (x.f0, x.f1, x.f2, x.f3, x.f4, x.f5, x.f6))
theorem k55_open {w : World} {x : S55} {cs : List Value} (h : k55.K w x cs) : cs = [.int .i64 x.f0, .int .i64 x.f1, .int .i64 x.f2, .int .i64 x.f3, .string x.f4, .string x.f5, .string x.f6] := by
  obtain ⟨_, _, rfl, rfl, ⟨_, _, rfl, rfl, ⟨_, _, rfl, rfl, ⟨_, _, rfl, rfl, ⟨_, _, rfl, rfl, ⟨_, _, rfl, rfl, rfl⟩⟩⟩⟩⟩⟩ := h
  exact rfl
theorem at_T55 {w : World} {A : Option Addr} {n : Nat} {xs : List S55} (h : Kd.C k55 w A n xs) (i : Int) (h0 : 0 ≤ i) (h1 : i < n) : ∃ ad , A = some ad ∧ w.cell? (ad.add (i.toNat * 7)) = some (.int .i64 (rd_T55 xs i).f0) ∧ w.cell? ⟨(ad.add (i.toNat * 7)).block, (ad.add (i.toNat * 7)).off + 1, none⟩ = some (.int .i64 (rd_T55 xs i).f1) ∧ w.cell? ⟨(ad.add (i.toNat * 7)).block, (ad.add (i.toNat * 7)).off + 2, none⟩ = some (.int .i64 (rd_T55 xs i).f2) ∧ w.cell? ⟨(ad.add (i.toNat * 7)).block, (ad.add (i.toNat * 7)).off + 3, none⟩ = some (.int .i64 (rd_T55 xs i).f3) ∧ w.cell? ⟨(ad.add (i.toNat * 7)).block, (ad.add (i.toNat * 7)).off + 4, none⟩ = some (.string (rd_T55 xs i).f4) ∧ w.cell? ⟨(ad.add (i.toNat * 7)).block, (ad.add (i.toNat * 7)).off + 5, none⟩ = some (.string (rd_T55 xs i).f5) ∧ w.cell? ⟨(ad.add (i.toNat * 7)).block, (ad.add (i.toNat * 7)).off + 6, none⟩ = some (.string (rd_T55 xs i).f6) := by
  obtain ⟨ad, c, e, _, hK, hc0⟩ := Kd.C_get h z55 i h0 h1
  have hc : ∀ j u, c[j]? = some u → w.cell? (ad.add (i.toNat * 7 + j)) = some u := hc0
  obtain rfl := k55_open hK
  exact ⟨ad, e, hc 0 _ rfl, by rw [← add_field _ _ 1 (by omega)]; exact hc 1 _ rfl, by rw [← add_field _ _ 2 (by omega)]; exact hc 2 _ rfl, by rw [← add_field _ _ 3 (by omega)]; exact hc 3 _ rfl, by rw [← add_field _ _ 4 (by omega)]; exact hc 4 _ rfl, by rw [← add_field _ _ 5 (by omega)]; exact hc 5 _ rfl, by rw [← add_field _ _ 6 (by omega)]; exact hc 6 _ rfl⟩
def k51 : Kd S51 := Kd.iso (Kd.pair Kd.string (Kd.pair (Kd.slice 55 k55) (Kd.pair (Kd.slice 55 k55) (Kd.pair Kd.bool Kd.bool)))) (fun x : S51 => (x.f0, x.f1, x.f2, x.f3, x.f4))
theorem k51_open {w : World} {x : S51} {cs : List Value} (h : k51.K w x cs) : ∃ A1 c1 A2 c2, cs = [.string x.f0, .slice A1 x.f1.length c1, .slice A2 x.f2.length c2, .bool x.f3, .bool x.f4] ∧ x.f1.length ≤ c1 ∧ k55.C w A1 x.f1.length x.f1 ∧ x.f2.length ≤ c2 ∧ k55.C w A2 x.f2.length x.f2 := by
  obtain ⟨_, _, rfl, rfl, ⟨_, _, rfl, ⟨A1, c1, rfl, l1, g1⟩, ⟨_, _, rfl, ⟨A2, c2, rfl, l2, g2⟩, ⟨_, _, rfl, rfl, rfl⟩⟩⟩⟩ := h
  exact ⟨A1, c1, A2, c2, rfl, l1, g1, l2, g2⟩
theorem k51_openM {w : World} {base : Nat} {ok : Nat → Prop} {x : S51} {cs : List Value} (h : k51.M w base ok x cs) : ∃ v1 v2, cs = [.string x.f0, v1, v2, .bool x.f3, .bool x.f4] ∧ k55.R 55 w base ok v1 x.f1 ∧ k55.R 55 w base ok v2 x.f2 := by
  obtain ⟨_, _, rfl, rfl, ⟨_, _, rfl, ⟨v1, rfl, g1⟩, ⟨_, _, rfl, ⟨v2, rfl, g2⟩, ⟨_, _, rfl, rfl, rfl⟩⟩⟩⟩ := h
  exact ⟨v1, v2, rfl, g1, g2⟩
theorem k51_mkM (w : World) (base : Nat) (ok : Nat → Prop) (x : S51) {v1 : Value} (g1 : k55.R 55 w base ok v1 x.f1) {v2 : Value} (g2 : k55.R 55 w base ok v2 x.f2) : k51.M w base ok x [.string x.f0, v1, v2, .bool x.f3, .bool x.f4] := ⟨[.string x.f0], [v1, v2, .bool x.f3, .bool x.f4], rfl, rfl, ⟨[v1], [v2, .bool x.f3, .bool x.f4], rfl, ⟨v1, rfl, g1⟩, ⟨[v2], [.bool x.f3, .bool x.f4], rfl, ⟨v2, rfl, g2⟩, ⟨[.bool x.f3], [.bool x.f4], rfl, rfl, rfl⟩⟩⟩⟩
theorem at_T51 {w : World} {A : Option Addr} {n : Nat} {xs : List S51} (h : Kd.C k51 w A n xs) (i : Int) (h0 : 0 ≤ i) (h1 : i < n) : ∃ ad A1 c1 A2 c2, A = some ad ∧ w.cell? (ad.add (i.toNat * 5)) = some (.string (rd_T51 xs i).f0) ∧ w.cell? ⟨(ad.add (i.toNat * 5)).block, (ad.add (i.toNat * 5)).off + 1, none⟩ = some (.slice A1 (rd_T51 xs i).f1.length c1) ∧ w.cell? ⟨(ad.add (i.toNat * 5)).block, (ad.add (i.toNat * 5)).off + 2, none⟩ = some (.slice A2 (rd_T51 xs i).f2.length c2) ∧ w.cell? ⟨(ad.add (i.toNat * 5)).block, (ad.add (i.toNat * 5)).off + 3, none⟩ = some (.bool (rd_T51 xs i).f3) ∧ w.cell? ⟨(ad.add (i.toNat * 5)).block, (ad.add (i.toNat * 5)).off + 4, none⟩ = some (.bool (rd_T51 xs i).f4) ∧ (rd_T51 xs i).f1.length ≤ c1 ∧ k55.C w A1 (rd_T51 xs i).f1.length (rd_T51 xs i).f1 ∧ (rd_T51 xs i).f2.length ≤ c2 ∧ k55.C w A2 (rd_T51 xs i).f2.length (rd_T51 xs i).f2 := by
  obtain ⟨ad, c, e, _, hK, hc0⟩ := Kd.C_get h z51 i h0 h1
  have hc : ∀ j u, c[j]? = some u → w.cell? (ad.add (i.toNat * 5 + j)) = some u := hc0
  obtain ⟨A1, c1, A2, c2, rfl, l1, g1, l2, g2⟩ := k51_open hK
  exact ⟨ad, A1, c1, A2, c2, e, hc 0 _ rfl, by rw [← add_field _ _ 1 (by omega)]; exact hc 1 _ rfl, by rw [← add_field _ _ 2 (by omega)]; exact hc 2 _ rfl, by rw [← add_field _ _ 3 (by omega)]; exact hc 3 _ rfl, by rw [← add_field _ _ 4 (by omega)]; exact hc 4 _ rfl, l1, g1, l2, g2⟩
def k46 : Kd S46 := Kd.iso (Kd.pair Kd.string (Kd.slice 55 k55)) (fun x : S46 => (x.f0, x.f1))
theorem k46_open {w : World} {x : S46} {cs : List Value} (h : k46.K w x cs) : ∃ A1 c1, cs = [.string x.f0, .slice A1 x.f1.length c1] ∧ x.f1.length ≤ c1 ∧ k55.C w A1 x.f1.length x.f1 := by
  obtain ⟨_, _, rfl, rfl, ⟨A1, c1, rfl, l1, g1⟩⟩ := h
  exact ⟨A1, c1, rfl, l1, g1⟩
theorem k46_openM {w : World} {base : Nat} {ok : Nat → Prop} {x : S46} {cs : List Value} (h : k46.M w base ok x cs) : ∃ v1, cs = [.string x.f0, v1] ∧ k55.R 55 w base ok v1 x.f1 := by
  obtain ⟨_, _, rfl, rfl, ⟨v1, rfl, g1⟩⟩ := h
  exact ⟨v1, rfl, g1⟩
theorem k46_mkM (w : World) (base : Nat) (ok : Nat → Prop) (x : S46) {v1 : Value} (g1 : k55.R 55 w base ok v1 x.f1) : k46.M w base ok x [.string x.f0, v1] := ⟨[.string x.f0], [v1], rfl, rfl, ⟨v1, rfl, g1⟩⟩
theorem at_T46 {w : World} {A : Option Addr} {n : Nat} {xs : List S46} (h : Kd.C k46 w A n xs) (i : Int) (h0 : 0 ≤ i) (h1 : i < n) : ∃ ad A1 c1, A = some ad ∧ w.cell? (ad.add (i.toNat * 2)) = some (.string (rd_T46 xs i).f0) ∧ w.cell? ⟨(ad.add (i.toNat * 2)).block, (ad.add (i.toNat * 2)).off + 1, none⟩ = some (.slice A1 (rd_T46 xs i).f1.length c1) ∧ (rd_T46 xs i).f1.length ≤ c1 ∧ k55.C w A1 (rd_T46 xs i).f1.length (rd_T46 xs i).f1 := by
  obtain ⟨ad, c, e, _, hK, hc0⟩ := Kd.C_get h z46 i h0 h1
  have hc : ∀ j u, c[j]? = some u → w.cell? (ad.add (i.toNat * 2 + j)) = some u := hc0
  obtain ⟨A1, c1, rfl, l1, g1⟩ := k46_open hK
  exact ⟨ad, A1, c1, e, hc 0 _ rfl, by rw [← add_field _ _ 1 (by omega)]; exact hc 1 _ rfl, l1, g1⟩
theorem zl_ {w W0 W : World} (b : Aside0 (Below w.heap.size w W0)) (h : Below w.heap.size w W := by repeat (first | (with_reducible first | exact HB.out | apply below_alloc | apply pw_below_drewN | apply below_drew1 | refine below_set ?_ (Aside0.out (by with_reducible assumption))) | exact HB.out)) : Below w.heap.size w W := h
theorem zs_ {w W0 W W1 : World} (b : Aside0 (Below w.heap.size w W0)) (hb : Below W.heap.size W W1) (h : Below w.heap.size w W := by repeat (first | (with_reducible first | exact HB.out | apply below_alloc | apply pw_below_drewN | apply below_drew1 | refine below_set ?_ (Aside0.out (by with_reducible assumption))) | exact HB.out)) : Aside0 (Below w.heap.size w W1) := ⟨below_step h hb⟩
theorem zw_ {w W0 W : World} {g : Nat} (b : Aside0 (Below w.heap.size w W0)) (hg : g = W.heap.size) (h : Below w.heap.size w W := by repeat (first | (with_reducible first | exact HB.out | apply below_alloc | apply pw_below_drewN | apply below_drew1 | refine below_set ?_ (Aside0.out (by with_reducible assumption))) | exact HB.out)) : Aside0 (w.heap.size ≤ g) := ⟨by rw [hg]; exact below_size h⟩
theorem zt_ {p : Prop} (h : p := by first | rfl | (simp [errW_none, errW_some] <;> rfl) | (simp [*, errW_none, errW_some] <;> rfl) | (simp [mp_beq_nil, mp_bne_nil]; done) | (simp [*, mp_beq_nil, mp_bne_nil]; done)) : p := h
theorem zc2 {w : World} {g : Nat} {t : TypeId} {a0 a1 : Value} (h : Aside0 (w.heap[g]? = some (.cells #[a0, a1] t (0, 0)))) : w.cell? ⟨g, 0, none⟩ = some a0 ∧ w.cell? ⟨g, 1, none⟩ = some a1 ∧ w.frozen? ⟨g, 0, none⟩ = false ∧ w.frozen? ⟨g, 1, none⟩ = false := ⟨(blk_cell h.out 0).trans rfl, (blk_cell h.out 1).trans rfl, blk_frozen h.out 0, blk_frozen h.out 1⟩
theorem zc5 {w : World} {g : Nat} {t : TypeId} {a0 a1 a2 a3 a4 : Value} (h : Aside0 (w.heap[g]? = some (.cells #[a0, a1, a2, a3, a4] t (0, 0)))) : w.cell? ⟨g, 0, none⟩ = some a0 ∧ w.cell? ⟨g, 1, none⟩ = some a1 ∧ w.cell? ⟨g, 2, none⟩ = some a2 ∧ w.cell? ⟨g, 3, none⟩ = some a3 ∧ w.cell? ⟨g, 4, none⟩ = some a4 ∧ w.frozen? ⟨g, 0, none⟩ = false ∧ w.frozen? ⟨g, 1, none⟩ = false ∧ w.frozen? ⟨g, 2, none⟩ = false ∧ w.frozen? ⟨g, 3, none⟩ = false ∧ w.frozen? ⟨g, 4, none⟩ = false := ⟨(blk_cell h.out 0).trans rfl, (blk_cell h.out 1).trans rfl, (blk_cell h.out 2).trans rfl, (blk_cell h.out 3).trans rfl, (blk_cell h.out 4).trans rfl, blk_frozen h.out 0, blk_frozen h.out 1, blk_frozen h.out 2, blk_frozen h.out 3, blk_frozen h.out 4⟩
theorem zc7 {w : World} {g : Nat} {t : TypeId} {a0 a1 a2 a3 a4 a5 a6 : Value} (h : Aside0 (w.heap[g]? = some (.cells #[a0, a1, a2, a3, a4, a5, a6] t (0, 0)))) : w.cell? ⟨g, 0, none⟩ = some a0 ∧ w.cell? ⟨g, 1, none⟩ = some a1 ∧ w.cell? ⟨g, 2, none⟩ = some a2 ∧ w.cell? ⟨g, 3, none⟩ = some a3 ∧ w.cell? ⟨g, 4, none⟩ = some a4 ∧ w.cell? ⟨g, 5, none⟩ = some a5 ∧ w.cell? ⟨g, 6, none⟩ = some a6 ∧ w.frozen? ⟨g, 0, none⟩ = false ∧ w.frozen? ⟨g, 1, none⟩ = false ∧ w.frozen? ⟨g, 2, none⟩ = false ∧ w.frozen? ⟨g, 3, none⟩ = false ∧ w.frozen? ⟨g, 4, none⟩ = false ∧ w.frozen? ⟨g, 5, none⟩ = false ∧ w.frozen? ⟨g, 6, none⟩ = false := ⟨(blk_cell h.out 0).trans rfl, (blk_cell h.out 1).trans rfl, (blk_cell h.out 2).trans rfl, (blk_cell h.out 3).trans rfl, (blk_cell h.out 4).trans rfl, (blk_cell h.out 5).trans rfl, (blk_cell h.out 6).trans rfl, blk_frozen h.out 0, blk_frozen h.out 1, blk_frozen h.out 2, blk_frozen h.out 3, blk_frozen h.out 4, blk_frozen h.out 5, blk_frozen h.out 6⟩
theorem zc8 {w : World} {g : Nat} {t : TypeId} {a0 a1 a2 a3 a4 a5 a6 a7 : Value} (h : Aside0 (w.heap[g]? = some (.cells #[a0, a1, a2, a3, a4, a5, a6, a7] t (0, 0)))) : w.cell? ⟨g, 0, none⟩ = some a0 ∧ w.cell? ⟨g, 1, none⟩ = some a1 ∧ w.cell? ⟨g, 2, none⟩ = some a2 ∧ w.cell? ⟨g, 3, none⟩ = some a3 ∧ w.cell? ⟨g, 4, none⟩ = some a4 ∧ w.cell? ⟨g, 5, none⟩ = some a5 ∧ w.cell? ⟨g, 6, none⟩ = some a6 ∧ w.cell? ⟨g, 7, none⟩ = some a7 ∧ w.frozen? ⟨g, 0, none⟩ = false ∧ w.frozen? ⟨g, 1, none⟩ = false ∧ w.frozen? ⟨g, 2, none⟩ = false ∧ w.frozen? ⟨g, 3, none⟩ = false ∧ w.frozen? ⟨g, 4, none⟩ = false ∧ w.frozen? ⟨g, 5, none⟩ = false ∧ w.frozen? ⟨g, 6, none⟩ = false ∧ w.frozen? ⟨g, 7, none⟩ = false := ⟨(blk_cell h.out 0).trans rfl, (blk_cell h.out 1).trans rfl, (blk_cell h.out 2).trans rfl, (blk_cell h.out 3).trans rfl, (blk_cell h.out 4).trans rfl, (blk_cell h.out 5).trans rfl, (blk_cell h.out 6).trans rfl, (blk_cell h.out 7).trans rfl, blk_frozen h.out 0, blk_frozen h.out 1, blk_frozen h.out 2, blk_frozen h.out 3, blk_frozen h.out 4, blk_frozen h.out 5, blk_frozen h.out 6, blk_frozen h.out 7⟩
theorem mark_texts (A_ : Option Addr) (c k : Int) (cp : Nat) (w : World) : Calls Try.prog 20 #[.slice A_ 0 cp, .int .i64 k] w fun e w' => e = .returned (.int .i64 k) ∧ w' = w := by
  go_enter Try.func20, Try.ntmps20
  go_wp2
  go_loopg [1, 5] 0 (fun kq v1 v5 w' => v1 = .int .i64 k ∧ v5 = .int .i64 0 ∧ w' = w)
  case atStart => exact ⟨rfl, rfl, rfl⟩
  case round =>
    obtain ⟨rfl, rfl, rfl⟩ := hrel
    go_wp2
    go_ret
    exact ⟨rfl, rfl⟩
theorem mark_messages (A_ : Option Addr) (c k : Int) (cp : Nat) (w : World) : Calls Try.prog 21 #[.slice A_ 0 cp, .int .i64 k] w fun e w' => e = .returned (.int .i64 k) ∧ w' = w := by
  go_enter Try.func21, Try.ntmps21
  go_wp2
  go_loopg [1, 5] 0 (fun kq v1 v5 w' => v1 = .int .i64 k ∧ v5 = .int .i64 0 ∧ w' = w)
  case atStart => exact ⟨rfl, rfl, rfl⟩
  case round =>
    obtain ⟨rfl, rfl, rfl⟩ := hrel
    go_wp2
    go_ret
    exact ⟨rfl, rfl⟩
theorem ne_rd46 {l : List S46} (h : ∀ x ∈ l, x.f1 = []) (i : Int) : (rd_T46 l i).f1 = [] := by
  unfold rd_T46
  rw [List.getD]
  cases hx : l[i.toNat]? with
  | none => exact rfl
  | some y => exact h y (List.mem_of_getElem? hx)
theorem ne_set46 {l y : List S46} {v : S46} {i : Nat} (h : ∀ x ∈ l, x.f1 = []) (e : y = l.set i v) (hv : v.f1 = []) : ∀ x ∈ y, x.f1 = [] := by
  subst e
  intro x hx
  rcases List.mem_or_eq_of_mem_set hx with hx | rfl
  · exact h x hx
  · exact hv
theorem ne_rd51 {l : List S51} (h : ∀ x ∈ l, x.f1 = [] ∧ x.f2 = []) (i : Int) : (rd_T51 l i).f1 = [] ∧ (rd_T51 l i).f2 = [] := by
  unfold rd_T51
  rw [List.getD]
  cases hx : l[i.toNat]? with
  | none => exact ⟨rfl, rfl⟩
  | some y => exact h y (List.mem_of_getElem? hx)
theorem ne_set51 {l y : List S51} {v : S51} {i : Nat} (h : ∀ x ∈ l, x.f1 = [] ∧ x.f2 = []) (e : y = l.set i v) (hv : v.f1 = [] ∧ v.f2 = []) : ∀ x ∈ y, x.f1 = [] ∧ x.f2 = [] := by
  subst e
  intro x hx
  rcases List.mem_or_eq_of_mem_set hx with hx | rfl
  · exact h x hx
  · exact hv
end Go.Proofs.Ytlifdodphkimpaa.A
end

section
namespace Go.Proofs.Ytlifdodphkimpaa.A
open Go.RowKit Go.Proofs.YtlifdodphkimpaaW.PrintWords Go.Proofs.YtlifdodphkimpaaW.PrintLast Go.Proofs.YtlifdodphkimpaaW.PrintMore
attribute [local go_sem] max2_int min2_int max_two min_two max_three min_three max_four min_four
set_option maxHeartbeats 8000000 in
set_option maxRecDepth 100000 in
theorem laws_markText.calls (k : Nat) (a0 : Int) (r : ByteArray) (w : World) (h : laws_markText.f k a0 = some r) :
  Calls Try.prog 31 #[.int .i64 a0] w fun e w' => e = .returned (.string r) ∧ Below w.heap.size w w' := by
 have HB := am_ (Below.refl w.heap.size w)
 have H : (if a0 ≤ 0 then (some (⟨#[109,48]⟩ : ByteArray)) else (laws_markText.l0 k a0 (⟨#[]⟩ : ByteArray))) = some r := h
 clear h
 by_cases c2 : a0 ≤ 0
 ·rw [if_pos c2] at H
  have c2b0 : decide (a0 ≤ 0) = true := decide_eq_true c2
  clear c2
  obtain rfl := Option.some.inj H
  go_enter Try.func31,Try.ntmps31
  go_wp2
  go_ret
  exact ⟨zt_,zl_ HB⟩
 ·rw [if_neg c2] at H
  have c2b0 : decide (a0 ≤ 0) = false := decide_eq_false c2
  clear c2
  have H' := am_ H
  clear H
  go_enter Try.func31,Try.ntmps31
  go_wp2
  go_loopg [0,3] k (fun kq v0 v3 w' => ∃ (x0_1 : Int) (x3_1 : ByteArray),v0 = .int .i64 x0_1 ∧ v3 = .string x3_1 ∧ Aside0 (laws_markText.l0 kq x0_1 x3_1 = some r) ∧ Aside0 (kq ≤ k) ∧ Aside0 (Below w.heap.size w w'))
  case atStart => exact ⟨(a0),((⟨#[]⟩ : ByteArray)),(by first | rfl | (simp;done) | (simp [*];done)),(by first | rfl | (simp;done) | (simp [*];done)),H',⟨Nat.le_refl _⟩,⟨zl_ HB⟩⟩
  case round =>
   clear H'
   try clear c2
   try clear c2b0
   try clear p2
   obtain ⟨x0_1,x3_1,rfl,rfl,HA,HK1,HB⟩ := hrel
   cases gk with
   | zero => exact absurd HA.out (by simp [laws_markText.l0])
   | succ k1 =>
    have H := HA.out
    clear HA
    simp only [laws_markText.l0] at H
    by_cases c3 : x0_1 > 0
    ·rw [if_pos c3] at H
     have c3b0 : decide (0 < x0_1) = true := decide_eq_true c3
     clear c3
     obtain ⟨y189,hy189⟩ : ∃ y_ : List Int,y_ = (([(wrap64 (48 + (Int.tmod x0_1 10))) % 256] : List Int)) := ⟨_,rfl⟩
     replace H : (if (strOfNums y189).size + x3_1.size ≤ 9223372036854775807 then (laws_markText.l0 k1 (wrap64 (Int.tdiv x0_1 10)) ((strOfNums y189) ++ x3_1)) else (none)) = some r := by first | (rw [hy189];with_reducible exact H) | (have H2_ := (Option.bind_some _ _).symm.trans H;rw [hy189];with_reducible exact H2_) | (have H2_ := (Option.bind_some _ _).symm.trans H;with_reducible exact H2_) | with_reducible exact H | (rw [hy189];exact H) | exact H
     have Ny189 := am_ hy189
     clear hy189
     by_cases c4 : (strOfNums y189).size + x3_1.size ≤ 9223372036854775807
     ·rw [if_pos c4] at H
      have c4b0 := eq_true c4
      have c4b1 : decide ((strOfNums y189).size + x3_1.size ≤ 9223372036854775807) = true := decide_eq_true c4
      try have c4b2 : (9223372036854775807 < (strOfNums y189).size + x3_1.size) = False := eq_false (Nat.not_lt.2 c4)
      have H' := am_ H
      clear H
      go_wp2_with (first | ((with_reducible refine gate_dst (N := 12) rfl ?_);refine Kd.R_lit (Kd.int .u8) _ 5 ?hg (N := 12) ?hd (xs := ([(wrap64 (48 + (Int.tmod x0_1 10))) % 256] : List Int)) (inner := [.int .u8 ((wrap64 (48 + (Int.tmod x0_1 10))) % 256)]) (ok := fun _ => True) (okp := fun _ => True) ?hr ?hp (fun _ hk => hk) trivial (Below.refl _ _) (Nat.le_refl _) (by simp) ?_;(case hd => rfl);(case hg => rfl);(case hr => first | (go_simp;done) | (go_simp;rfl));(case hp => exact (Reps.one (show Kd.M (Kd.int .u8) _ _ _ ((wrap64 (48 + (Int.tmod x0_1 10))) % 256) [.int .u8 ((wrap64 (48 + (Int.tmod x0_1 10))) % 256)] from rfl) (Reps.none _ _)));intro v190 w5 ho6 hb hg_ hnew_;clear hg_ hnew_;(first | rw [← Ny189.out] at ho6 | (simp only [Int.reduceToNat] at ho6;rw [← Ny189.out] at ho6));have HO191 := am_ (Kd.R_lower ho6 (below_size (zl_ HB)));replace HB := zs_ HB hb;clear hb ho6;have hcv7 := own_string (P := Try.prog) Try.underlying57 Try.underlying5 Try.underlying9 (Kd.own_of_R HO191.out)))
      go_roundg k1
      case measure => have := HK1.out;omega
      case rel => exact ⟨(wrap64 (Int.tdiv x0_1 10)),((strOfNums y189) ++ x3_1),(by first | rfl | (simp;done) | (simp [*];done)),(by first | rfl | (simp;done) | (simp [*];done)),H',⟨by have := HK1.out;omega⟩,⟨zl_ HB⟩⟩
     ·rw [if_neg c4] at H
      exact absurd H (by simp)
    ·rw [if_neg c3] at H
     have c3b0 : decide (0 < x0_1) = false := decide_eq_false c3
     clear c3
     by_cases c8 : 1 + x3_1.size ≤ 9223372036854775807
     ·rw [if_pos c8] at H
      have c8b0 := eq_true c8
      have c8b1 : decide (1 + x3_1.size ≤ 9223372036854775807) = true := decide_eq_true c8
      try have c8b2 : (9223372036854775807 < 1 + x3_1.size) = False := eq_false (Nat.not_lt.2 c8)
      obtain rfl := Option.some.inj H
      go_wp2
      go_ret
      exact ⟨zt_,zl_ HB⟩
     ·rw [if_neg c8] at H
      exact absurd H (by simp)
set_option maxHeartbeats 8000000 in
set_option maxRecDepth 100000 in
theorem laws_markSlotS.calls (k : Nat) (P0_ : Nat → Prop) (Q0_ : Nat → Prop) (u9000_ : Value) (hQ : ∀ k_,u9000_.ownBlock = some k_ → Q0_ k_) (l0 : List (S51)) (a1 : Int) (r1 : Int) (r2 : List (S51)) (w0 w : World) (hB : Below w0.heap.size w0 w) (hne : ∀ x ∈ l0,x.f1 = [] ∧ x.f2 = []) (ho0 : Kd.S k51 51 w w0.heap.size P0_ u9000_ l0) (h : laws_markSlotS.f k l0 a1 = some (r1,r2)) :
  Calls Try.prog 18 #[u9000_,.int .i64 a1] w fun e w' => e = .returned (.int .i64 r1) ∧ Kd.S k51 51 w' w0.heap.size (fun k_ => (P0_ k_ ∨ w.heap.size ≤ k_)) u9000_ r2 ∧ Below w0.heap.size w0 w' ∧ Kept w w' Q0_ := by
 have HO0 := am_ (show Kd.S k51 51 w w0.heap.size (fun k_ => (P0_ k_ ∨ w.heap.size ≤ k_)) u9000_ l0 from Kd.S_mono ho0 (fun k_ hk => (.inl hk)))
 have HNE0 := am_ hne
 clear hne
 have HQ := am_ hQ
 clear hQ
 have HK := am_ (Kept.refl w Q0_)
 have HW0 := am_ hB.size
 have HB := am_ hB
 clear hB
 have H : (laws_markSlotS.l0 k l0 a1 0) = some (r1,r2) := h
 clear h
 have H' := am_ H
 clear H
 go_enter Try.func18,Try.ntmps18
 go_wp2
 go_loopg [1,5] k (fun kq v1 v5 w' => ∃ (x0_1 : List (S51)) (x1_1 : Int) (x5_1 : Int),v1 = .int .i64 x1_1 ∧ v5 = .int .i64 x5_1 ∧ Aside0 (laws_markSlotS.l0 kq x0_1 x1_1 x5_1 = some (r1,r2)) ∧ Aside0 (kq ≤ k) ∧ Aside0 (Kd.S k51 51 w' w0.heap.size (fun k_ => (P0_ k_ ∨ w.heap.size ≤ k_)) u9000_ x0_1) ∧ Aside0 (Kept w w' Q0_) ∧ Aside0 (Below w0.heap.size w0 w') ∧ Aside0 (∀ x ∈ x0_1,x.f1 = [] ∧ x.f2 = []))
 case atStart => exact ⟨(l0),(a1),(0),(by first | rfl | (simp;done) | (simp [*];done)),(by first | rfl | (simp;done) | (simp [*];done)),H',⟨Nat.le_refl _⟩,⟨by (with_reducible repeat (first | apply Kd.S_alloc | apply Kd.S_drewN | apply Kd.S_drew));exact HO0.out⟩,⟨by repeat (first | (with_reducible first | exact HK.out | apply Kept.alloc | apply Kept.drewN | apply Kept.drew) | exact HK.out)⟩,⟨zl_ HB⟩,HNE0⟩
 case round =>
  clear H'
  try clear c1
  try clear p2
  obtain ⟨x0_1,x1_1,x5_1,rfl,rfl,HA,HK1,HO_0,HK,HB,HNE⟩ := hrel
  cases gk with
  | zero => exact absurd HA.out (by simp [laws_markSlotS.l0])
  | succ k1 =>
   have H := HA.out
   clear HA
   simp only [laws_markSlotS.l0] at H
   by_cases c3 : x5_1 < (x0_1.length : Int)
   ·rw [if_pos c3] at H
    have c3b0 : decide (x5_1 < (x0_1.length : Int)) = true := decide_eq_true c3
    clear c3
    replace H := Option.bind_eq_some_iff.mp H
    obtain ⟨t202,A40,H⟩ := H
    try dsimp only at H
    have A4 := am_ A40
    clear A40
    by_cases c5 : 0 ≤ x5_1
    ·rw [if_pos c5] at H
     have c5b0 : decide (0 ≤ x5_1) = true := decide_eq_true c5
     clear c5
     obtain ⟨y203,hy203⟩ : ∃ y_ : List (S51),y_ = (x0_1.set (x5_1 : Int).toNat (⟨t202,(rd_T51 x0_1 x5_1).f1,(rd_T51 x0_1 x5_1).f2,(rd_T51 x0_1 x5_1).f3,(rd_T51 x0_1 x5_1).f4⟩ : S51)) := ⟨_,rfl⟩
     replace H : ((some (y203.set (x5_1 : Int).toNat (⟨(rd_T51 y203 x5_1).f0,(rd_T51 y203 x5_1).f1,(rd_T51 y203 x5_1).f2,((Int.tmod (wrap64 (x1_1 + 1)) 3) == 0),(rd_T51 y203 x5_1).f4⟩ : S51) : List (S51))).bind fun y204 => (laws_markSlotS.l0 k1 (y204.set (x5_1 : Int).toNat (⟨(rd_T51 y204 x5_1).f0,(rd_T51 y204 x5_1).f1,(rd_T51 y204 x5_1).f2,(rd_T51 y204 x5_1).f3,((Int.tmod (wrap64 ((wrap64 (x1_1 + 1)) + 1)) 3) == 0)⟩ : S51)) (wrap64 ((wrap64 ((wrap64 (x1_1 + 1)) + 1)) + 1)) (wrap64 (x5_1 + 1)))) = some (r1,r2) := by first | (rw [hy203];with_reducible exact H) | (have H2_ := (Option.bind_some _ _).symm.trans H;rw [hy203];with_reducible exact H2_) | (have H2_ := (Option.bind_some _ _).symm.trans H;with_reducible exact H2_) | with_reducible exact H | (rw [hy203];exact H) | exact H
     have Ny203 := am_ hy203
     have HNEy203 := am_ (ne_set51 HNE.out hy203 (ne_rd51 HNE.out x5_1))
     clear hy203
     obtain ⟨y204,hy204⟩ : ∃ y_ : List (S51),y_ = (y203.set (x5_1 : Int).toNat (⟨(rd_T51 y203 x5_1).f0,(rd_T51 y203 x5_1).f1,(rd_T51 y203 x5_1).f2,((Int.tmod (wrap64 (x1_1 + 1)) 3) == 0),(rd_T51 y203 x5_1).f4⟩ : S51)) := ⟨_,rfl⟩
     replace H : (laws_markSlotS.l0 k1 (y204.set (x5_1 : Int).toNat (⟨(rd_T51 y204 x5_1).f0,(rd_T51 y204 x5_1).f1,(rd_T51 y204 x5_1).f2,(rd_T51 y204 x5_1).f3,((Int.tmod (wrap64 ((wrap64 (x1_1 + 1)) + 1)) 3) == 0)⟩ : S51)) (wrap64 ((wrap64 ((wrap64 (x1_1 + 1)) + 1)) + 1)) (wrap64 (x5_1 + 1))) = some (r1,r2) := by first | (rw [hy204];with_reducible exact H) | (have H2_ := (Option.bind_some _ _).symm.trans H;rw [hy204];with_reducible exact H2_) | (have H2_ := (Option.bind_some _ _).symm.trans H;with_reducible exact H2_) | with_reducible exact H | (rw [hy204];exact H) | exact H
     have Ny204 := am_ hy204
     have HNEy204 := am_ (ne_set51 HNEy203.out hy204 (ne_rd51 HNEy203.out x5_1))
     clear hy204
     obtain ⟨y205,hy205⟩ : ∃ y_ : List (S51),y_ = (y204.set (x5_1 : Int).toNat (⟨(rd_T51 y204 x5_1).f0,(rd_T51 y204 x5_1).f1,(rd_T51 y204 x5_1).f2,(rd_T51 y204 x5_1).f3,((Int.tmod (wrap64 ((wrap64 (x1_1 + 1)) + 1)) 3) == 0)⟩ : S51)) := ⟨_,rfl⟩
     replace H : (laws_markSlotS.l0 k1 y205 (wrap64 ((wrap64 ((wrap64 (x1_1 + 1)) + 1)) + 1)) (wrap64 (x5_1 + 1))) = some (r1,r2) := by first | (rw [hy205];with_reducible exact H) | (have H2_ := (Option.bind_some _ _).symm.trans H;rw [hy205];with_reducible exact H2_) | (have H2_ := (Option.bind_some _ _).symm.trans H;with_reducible exact H2_) | with_reducible exact H | (rw [hy205];exact H) | exact H
     have Ny205 := am_ hy205
     have HNEy205 := am_ (ne_set51 HNEy204.out hy205 (ne_rd51 HNEy204.out x5_1))
     clear hy205
     have H' := am_ H
     clear H
     obtain ⟨Ao9,co9,eo9⟩ := Kd.S_slice HO_0.out
     subst eo9
     go_wp2_with (first | ((with_reducible refine gate_callee (f := 31) rfl ?_);refine zgl (some 15) Try.func31 #[.int .i64 x1_1] ?_;(with_reducible refine (laws_markText.calls k1 x1_1 t202 _ A4.out).mono ?_);rintro e w10 ⟨rfl,hb⟩;refine ⟨_,rfl,?_⟩;replace HO_0 := am_ (Kd.S_below (by (with_reducible repeat (first | apply Kd.S_alloc | apply Kd.S_drewN | apply Kd.S_drew));exact HO_0.out) hb);replace HK := am_ (Kept.below (S := Q0_) (by repeat (first | (with_reducible first | exact HK.out | apply Kept.alloc | apply Kept.drewN | apply Kept.drew) | exact HK.out)) hb);replace HB := zs_ HB hb;(try clear hb);(try clear hb2);(try clear hk);(try clear hi);have p6 : 0 ≤ (x5_1 : Int) := zo_;have q6 : (x5_1 : Int) < ((x0_1.length : Int) : Int) := zo_;obtain ⟨go6,co6,eo6,gb6,gl6,cl6,HG6⟩ := Kd.S_form HO_0.out (by omega);(first | cases eo6 | (injection eo6 with ea_ en_ ec_;(first | subst ea_ | (injection ea_ with ea_;subst ea_));subst ec_;clear en_));have GB6 := am_ gb6;have GG6 := am_ HG6;clear gb6 gl6 HG6;have HMgo6 := am_ (show (P0_ go6 ∨ w.heap.size ≤ go6) from ((Kd.S_R HO_0.out).1 _ rfl));obtain ⟨_,ce6,hcl6,hM6,hcc6,hfr6,_,_⟩ := Kd.S_elem HO_0.out z51 (x5_1 : Int) p6 q6;obtain ⟨ve6_1,ve6_2,rfl,ge6_1,ge6_2⟩ := k51_openM hM6;have hx6_0 : w10.cell? ⟨go6,(x5_1 : Int).toNat * 5,none⟩ = some (.string ((rd_T51 x0_1 x5_1).f0)) := hcc6 0 _ rfl;have hx6_1 : w10.cell? ⟨go6,(x5_1 : Int).toNat * 5 + 1,none⟩ = some (ve6_1) := hcc6 1 _ rfl;have hx6_2 : w10.cell? ⟨go6,(x5_1 : Int).toNat * 5 + 2,none⟩ = some (ve6_2) := hcc6 2 _ rfl;have hx6_3 : w10.cell? ⟨go6,(x5_1 : Int).toNat * 5 + 3,none⟩ = some (.bool ((rd_T51 x0_1 x5_1).f3)) := hcc6 3 _ rfl;have hx6_4 : w10.cell? ⟨go6,(x5_1 : Int).toNat * 5 + 4,none⟩ = some (.bool ((rd_T51 x0_1 x5_1).f4)) := hcc6 4 _ rfl;have hf6_0 : w10.frozen? ⟨go6,(x5_1 : Int).toNat * 5,none⟩ = false := hfr6 0;have hf6_1 : w10.frozen? ⟨go6,(x5_1 : Int).toNat * 5 + 1,none⟩ = false := hfr6 1;have hf6_2 : w10.frozen? ⟨go6,(x5_1 : Int).toNat * 5 + 2,none⟩ = false := hfr6 2;have hf6_3 : w10.frozen? ⟨go6,(x5_1 : Int).toNat * 5 + 3,none⟩ = false := hfr6 3;have hf6_4 : w10.frozen? ⟨go6,(x5_1 : Int).toNat * 5 + 4,none⟩ = false := hfr6 4;clear hcl6 hcc6 hfr6 hM6;replace p6 := eq_true p6;replace q6 := eq_true q6;have HX11 := am_ (show Kd.S k51 51 w10 w0.heap.size (fun k_ => ((fun k_ => (P0_ k_ ∨ w.heap.size ≤ k_))) k_ ∧ ¬ ((fun _ => False)) k_) (.slice (some ⟨go6,0,none⟩) x0_1.length co9) x0_1 from (by (with_reducible repeat (first | apply Kd.S_alloc | apply Kd.S_drewN | apply Kd.S_drew));exact Kd.S_mono HO_0.out (fun k_ hk => ⟨hk,fun e_ => e_⟩)));obtain ⟨oki11,ce11,hcl11,hM11,hcc11,hfr11,hoki11,hH11⟩ := Kd.S_elem HX11.out z51 (x5_1 : Int) (zo_) (by have h_ : (x5_1 : Int) < ((x0_1.length : Int) : Int) := zo_;first | exact h_ | (have e_ := (Kd.S_reads' HO_0.out).1;omega) | simpa using h_);obtain ⟨ve11_1,ve11_2,rfl,ge11_1,ge11_2⟩ := k51_openM hM11;have HP11 := Kd.S_seg hH11 (zo_) (by have h_ : (x5_1 : Int) < ((x0_1.length : Int) : Int) := zo_;first | exact h_ | (have e_ := (Kd.S_reads' HO_0.out).1;omega) | simpa using h_) (seg := [.string t202]) (j := 0) (show 1 ≤ 5 from by decide) (x' := (⟨t202,(rd_T51 x0_1 x5_1).f1,(rd_T51 x0_1 x5_1).f2,(rd_T51 x0_1 x5_1).f3,(rd_T51 x0_1 x5_1).f4⟩ : S51)) (k51_mkM _ _ _ (⟨t202,(rd_T51 x0_1 x5_1).f1,(rd_T51 x0_1 x5_1).f2,(rd_T51 x0_1 x5_1).f3,(rd_T51 x0_1 x5_1).f4⟩ : S51) (Kd.R_mono ge11_1 (fun _ h_ => Or.inl h_)) (Kd.R_mono ge11_2 (fun _ h_ => Or.inl h_))) (fun _ hk => hk) (fun k_ hk_ => hk_.elim);have hx11_0 := hcc11 0 _ rfl;(try simp only [show (k51).sz = 5 from rfl,Nat.mul_one,Nat.add_zero] at hx11_0);have hf11_0 := hfr11 0;(try simp only [show (k51).sz = 5 from rfl,Nat.mul_one,Nat.add_zero] at hf11_0);clear hcl11 hcc11 hfr11 hM11 hoki11 hH11) | ((with_reducible refine gate_store (t := 9) (p := 17) rfl ?_);refine store_event (t := 9) (p := 17) (v := ?vo_w12) (w1 := (w10.setCell ⟨go6,(x5_1 : Int).toNat * 5,none⟩ (.string t202))) ?hg ?ho ?hn ?hr ?_;(case ho => rfl);(case hg => rfl);(case hn => rfl);(case hr => first | (go_simp;done) | (go_simp;rfl));intro w12 hw;have hg : w10.grownBy w12 (some go6) := (by rw [hw];exact HP11.2);have hp_ : Kd.S k51 51 w12 w0.heap.size (fun k_ => (P0_ k_ ∨ w.heap.size ≤ k_)) (.slice (some ⟨go6,0,none⟩) x0_1.length co9) y203 := (by rw [hw,Ny203.out];exact HP11.1);clear HP11;replace HB := am_ ((by rw [hw];exact below_set (HB.out) GB6.out : Below w0.heap.size w0 w12));replace HK := am_ (Kept.of_grown (S := Q0_) hg (by repeat (first | (with_reducible first | exact HK.out | apply Kept.alloc | apply Kept.drewN | apply Kept.drew) | exact HK.out)) (fun k_ e_ => Or.inl (HQ.out k_ e_)));replace HO_0 := am_ (hp_);clear hg hw hp_;have p7 : 0 ≤ (x5_1 : Int) := zo_;have q7 : (x5_1 : Int) < ((x0_1.length : Int) : Int) := zo_;obtain ⟨_,ce7,hcl7,hM7,hcc7,hfr7,_,_⟩ := Kd.S_elem HO_0.out z51 (x5_1 : Int) p7 q7;obtain ⟨ve7_1,ve7_2,rfl,ge7_1,ge7_2⟩ := k51_openM hM7;have hx7_0 : w12.cell? ⟨go6,(x5_1 : Int).toNat * 5,none⟩ = some (.string ((rd_T51 y203 x5_1).f0)) := hcc7 0 _ rfl;have hx7_1 : w12.cell? ⟨go6,(x5_1 : Int).toNat * 5 + 1,none⟩ = some (ve7_1) := hcc7 1 _ rfl;have hx7_2 : w12.cell? ⟨go6,(x5_1 : Int).toNat * 5 + 2,none⟩ = some (ve7_2) := hcc7 2 _ rfl;have hx7_3 : w12.cell? ⟨go6,(x5_1 : Int).toNat * 5 + 3,none⟩ = some (.bool ((rd_T51 y203 x5_1).f3)) := hcc7 3 _ rfl;have hx7_4 : w12.cell? ⟨go6,(x5_1 : Int).toNat * 5 + 4,none⟩ = some (.bool ((rd_T51 y203 x5_1).f4)) := hcc7 4 _ rfl;have hf7_0 : w12.frozen? ⟨go6,(x5_1 : Int).toNat * 5,none⟩ = false := hfr7 0;have hf7_1 : w12.frozen? ⟨go6,(x5_1 : Int).toNat * 5 + 1,none⟩ = false := hfr7 1;have hf7_2 : w12.frozen? ⟨go6,(x5_1 : Int).toNat * 5 + 2,none⟩ = false := hfr7 2;have hf7_3 : w12.frozen? ⟨go6,(x5_1 : Int).toNat * 5 + 3,none⟩ = false := hfr7 3;have hf7_4 : w12.frozen? ⟨go6,(x5_1 : Int).toNat * 5 + 4,none⟩ = false := hfr7 4;clear hcl7 hcc7 hfr7 hM7;replace p7 := eq_true p7;obtain ⟨An0,cn0,en0⟩ := Kd.R_slice ge7_1;have en0_ : ve7_1 = .slice An0 0 cn0 := (by have hz_ := (ne_rd51 HNEy203.out x5_1).1;unfold rd_T51 at hz_;rw [hz_] at en0;exact en0);clear en0;subst en0_;obtain ⟨An1,cn1,en1⟩ := Kd.R_slice ge7_2;have en1_ : ve7_2 = .slice An1 0 cn1 := (by have hz_ := (ne_rd51 HNEy203.out x5_1).2;unfold rd_T51 at hz_;rw [hz_] at en1;exact en1);clear en1;subst en1_;replace q7 := eq_true q7;have HX13 := am_ (show Kd.S k51 51 w12 w0.heap.size (fun k_ => ((fun k_ => (P0_ k_ ∨ w.heap.size ≤ k_))) k_ ∧ ¬ ((fun _ => False)) k_) (.slice (some ⟨go6,0,none⟩) x0_1.length co9) y203 from (by (with_reducible repeat (first | apply Kd.S_alloc | apply Kd.S_drewN | apply Kd.S_drew));exact Kd.S_mono HO_0.out (fun k_ hk => ⟨hk,fun e_ => e_⟩)));obtain ⟨oki13,ce13,hcl13,hM13,hcc13,hfr13,hoki13,hH13⟩ := Kd.S_elem HX13.out z51 (x5_1 : Int) (zo_) (by have h_ : (x5_1 : Int) < ((x0_1.length : Int) : Int) := zo_;first | exact h_ | (have e_ := (Kd.S_reads' HO_0.out).1;omega) | simpa using h_);obtain ⟨ve13_1,ve13_2,rfl,ge13_1,ge13_2⟩ := k51_openM hM13;have HP13 := Kd.S_seg hH13 (zo_) (by have h_ : (x5_1 : Int) < ((x0_1.length : Int) : Int) := zo_;first | exact h_ | (have e_ := (Kd.S_reads' HO_0.out).1;omega) | simpa using h_) (seg := [.bool ((Int.tmod (wrap64 (x1_1 + 1)) 3) == 0)]) (j := 3) (show 4 ≤ 5 from by decide) (x' := (⟨(rd_T51 y203 x5_1).f0,(rd_T51 y203 x5_1).f1,(rd_T51 y203 x5_1).f2,((Int.tmod (wrap64 (x1_1 + 1)) 3) == 0),(rd_T51 y203 x5_1).f4⟩ : S51)) (k51_mkM _ _ _ (⟨(rd_T51 y203 x5_1).f0,(rd_T51 y203 x5_1).f1,(rd_T51 y203 x5_1).f2,((Int.tmod (wrap64 (x1_1 + 1)) 3) == 0),(rd_T51 y203 x5_1).f4⟩ : S51) (Kd.R_mono ge13_1 (fun _ h_ => Or.inl h_)) (Kd.R_mono ge13_2 (fun _ h_ => Or.inl h_))) (fun _ hk => hk) (fun k_ hk_ => hk_.elim);have hx13_3 := hcc13 3 _ rfl;(try simp only [show (k51).sz = 5 from rfl,Nat.mul_one,Nat.add_zero] at hx13_3);have hf13_3 := hfr13 3;(try simp only [show (k51).sz = 5 from rfl,Nat.mul_one,Nat.add_zero] at hf13_3);clear hcl13 hcc13 hfr13 hM13 hoki13 hH13) | ((with_reducible refine gate_store (t := 4) (p := 40) rfl ?_);refine store_event (t := 4) (p := 40) (v := ?vo_w14) (w1 := (w12.setCell ⟨go6,(x5_1 : Int).toNat * 5 + 3,none⟩ (.bool ((Int.tmod (wrap64 (x1_1 + 1)) 3) == 0)))) ?hg ?ho ?hn ?hr ?_;(case ho => rfl);(case hg => rfl);(case hn => rfl);(case hr => first | (go_simp;done) | (go_simp;rfl));intro w14 hw;have hg : w12.grownBy w14 (some go6) := (by rw [hw];exact HP13.2);have hp_ : Kd.S k51 51 w14 w0.heap.size (fun k_ => (P0_ k_ ∨ w.heap.size ≤ k_)) (.slice (some ⟨go6,0,none⟩) x0_1.length co9) y204 := (by rw [hw,Ny204.out];exact HP13.1);clear HP13;replace HB := am_ ((by rw [hw];exact below_set (HB.out) GB6.out : Below w0.heap.size w0 w14));replace HK := am_ (Kept.of_grown (S := Q0_) hg (by repeat (first | (with_reducible first | exact HK.out | apply Kept.alloc | apply Kept.drewN | apply Kept.drew) | exact HK.out)) (fun k_ e_ => Or.inl (HQ.out k_ e_)));replace HO_0 := am_ (hp_);clear hg hw hp_;have p8 : 0 ≤ (x5_1 : Int) := zo_;have q8 : (x5_1 : Int) < ((x0_1.length : Int) : Int) := zo_;obtain ⟨_,ce8,hcl8,hM8,hcc8,hfr8,_,_⟩ := Kd.S_elem HO_0.out z51 (x5_1 : Int) p8 q8;obtain ⟨ve8_1,ve8_2,rfl,ge8_1,ge8_2⟩ := k51_openM hM8;have hx8_0 : w14.cell? ⟨go6,(x5_1 : Int).toNat * 5,none⟩ = some (.string ((rd_T51 y204 x5_1).f0)) := hcc8 0 _ rfl;have hx8_1 : w14.cell? ⟨go6,(x5_1 : Int).toNat * 5 + 1,none⟩ = some (ve8_1) := hcc8 1 _ rfl;have hx8_2 : w14.cell? ⟨go6,(x5_1 : Int).toNat * 5 + 2,none⟩ = some (ve8_2) := hcc8 2 _ rfl;have hx8_3 : w14.cell? ⟨go6,(x5_1 : Int).toNat * 5 + 3,none⟩ = some (.bool ((rd_T51 y204 x5_1).f3)) := hcc8 3 _ rfl;have hx8_4 : w14.cell? ⟨go6,(x5_1 : Int).toNat * 5 + 4,none⟩ = some (.bool ((rd_T51 y204 x5_1).f4)) := hcc8 4 _ rfl;have hf8_0 : w14.frozen? ⟨go6,(x5_1 : Int).toNat * 5,none⟩ = false := hfr8 0;have hf8_1 : w14.frozen? ⟨go6,(x5_1 : Int).toNat * 5 + 1,none⟩ = false := hfr8 1;have hf8_2 : w14.frozen? ⟨go6,(x5_1 : Int).toNat * 5 + 2,none⟩ = false := hfr8 2;have hf8_3 : w14.frozen? ⟨go6,(x5_1 : Int).toNat * 5 + 3,none⟩ = false := hfr8 3;have hf8_4 : w14.frozen? ⟨go6,(x5_1 : Int).toNat * 5 + 4,none⟩ = false := hfr8 4;clear hcl8 hcc8 hfr8 hM8;replace p8 := eq_true p8;replace q8 := eq_true q8;have HX15 := am_ (show Kd.S k51 51 w14 w0.heap.size (fun k_ => ((fun k_ => (P0_ k_ ∨ w.heap.size ≤ k_))) k_ ∧ ¬ ((fun _ => False)) k_) (.slice (some ⟨go6,0,none⟩) x0_1.length co9) y204 from (by (with_reducible repeat (first | apply Kd.S_alloc | apply Kd.S_drewN | apply Kd.S_drew));exact Kd.S_mono HO_0.out (fun k_ hk => ⟨hk,fun e_ => e_⟩)));obtain ⟨oki15,ce15,hcl15,hM15,hcc15,hfr15,hoki15,hH15⟩ := Kd.S_elem HX15.out z51 (x5_1 : Int) (zo_) (by have h_ : (x5_1 : Int) < ((x0_1.length : Int) : Int) := zo_;first | exact h_ | (have e_ := (Kd.S_reads' HO_0.out).1;omega) | simpa using h_);obtain ⟨ve15_1,ve15_2,rfl,ge15_1,ge15_2⟩ := k51_openM hM15;have HP15 := Kd.S_seg hH15 (zo_) (by have h_ : (x5_1 : Int) < ((x0_1.length : Int) : Int) := zo_;first | exact h_ | (have e_ := (Kd.S_reads' HO_0.out).1;omega) | simpa using h_) (seg := [.bool ((Int.tmod (wrap64 ((wrap64 (x1_1 + 1)) + 1)) 3) == 0)]) (j := 4) (show 5 ≤ 5 from by decide) (x' := (⟨(rd_T51 y204 x5_1).f0,(rd_T51 y204 x5_1).f1,(rd_T51 y204 x5_1).f2,(rd_T51 y204 x5_1).f3,((Int.tmod (wrap64 ((wrap64 (x1_1 + 1)) + 1)) 3) == 0)⟩ : S51)) (k51_mkM _ _ _ (⟨(rd_T51 y204 x5_1).f0,(rd_T51 y204 x5_1).f1,(rd_T51 y204 x5_1).f2,(rd_T51 y204 x5_1).f3,((Int.tmod (wrap64 ((wrap64 (x1_1 + 1)) + 1)) 3) == 0)⟩ : S51) (Kd.R_mono ge15_1 (fun _ h_ => Or.inl h_)) (Kd.R_mono ge15_2 (fun _ h_ => Or.inl h_))) (fun _ hk => hk) (fun k_ hk_ => hk_.elim);have hx15_4 := hcc15 4 _ rfl;(try simp only [show (k51).sz = 5 from rfl,Nat.mul_one,Nat.add_zero] at hx15_4);have hf15_4 := hfr15 4;(try simp only [show (k51).sz = 5 from rfl,Nat.mul_one,Nat.add_zero] at hf15_4);clear hcl15 hcc15 hfr15 hM15 hoki15 hH15) | ((with_reducible refine gate_store (t := 4) (p := 49) rfl ?_);refine store_event (t := 4) (p := 49) (v := ?vo_w16) (w1 := (w14.setCell ⟨go6,(x5_1 : Int).toNat * 5 + 4,none⟩ (.bool ((Int.tmod (wrap64 ((wrap64 (x1_1 + 1)) + 1)) 3) == 0)))) ?hg ?ho ?hn ?hr ?_;(case ho => rfl);(case hg => rfl);(case hn => rfl);(case hr => first | (go_simp;done) | (go_simp;rfl));intro w16 hw;have hg : w14.grownBy w16 (some go6) := (by rw [hw];exact HP15.2);have hp_ : Kd.S k51 51 w16 w0.heap.size (fun k_ => (P0_ k_ ∨ w.heap.size ≤ k_)) (.slice (some ⟨go6,0,none⟩) x0_1.length co9) y205 := (by rw [hw,Ny205.out];exact HP15.1);clear HP15;replace HB := am_ ((by rw [hw];exact below_set (HB.out) GB6.out : Below w0.heap.size w0 w16));replace HK := am_ (Kept.of_grown (S := Q0_) hg (by repeat (first | (with_reducible first | exact HK.out | apply Kept.alloc | apply Kept.drewN | apply Kept.drew) | exact HK.out)) (fun k_ e_ => Or.inl (HQ.out k_ e_)));replace HO_0 := am_ (hp_);clear hg hw hp_) | ((with_reducible refine gate_callee (f := 21) rfl ?_);refine zgl (some 26) Try.func21 #[.slice An0 0 cn0,.int .i64 (wrap64 (x1_1 + 1))] ?_;refine (mark_messages An0 0 (wrap64 (x1_1 + 1)) cn0 _).mono ?_;rintro e w_ ⟨rfl,hw_⟩;replace hw_ := hw_.symm;subst hw_;refine ⟨_,rfl,?_⟩) | ((with_reducible refine gate_callee (f := 21) rfl ?_);refine zgl (some 33) Try.func21 #[.slice An1 0 cn1,.int .i64 (wrap64 (x1_1 + 1))] ?_;refine (mark_messages An1 0 (wrap64 (x1_1 + 1)) cn1 _).mono ?_;rintro e w_ ⟨rfl,hw_⟩;replace hw_ := hw_.symm;subst hw_;refine ⟨_,rfl,?_⟩))
     go_roundg k1
     case measure => have := HK1.out;omega
     case rel => exact ⟨(y205),(wrap64 ((wrap64 ((wrap64 (x1_1 + 1)) + 1)) + 1)),(wrap64 (x5_1 + 1)),(by first | rfl | (simp;done) | (simp [*];done)),(by first | rfl | (simp;done) | (simp [*];done)),H',⟨by have := HK1.out;omega⟩,⟨by (with_reducible repeat (first | apply Kd.S_alloc | apply Kd.S_drewN | apply Kd.S_drew));exact HO_0.out⟩,⟨by repeat (first | (with_reducible first | exact HK.out | apply Kept.alloc | apply Kept.drewN | apply Kept.drew) | exact HK.out)⟩,⟨zl_ HB⟩,HNEy205⟩
    ·rw [if_neg c5] at H
     exact absurd H (by simp)
   ·rw [if_neg c3] at H
    have c3b0 : decide (x5_1 < (x0_1.length : Int)) = false := decide_eq_false c3
    clear c3
    simp only [Option.some.injEq,Prod.mk.injEq] at H
    obtain ⟨rfl,rfl⟩ := H
    obtain ⟨Ao17,co17,eo17⟩ := Kd.S_slice HO_0.out
    subst eo17
    go_wp2
    go_ret
    exact ⟨zt_,by (with_reducible repeat (first | apply Kd.S_alloc | apply Kd.S_drewN | apply Kd.S_drew));exact HO_0.out,zl_ HB,by repeat (first | (with_reducible first | exact HK.out | apply Kept.alloc | apply Kept.drewN | apply Kept.drew) | exact HK.out)⟩
set_option maxHeartbeats 8000000 in
set_option maxRecDepth 100000 in
theorem laws_markCertS.calls (k : Nat) (P0_ : Nat → Prop) (Q0_ : Nat → Prop) (u9000_ : Value) (hQ : ∀ k_,u9000_.ownBlock = some k_ → Q0_ k_) (l0 : List (S46)) (a1 : Int) (r1 : Int) (r2 : List (S46)) (w0 w : World) (hB : Below w0.heap.size w0 w) (hne : ∀ x ∈ l0,x.f1 = []) (ho0 : Kd.S k46 46 w w0.heap.size P0_ u9000_ l0) (h : laws_markCertS.f k l0 a1 = some (r1,r2)) :
  Calls Try.prog 19 #[u9000_,.int .i64 a1] w fun e w' => e = .returned (.int .i64 r1) ∧ Kd.S k46 46 w' w0.heap.size (fun k_ => (P0_ k_ ∨ w.heap.size ≤ k_)) u9000_ r2 ∧ Below w0.heap.size w0 w' ∧ Kept w w' Q0_ := by
 have HO0 := am_ (show Kd.S k46 46 w w0.heap.size (fun k_ => (P0_ k_ ∨ w.heap.size ≤ k_)) u9000_ l0 from Kd.S_mono ho0 (fun k_ hk => (.inl hk)))
 have HNE0 := am_ hne
 clear hne
 have HQ := am_ hQ
 clear hQ
 have HK := am_ (Kept.refl w Q0_)
 have HW0 := am_ hB.size
 have HB := am_ hB
 clear hB
 have H : (laws_markCertS.l0 k l0 a1 0) = some (r1,r2) := h
 clear h
 have H' := am_ H
 clear H
 go_enter Try.func19,Try.ntmps19
 go_wp2
 go_loopg [1,5] k (fun kq v1 v5 w' => ∃ (x0_1 : List (S46)) (x1_1 : Int) (x5_1 : Int),v1 = .int .i64 x1_1 ∧ v5 = .int .i64 x5_1 ∧ Aside0 (laws_markCertS.l0 kq x0_1 x1_1 x5_1 = some (r1,r2)) ∧ Aside0 (kq ≤ k) ∧ Aside0 (Kd.S k46 46 w' w0.heap.size (fun k_ => (P0_ k_ ∨ w.heap.size ≤ k_)) u9000_ x0_1) ∧ Aside0 (Kept w w' Q0_) ∧ Aside0 (Below w0.heap.size w0 w') ∧ Aside0 (∀ x ∈ x0_1,x.f1 = []))
 case atStart => exact ⟨(l0),(a1),(0),(by first | rfl | (simp;done) | (simp [*];done)),(by first | rfl | (simp;done) | (simp [*];done)),H',⟨Nat.le_refl _⟩,⟨by (with_reducible repeat (first | apply Kd.S_alloc | apply Kd.S_drewN | apply Kd.S_drew));exact HO0.out⟩,⟨by repeat (first | (with_reducible first | exact HK.out | apply Kept.alloc | apply Kept.drewN | apply Kept.drew) | exact HK.out)⟩,⟨zl_ HB⟩,HNE0⟩
 case round =>
  clear H'
  try clear c1
  try clear p2
  obtain ⟨x0_1,x1_1,x5_1,rfl,rfl,HA,HK1,HO_0,HK,HB,HNE⟩ := hrel
  cases gk with
  | zero => exact absurd HA.out (by simp [laws_markCertS.l0])
  | succ k1 =>
   have H := HA.out
   clear HA
   simp only [laws_markCertS.l0] at H
   by_cases c3 : x5_1 < (x0_1.length : Int)
   ·rw [if_pos c3] at H
    have c3b0 : decide (x5_1 < (x0_1.length : Int)) = true := decide_eq_true c3
    clear c3
    replace H := Option.bind_eq_some_iff.mp H
    obtain ⟨t206,A40,H⟩ := H
    try dsimp only at H
    have A4 := am_ A40
    clear A40
    by_cases c5 : 0 ≤ x5_1
    ·rw [if_pos c5] at H
     have c5b0 : decide (0 ≤ x5_1) = true := decide_eq_true c5
     clear c5
     obtain ⟨y207,hy207⟩ : ∃ y_ : List (S46),y_ = (x0_1.set (x5_1 : Int).toNat (⟨t206,(rd_T46 x0_1 x5_1).f1⟩ : S46)) := ⟨_,rfl⟩
     replace H : (laws_markCertS.l0 k1 y207 (wrap64 (x1_1 + 1)) (wrap64 (x5_1 + 1))) = some (r1,r2) := by first | (rw [hy207];with_reducible exact H) | (have H2_ := (Option.bind_some _ _).symm.trans H;rw [hy207];with_reducible exact H2_) | (have H2_ := (Option.bind_some _ _).symm.trans H;with_reducible exact H2_) | with_reducible exact H | (rw [hy207];exact H) | exact H
     have Ny207 := am_ hy207
     have HNEy207 := am_ (ne_set46 HNE.out hy207 (ne_rd46 HNE.out x5_1))
     clear hy207
     have H' := am_ H
     clear H
     obtain ⟨Ao7,co7,eo7⟩ := Kd.S_slice HO_0.out
     subst eo7
     go_wp2_with (first | ((with_reducible refine gate_callee (f := 31) rfl ?_);refine zgl (some 15) Try.func31 #[.int .i64 x1_1] ?_;(with_reducible refine (laws_markText.calls k1 x1_1 t206 _ A4.out).mono ?_);rintro e w8 ⟨rfl,hb⟩;refine ⟨_,rfl,?_⟩;replace HO_0 := am_ (Kd.S_below (by (with_reducible repeat (first | apply Kd.S_alloc | apply Kd.S_drewN | apply Kd.S_drew));exact HO_0.out) hb);replace HK := am_ (Kept.below (S := Q0_) (by repeat (first | (with_reducible first | exact HK.out | apply Kept.alloc | apply Kept.drewN | apply Kept.drew) | exact HK.out)) hb);replace HB := zs_ HB hb;(try clear hb);(try clear hb2);(try clear hk);(try clear hi);have p6 : 0 ≤ (x5_1 : Int) := zo_;have q6 : (x5_1 : Int) < ((x0_1.length : Int) : Int) := zo_;obtain ⟨go6,co6,eo6,gb6,gl6,cl6,HG6⟩ := Kd.S_form HO_0.out (by omega);(first | cases eo6 | (injection eo6 with ea_ en_ ec_;(first | subst ea_ | (injection ea_ with ea_;subst ea_));subst ec_;clear en_));have GB6 := am_ gb6;have GG6 := am_ HG6;clear gb6 gl6 HG6;have HMgo6 := am_ (show (P0_ go6 ∨ w.heap.size ≤ go6) from ((Kd.S_R HO_0.out).1 _ rfl));obtain ⟨_,ce6,hcl6,hM6,hcc6,hfr6,_,_⟩ := Kd.S_elem HO_0.out z46 (x5_1 : Int) p6 q6;obtain ⟨ve6_1,rfl,ge6_1⟩ := k46_openM hM6;have hx6_0 : w8.cell? ⟨go6,(x5_1 : Int).toNat * 2,none⟩ = some (.string ((rd_T46 x0_1 x5_1).f0)) := hcc6 0 _ rfl;have hx6_1 : w8.cell? ⟨go6,(x5_1 : Int).toNat * 2 + 1,none⟩ = some (ve6_1) := hcc6 1 _ rfl;have hf6_0 : w8.frozen? ⟨go6,(x5_1 : Int).toNat * 2,none⟩ = false := hfr6 0;have hf6_1 : w8.frozen? ⟨go6,(x5_1 : Int).toNat * 2 + 1,none⟩ = false := hfr6 1;clear hcl6 hcc6 hfr6 hM6;replace p6 := eq_true p6;replace q6 := eq_true q6;have HX9 := am_ (show Kd.S k46 46 w8 w0.heap.size (fun k_ => ((fun k_ => (P0_ k_ ∨ w.heap.size ≤ k_))) k_ ∧ ¬ ((fun _ => False)) k_) (.slice (some ⟨go6,0,none⟩) x0_1.length co7) x0_1 from (by (with_reducible repeat (first | apply Kd.S_alloc | apply Kd.S_drewN | apply Kd.S_drew));exact Kd.S_mono HO_0.out (fun k_ hk => ⟨hk,fun e_ => e_⟩)));obtain ⟨oki9,ce9,hcl9,hM9,hcc9,hfr9,hoki9,hH9⟩ := Kd.S_elem HX9.out z46 (x5_1 : Int) (zo_) (by have h_ : (x5_1 : Int) < ((x0_1.length : Int) : Int) := zo_;first | exact h_ | (have e_ := (Kd.S_reads' HO_0.out).1;omega) | simpa using h_);obtain ⟨ve9_1,rfl,ge9_1⟩ := k46_openM hM9;have HP9 := Kd.S_seg hH9 (zo_) (by have h_ : (x5_1 : Int) < ((x0_1.length : Int) : Int) := zo_;first | exact h_ | (have e_ := (Kd.S_reads' HO_0.out).1;omega) | simpa using h_) (seg := [.string t206]) (j := 0) (show 1 ≤ 2 from by decide) (x' := (⟨t206,(rd_T46 x0_1 x5_1).f1⟩ : S46)) (k46_mkM _ _ _ (⟨t206,(rd_T46 x0_1 x5_1).f1⟩ : S46) (Kd.R_mono ge9_1 (fun _ h_ => Or.inl h_))) (fun _ hk => hk) (fun k_ hk_ => hk_.elim);have hx9_0 := hcc9 0 _ rfl;(try simp only [show (k46).sz = 2 from rfl,Nat.mul_one,Nat.add_zero] at hx9_0);have hf9_0 := hfr9 0;(try simp only [show (k46).sz = 2 from rfl,Nat.mul_one,Nat.add_zero] at hf9_0);clear hcl9 hcc9 hfr9 hM9 hoki9 hH9) | ((with_reducible refine gate_store (t := 9) (p := 17) rfl ?_);refine store_event (t := 9) (p := 17) (v := ?vo_w10) (w1 := (w8.setCell ⟨go6,(x5_1 : Int).toNat * 2,none⟩ (.string t206))) ?hg ?ho ?hn ?hr ?_;(case ho => rfl);(case hg => rfl);(case hn => rfl);(case hr => first | (go_simp;done) | (go_simp;rfl));intro w10 hw;have hg : w8.grownBy w10 (some go6) := (by rw [hw];exact HP9.2);have hp_ : Kd.S k46 46 w10 w0.heap.size (fun k_ => (P0_ k_ ∨ w.heap.size ≤ k_)) (.slice (some ⟨go6,0,none⟩) x0_1.length co7) y207 := (by rw [hw,Ny207.out];exact HP9.1);clear HP9;replace HB := am_ ((by rw [hw];exact below_set (HB.out) GB6.out : Below w0.heap.size w0 w10));replace HK := am_ (Kept.of_grown (S := Q0_) hg (by repeat (first | (with_reducible first | exact HK.out | apply Kept.alloc | apply Kept.drewN | apply Kept.drew) | exact HK.out)) (fun k_ e_ => Or.inl (HQ.out k_ e_)));replace HO_0 := am_ (hp_);clear hg hw hp_;have p7 : 0 ≤ (x5_1 : Int) := zo_;have q7 : (x5_1 : Int) < ((x0_1.length : Int) : Int) := zo_;obtain ⟨_,ce7,hcl7,hM7,hcc7,hfr7,_,_⟩ := Kd.S_elem HO_0.out z46 (x5_1 : Int) p7 q7;obtain ⟨ve7_1,rfl,ge7_1⟩ := k46_openM hM7;have hx7_1 : w10.cell? ⟨go6,(x5_1 : Int).toNat * 2 + 1,none⟩ = some (ve7_1) := hcc7 1 _ rfl;clear hcl7 hcc7 hfr7 hM7;replace p7 := eq_true p7;obtain ⟨An0,cn0,en0⟩ := Kd.R_slice ge7_1;have en0_ : ve7_1 = .slice An0 0 cn0 := (by have hz_ := ne_rd46 HNEy207.out x5_1;unfold rd_T46 at hz_;rw [hz_] at en0;exact en0);clear en0;subst en0_;replace q7 := eq_true q7) | ((with_reducible refine gate_callee (f := 21) rfl ?_);refine zgl (some 26) Try.func21 #[.slice An0 0 cn0,.int .i64 (wrap64 (x1_1 + 1))] ?_;refine (mark_messages An0 0 (wrap64 (x1_1 + 1)) cn0 _).mono ?_;rintro e w_ ⟨rfl,hw_⟩;replace hw_ := hw_.symm;subst hw_;refine ⟨_,rfl,?_⟩))
     go_roundg k1
     case measure => have := HK1.out;omega
     case rel => exact ⟨(y207),(wrap64 (x1_1 + 1)),(wrap64 (x5_1 + 1)),(by first | rfl | (simp;done) | (simp [*];done)),(by first | rfl | (simp;done) | (simp [*];done)),H',⟨by have := HK1.out;omega⟩,⟨by (with_reducible repeat (first | apply Kd.S_alloc | apply Kd.S_drewN | apply Kd.S_drew));exact HO_0.out⟩,⟨by repeat (first | (with_reducible first | exact HK.out | apply Kept.alloc | apply Kept.drewN | apply Kept.drew) | exact HK.out)⟩,⟨zl_ HB⟩,HNEy207⟩
    ·rw [if_neg c5] at H
     exact absurd H (by simp)
   ·rw [if_neg c3] at H
    have c3b0 : decide (x5_1 < (x0_1.length : Int)) = false := decide_eq_false c3
    clear c3
    simp only [Option.some.injEq,Prod.mk.injEq] at H
    obtain ⟨rfl,rfl⟩ := H
    obtain ⟨Ao11,co11,eo11⟩ := Kd.S_slice HO_0.out
    subst eo11
    go_wp2
    go_ret
    exact ⟨zt_,by (with_reducible repeat (first | apply Kd.S_alloc | apply Kd.S_drewN | apply Kd.S_drew));exact HO_0.out,zl_ HB,by repeat (first | (with_reducible first | exact HK.out | apply Kept.alloc | apply Kept.drewN | apply Kept.drew) | exact HK.out)⟩
def laws_heldMessageS.T16 : Bool × List (List Nat × List Nat) := (true,[([],[]),([],[]),([0,1],[0,1]),([2],[2]),([3],[3]),([],[]),([5],[5]),([4,6],[4,6])])
def laws_heldMessageS.B16 : List Nat := [0,0,3,7,15,0,32,127]
theorem laws_heldMessageS.tab16 : rtab .any (opsOf Try.f25 16) = laws_heldMessageS.T16 := by kernel_rfl
theorem laws_heldMessageS.bits16 : waitsOk laws_heldMessageS.T16.2 laws_heldMessageS.B16 = true := by kernel_rfl
def laws_heldMessageS.T19 : Bool × List (List Nat × List Nat) := (true,[([],[]),([],[]),([0,1],[0,1]),([2],[2]),([3],[3]),([],[]),([5],[5]),([4,6],[4,6])])
def laws_heldMessageS.B19 : List Nat := [0,0,3,7,15,0,32,127]
theorem laws_heldMessageS.tab19 : rtab .any (opsOf Try.f25 19) = laws_heldMessageS.T19 := by kernel_rfl
theorem laws_heldMessageS.bits19 : waitsOk laws_heldMessageS.T19.2 laws_heldMessageS.B19 = true := by kernel_rfl
def laws_heldMessageS.T22 : Bool × List (List Nat × List Nat) := (true,[([],[]),([],[]),([0,1],[0,1]),([2],[2]),([3],[3]),([],[]),([5],[5]),([4,6],[4,6])])
def laws_heldMessageS.B22 : List Nat := [0,0,3,7,15,0,32,127]
theorem laws_heldMessageS.tab22 : rtab .any (opsOf Try.f25 22) = laws_heldMessageS.T22 := by kernel_rfl
theorem laws_heldMessageS.bits22 : waitsOk laws_heldMessageS.T22.2 laws_heldMessageS.B22 = true := by kernel_rfl
set_option maxHeartbeats 8000000 in
set_option maxRecDepth 100000 in
theorem laws_heldMessageS.calls (k : Nat) (A0 : Option Addr) (c0 : Nat) (l0 : List (S55)) (a1 : Int) (r : Int) (w : World) (hr0 : Kd.C k55 w A0 l0.length l0) (hc0 : l0.length ≤ c0) (h : laws_heldMessageS.f k l0 a1 = some r) :
  Calls Try.prog 25 #[.slice A0 l0.length c0,.int .i64 a1] w fun e w' => e = .returned (.int .i64 r) ∧ Below w.heap.size w w' := by
 have HR0 := am_ hr0
 have HC0 := am_ hc0
 clear hr0 hc0
 have HB := am_ (Below.refl w.heap.size w)
 have H : (laws_heldMessageS.l0 k l0 a1 0) = some r := h
 clear h
 have H' := am_ H
 clear H
 go_enter Try.func25,Try.ntmps25
 go_wp2
 go_loopg [1,5] k (fun kq v1 v5 w' => ∃ (x1_1 : Int) (x5_1 : Int),v1 = .int .i64 x1_1 ∧ v5 = .int .i64 x5_1 ∧ Aside0 (laws_heldMessageS.l0 kq l0 x1_1 x5_1 = some r) ∧ Aside0 (kq ≤ k) ∧ Aside0 (Below w.heap.size w w'))
 case atStart => exact ⟨(a1),(0),(by first | rfl | (simp;done) | (simp [*];done)),(by first | rfl | (simp;done) | (simp [*];done)),H',⟨Nat.le_refl _⟩,⟨zl_ HB⟩⟩
 case round =>
  clear H'
  try clear c2
  try clear p2
  obtain ⟨x1_1,x5_1,rfl,rfl,HA,HK1,HB⟩ := hrel
  cases gk with
  | zero => exact absurd HA.out (by simp [laws_heldMessageS.l0])
  | succ k1 =>
   have H := HA.out
   clear HA
   simp only [laws_heldMessageS.l0] at H
   by_cases c3 : x5_1 < (l0.length : Int)
   ·rw [if_pos c3] at H
    have c3b0 : decide (x5_1 < (l0.length : Int)) = true := decide_eq_true c3
    clear c3
    by_cases c4 : 0 ≤ x5_1
    ·rw [if_pos c4] at H
     have c4b0 : decide (0 ≤ x5_1) = true := decide_eq_true c4
     clear c4
     by_cases c5 : ((rd_T55 l0 x5_1).f0) = x1_1
     ·rw [if_pos c5] at H
      have c5b0 : (((rd_T55 l0 x5_1).f0) == x1_1) = true := beq_iff_eq.mpr c5
      have c5b1 : (((rd_T55 l0 x5_1).f0) != x1_1) = false := bne_eq_false_iff_eq.mpr c5
      clear c5
      by_cases c6 : ((rd_T55 l0 x5_1).f1) = (wrap64 (x1_1 + 1))
      ·rw [if_pos c6] at H
       have c6b0 : (((rd_T55 l0 x5_1).f1) == (wrap64 (x1_1 + 1))) = true := beq_iff_eq.mpr c6
       have c6b1 : (((rd_T55 l0 x5_1).f1) != (wrap64 (x1_1 + 1))) = false := bne_eq_false_iff_eq.mpr c6
       clear c6
       by_cases c7 : ((rd_T55 l0 x5_1).f2) = (wrap64 ((wrap64 (x1_1 + 1)) + 1))
       ·rw [if_pos c7] at H
        have c7b0 : (((rd_T55 l0 x5_1).f2) == (wrap64 ((wrap64 (x1_1 + 1)) + 1))) = true := beq_iff_eq.mpr c7
        have c7b1 : (((rd_T55 l0 x5_1).f2) != (wrap64 ((wrap64 (x1_1 + 1)) + 1))) = false := bne_eq_false_iff_eq.mpr c7
        clear c7
        by_cases c8 : ((rd_T55 l0 x5_1).f3) = (wrap64 ((wrap64 ((wrap64 (x1_1 + 1)) + 1)) + 1))
        ·rw [if_pos c8] at H
         have c8b0 : (((rd_T55 l0 x5_1).f3) == (wrap64 ((wrap64 ((wrap64 (x1_1 + 1)) + 1)) + 1))) = true := beq_iff_eq.mpr c8
         have c8b1 : (((rd_T55 l0 x5_1).f3) != (wrap64 ((wrap64 ((wrap64 (x1_1 + 1)) + 1)) + 1))) = false := bne_eq_false_iff_eq.mpr c8
         clear c8
         replace H := Option.bind_eq_some_iff.mp H
         obtain ⟨t213,A90,H⟩ := H
         try dsimp only at H
         have A9 := am_ A90
         clear A90
         by_cases c10 : ((rd_T55 l0 x5_1).f4).toList = t213.toList
         ·rw [if_pos c10] at H
          have c10b0 : (((rd_T55 l0 x5_1).f4).toList == t213.toList) = true := beq_iff_eq.mpr c10
          have c10b1 : (((rd_T55 l0 x5_1).f4).toList != t213.toList) = false := bne_eq_false_iff_eq.mpr c10
          clear c10
          replace H := Option.bind_eq_some_iff.mp H
          obtain ⟨t215,A110,H⟩ := H
          try dsimp only at H
          have A11 := am_ A110
          clear A110
          by_cases c12 : ((rd_T55 l0 x5_1).f5).toList = t215.toList
          ·rw [if_pos c12] at H
           have c12b0 : (((rd_T55 l0 x5_1).f5).toList == t215.toList) = true := beq_iff_eq.mpr c12
           have c12b1 : (((rd_T55 l0 x5_1).f5).toList != t215.toList) = false := bne_eq_false_iff_eq.mpr c12
           clear c12
           replace H := Option.bind_eq_some_iff.mp H
           obtain ⟨t217,A130,H⟩ := H
           try dsimp only at H
           have A13 := am_ A130
           clear A130
           by_cases c14 : ((rd_T55 l0 x5_1).f6).toList = t217.toList
           ·rw [if_pos c14] at H
            have c14b0 : (((rd_T55 l0 x5_1).f6).toList == t217.toList) = true := beq_iff_eq.mpr c14
            have c14b1 : (((rd_T55 l0 x5_1).f6).toList != t217.toList) = false := bne_eq_false_iff_eq.mpr c14
            clear c14
            have H' := am_ H
            clear H
            have p208 : 0 ≤ (x5_1 : Int) := zo_
            have q208 : x5_1 < (l0.length : Int) := zo_
            obtain ⟨ad208,e208,hx208_0,hx208_1,hx208_2,hx208_3,hx208_4,hx208_5,hx208_6⟩ := at_T55 HR0.out x5_1 p208 q208
            cases e208
            replace hx208_0 := zx_ HB hx208_0
            replace hx208_1 := zx_ HB hx208_1
            replace hx208_2 := zx_ HB hx208_2
            replace hx208_3 := zx_ HB hx208_3
            replace hx208_4 := zx_ HB hx208_4
            replace hx208_5 := zx_ HB hx208_5
            replace hx208_6 := zx_ HB hx208_6
            replace p208 := eq_true p208
            replace q208 := eq_true q208
            have p209 : 0 ≤ (x5_1 : Int) := zo_
            have q209 : x5_1 < (l0.length : Int) := zo_
            obtain ⟨ad209,e209,hx209_0,hx209_1,hx209_2,hx209_3,hx209_4,hx209_5,hx209_6⟩ := at_T55 HR0.out x5_1 p209 q209
            obtain rfl : ad208 = ad209 := (by injection e209)
            replace hx209_0 := zx_ HB hx209_0
            replace hx209_1 := zx_ HB hx209_1
            replace hx209_2 := zx_ HB hx209_2
            replace hx209_3 := zx_ HB hx209_3
            replace hx209_4 := zx_ HB hx209_4
            replace hx209_5 := zx_ HB hx209_5
            replace hx209_6 := zx_ HB hx209_6
            replace p209 := eq_true p209
            replace q209 := eq_true q209
            have p210 : 0 ≤ (x5_1 : Int) := zo_
            have q210 : x5_1 < (l0.length : Int) := zo_
            obtain ⟨ad210,e210,hx210_0,hx210_1,hx210_2,hx210_3,hx210_4,hx210_5,hx210_6⟩ := at_T55 HR0.out x5_1 p210 q210
            obtain rfl : ad208 = ad210 := (by injection e210)
            replace hx210_0 := zx_ HB hx210_0
            replace hx210_1 := zx_ HB hx210_1
            replace hx210_2 := zx_ HB hx210_2
            replace hx210_3 := zx_ HB hx210_3
            replace hx210_4 := zx_ HB hx210_4
            replace hx210_5 := zx_ HB hx210_5
            replace hx210_6 := zx_ HB hx210_6
            replace p210 := eq_true p210
            replace q210 := eq_true q210
            have p211 : 0 ≤ (x5_1 : Int) := zo_
            have q211 : x5_1 < (l0.length : Int) := zo_
            obtain ⟨ad211,e211,hx211_0,hx211_1,hx211_2,hx211_3,hx211_4,hx211_5,hx211_6⟩ := at_T55 HR0.out x5_1 p211 q211
            obtain rfl : ad208 = ad211 := (by injection e211)
            replace hx211_0 := zx_ HB hx211_0
            replace hx211_1 := zx_ HB hx211_1
            replace hx211_2 := zx_ HB hx211_2
            replace hx211_3 := zx_ HB hx211_3
            replace hx211_4 := zx_ HB hx211_4
            replace hx211_5 := zx_ HB hx211_5
            replace hx211_6 := zx_ HB hx211_6
            replace p211 := eq_true p211
            replace q211 := eq_true q211
            try go_wp2
            replace HB := am_ (below_drew1 HB.out)
            have p212 : 0 ≤ (x5_1 : Int) := zo_
            have q212 : x5_1 < (l0.length : Int) := zo_
            obtain ⟨ad212,e212,hx212_0,hx212_1,hx212_2,hx212_3,hx212_4,hx212_5,hx212_6⟩ := at_T55 HR0.out x5_1 p212 q212
            have hw212_6 := hx212_6
            have hw212_5 := hx212_5
            have hw212_4 := hx212_4
            have hw212_3 := hx212_3
            have hw212_2 := hx212_2
            have hw212_1 := hx212_1
            have hw212_0 := hx212_0
            obtain rfl : ad208 = ad212 := (by injection e212)
            replace hx212_0 := zx_ HB hx212_0
            replace hx212_1 := zx_ HB hx212_1
            replace hx212_2 := zx_ HB hx212_2
            replace hx212_3 := zx_ HB hx212_3
            replace hx212_4 := zx_ HB hx212_4
            replace hx212_5 := zx_ HB hx212_5
            replace hx212_6 := zx_ HB hx212_6
            replace p212 := eq_true p212
            replace q212 := eq_true q212
            refine start_ (n := 8) (S := fun w' => w'.cell? (ad208.add ((x5_1).toNat * 7)) = some (.int .i64 ((rd_T55 l0 x5_1).f0)) ∧ w'.cell? ⟨(ad208.add ((x5_1).toNat * 7)).block,(ad208.add ((x5_1).toNat * 7)).off + 1,none⟩ = some (.int .i64 ((rd_T55 l0 x5_1).f1)) ∧ w'.cell? ⟨(ad208.add ((x5_1).toNat * 7)).block,(ad208.add ((x5_1).toNat * 7)).off + 2,none⟩ = some (.int .i64 ((rd_T55 l0 x5_1).f2)) ∧ w'.cell? ⟨(ad208.add ((x5_1).toNat * 7)).block,(ad208.add ((x5_1).toNat * 7)).off + 3,none⟩ = some (.int .i64 ((rd_T55 l0 x5_1).f3)) ∧ w'.cell? ⟨(ad208.add ((x5_1).toNat * 7)).block,(ad208.add ((x5_1).toNat * 7)).off + 4,none⟩ = some (.string ((rd_T55 l0 x5_1).f4)) ∧ w'.cell? ⟨(ad208.add ((x5_1).toNat * 7)).block,(ad208.add ((x5_1).toNat * 7)).off + 5,none⟩ = some (.string ((rd_T55 l0 x5_1).f5)) ∧ w'.cell? ⟨(ad208.add ((x5_1).toNat * 7)).block,(ad208.add ((x5_1).toNat * 7)).off + 6,none⟩ = some (.string ((rd_T55 l0 x5_1).f6))) (ds := []) #[false,false,false,false,false,false,false,false] (by kernel_rfl) rfl rfl ⟨(zx_ HB hw212_0),(zx_ HB hw212_1),(zx_ HB hw212_2),(zx_ HB hw212_3),(zx_ HB hw212_4),(zx_ HB hw212_5),(zx_ HB hw212_6)⟩ (fun hHeld => ?_);refine with_tabW laws_heldMessageS.tab16 laws_heldMessageS.bits16 (fun HT_ HW_ => ?_)
            generalize wr.drew = w15 at HB hx212_0 hx212_1 hx212_2 hx212_3 hx212_4 hx212_5 hx212_6 hHeld ⊢
            refine zpu 0 (N := some 48) HT_ ?_
            refine zpu 1 (N := some 49) HT_ ?_
            refine zpu 2 (N := some 50) HT_ ?_
            refine zpu 3 (N := some 51) HT_ ?_
            refine zpu 5 (N := some 53) HT_ ?_
            refine ztk 4 (N := some 52) HT_ HW_ hHeld ?_
            refine zon 6 (N := some 54) HT_ (fun K hK => ?_)
            refine zgo Try.func31 #[.int .i64 (wrap64 ((wrap64 ((wrap64 ((wrap64 (x1_1 + 1)) + 1)) + 1)) + 1))] ?_
            with_reducible refine (laws_markText.calls k1 (wrap64 ((wrap64 ((wrap64 ((wrap64 (x1_1 + 1)) + 1)) + 1)) + 1)) t213 _ A9.out).mono ?_
            rintro e w16 ⟨rfl,hb⟩
            refine ⟨_,rfl,?_⟩
            replace HB := zs_ HB hb
            (try clear hb)
            (try clear hb2)
            (try clear hk)
            (try clear hi)
            refine hK.out _ _ ⟨(zx_ HB hw212_0),(zx_ HB hw212_1),(zx_ HB hw212_2),(zx_ HB hw212_3),(zx_ HB hw212_4),(zx_ HB hw212_5),(zx_ HB hw212_6)⟩ (fun hHeld => ?_)
            clear hK K
            refine norm_ (a' := ?_) ?_ ?_
            rotate_left
            ·show Act.put _ (some 54) _ = _
             simp only [Act.put,p1_,p2_,p3_,i64_w,i32_w]
             rfl
            refine zpu 7 (N := some 55) HT_ ?_
            refine done_ (done_of HT_.out (by kernel_rfl)) ?_
            try go_wp2
            replace HB := am_ (below_drew1 HB.out)
            have p214 : 0 ≤ (x5_1 : Int) := zo_
            have q214 : x5_1 < (l0.length : Int) := zo_
            obtain ⟨ad214,e214,hx214_0,hx214_1,hx214_2,hx214_3,hx214_4,hx214_5,hx214_6⟩ := at_T55 HR0.out x5_1 p214 q214
            have hw214_6 := hx214_6
            have hw214_5 := hx214_5
            have hw214_4 := hx214_4
            have hw214_3 := hx214_3
            have hw214_2 := hx214_2
            have hw214_1 := hx214_1
            have hw214_0 := hx214_0
            obtain rfl : ad208 = ad214 := (by injection e214)
            replace hx214_0 := zx_ HB hx214_0
            replace hx214_1 := zx_ HB hx214_1
            replace hx214_2 := zx_ HB hx214_2
            replace hx214_3 := zx_ HB hx214_3
            replace hx214_4 := zx_ HB hx214_4
            replace hx214_5 := zx_ HB hx214_5
            replace hx214_6 := zx_ HB hx214_6
            replace p214 := eq_true p214
            replace q214 := eq_true q214
            refine start_ (n := 8) (S := fun w' => w'.cell? (ad208.add ((x5_1).toNat * 7)) = some (.int .i64 ((rd_T55 l0 x5_1).f0)) ∧ w'.cell? ⟨(ad208.add ((x5_1).toNat * 7)).block,(ad208.add ((x5_1).toNat * 7)).off + 1,none⟩ = some (.int .i64 ((rd_T55 l0 x5_1).f1)) ∧ w'.cell? ⟨(ad208.add ((x5_1).toNat * 7)).block,(ad208.add ((x5_1).toNat * 7)).off + 2,none⟩ = some (.int .i64 ((rd_T55 l0 x5_1).f2)) ∧ w'.cell? ⟨(ad208.add ((x5_1).toNat * 7)).block,(ad208.add ((x5_1).toNat * 7)).off + 3,none⟩ = some (.int .i64 ((rd_T55 l0 x5_1).f3)) ∧ w'.cell? ⟨(ad208.add ((x5_1).toNat * 7)).block,(ad208.add ((x5_1).toNat * 7)).off + 4,none⟩ = some (.string ((rd_T55 l0 x5_1).f4)) ∧ w'.cell? ⟨(ad208.add ((x5_1).toNat * 7)).block,(ad208.add ((x5_1).toNat * 7)).off + 5,none⟩ = some (.string ((rd_T55 l0 x5_1).f5)) ∧ w'.cell? ⟨(ad208.add ((x5_1).toNat * 7)).block,(ad208.add ((x5_1).toNat * 7)).off + 6,none⟩ = some (.string ((rd_T55 l0 x5_1).f6))) (ds := []) #[false,false,false,false,false,false,false,false] (by kernel_rfl) rfl rfl ⟨(zx_ HB hw214_0),(zx_ HB hw214_1),(zx_ HB hw214_2),(zx_ HB hw214_3),(zx_ HB hw214_4),(zx_ HB hw214_5),(zx_ HB hw214_6)⟩ (fun hHeld => ?_);refine with_tabW laws_heldMessageS.tab19 laws_heldMessageS.bits19 (fun HT_ HW_ => ?_)
            generalize w16.drew = w17 at HB hx214_0 hx214_1 hx214_2 hx214_3 hx214_4 hx214_5 hx214_6 hHeld ⊢
            refine zpu 0 (N := some 58) HT_ ?_
            refine zpu 1 (N := some 59) HT_ ?_
            refine zpu 2 (N := some 60) HT_ ?_
            refine zpu 3 (N := some 61) HT_ ?_
            refine zpu 5 (N := some 63) HT_ ?_
            refine ztk 4 (N := some 62) HT_ HW_ hHeld ?_
            refine zon 6 (N := some 64) HT_ (fun K hK => ?_)
            refine zgo Try.func31 #[.int .i64 (wrap64 ((wrap64 ((wrap64 ((wrap64 ((wrap64 (x1_1 + 1)) + 1)) + 1)) + 1)) + 1))] ?_
            with_reducible refine (laws_markText.calls k1 (wrap64 ((wrap64 ((wrap64 ((wrap64 ((wrap64 (x1_1 + 1)) + 1)) + 1)) + 1)) + 1)) t215 _ A11.out).mono ?_
            rintro e w18 ⟨rfl,hb⟩
            refine ⟨_,rfl,?_⟩
            replace HB := zs_ HB hb
            (try clear hb)
            (try clear hb2)
            (try clear hk)
            (try clear hi)
            refine hK.out _ _ ⟨(zx_ HB hw214_0),(zx_ HB hw214_1),(zx_ HB hw214_2),(zx_ HB hw214_3),(zx_ HB hw214_4),(zx_ HB hw214_5),(zx_ HB hw214_6)⟩ (fun hHeld => ?_)
            clear hK K
            refine norm_ (a' := ?_) ?_ ?_
            rotate_left
            ·show Act.put _ (some 64) _ = _
             simp only [Act.put,p1_,p2_,p3_,i64_w,i32_w]
             rfl
            refine zpu 7 (N := some 65) HT_ ?_
            refine done_ (done_of HT_.out (by kernel_rfl)) ?_
            try go_wp2
            replace HB := am_ (below_drew1 HB.out)
            have p216 : 0 ≤ (x5_1 : Int) := zo_
            have q216 : x5_1 < (l0.length : Int) := zo_
            obtain ⟨ad216,e216,hx216_0,hx216_1,hx216_2,hx216_3,hx216_4,hx216_5,hx216_6⟩ := at_T55 HR0.out x5_1 p216 q216
            have hw216_6 := hx216_6
            have hw216_5 := hx216_5
            have hw216_4 := hx216_4
            have hw216_3 := hx216_3
            have hw216_2 := hx216_2
            have hw216_1 := hx216_1
            have hw216_0 := hx216_0
            obtain rfl : ad208 = ad216 := (by injection e216)
            replace hx216_0 := zx_ HB hx216_0
            replace hx216_1 := zx_ HB hx216_1
            replace hx216_2 := zx_ HB hx216_2
            replace hx216_3 := zx_ HB hx216_3
            replace hx216_4 := zx_ HB hx216_4
            replace hx216_5 := zx_ HB hx216_5
            replace hx216_6 := zx_ HB hx216_6
            replace p216 := eq_true p216
            replace q216 := eq_true q216
            refine start_ (n := 8) (S := fun w' => w'.cell? (ad208.add ((x5_1).toNat * 7)) = some (.int .i64 ((rd_T55 l0 x5_1).f0)) ∧ w'.cell? ⟨(ad208.add ((x5_1).toNat * 7)).block,(ad208.add ((x5_1).toNat * 7)).off + 1,none⟩ = some (.int .i64 ((rd_T55 l0 x5_1).f1)) ∧ w'.cell? ⟨(ad208.add ((x5_1).toNat * 7)).block,(ad208.add ((x5_1).toNat * 7)).off + 2,none⟩ = some (.int .i64 ((rd_T55 l0 x5_1).f2)) ∧ w'.cell? ⟨(ad208.add ((x5_1).toNat * 7)).block,(ad208.add ((x5_1).toNat * 7)).off + 3,none⟩ = some (.int .i64 ((rd_T55 l0 x5_1).f3)) ∧ w'.cell? ⟨(ad208.add ((x5_1).toNat * 7)).block,(ad208.add ((x5_1).toNat * 7)).off + 4,none⟩ = some (.string ((rd_T55 l0 x5_1).f4)) ∧ w'.cell? ⟨(ad208.add ((x5_1).toNat * 7)).block,(ad208.add ((x5_1).toNat * 7)).off + 5,none⟩ = some (.string ((rd_T55 l0 x5_1).f5)) ∧ w'.cell? ⟨(ad208.add ((x5_1).toNat * 7)).block,(ad208.add ((x5_1).toNat * 7)).off + 6,none⟩ = some (.string ((rd_T55 l0 x5_1).f6))) (ds := []) #[false,false,false,false,false,false,false,false] (by kernel_rfl) rfl rfl ⟨(zx_ HB hw216_0),(zx_ HB hw216_1),(zx_ HB hw216_2),(zx_ HB hw216_3),(zx_ HB hw216_4),(zx_ HB hw216_5),(zx_ HB hw216_6)⟩ (fun hHeld => ?_);refine with_tabW laws_heldMessageS.tab22 laws_heldMessageS.bits22 (fun HT_ HW_ => ?_)
            generalize w18.drew = w19 at HB hx216_0 hx216_1 hx216_2 hx216_3 hx216_4 hx216_5 hx216_6 hHeld ⊢
            refine zpu 0 (N := some 68) HT_ ?_
            refine zpu 1 (N := some 69) HT_ ?_
            refine zpu 2 (N := some 70) HT_ ?_
            refine zpu 3 (N := some 71) HT_ ?_
            refine zpu 5 (N := some 73) HT_ ?_
            refine ztk 4 (N := some 72) HT_ HW_ hHeld ?_
            refine zon 6 (N := some 74) HT_ (fun K hK => ?_)
            refine zgo Try.func31 #[.int .i64 (wrap64 ((wrap64 ((wrap64 ((wrap64 ((wrap64 ((wrap64 (x1_1 + 1)) + 1)) + 1)) + 1)) + 1)) + 1))] ?_
            with_reducible refine (laws_markText.calls k1 (wrap64 ((wrap64 ((wrap64 ((wrap64 ((wrap64 ((wrap64 (x1_1 + 1)) + 1)) + 1)) + 1)) + 1)) + 1)) t217 _ A13.out).mono ?_
            rintro e w20 ⟨rfl,hb⟩
            refine ⟨_,rfl,?_⟩
            replace HB := zs_ HB hb
            (try clear hb)
            (try clear hb2)
            (try clear hk)
            (try clear hi)
            refine hK.out _ _ ⟨(zx_ HB hw216_0),(zx_ HB hw216_1),(zx_ HB hw216_2),(zx_ HB hw216_3),(zx_ HB hw216_4),(zx_ HB hw216_5),(zx_ HB hw216_6)⟩ (fun hHeld => ?_)
            clear hK K
            refine norm_ (a' := ?_) ?_ ?_
            rotate_left
            ·show Act.put _ (some 74) _ = _
             simp only [Act.put,p1_,p2_,p3_,i64_w,i32_w]
             rfl
            refine zpu 7 (N := some 75) HT_ ?_
            refine done_ (done_of HT_.out (by kernel_rfl)) ?_
            try go_wp2
            go_roundg k1
            case measure => have := HK1.out;omega
            case rel => exact ⟨(wrap64 ((wrap64 ((wrap64 ((wrap64 ((wrap64 ((wrap64 ((wrap64 (x1_1 + 1)) + 1)) + 1)) + 1)) + 1)) + 1)) + 1)),(wrap64 (x5_1 + 1)),(by first | rfl | (simp;done) | (simp [*];done)),(by first | rfl | (simp;done) | (simp [*];done)),H',⟨by have := HK1.out;omega⟩,⟨zl_ HB⟩⟩
           ·rw [if_neg c14] at H
            have c14b0 : (((rd_T55 l0 x5_1).f6).toList == t217.toList) = false := beq_eq_false_iff_ne.mpr c14
            have c14b1 : (((rd_T55 l0 x5_1).f6).toList != t217.toList) = true := bne_iff_ne.mpr c14
            obtain rfl := Option.some.inj H
            have p208 : 0 ≤ (x5_1 : Int) := zo_
            have q208 : x5_1 < (l0.length : Int) := zo_
            obtain ⟨ad208,e208,hx208_0,hx208_1,hx208_2,hx208_3,hx208_4,hx208_5,hx208_6⟩ := at_T55 HR0.out x5_1 p208 q208
            cases e208
            replace hx208_0 := zx_ HB hx208_0
            replace hx208_1 := zx_ HB hx208_1
            replace hx208_2 := zx_ HB hx208_2
            replace hx208_3 := zx_ HB hx208_3
            replace hx208_4 := zx_ HB hx208_4
            replace hx208_5 := zx_ HB hx208_5
            replace hx208_6 := zx_ HB hx208_6
            replace p208 := eq_true p208
            replace q208 := eq_true q208
            have p209 : 0 ≤ (x5_1 : Int) := zo_
            have q209 : x5_1 < (l0.length : Int) := zo_
            obtain ⟨ad209,e209,hx209_0,hx209_1,hx209_2,hx209_3,hx209_4,hx209_5,hx209_6⟩ := at_T55 HR0.out x5_1 p209 q209
            obtain rfl : ad208 = ad209 := (by injection e209)
            replace hx209_0 := zx_ HB hx209_0
            replace hx209_1 := zx_ HB hx209_1
            replace hx209_2 := zx_ HB hx209_2
            replace hx209_3 := zx_ HB hx209_3
            replace hx209_4 := zx_ HB hx209_4
            replace hx209_5 := zx_ HB hx209_5
            replace hx209_6 := zx_ HB hx209_6
            replace p209 := eq_true p209
            replace q209 := eq_true q209
            have p210 : 0 ≤ (x5_1 : Int) := zo_
            have q210 : x5_1 < (l0.length : Int) := zo_
            obtain ⟨ad210,e210,hx210_0,hx210_1,hx210_2,hx210_3,hx210_4,hx210_5,hx210_6⟩ := at_T55 HR0.out x5_1 p210 q210
            obtain rfl : ad208 = ad210 := (by injection e210)
            replace hx210_0 := zx_ HB hx210_0
            replace hx210_1 := zx_ HB hx210_1
            replace hx210_2 := zx_ HB hx210_2
            replace hx210_3 := zx_ HB hx210_3
            replace hx210_4 := zx_ HB hx210_4
            replace hx210_5 := zx_ HB hx210_5
            replace hx210_6 := zx_ HB hx210_6
            replace p210 := eq_true p210
            replace q210 := eq_true q210
            have p211 : 0 ≤ (x5_1 : Int) := zo_
            have q211 : x5_1 < (l0.length : Int) := zo_
            obtain ⟨ad211,e211,hx211_0,hx211_1,hx211_2,hx211_3,hx211_4,hx211_5,hx211_6⟩ := at_T55 HR0.out x5_1 p211 q211
            obtain rfl : ad208 = ad211 := (by injection e211)
            replace hx211_0 := zx_ HB hx211_0
            replace hx211_1 := zx_ HB hx211_1
            replace hx211_2 := zx_ HB hx211_2
            replace hx211_3 := zx_ HB hx211_3
            replace hx211_4 := zx_ HB hx211_4
            replace hx211_5 := zx_ HB hx211_5
            replace hx211_6 := zx_ HB hx211_6
            replace p211 := eq_true p211
            replace q211 := eq_true q211
            try go_wp2
            replace HB := am_ (below_drew1 HB.out)
            have p212 : 0 ≤ (x5_1 : Int) := zo_
            have q212 : x5_1 < (l0.length : Int) := zo_
            obtain ⟨ad212,e212,hx212_0,hx212_1,hx212_2,hx212_3,hx212_4,hx212_5,hx212_6⟩ := at_T55 HR0.out x5_1 p212 q212
            have hw212_6 := hx212_6
            have hw212_5 := hx212_5
            have hw212_4 := hx212_4
            have hw212_3 := hx212_3
            have hw212_2 := hx212_2
            have hw212_1 := hx212_1
            have hw212_0 := hx212_0
            obtain rfl : ad208 = ad212 := (by injection e212)
            replace hx212_0 := zx_ HB hx212_0
            replace hx212_1 := zx_ HB hx212_1
            replace hx212_2 := zx_ HB hx212_2
            replace hx212_3 := zx_ HB hx212_3
            replace hx212_4 := zx_ HB hx212_4
            replace hx212_5 := zx_ HB hx212_5
            replace hx212_6 := zx_ HB hx212_6
            replace p212 := eq_true p212
            replace q212 := eq_true q212
            refine start_ (n := 8) (S := fun w' => w'.cell? (ad208.add ((x5_1).toNat * 7)) = some (.int .i64 ((rd_T55 l0 x5_1).f0)) ∧ w'.cell? ⟨(ad208.add ((x5_1).toNat * 7)).block,(ad208.add ((x5_1).toNat * 7)).off + 1,none⟩ = some (.int .i64 ((rd_T55 l0 x5_1).f1)) ∧ w'.cell? ⟨(ad208.add ((x5_1).toNat * 7)).block,(ad208.add ((x5_1).toNat * 7)).off + 2,none⟩ = some (.int .i64 ((rd_T55 l0 x5_1).f2)) ∧ w'.cell? ⟨(ad208.add ((x5_1).toNat * 7)).block,(ad208.add ((x5_1).toNat * 7)).off + 3,none⟩ = some (.int .i64 ((rd_T55 l0 x5_1).f3)) ∧ w'.cell? ⟨(ad208.add ((x5_1).toNat * 7)).block,(ad208.add ((x5_1).toNat * 7)).off + 4,none⟩ = some (.string ((rd_T55 l0 x5_1).f4)) ∧ w'.cell? ⟨(ad208.add ((x5_1).toNat * 7)).block,(ad208.add ((x5_1).toNat * 7)).off + 5,none⟩ = some (.string ((rd_T55 l0 x5_1).f5)) ∧ w'.cell? ⟨(ad208.add ((x5_1).toNat * 7)).block,(ad208.add ((x5_1).toNat * 7)).off + 6,none⟩ = some (.string ((rd_T55 l0 x5_1).f6))) (ds := []) #[false,false,false,false,false,false,false,false] (by kernel_rfl) rfl rfl ⟨(zx_ HB hw212_0),(zx_ HB hw212_1),(zx_ HB hw212_2),(zx_ HB hw212_3),(zx_ HB hw212_4),(zx_ HB hw212_5),(zx_ HB hw212_6)⟩ (fun hHeld => ?_);refine with_tabW laws_heldMessageS.tab16 laws_heldMessageS.bits16 (fun HT_ HW_ => ?_)
            generalize wr.drew = w21 at HB hx212_0 hx212_1 hx212_2 hx212_3 hx212_4 hx212_5 hx212_6 hHeld ⊢
            refine zpu 0 (N := some 48) HT_ ?_
            refine zpu 1 (N := some 49) HT_ ?_
            refine zpu 2 (N := some 50) HT_ ?_
            refine zpu 3 (N := some 51) HT_ ?_
            refine zpu 5 (N := some 53) HT_ ?_
            refine ztk 4 (N := some 52) HT_ HW_ hHeld ?_
            refine zon 6 (N := some 54) HT_ (fun K hK => ?_)
            refine zgo Try.func31 #[.int .i64 (wrap64 ((wrap64 ((wrap64 ((wrap64 (x1_1 + 1)) + 1)) + 1)) + 1))] ?_
            with_reducible refine (laws_markText.calls k1 (wrap64 ((wrap64 ((wrap64 ((wrap64 (x1_1 + 1)) + 1)) + 1)) + 1)) t213 _ A9.out).mono ?_
            rintro e w22 ⟨rfl,hb⟩
            refine ⟨_,rfl,?_⟩
            replace HB := zs_ HB hb
            (try clear hb)
            (try clear hb2)
            (try clear hk)
            (try clear hi)
            refine hK.out _ _ ⟨(zx_ HB hw212_0),(zx_ HB hw212_1),(zx_ HB hw212_2),(zx_ HB hw212_3),(zx_ HB hw212_4),(zx_ HB hw212_5),(zx_ HB hw212_6)⟩ (fun hHeld => ?_)
            clear hK K
            refine norm_ (a' := ?_) ?_ ?_
            rotate_left
            ·show Act.put _ (some 54) _ = _
             simp only [Act.put,p1_,p2_,p3_,i64_w,i32_w]
             rfl
            refine zpu 7 (N := some 55) HT_ ?_
            refine done_ (done_of HT_.out (by kernel_rfl)) ?_
            try go_wp2
            replace HB := am_ (below_drew1 HB.out)
            have p214 : 0 ≤ (x5_1 : Int) := zo_
            have q214 : x5_1 < (l0.length : Int) := zo_
            obtain ⟨ad214,e214,hx214_0,hx214_1,hx214_2,hx214_3,hx214_4,hx214_5,hx214_6⟩ := at_T55 HR0.out x5_1 p214 q214
            have hw214_6 := hx214_6
            have hw214_5 := hx214_5
            have hw214_4 := hx214_4
            have hw214_3 := hx214_3
            have hw214_2 := hx214_2
            have hw214_1 := hx214_1
            have hw214_0 := hx214_0
            obtain rfl : ad208 = ad214 := (by injection e214)
            replace hx214_0 := zx_ HB hx214_0
            replace hx214_1 := zx_ HB hx214_1
            replace hx214_2 := zx_ HB hx214_2
            replace hx214_3 := zx_ HB hx214_3
            replace hx214_4 := zx_ HB hx214_4
            replace hx214_5 := zx_ HB hx214_5
            replace hx214_6 := zx_ HB hx214_6
            replace p214 := eq_true p214
            replace q214 := eq_true q214
            refine start_ (n := 8) (S := fun w' => w'.cell? (ad208.add ((x5_1).toNat * 7)) = some (.int .i64 ((rd_T55 l0 x5_1).f0)) ∧ w'.cell? ⟨(ad208.add ((x5_1).toNat * 7)).block,(ad208.add ((x5_1).toNat * 7)).off + 1,none⟩ = some (.int .i64 ((rd_T55 l0 x5_1).f1)) ∧ w'.cell? ⟨(ad208.add ((x5_1).toNat * 7)).block,(ad208.add ((x5_1).toNat * 7)).off + 2,none⟩ = some (.int .i64 ((rd_T55 l0 x5_1).f2)) ∧ w'.cell? ⟨(ad208.add ((x5_1).toNat * 7)).block,(ad208.add ((x5_1).toNat * 7)).off + 3,none⟩ = some (.int .i64 ((rd_T55 l0 x5_1).f3)) ∧ w'.cell? ⟨(ad208.add ((x5_1).toNat * 7)).block,(ad208.add ((x5_1).toNat * 7)).off + 4,none⟩ = some (.string ((rd_T55 l0 x5_1).f4)) ∧ w'.cell? ⟨(ad208.add ((x5_1).toNat * 7)).block,(ad208.add ((x5_1).toNat * 7)).off + 5,none⟩ = some (.string ((rd_T55 l0 x5_1).f5)) ∧ w'.cell? ⟨(ad208.add ((x5_1).toNat * 7)).block,(ad208.add ((x5_1).toNat * 7)).off + 6,none⟩ = some (.string ((rd_T55 l0 x5_1).f6))) (ds := []) #[false,false,false,false,false,false,false,false] (by kernel_rfl) rfl rfl ⟨(zx_ HB hw214_0),(zx_ HB hw214_1),(zx_ HB hw214_2),(zx_ HB hw214_3),(zx_ HB hw214_4),(zx_ HB hw214_5),(zx_ HB hw214_6)⟩ (fun hHeld => ?_);refine with_tabW laws_heldMessageS.tab19 laws_heldMessageS.bits19 (fun HT_ HW_ => ?_)
            generalize w22.drew = w23 at HB hx214_0 hx214_1 hx214_2 hx214_3 hx214_4 hx214_5 hx214_6 hHeld ⊢
            refine zpu 0 (N := some 58) HT_ ?_
            refine zpu 1 (N := some 59) HT_ ?_
            refine zpu 2 (N := some 60) HT_ ?_
            refine zpu 3 (N := some 61) HT_ ?_
            refine zpu 5 (N := some 63) HT_ ?_
            refine ztk 4 (N := some 62) HT_ HW_ hHeld ?_
            refine zon 6 (N := some 64) HT_ (fun K hK => ?_)
            refine zgo Try.func31 #[.int .i64 (wrap64 ((wrap64 ((wrap64 ((wrap64 ((wrap64 (x1_1 + 1)) + 1)) + 1)) + 1)) + 1))] ?_
            with_reducible refine (laws_markText.calls k1 (wrap64 ((wrap64 ((wrap64 ((wrap64 ((wrap64 (x1_1 + 1)) + 1)) + 1)) + 1)) + 1)) t215 _ A11.out).mono ?_
            rintro e w24 ⟨rfl,hb⟩
            refine ⟨_,rfl,?_⟩
            replace HB := zs_ HB hb
            (try clear hb)
            (try clear hb2)
            (try clear hk)
            (try clear hi)
            refine hK.out _ _ ⟨(zx_ HB hw214_0),(zx_ HB hw214_1),(zx_ HB hw214_2),(zx_ HB hw214_3),(zx_ HB hw214_4),(zx_ HB hw214_5),(zx_ HB hw214_6)⟩ (fun hHeld => ?_)
            clear hK K
            refine norm_ (a' := ?_) ?_ ?_
            rotate_left
            ·show Act.put _ (some 64) _ = _
             simp only [Act.put,p1_,p2_,p3_,i64_w,i32_w]
             rfl
            refine zpu 7 (N := some 65) HT_ ?_
            refine done_ (done_of HT_.out (by kernel_rfl)) ?_
            try go_wp2
            replace HB := am_ (below_drew1 HB.out)
            have p216 : 0 ≤ (x5_1 : Int) := zo_
            have q216 : x5_1 < (l0.length : Int) := zo_
            obtain ⟨ad216,e216,hx216_0,hx216_1,hx216_2,hx216_3,hx216_4,hx216_5,hx216_6⟩ := at_T55 HR0.out x5_1 p216 q216
            have hw216_6 := hx216_6
            have hw216_5 := hx216_5
            have hw216_4 := hx216_4
            have hw216_3 := hx216_3
            have hw216_2 := hx216_2
            have hw216_1 := hx216_1
            have hw216_0 := hx216_0
            obtain rfl : ad208 = ad216 := (by injection e216)
            replace hx216_0 := zx_ HB hx216_0
            replace hx216_1 := zx_ HB hx216_1
            replace hx216_2 := zx_ HB hx216_2
            replace hx216_3 := zx_ HB hx216_3
            replace hx216_4 := zx_ HB hx216_4
            replace hx216_5 := zx_ HB hx216_5
            replace hx216_6 := zx_ HB hx216_6
            replace p216 := eq_true p216
            replace q216 := eq_true q216
            refine start_ (n := 8) (S := fun w' => w'.cell? (ad208.add ((x5_1).toNat * 7)) = some (.int .i64 ((rd_T55 l0 x5_1).f0)) ∧ w'.cell? ⟨(ad208.add ((x5_1).toNat * 7)).block,(ad208.add ((x5_1).toNat * 7)).off + 1,none⟩ = some (.int .i64 ((rd_T55 l0 x5_1).f1)) ∧ w'.cell? ⟨(ad208.add ((x5_1).toNat * 7)).block,(ad208.add ((x5_1).toNat * 7)).off + 2,none⟩ = some (.int .i64 ((rd_T55 l0 x5_1).f2)) ∧ w'.cell? ⟨(ad208.add ((x5_1).toNat * 7)).block,(ad208.add ((x5_1).toNat * 7)).off + 3,none⟩ = some (.int .i64 ((rd_T55 l0 x5_1).f3)) ∧ w'.cell? ⟨(ad208.add ((x5_1).toNat * 7)).block,(ad208.add ((x5_1).toNat * 7)).off + 4,none⟩ = some (.string ((rd_T55 l0 x5_1).f4)) ∧ w'.cell? ⟨(ad208.add ((x5_1).toNat * 7)).block,(ad208.add ((x5_1).toNat * 7)).off + 5,none⟩ = some (.string ((rd_T55 l0 x5_1).f5)) ∧ w'.cell? ⟨(ad208.add ((x5_1).toNat * 7)).block,(ad208.add ((x5_1).toNat * 7)).off + 6,none⟩ = some (.string ((rd_T55 l0 x5_1).f6))) (ds := []) #[false,false,false,false,false,false,false,false] (by kernel_rfl) rfl rfl ⟨(zx_ HB hw216_0),(zx_ HB hw216_1),(zx_ HB hw216_2),(zx_ HB hw216_3),(zx_ HB hw216_4),(zx_ HB hw216_5),(zx_ HB hw216_6)⟩ (fun hHeld => ?_);refine with_tabW laws_heldMessageS.tab22 laws_heldMessageS.bits22 (fun HT_ HW_ => ?_)
            generalize w24.drew = w25 at HB hx216_0 hx216_1 hx216_2 hx216_3 hx216_4 hx216_5 hx216_6 hHeld ⊢
            refine zpu 0 (N := some 68) HT_ ?_
            refine zpu 1 (N := some 69) HT_ ?_
            refine zpu 2 (N := some 70) HT_ ?_
            refine zpu 3 (N := some 71) HT_ ?_
            refine zpu 5 (N := some 73) HT_ ?_
            refine ztk 4 (N := some 72) HT_ HW_ hHeld ?_
            refine zon 6 (N := some 74) HT_ (fun K hK => ?_)
            refine zgo Try.func31 #[.int .i64 (wrap64 ((wrap64 ((wrap64 ((wrap64 ((wrap64 ((wrap64 (x1_1 + 1)) + 1)) + 1)) + 1)) + 1)) + 1))] ?_
            with_reducible refine (laws_markText.calls k1 (wrap64 ((wrap64 ((wrap64 ((wrap64 ((wrap64 ((wrap64 (x1_1 + 1)) + 1)) + 1)) + 1)) + 1)) + 1)) t217 _ A13.out).mono ?_
            rintro e w26 ⟨rfl,hb⟩
            refine ⟨_,rfl,?_⟩
            replace HB := zs_ HB hb
            (try clear hb)
            (try clear hb2)
            (try clear hk)
            (try clear hi)
            refine hK.out _ _ ⟨(zx_ HB hw216_0),(zx_ HB hw216_1),(zx_ HB hw216_2),(zx_ HB hw216_3),(zx_ HB hw216_4),(zx_ HB hw216_5),(zx_ HB hw216_6)⟩ (fun hHeld => ?_)
            clear hK K
            refine norm_ (a' := ?_) ?_ ?_
            rotate_left
            ·show Act.put _ (some 74) _ = _
             simp only [Act.put,p1_,p2_,p3_,i64_w,i32_w]
             rfl
            refine zpu 7 (N := some 75) HT_ ?_
            refine done_ (done_of HT_.out (by kernel_rfl)) ?_
            try go_wp2
            go_ret
            exact ⟨zt_,zl_ HB⟩
          ·rw [if_neg c12] at H
           have c12b0 : (((rd_T55 l0 x5_1).f5).toList == t215.toList) = false := beq_eq_false_iff_ne.mpr c12
           have c12b1 : (((rd_T55 l0 x5_1).f5).toList != t215.toList) = true := bne_iff_ne.mpr c12
           obtain rfl := Option.some.inj H
           have p208 : 0 ≤ (x5_1 : Int) := zo_
           have q208 : x5_1 < (l0.length : Int) := zo_
           obtain ⟨ad208,e208,hx208_0,hx208_1,hx208_2,hx208_3,hx208_4,hx208_5,hx208_6⟩ := at_T55 HR0.out x5_1 p208 q208
           cases e208
           replace hx208_0 := zx_ HB hx208_0
           replace hx208_1 := zx_ HB hx208_1
           replace hx208_2 := zx_ HB hx208_2
           replace hx208_3 := zx_ HB hx208_3
           replace hx208_4 := zx_ HB hx208_4
           replace hx208_5 := zx_ HB hx208_5
           replace hx208_6 := zx_ HB hx208_6
           replace p208 := eq_true p208
           replace q208 := eq_true q208
           have p209 : 0 ≤ (x5_1 : Int) := zo_
           have q209 : x5_1 < (l0.length : Int) := zo_
           obtain ⟨ad209,e209,hx209_0,hx209_1,hx209_2,hx209_3,hx209_4,hx209_5,hx209_6⟩ := at_T55 HR0.out x5_1 p209 q209
           obtain rfl : ad208 = ad209 := (by injection e209)
           replace hx209_0 := zx_ HB hx209_0
           replace hx209_1 := zx_ HB hx209_1
           replace hx209_2 := zx_ HB hx209_2
           replace hx209_3 := zx_ HB hx209_3
           replace hx209_4 := zx_ HB hx209_4
           replace hx209_5 := zx_ HB hx209_5
           replace hx209_6 := zx_ HB hx209_6
           replace p209 := eq_true p209
           replace q209 := eq_true q209
           have p210 : 0 ≤ (x5_1 : Int) := zo_
           have q210 : x5_1 < (l0.length : Int) := zo_
           obtain ⟨ad210,e210,hx210_0,hx210_1,hx210_2,hx210_3,hx210_4,hx210_5,hx210_6⟩ := at_T55 HR0.out x5_1 p210 q210
           obtain rfl : ad208 = ad210 := (by injection e210)
           replace hx210_0 := zx_ HB hx210_0
           replace hx210_1 := zx_ HB hx210_1
           replace hx210_2 := zx_ HB hx210_2
           replace hx210_3 := zx_ HB hx210_3
           replace hx210_4 := zx_ HB hx210_4
           replace hx210_5 := zx_ HB hx210_5
           replace hx210_6 := zx_ HB hx210_6
           replace p210 := eq_true p210
           replace q210 := eq_true q210
           have p211 : 0 ≤ (x5_1 : Int) := zo_
           have q211 : x5_1 < (l0.length : Int) := zo_
           obtain ⟨ad211,e211,hx211_0,hx211_1,hx211_2,hx211_3,hx211_4,hx211_5,hx211_6⟩ := at_T55 HR0.out x5_1 p211 q211
           obtain rfl : ad208 = ad211 := (by injection e211)
           replace hx211_0 := zx_ HB hx211_0
           replace hx211_1 := zx_ HB hx211_1
           replace hx211_2 := zx_ HB hx211_2
           replace hx211_3 := zx_ HB hx211_3
           replace hx211_4 := zx_ HB hx211_4
           replace hx211_5 := zx_ HB hx211_5
           replace hx211_6 := zx_ HB hx211_6
           replace p211 := eq_true p211
           replace q211 := eq_true q211
           try go_wp2
           replace HB := am_ (below_drew1 HB.out)
           have p212 : 0 ≤ (x5_1 : Int) := zo_
           have q212 : x5_1 < (l0.length : Int) := zo_
           obtain ⟨ad212,e212,hx212_0,hx212_1,hx212_2,hx212_3,hx212_4,hx212_5,hx212_6⟩ := at_T55 HR0.out x5_1 p212 q212
           have hw212_6 := hx212_6
           have hw212_5 := hx212_5
           have hw212_4 := hx212_4
           have hw212_3 := hx212_3
           have hw212_2 := hx212_2
           have hw212_1 := hx212_1
           have hw212_0 := hx212_0
           obtain rfl : ad208 = ad212 := (by injection e212)
           replace hx212_0 := zx_ HB hx212_0
           replace hx212_1 := zx_ HB hx212_1
           replace hx212_2 := zx_ HB hx212_2
           replace hx212_3 := zx_ HB hx212_3
           replace hx212_4 := zx_ HB hx212_4
           replace hx212_5 := zx_ HB hx212_5
           replace hx212_6 := zx_ HB hx212_6
           replace p212 := eq_true p212
           replace q212 := eq_true q212
           refine start_ (n := 8) (S := fun w' => w'.cell? (ad208.add ((x5_1).toNat * 7)) = some (.int .i64 ((rd_T55 l0 x5_1).f0)) ∧ w'.cell? ⟨(ad208.add ((x5_1).toNat * 7)).block,(ad208.add ((x5_1).toNat * 7)).off + 1,none⟩ = some (.int .i64 ((rd_T55 l0 x5_1).f1)) ∧ w'.cell? ⟨(ad208.add ((x5_1).toNat * 7)).block,(ad208.add ((x5_1).toNat * 7)).off + 2,none⟩ = some (.int .i64 ((rd_T55 l0 x5_1).f2)) ∧ w'.cell? ⟨(ad208.add ((x5_1).toNat * 7)).block,(ad208.add ((x5_1).toNat * 7)).off + 3,none⟩ = some (.int .i64 ((rd_T55 l0 x5_1).f3)) ∧ w'.cell? ⟨(ad208.add ((x5_1).toNat * 7)).block,(ad208.add ((x5_1).toNat * 7)).off + 4,none⟩ = some (.string ((rd_T55 l0 x5_1).f4)) ∧ w'.cell? ⟨(ad208.add ((x5_1).toNat * 7)).block,(ad208.add ((x5_1).toNat * 7)).off + 5,none⟩ = some (.string ((rd_T55 l0 x5_1).f5)) ∧ w'.cell? ⟨(ad208.add ((x5_1).toNat * 7)).block,(ad208.add ((x5_1).toNat * 7)).off + 6,none⟩ = some (.string ((rd_T55 l0 x5_1).f6))) (ds := []) #[false,false,false,false,false,false,false,false] (by kernel_rfl) rfl rfl ⟨(zx_ HB hw212_0),(zx_ HB hw212_1),(zx_ HB hw212_2),(zx_ HB hw212_3),(zx_ HB hw212_4),(zx_ HB hw212_5),(zx_ HB hw212_6)⟩ (fun hHeld => ?_);refine with_tabW laws_heldMessageS.tab16 laws_heldMessageS.bits16 (fun HT_ HW_ => ?_)
           generalize wr.drew = w27 at HB hx212_0 hx212_1 hx212_2 hx212_3 hx212_4 hx212_5 hx212_6 hHeld ⊢
           refine zpu 0 (N := some 48) HT_ ?_
           refine zpu 1 (N := some 49) HT_ ?_
           refine zpu 2 (N := some 50) HT_ ?_
           refine zpu 3 (N := some 51) HT_ ?_
           refine zpu 5 (N := some 53) HT_ ?_
           refine ztk 4 (N := some 52) HT_ HW_ hHeld ?_
           refine zon 6 (N := some 54) HT_ (fun K hK => ?_)
           refine zgo Try.func31 #[.int .i64 (wrap64 ((wrap64 ((wrap64 ((wrap64 (x1_1 + 1)) + 1)) + 1)) + 1))] ?_
           with_reducible refine (laws_markText.calls k1 (wrap64 ((wrap64 ((wrap64 ((wrap64 (x1_1 + 1)) + 1)) + 1)) + 1)) t213 _ A9.out).mono ?_
           rintro e w28 ⟨rfl,hb⟩
           refine ⟨_,rfl,?_⟩
           replace HB := zs_ HB hb
           (try clear hb)
           (try clear hb2)
           (try clear hk)
           (try clear hi)
           refine hK.out _ _ ⟨(zx_ HB hw212_0),(zx_ HB hw212_1),(zx_ HB hw212_2),(zx_ HB hw212_3),(zx_ HB hw212_4),(zx_ HB hw212_5),(zx_ HB hw212_6)⟩ (fun hHeld => ?_)
           clear hK K
           refine norm_ (a' := ?_) ?_ ?_
           rotate_left
           ·show Act.put _ (some 54) _ = _
            simp only [Act.put,p1_,p2_,p3_,i64_w,i32_w]
            rfl
           refine zpu 7 (N := some 55) HT_ ?_
           refine done_ (done_of HT_.out (by kernel_rfl)) ?_
           try go_wp2
           replace HB := am_ (below_drew1 HB.out)
           have p214 : 0 ≤ (x5_1 : Int) := zo_
           have q214 : x5_1 < (l0.length : Int) := zo_
           obtain ⟨ad214,e214,hx214_0,hx214_1,hx214_2,hx214_3,hx214_4,hx214_5,hx214_6⟩ := at_T55 HR0.out x5_1 p214 q214
           have hw214_6 := hx214_6
           have hw214_5 := hx214_5
           have hw214_4 := hx214_4
           have hw214_3 := hx214_3
           have hw214_2 := hx214_2
           have hw214_1 := hx214_1
           have hw214_0 := hx214_0
           obtain rfl : ad208 = ad214 := (by injection e214)
           replace hx214_0 := zx_ HB hx214_0
           replace hx214_1 := zx_ HB hx214_1
           replace hx214_2 := zx_ HB hx214_2
           replace hx214_3 := zx_ HB hx214_3
           replace hx214_4 := zx_ HB hx214_4
           replace hx214_5 := zx_ HB hx214_5
           replace hx214_6 := zx_ HB hx214_6
           replace p214 := eq_true p214
           replace q214 := eq_true q214
           refine start_ (n := 8) (S := fun w' => w'.cell? (ad208.add ((x5_1).toNat * 7)) = some (.int .i64 ((rd_T55 l0 x5_1).f0)) ∧ w'.cell? ⟨(ad208.add ((x5_1).toNat * 7)).block,(ad208.add ((x5_1).toNat * 7)).off + 1,none⟩ = some (.int .i64 ((rd_T55 l0 x5_1).f1)) ∧ w'.cell? ⟨(ad208.add ((x5_1).toNat * 7)).block,(ad208.add ((x5_1).toNat * 7)).off + 2,none⟩ = some (.int .i64 ((rd_T55 l0 x5_1).f2)) ∧ w'.cell? ⟨(ad208.add ((x5_1).toNat * 7)).block,(ad208.add ((x5_1).toNat * 7)).off + 3,none⟩ = some (.int .i64 ((rd_T55 l0 x5_1).f3)) ∧ w'.cell? ⟨(ad208.add ((x5_1).toNat * 7)).block,(ad208.add ((x5_1).toNat * 7)).off + 4,none⟩ = some (.string ((rd_T55 l0 x5_1).f4)) ∧ w'.cell? ⟨(ad208.add ((x5_1).toNat * 7)).block,(ad208.add ((x5_1).toNat * 7)).off + 5,none⟩ = some (.string ((rd_T55 l0 x5_1).f5)) ∧ w'.cell? ⟨(ad208.add ((x5_1).toNat * 7)).block,(ad208.add ((x5_1).toNat * 7)).off + 6,none⟩ = some (.string ((rd_T55 l0 x5_1).f6))) (ds := []) #[false,false,false,false,false,false,false,false] (by kernel_rfl) rfl rfl ⟨(zx_ HB hw214_0),(zx_ HB hw214_1),(zx_ HB hw214_2),(zx_ HB hw214_3),(zx_ HB hw214_4),(zx_ HB hw214_5),(zx_ HB hw214_6)⟩ (fun hHeld => ?_);refine with_tabW laws_heldMessageS.tab19 laws_heldMessageS.bits19 (fun HT_ HW_ => ?_)
           generalize w28.drew = w29 at HB hx214_0 hx214_1 hx214_2 hx214_3 hx214_4 hx214_5 hx214_6 hHeld ⊢
           refine zpu 0 (N := some 58) HT_ ?_
           refine zpu 1 (N := some 59) HT_ ?_
           refine zpu 2 (N := some 60) HT_ ?_
           refine zpu 3 (N := some 61) HT_ ?_
           refine zpu 5 (N := some 63) HT_ ?_
           refine ztk 4 (N := some 62) HT_ HW_ hHeld ?_
           refine zon 6 (N := some 64) HT_ (fun K hK => ?_)
           refine zgo Try.func31 #[.int .i64 (wrap64 ((wrap64 ((wrap64 ((wrap64 ((wrap64 (x1_1 + 1)) + 1)) + 1)) + 1)) + 1))] ?_
           with_reducible refine (laws_markText.calls k1 (wrap64 ((wrap64 ((wrap64 ((wrap64 ((wrap64 (x1_1 + 1)) + 1)) + 1)) + 1)) + 1)) t215 _ A11.out).mono ?_
           rintro e w30 ⟨rfl,hb⟩
           refine ⟨_,rfl,?_⟩
           replace HB := zs_ HB hb
           (try clear hb)
           (try clear hb2)
           (try clear hk)
           (try clear hi)
           refine hK.out _ _ ⟨(zx_ HB hw214_0),(zx_ HB hw214_1),(zx_ HB hw214_2),(zx_ HB hw214_3),(zx_ HB hw214_4),(zx_ HB hw214_5),(zx_ HB hw214_6)⟩ (fun hHeld => ?_)
           clear hK K
           refine norm_ (a' := ?_) ?_ ?_
           rotate_left
           ·show Act.put _ (some 64) _ = _
            simp only [Act.put,p1_,p2_,p3_,i64_w,i32_w]
            rfl
           refine zpu 7 (N := some 65) HT_ ?_
           refine done_ (done_of HT_.out (by kernel_rfl)) ?_
           try go_wp2
           go_ret
           exact ⟨zt_,zl_ HB⟩
         ·rw [if_neg c10] at H
          have c10b0 : (((rd_T55 l0 x5_1).f4).toList == t213.toList) = false := beq_eq_false_iff_ne.mpr c10
          have c10b1 : (((rd_T55 l0 x5_1).f4).toList != t213.toList) = true := bne_iff_ne.mpr c10
          obtain rfl := Option.some.inj H
          have p208 : 0 ≤ (x5_1 : Int) := zo_
          have q208 : x5_1 < (l0.length : Int) := zo_
          obtain ⟨ad208,e208,hx208_0,hx208_1,hx208_2,hx208_3,hx208_4,hx208_5,hx208_6⟩ := at_T55 HR0.out x5_1 p208 q208
          cases e208
          replace hx208_0 := zx_ HB hx208_0
          replace hx208_1 := zx_ HB hx208_1
          replace hx208_2 := zx_ HB hx208_2
          replace hx208_3 := zx_ HB hx208_3
          replace hx208_4 := zx_ HB hx208_4
          replace hx208_5 := zx_ HB hx208_5
          replace hx208_6 := zx_ HB hx208_6
          replace p208 := eq_true p208
          replace q208 := eq_true q208
          have p209 : 0 ≤ (x5_1 : Int) := zo_
          have q209 : x5_1 < (l0.length : Int) := zo_
          obtain ⟨ad209,e209,hx209_0,hx209_1,hx209_2,hx209_3,hx209_4,hx209_5,hx209_6⟩ := at_T55 HR0.out x5_1 p209 q209
          obtain rfl : ad208 = ad209 := (by injection e209)
          replace hx209_0 := zx_ HB hx209_0
          replace hx209_1 := zx_ HB hx209_1
          replace hx209_2 := zx_ HB hx209_2
          replace hx209_3 := zx_ HB hx209_3
          replace hx209_4 := zx_ HB hx209_4
          replace hx209_5 := zx_ HB hx209_5
          replace hx209_6 := zx_ HB hx209_6
          replace p209 := eq_true p209
          replace q209 := eq_true q209
          have p210 : 0 ≤ (x5_1 : Int) := zo_
          have q210 : x5_1 < (l0.length : Int) := zo_
          obtain ⟨ad210,e210,hx210_0,hx210_1,hx210_2,hx210_3,hx210_4,hx210_5,hx210_6⟩ := at_T55 HR0.out x5_1 p210 q210
          obtain rfl : ad208 = ad210 := (by injection e210)
          replace hx210_0 := zx_ HB hx210_0
          replace hx210_1 := zx_ HB hx210_1
          replace hx210_2 := zx_ HB hx210_2
          replace hx210_3 := zx_ HB hx210_3
          replace hx210_4 := zx_ HB hx210_4
          replace hx210_5 := zx_ HB hx210_5
          replace hx210_6 := zx_ HB hx210_6
          replace p210 := eq_true p210
          replace q210 := eq_true q210
          have p211 : 0 ≤ (x5_1 : Int) := zo_
          have q211 : x5_1 < (l0.length : Int) := zo_
          obtain ⟨ad211,e211,hx211_0,hx211_1,hx211_2,hx211_3,hx211_4,hx211_5,hx211_6⟩ := at_T55 HR0.out x5_1 p211 q211
          obtain rfl : ad208 = ad211 := (by injection e211)
          replace hx211_0 := zx_ HB hx211_0
          replace hx211_1 := zx_ HB hx211_1
          replace hx211_2 := zx_ HB hx211_2
          replace hx211_3 := zx_ HB hx211_3
          replace hx211_4 := zx_ HB hx211_4
          replace hx211_5 := zx_ HB hx211_5
          replace hx211_6 := zx_ HB hx211_6
          replace p211 := eq_true p211
          replace q211 := eq_true q211
          try go_wp2
          replace HB := am_ (below_drew1 HB.out)
          have p212 : 0 ≤ (x5_1 : Int) := zo_
          have q212 : x5_1 < (l0.length : Int) := zo_
          obtain ⟨ad212,e212,hx212_0,hx212_1,hx212_2,hx212_3,hx212_4,hx212_5,hx212_6⟩ := at_T55 HR0.out x5_1 p212 q212
          have hw212_6 := hx212_6
          have hw212_5 := hx212_5
          have hw212_4 := hx212_4
          have hw212_3 := hx212_3
          have hw212_2 := hx212_2
          have hw212_1 := hx212_1
          have hw212_0 := hx212_0
          obtain rfl : ad208 = ad212 := (by injection e212)
          replace hx212_0 := zx_ HB hx212_0
          replace hx212_1 := zx_ HB hx212_1
          replace hx212_2 := zx_ HB hx212_2
          replace hx212_3 := zx_ HB hx212_3
          replace hx212_4 := zx_ HB hx212_4
          replace hx212_5 := zx_ HB hx212_5
          replace hx212_6 := zx_ HB hx212_6
          replace p212 := eq_true p212
          replace q212 := eq_true q212
          refine start_ (n := 8) (S := fun w' => w'.cell? (ad208.add ((x5_1).toNat * 7)) = some (.int .i64 ((rd_T55 l0 x5_1).f0)) ∧ w'.cell? ⟨(ad208.add ((x5_1).toNat * 7)).block,(ad208.add ((x5_1).toNat * 7)).off + 1,none⟩ = some (.int .i64 ((rd_T55 l0 x5_1).f1)) ∧ w'.cell? ⟨(ad208.add ((x5_1).toNat * 7)).block,(ad208.add ((x5_1).toNat * 7)).off + 2,none⟩ = some (.int .i64 ((rd_T55 l0 x5_1).f2)) ∧ w'.cell? ⟨(ad208.add ((x5_1).toNat * 7)).block,(ad208.add ((x5_1).toNat * 7)).off + 3,none⟩ = some (.int .i64 ((rd_T55 l0 x5_1).f3)) ∧ w'.cell? ⟨(ad208.add ((x5_1).toNat * 7)).block,(ad208.add ((x5_1).toNat * 7)).off + 4,none⟩ = some (.string ((rd_T55 l0 x5_1).f4)) ∧ w'.cell? ⟨(ad208.add ((x5_1).toNat * 7)).block,(ad208.add ((x5_1).toNat * 7)).off + 5,none⟩ = some (.string ((rd_T55 l0 x5_1).f5)) ∧ w'.cell? ⟨(ad208.add ((x5_1).toNat * 7)).block,(ad208.add ((x5_1).toNat * 7)).off + 6,none⟩ = some (.string ((rd_T55 l0 x5_1).f6))) (ds := []) #[false,false,false,false,false,false,false,false] (by kernel_rfl) rfl rfl ⟨(zx_ HB hw212_0),(zx_ HB hw212_1),(zx_ HB hw212_2),(zx_ HB hw212_3),(zx_ HB hw212_4),(zx_ HB hw212_5),(zx_ HB hw212_6)⟩ (fun hHeld => ?_);refine with_tabW laws_heldMessageS.tab16 laws_heldMessageS.bits16 (fun HT_ HW_ => ?_)
          generalize wr.drew = w31 at HB hx212_0 hx212_1 hx212_2 hx212_3 hx212_4 hx212_5 hx212_6 hHeld ⊢
          refine zpu 0 (N := some 48) HT_ ?_
          refine zpu 1 (N := some 49) HT_ ?_
          refine zpu 2 (N := some 50) HT_ ?_
          refine zpu 3 (N := some 51) HT_ ?_
          refine zpu 5 (N := some 53) HT_ ?_
          refine ztk 4 (N := some 52) HT_ HW_ hHeld ?_
          refine zon 6 (N := some 54) HT_ (fun K hK => ?_)
          refine zgo Try.func31 #[.int .i64 (wrap64 ((wrap64 ((wrap64 ((wrap64 (x1_1 + 1)) + 1)) + 1)) + 1))] ?_
          with_reducible refine (laws_markText.calls k1 (wrap64 ((wrap64 ((wrap64 ((wrap64 (x1_1 + 1)) + 1)) + 1)) + 1)) t213 _ A9.out).mono ?_
          rintro e w32 ⟨rfl,hb⟩
          refine ⟨_,rfl,?_⟩
          replace HB := zs_ HB hb
          (try clear hb)
          (try clear hb2)
          (try clear hk)
          (try clear hi)
          refine hK.out _ _ ⟨(zx_ HB hw212_0),(zx_ HB hw212_1),(zx_ HB hw212_2),(zx_ HB hw212_3),(zx_ HB hw212_4),(zx_ HB hw212_5),(zx_ HB hw212_6)⟩ (fun hHeld => ?_)
          clear hK K
          refine norm_ (a' := ?_) ?_ ?_
          rotate_left
          ·show Act.put _ (some 54) _ = _
           simp only [Act.put,p1_,p2_,p3_,i64_w,i32_w]
           rfl
          refine zpu 7 (N := some 55) HT_ ?_
          refine done_ (done_of HT_.out (by kernel_rfl)) ?_
          try go_wp2
          go_ret
          exact ⟨zt_,zl_ HB⟩
        ·rw [if_neg c8] at H
         have c8b0 : (((rd_T55 l0 x5_1).f3) == (wrap64 ((wrap64 ((wrap64 (x1_1 + 1)) + 1)) + 1))) = false := beq_eq_false_iff_ne.mpr c8
         have c8b1 : (((rd_T55 l0 x5_1).f3) != (wrap64 ((wrap64 ((wrap64 (x1_1 + 1)) + 1)) + 1))) = true := bne_iff_ne.mpr c8
         obtain rfl := Option.some.inj H
         have p208 : 0 ≤ (x5_1 : Int) := zo_
         have q208 : x5_1 < (l0.length : Int) := zo_
         obtain ⟨ad208,e208,hx208_0,hx208_1,hx208_2,hx208_3,hx208_4,hx208_5,hx208_6⟩ := at_T55 HR0.out x5_1 p208 q208
         cases e208
         replace hx208_0 := zx_ HB hx208_0
         replace hx208_1 := zx_ HB hx208_1
         replace hx208_2 := zx_ HB hx208_2
         replace hx208_3 := zx_ HB hx208_3
         replace hx208_4 := zx_ HB hx208_4
         replace hx208_5 := zx_ HB hx208_5
         replace hx208_6 := zx_ HB hx208_6
         replace p208 := eq_true p208
         replace q208 := eq_true q208
         have p209 : 0 ≤ (x5_1 : Int) := zo_
         have q209 : x5_1 < (l0.length : Int) := zo_
         obtain ⟨ad209,e209,hx209_0,hx209_1,hx209_2,hx209_3,hx209_4,hx209_5,hx209_6⟩ := at_T55 HR0.out x5_1 p209 q209
         obtain rfl : ad208 = ad209 := (by injection e209)
         replace hx209_0 := zx_ HB hx209_0
         replace hx209_1 := zx_ HB hx209_1
         replace hx209_2 := zx_ HB hx209_2
         replace hx209_3 := zx_ HB hx209_3
         replace hx209_4 := zx_ HB hx209_4
         replace hx209_5 := zx_ HB hx209_5
         replace hx209_6 := zx_ HB hx209_6
         replace p209 := eq_true p209
         replace q209 := eq_true q209
         have p210 : 0 ≤ (x5_1 : Int) := zo_
         have q210 : x5_1 < (l0.length : Int) := zo_
         obtain ⟨ad210,e210,hx210_0,hx210_1,hx210_2,hx210_3,hx210_4,hx210_5,hx210_6⟩ := at_T55 HR0.out x5_1 p210 q210
         obtain rfl : ad208 = ad210 := (by injection e210)
         replace hx210_0 := zx_ HB hx210_0
         replace hx210_1 := zx_ HB hx210_1
         replace hx210_2 := zx_ HB hx210_2
         replace hx210_3 := zx_ HB hx210_3
         replace hx210_4 := zx_ HB hx210_4
         replace hx210_5 := zx_ HB hx210_5
         replace hx210_6 := zx_ HB hx210_6
         replace p210 := eq_true p210
         replace q210 := eq_true q210
         have p211 : 0 ≤ (x5_1 : Int) := zo_
         have q211 : x5_1 < (l0.length : Int) := zo_
         obtain ⟨ad211,e211,hx211_0,hx211_1,hx211_2,hx211_3,hx211_4,hx211_5,hx211_6⟩ := at_T55 HR0.out x5_1 p211 q211
         obtain rfl : ad208 = ad211 := (by injection e211)
         replace hx211_0 := zx_ HB hx211_0
         replace hx211_1 := zx_ HB hx211_1
         replace hx211_2 := zx_ HB hx211_2
         replace hx211_3 := zx_ HB hx211_3
         replace hx211_4 := zx_ HB hx211_4
         replace hx211_5 := zx_ HB hx211_5
         replace hx211_6 := zx_ HB hx211_6
         replace p211 := eq_true p211
         replace q211 := eq_true q211
         go_wp2
         go_ret
         exact ⟨zt_,zl_ HB⟩
       ·rw [if_neg c7] at H
        have c7b0 : (((rd_T55 l0 x5_1).f2) == (wrap64 ((wrap64 (x1_1 + 1)) + 1))) = false := beq_eq_false_iff_ne.mpr c7
        have c7b1 : (((rd_T55 l0 x5_1).f2) != (wrap64 ((wrap64 (x1_1 + 1)) + 1))) = true := bne_iff_ne.mpr c7
        obtain rfl := Option.some.inj H
        have p208 : 0 ≤ (x5_1 : Int) := zo_
        have q208 : x5_1 < (l0.length : Int) := zo_
        obtain ⟨ad208,e208,hx208_0,hx208_1,hx208_2,hx208_3,hx208_4,hx208_5,hx208_6⟩ := at_T55 HR0.out x5_1 p208 q208
        cases e208
        replace hx208_0 := zx_ HB hx208_0
        replace hx208_1 := zx_ HB hx208_1
        replace hx208_2 := zx_ HB hx208_2
        replace hx208_3 := zx_ HB hx208_3
        replace hx208_4 := zx_ HB hx208_4
        replace hx208_5 := zx_ HB hx208_5
        replace hx208_6 := zx_ HB hx208_6
        replace p208 := eq_true p208
        replace q208 := eq_true q208
        have p209 : 0 ≤ (x5_1 : Int) := zo_
        have q209 : x5_1 < (l0.length : Int) := zo_
        obtain ⟨ad209,e209,hx209_0,hx209_1,hx209_2,hx209_3,hx209_4,hx209_5,hx209_6⟩ := at_T55 HR0.out x5_1 p209 q209
        obtain rfl : ad208 = ad209 := (by injection e209)
        replace hx209_0 := zx_ HB hx209_0
        replace hx209_1 := zx_ HB hx209_1
        replace hx209_2 := zx_ HB hx209_2
        replace hx209_3 := zx_ HB hx209_3
        replace hx209_4 := zx_ HB hx209_4
        replace hx209_5 := zx_ HB hx209_5
        replace hx209_6 := zx_ HB hx209_6
        replace p209 := eq_true p209
        replace q209 := eq_true q209
        have p210 : 0 ≤ (x5_1 : Int) := zo_
        have q210 : x5_1 < (l0.length : Int) := zo_
        obtain ⟨ad210,e210,hx210_0,hx210_1,hx210_2,hx210_3,hx210_4,hx210_5,hx210_6⟩ := at_T55 HR0.out x5_1 p210 q210
        obtain rfl : ad208 = ad210 := (by injection e210)
        replace hx210_0 := zx_ HB hx210_0
        replace hx210_1 := zx_ HB hx210_1
        replace hx210_2 := zx_ HB hx210_2
        replace hx210_3 := zx_ HB hx210_3
        replace hx210_4 := zx_ HB hx210_4
        replace hx210_5 := zx_ HB hx210_5
        replace hx210_6 := zx_ HB hx210_6
        replace p210 := eq_true p210
        replace q210 := eq_true q210
        go_wp2
        go_ret
        exact ⟨zt_,zl_ HB⟩
      ·rw [if_neg c6] at H
       have c6b0 : (((rd_T55 l0 x5_1).f1) == (wrap64 (x1_1 + 1))) = false := beq_eq_false_iff_ne.mpr c6
       have c6b1 : (((rd_T55 l0 x5_1).f1) != (wrap64 (x1_1 + 1))) = true := bne_iff_ne.mpr c6
       obtain rfl := Option.some.inj H
       have p208 : 0 ≤ (x5_1 : Int) := zo_
       have q208 : x5_1 < (l0.length : Int) := zo_
       obtain ⟨ad208,e208,hx208_0,hx208_1,hx208_2,hx208_3,hx208_4,hx208_5,hx208_6⟩ := at_T55 HR0.out x5_1 p208 q208
       cases e208
       replace hx208_0 := zx_ HB hx208_0
       replace hx208_1 := zx_ HB hx208_1
       replace hx208_2 := zx_ HB hx208_2
       replace hx208_3 := zx_ HB hx208_3
       replace hx208_4 := zx_ HB hx208_4
       replace hx208_5 := zx_ HB hx208_5
       replace hx208_6 := zx_ HB hx208_6
       replace p208 := eq_true p208
       replace q208 := eq_true q208
       have p209 : 0 ≤ (x5_1 : Int) := zo_
       have q209 : x5_1 < (l0.length : Int) := zo_
       obtain ⟨ad209,e209,hx209_0,hx209_1,hx209_2,hx209_3,hx209_4,hx209_5,hx209_6⟩ := at_T55 HR0.out x5_1 p209 q209
       obtain rfl : ad208 = ad209 := (by injection e209)
       replace hx209_0 := zx_ HB hx209_0
       replace hx209_1 := zx_ HB hx209_1
       replace hx209_2 := zx_ HB hx209_2
       replace hx209_3 := zx_ HB hx209_3
       replace hx209_4 := zx_ HB hx209_4
       replace hx209_5 := zx_ HB hx209_5
       replace hx209_6 := zx_ HB hx209_6
       replace p209 := eq_true p209
       replace q209 := eq_true q209
       go_wp2
       go_ret
       exact ⟨zt_,zl_ HB⟩
     ·rw [if_neg c5] at H
      have c5b0 : (((rd_T55 l0 x5_1).f0) == x1_1) = false := beq_eq_false_iff_ne.mpr c5
      have c5b1 : (((rd_T55 l0 x5_1).f0) != x1_1) = true := bne_iff_ne.mpr c5
      obtain rfl := Option.some.inj H
      have p208 : 0 ≤ (x5_1 : Int) := zo_
      have q208 : x5_1 < (l0.length : Int) := zo_
      obtain ⟨ad208,e208,hx208_0,hx208_1,hx208_2,hx208_3,hx208_4,hx208_5,hx208_6⟩ := at_T55 HR0.out x5_1 p208 q208
      cases e208
      replace hx208_0 := zx_ HB hx208_0
      replace hx208_1 := zx_ HB hx208_1
      replace hx208_2 := zx_ HB hx208_2
      replace hx208_3 := zx_ HB hx208_3
      replace hx208_4 := zx_ HB hx208_4
      replace hx208_5 := zx_ HB hx208_5
      replace hx208_6 := zx_ HB hx208_6
      replace p208 := eq_true p208
      replace q208 := eq_true q208
      go_wp2
      go_ret
      exact ⟨zt_,zl_ HB⟩
    ·rw [if_neg c4] at H
     exact absurd H (by simp)
   ·rw [if_neg c3] at H
    have c3b0 : decide (x5_1 < (l0.length : Int)) = false := decide_eq_false c3
    clear c3
    obtain rfl := Option.some.inj H
    go_wp2
    go_ret
    exact ⟨zt_,zl_ HB⟩
def laws_heldCertS.T4 : Bool × List (List Nat × List Nat) := (true,[([],[]),([],[]),([0,1],[0,1]),([2],[2]),([3],[3]),([],[]),([5],[5]),([4,6],[4,6])])
def laws_heldCertS.B4 : List Nat := [0,0,3,7,15,0,32,127]
theorem laws_heldCertS.tab4 : rtab .any (opsOf Try.f23 4) = laws_heldCertS.T4 := by kernel_rfl
theorem laws_heldCertS.bits4 : waitsOk laws_heldCertS.T4.2 laws_heldCertS.B4 = true := by kernel_rfl
set_option maxHeartbeats 8000000 in
set_option maxRecDepth 100000 in
theorem laws_heldCertS.calls (k : Nat) (A0 : Option Addr) (c0 : Nat) (l0 : List (S46)) (a1 : Int) (r : Int) (w : World) (hr0 : Kd.C k46 w A0 l0.length l0) (hc0 : l0.length ≤ c0) (h : laws_heldCertS.f k l0 a1 = some r) :
  Calls Try.prog 23 #[.slice A0 l0.length c0,.int .i64 a1] w fun e w' => e = .returned (.int .i64 r) ∧ Below w.heap.size w w' := by
 have HR0 := am_ hr0
 have HC0 := am_ hc0
 clear hr0 hc0
 have HB := am_ (Below.refl w.heap.size w)
 have H : (laws_heldCertS.l0 k l0 a1 0) = some r := h
 clear h
 have H' := am_ H
 clear H
 go_enter Try.func23,Try.ntmps23
 go_wp2
 go_loopg [1,5] k (fun kq v1 v5 w' => ∃ (x1_1 : Int) (x5_1 : Int),v1 = .int .i64 x1_1 ∧ v5 = .int .i64 x5_1 ∧ Aside0 (laws_heldCertS.l0 kq l0 x1_1 x5_1 = some r) ∧ Aside0 (kq ≤ k) ∧ Aside0 (Below w.heap.size w w'))
 case atStart => exact ⟨(a1),(0),(by first | rfl | (simp;done) | (simp [*];done)),(by first | rfl | (simp;done) | (simp [*];done)),H',⟨Nat.le_refl _⟩,⟨zl_ HB⟩⟩
 case round =>
  clear H'
  try clear c2
  try clear p2
  obtain ⟨x1_1,x5_1,rfl,rfl,HA,HK1,HB⟩ := hrel
  cases gk with
  | zero => exact absurd HA.out (by simp [laws_heldCertS.l0])
  | succ k1 =>
   have H := HA.out
   clear HA
   simp only [laws_heldCertS.l0] at H
   by_cases c3 : x5_1 < (l0.length : Int)
   ·rw [if_pos c3] at H
    have c3b0 : decide (x5_1 < (l0.length : Int)) = true := decide_eq_true c3
    clear c3
    by_cases c4 : 0 ≤ x5_1
    ·rw [if_pos c4] at H
     have c4b0 : decide (0 ≤ x5_1) = true := decide_eq_true c4
     clear c4
     replace H := Option.bind_eq_some_iff.mp H
     obtain ⟨t227,A50,H⟩ := H
     try dsimp only at H
     have A5 := am_ A50
     clear A50
     by_cases c6 : ((rd_T46 l0 x5_1).f0).toList = t227.toList
     ·rw [if_pos c6] at H
      have c6b0 : (((rd_T46 l0 x5_1).f0).toList == t227.toList) = true := beq_iff_eq.mpr c6
      have c6b1 : (((rd_T46 l0 x5_1).f0).toList != t227.toList) = false := bne_eq_false_iff_eq.mpr c6
      clear c6
      replace H := Option.bind_eq_some_iff.mp H
      obtain ⟨t229,A70,H⟩ := H
      try dsimp only at H
      have A7 := am_ A70
      clear A70
      by_cases c8 : t229 < 0
      ·rw [if_pos c8] at H
       have c8b0 : decide (t229 < 0) = true := decide_eq_true c8
       clear c8
       obtain rfl := Option.some.inj H
       try go_wp2
       replace HB := am_ (below_drew1 HB.out)
       have p226 : 0 ≤ (x5_1 : Int) := zo_
       have q226 : x5_1 < (l0.length : Int) := zo_
       obtain ⟨ad226,A226_1,c226_1,e226,hx226_0,hx226_1,hl226_1,hi226_1⟩ := at_T46 HR0.out x5_1 p226 q226
       have hw226_1 := hx226_1
       have hw226_0 := hx226_0
       have hv226_1 := hx226_1
       cases e226
       replace hx226_0 := zx_ HB hx226_0
       replace hx226_1 := zx_ HB hx226_1
       have HR226_1 := am_ hi226_1
       have HC226_1 := am_ hl226_1
       clear hi226_1 hl226_1
       replace p226 := eq_true p226
       replace q226 := eq_true q226
       refine start_ (n := 8) (S := fun w' => w'.cell? (ad226.add ((x5_1).toNat * 2)) = some (.string ((rd_T46 l0 x5_1).f0)) ∧ w'.cell? ⟨(ad226.add ((x5_1).toNat * 2)).block,(ad226.add ((x5_1).toNat * 2)).off + 1,none⟩ = some (.slice A226_1 ((rd_T46 l0 x5_1).f1).length c226_1)) (ds := []) #[false,false,false,false,false,false,false,false] (by kernel_rfl) rfl rfl ⟨(zx_ HB hw226_0),(zx_ HB hw226_1)⟩ (fun hHeld => ?_);refine with_tabW laws_heldCertS.tab4 laws_heldCertS.bits4 (fun HT_ HW_ => ?_)
       generalize wr.drew = w9 at HB HR226_1 hx226_0 hx226_1 hHeld ⊢
       refine zpu 0 (N := some 12) HT_ ?_
       refine zpu 1 (N := some 13) HT_ ?_
       refine zpu 2 (N := some 14) HT_ ?_
       refine zpu 3 (N := some 15) HT_ ?_
       refine zpu 5 (N := some 17) HT_ ?_
       refine ztk 4 (N := some 16) HT_ HW_ hHeld ?_
       refine zon 6 (N := some 18) HT_ (fun K hK => ?_)
       refine zgo Try.func31 #[.int .i64 x1_1] ?_
       with_reducible refine (laws_markText.calls k1 x1_1 t227 _ A5.out).mono ?_
       rintro e w10 ⟨rfl,hb⟩
       refine ⟨_,rfl,?_⟩
       replace HB := zs_ HB hb
       (try clear hb)
       (try clear hb2)
       (try clear hk)
       (try clear hi)
       refine hK.out _ _ ⟨(zx_ HB hw226_0),(zx_ HB hw226_1)⟩ (fun hHeld => ?_)
       clear hK K
       refine norm_ (a' := ?_) ?_ ?_
       rotate_left
       ·show Act.put _ (some 18) _ = _
        simp only [Act.put,p1_,p2_,p3_,i64_w,i32_w]
        rfl
       refine zpu 7 (N := some 19) HT_ ?_
       refine done_ (done_of HT_.out (by kernel_rfl)) ?_
       have p228 : 0 ≤ (x5_1 : Int) := zo_
       have q228 : x5_1 < (l0.length : Int) := zo_
       obtain ⟨ad228,A228_1,c228_1,e228,hx228_0,hx228_1,hl228_1,hi228_1⟩ := at_T46 HR0.out x5_1 p228 q228
       have hv228_1 := hx228_1
       obtain rfl : ad226 = ad228 := (by injection e228)
       have ea_ := Option.some.inj (hv226_1.symm.trans hv228_1)
       injection ea_ with ea_ en_ ec_
       subst ea_
       subst ec_
       clear en_
       replace hx228_0 := zx_ HB hx228_0
       replace hx228_1 := zx_ HB hx228_1
       have HR228_1 := am_ hi228_1
       have HC228_1 := am_ hl228_1
       clear hi228_1 hl228_1
       replace p228 := eq_true p228
       replace q228 := eq_true q228
       try go_wp2_with (first | ((with_reducible refine gate_callee (f := 25) rfl ?_);refine zgl (some 28) Try.func25 #[.slice A226_1 ((rd_T46 l0 x5_1).f1).length c226_1,.int .i64 (wrap64 (x1_1 + 1))] ?_;(with_reducible refine (laws_heldMessageS.calls k1 _ _ ((rd_T46 l0 x5_1).f1) (wrap64 (x1_1 + 1)) t229 _ ?side1 ?side2 A7.out).mono ?_);(case side1 => exact zc_ HR228_1 HB);(case side2 => exact HC228_1.out);rintro e w11 ⟨rfl,hb⟩;refine ⟨_,rfl,?_⟩;replace HB := zs_ HB hb;(try clear hb);(try clear hb2);(try clear hk);(try clear hi)))
       go_ret
       exact ⟨zt_,zl_ HB⟩
      ·rw [if_neg c8] at H
       have c8b0 : decide (t229 < 0) = false := decide_eq_false c8
       clear c8
       have H' := am_ H
       clear H
       try go_wp2
       replace HB := am_ (below_drew1 HB.out)
       have p226 : 0 ≤ (x5_1 : Int) := zo_
       have q226 : x5_1 < (l0.length : Int) := zo_
       obtain ⟨ad226,A226_1,c226_1,e226,hx226_0,hx226_1,hl226_1,hi226_1⟩ := at_T46 HR0.out x5_1 p226 q226
       have hw226_1 := hx226_1
       have hw226_0 := hx226_0
       have hv226_1 := hx226_1
       cases e226
       replace hx226_0 := zx_ HB hx226_0
       replace hx226_1 := zx_ HB hx226_1
       have HR226_1 := am_ hi226_1
       have HC226_1 := am_ hl226_1
       clear hi226_1 hl226_1
       replace p226 := eq_true p226
       replace q226 := eq_true q226
       refine start_ (n := 8) (S := fun w' => w'.cell? (ad226.add ((x5_1).toNat * 2)) = some (.string ((rd_T46 l0 x5_1).f0)) ∧ w'.cell? ⟨(ad226.add ((x5_1).toNat * 2)).block,(ad226.add ((x5_1).toNat * 2)).off + 1,none⟩ = some (.slice A226_1 ((rd_T46 l0 x5_1).f1).length c226_1)) (ds := []) #[false,false,false,false,false,false,false,false] (by kernel_rfl) rfl rfl ⟨(zx_ HB hw226_0),(zx_ HB hw226_1)⟩ (fun hHeld => ?_);refine with_tabW laws_heldCertS.tab4 laws_heldCertS.bits4 (fun HT_ HW_ => ?_)
       generalize wr.drew = w12 at HB HR226_1 hx226_0 hx226_1 hHeld ⊢
       refine zpu 0 (N := some 12) HT_ ?_
       refine zpu 1 (N := some 13) HT_ ?_
       refine zpu 2 (N := some 14) HT_ ?_
       refine zpu 3 (N := some 15) HT_ ?_
       refine zpu 5 (N := some 17) HT_ ?_
       refine ztk 4 (N := some 16) HT_ HW_ hHeld ?_
       refine zon 6 (N := some 18) HT_ (fun K hK => ?_)
       refine zgo Try.func31 #[.int .i64 x1_1] ?_
       with_reducible refine (laws_markText.calls k1 x1_1 t227 _ A5.out).mono ?_
       rintro e w13 ⟨rfl,hb⟩
       refine ⟨_,rfl,?_⟩
       replace HB := zs_ HB hb
       (try clear hb)
       (try clear hb2)
       (try clear hk)
       (try clear hi)
       refine hK.out _ _ ⟨(zx_ HB hw226_0),(zx_ HB hw226_1)⟩ (fun hHeld => ?_)
       clear hK K
       refine norm_ (a' := ?_) ?_ ?_
       rotate_left
       ·show Act.put _ (some 18) _ = _
        simp only [Act.put,p1_,p2_,p3_,i64_w,i32_w]
        rfl
       refine zpu 7 (N := some 19) HT_ ?_
       refine done_ (done_of HT_.out (by kernel_rfl)) ?_
       have p228 : 0 ≤ (x5_1 : Int) := zo_
       have q228 : x5_1 < (l0.length : Int) := zo_
       obtain ⟨ad228,A228_1,c228_1,e228,hx228_0,hx228_1,hl228_1,hi228_1⟩ := at_T46 HR0.out x5_1 p228 q228
       have hv228_1 := hx228_1
       obtain rfl : ad226 = ad228 := (by injection e228)
       have ea_ := Option.some.inj (hv226_1.symm.trans hv228_1)
       injection ea_ with ea_ en_ ec_
       subst ea_
       subst ec_
       clear en_
       replace hx228_0 := zx_ HB hx228_0
       replace hx228_1 := zx_ HB hx228_1
       have HR228_1 := am_ hi228_1
       have HC228_1 := am_ hl228_1
       clear hi228_1 hl228_1
       replace p228 := eq_true p228
       replace q228 := eq_true q228
       try go_wp2_with (first | ((with_reducible refine gate_callee (f := 25) rfl ?_);refine zgl (some 28) Try.func25 #[.slice A226_1 ((rd_T46 l0 x5_1).f1).length c226_1,.int .i64 (wrap64 (x1_1 + 1))] ?_;(with_reducible refine (laws_heldMessageS.calls k1 _ _ ((rd_T46 l0 x5_1).f1) (wrap64 (x1_1 + 1)) t229 _ ?side1 ?side2 A7.out).mono ?_);(case side1 => exact zc_ HR228_1 HB);(case side2 => exact HC228_1.out);rintro e w14 ⟨rfl,hb⟩;refine ⟨_,rfl,?_⟩;replace HB := zs_ HB hb;(try clear hb);(try clear hb2);(try clear hk);(try clear hi)))
       go_roundg k1
       case measure => have := HK1.out;omega
       case rel => exact ⟨(t229),(wrap64 (x5_1 + 1)),(by first | rfl | (simp;done) | (simp [*];done)),(by first | rfl | (simp;done) | (simp [*];done)),H',⟨by have := HK1.out;omega⟩,⟨zl_ HB⟩⟩
     ·rw [if_neg c6] at H
      have c6b0 : (((rd_T46 l0 x5_1).f0).toList == t227.toList) = false := beq_eq_false_iff_ne.mpr c6
      have c6b1 : (((rd_T46 l0 x5_1).f0).toList != t227.toList) = true := bne_iff_ne.mpr c6
      obtain rfl := Option.some.inj H
      try go_wp2
      replace HB := am_ (below_drew1 HB.out)
      have p226 : 0 ≤ (x5_1 : Int) := zo_
      have q226 : x5_1 < (l0.length : Int) := zo_
      obtain ⟨ad226,A226_1,c226_1,e226,hx226_0,hx226_1,hl226_1,hi226_1⟩ := at_T46 HR0.out x5_1 p226 q226
      have hw226_1 := hx226_1
      have hw226_0 := hx226_0
      have hv226_1 := hx226_1
      cases e226
      replace hx226_0 := zx_ HB hx226_0
      replace hx226_1 := zx_ HB hx226_1
      have HR226_1 := am_ hi226_1
      have HC226_1 := am_ hl226_1
      clear hi226_1 hl226_1
      replace p226 := eq_true p226
      replace q226 := eq_true q226
      refine start_ (n := 8) (S := fun w' => w'.cell? (ad226.add ((x5_1).toNat * 2)) = some (.string ((rd_T46 l0 x5_1).f0)) ∧ w'.cell? ⟨(ad226.add ((x5_1).toNat * 2)).block,(ad226.add ((x5_1).toNat * 2)).off + 1,none⟩ = some (.slice A226_1 ((rd_T46 l0 x5_1).f1).length c226_1)) (ds := []) #[false,false,false,false,false,false,false,false] (by kernel_rfl) rfl rfl ⟨(zx_ HB hw226_0),(zx_ HB hw226_1)⟩ (fun hHeld => ?_);refine with_tabW laws_heldCertS.tab4 laws_heldCertS.bits4 (fun HT_ HW_ => ?_)
      generalize wr.drew = w15 at HB HR226_1 hx226_0 hx226_1 hHeld ⊢
      refine zpu 0 (N := some 12) HT_ ?_
      refine zpu 1 (N := some 13) HT_ ?_
      refine zpu 2 (N := some 14) HT_ ?_
      refine zpu 3 (N := some 15) HT_ ?_
      refine zpu 5 (N := some 17) HT_ ?_
      refine ztk 4 (N := some 16) HT_ HW_ hHeld ?_
      refine zon 6 (N := some 18) HT_ (fun K hK => ?_)
      refine zgo Try.func31 #[.int .i64 x1_1] ?_
      with_reducible refine (laws_markText.calls k1 x1_1 t227 _ A5.out).mono ?_
      rintro e w16 ⟨rfl,hb⟩
      refine ⟨_,rfl,?_⟩
      replace HB := zs_ HB hb
      (try clear hb)
      (try clear hb2)
      (try clear hk)
      (try clear hi)
      refine hK.out _ _ ⟨(zx_ HB hw226_0),(zx_ HB hw226_1)⟩ (fun hHeld => ?_)
      clear hK K
      refine norm_ (a' := ?_) ?_ ?_
      rotate_left
      ·show Act.put _ (some 18) _ = _
       simp only [Act.put,p1_,p2_,p3_,i64_w,i32_w]
       rfl
      refine zpu 7 (N := some 19) HT_ ?_
      refine done_ (done_of HT_.out (by kernel_rfl)) ?_
      try go_wp2
      go_ret
      exact ⟨zt_,zl_ HB⟩
    ·rw [if_neg c4] at H
     exact absurd H (by simp)
   ·rw [if_neg c3] at H
    have c3b0 : decide (x5_1 < (l0.length : Int)) = false := decide_eq_false c3
    clear c3
    obtain rfl := Option.some.inj H
    go_wp2
    go_ret
    exact ⟨zt_,zl_ HB⟩
def laws_heldSlotS.T4 : Bool × List (List Nat × List Nat) := (true,[([],[]),([],[]),([0,1],[0,1]),([2],[2]),([3],[3]),([],[]),([5],[5]),([4,6],[4,6])])
def laws_heldSlotS.B4 : List Nat := [0,0,3,7,15,0,32,127]
theorem laws_heldSlotS.tab4 : rtab .any (opsOf Try.f22 4) = laws_heldSlotS.T4 := by kernel_rfl
theorem laws_heldSlotS.bits4 : waitsOk laws_heldSlotS.T4.2 laws_heldSlotS.B4 = true := by kernel_rfl
set_option maxHeartbeats 8000000 in
set_option maxRecDepth 100000 in
theorem laws_heldSlotS.calls (k : Nat) (A0 : Option Addr) (c0 : Nat) (l0 : List (S51)) (a1 : Int) (r : Int) (w : World) (hr0 : Kd.C k51 w A0 l0.length l0) (hc0 : l0.length ≤ c0) (h : laws_heldSlotS.f k l0 a1 = some r) :
  Calls Try.prog 22 #[.slice A0 l0.length c0,.int .i64 a1] w fun e w' => e = .returned (.int .i64 r) ∧ Below w.heap.size w w' := by
 have HR0 := am_ hr0
 have HC0 := am_ hc0
 clear hr0 hc0
 have HB := am_ (Below.refl w.heap.size w)
 have H : (laws_heldSlotS.l0 k l0 a1 0) = some r := h
 clear h
 have H' := am_ H
 clear H
 go_enter Try.func22,Try.ntmps22
 go_wp2
 go_loopg [1,5] k (fun kq v1 v5 w' => ∃ (x1_1 : Int) (x5_1 : Int),v1 = .int .i64 x1_1 ∧ v5 = .int .i64 x5_1 ∧ Aside0 (laws_heldSlotS.l0 kq l0 x1_1 x5_1 = some r) ∧ Aside0 (kq ≤ k) ∧ Aside0 (Below w.heap.size w w'))
 case atStart => exact ⟨(a1),(0),(by first | rfl | (simp;done) | (simp [*];done)),(by first | rfl | (simp;done) | (simp [*];done)),H',⟨Nat.le_refl _⟩,⟨zl_ HB⟩⟩
 case round =>
  clear H'
  try clear c2
  try clear p2
  obtain ⟨x1_1,x5_1,rfl,rfl,HA,HK1,HB⟩ := hrel
  cases gk with
  | zero => exact absurd HA.out (by simp [laws_heldSlotS.l0])
  | succ k1 =>
   have H := HA.out
   clear HA
   simp only [laws_heldSlotS.l0] at H
   by_cases c3 : x5_1 < (l0.length : Int)
   ·rw [if_pos c3] at H
    have c3b0 : decide (x5_1 < (l0.length : Int)) = true := decide_eq_true c3
    clear c3
    by_cases c4 : 0 ≤ x5_1
    ·rw [if_pos c4] at H
     have c4b0 : decide (0 ≤ x5_1) = true := decide_eq_true c4
     clear c4
     replace H := Option.bind_eq_some_iff.mp H
     obtain ⟨t219,A50,H⟩ := H
     try dsimp only at H
     have A5 := am_ A50
     clear A50
     by_cases c6 : ((rd_T51 l0 x5_1).f0).toList = t219.toList
     ·rw [if_pos c6] at H
      have c6b0 : (((rd_T51 l0 x5_1).f0).toList == t219.toList) = true := beq_iff_eq.mpr c6
      have c6b1 : (((rd_T51 l0 x5_1).f0).toList != t219.toList) = false := bne_eq_false_iff_eq.mpr c6
      clear c6
      replace H := Option.bind_eq_some_iff.mp H
      obtain ⟨t221,A70,H⟩ := H
      try dsimp only at H
      have A7 := am_ A70
      clear A70
      by_cases c8 : t221 < 0
      ·rw [if_pos c8] at H
       have c8b0 : decide (t221 < 0) = true := decide_eq_true c8
       clear c8
       obtain rfl := Option.some.inj H
       try go_wp2
       replace HB := am_ (below_drew1 HB.out)
       have p218 : 0 ≤ (x5_1 : Int) := zo_
       have q218 : x5_1 < (l0.length : Int) := zo_
       obtain ⟨ad218,A218_1,c218_1,A218_2,c218_2,e218,hx218_0,hx218_1,hx218_2,hx218_3,hx218_4,hl218_1,hi218_1,hl218_2,hi218_2⟩ := at_T51 HR0.out x5_1 p218 q218
       have hw218_4 := hx218_4
       have hw218_3 := hx218_3
       have hw218_2 := hx218_2
       have hw218_1 := hx218_1
       have hw218_0 := hx218_0
       have hv218_1 := hx218_1
       have hv218_2 := hx218_2
       cases e218
       replace hx218_0 := zx_ HB hx218_0
       replace hx218_1 := zx_ HB hx218_1
       replace hx218_2 := zx_ HB hx218_2
       replace hx218_3 := zx_ HB hx218_3
       replace hx218_4 := zx_ HB hx218_4
       have HR218_1 := am_ hi218_1
       have HC218_1 := am_ hl218_1
       clear hi218_1 hl218_1
       have HR218_2 := am_ hi218_2
       have HC218_2 := am_ hl218_2
       clear hi218_2 hl218_2
       replace p218 := eq_true p218
       replace q218 := eq_true q218
       refine start_ (n := 8) (S := fun w' => w'.cell? (ad218.add ((x5_1).toNat * 5)) = some (.string ((rd_T51 l0 x5_1).f0)) ∧ w'.cell? ⟨(ad218.add ((x5_1).toNat * 5)).block,(ad218.add ((x5_1).toNat * 5)).off + 1,none⟩ = some (.slice A218_1 ((rd_T51 l0 x5_1).f1).length c218_1) ∧ w'.cell? ⟨(ad218.add ((x5_1).toNat * 5)).block,(ad218.add ((x5_1).toNat * 5)).off + 2,none⟩ = some (.slice A218_2 ((rd_T51 l0 x5_1).f2).length c218_2) ∧ w'.cell? ⟨(ad218.add ((x5_1).toNat * 5)).block,(ad218.add ((x5_1).toNat * 5)).off + 3,none⟩ = some (.bool ((rd_T51 l0 x5_1).f3)) ∧ w'.cell? ⟨(ad218.add ((x5_1).toNat * 5)).block,(ad218.add ((x5_1).toNat * 5)).off + 4,none⟩ = some (.bool ((rd_T51 l0 x5_1).f4))) (ds := []) #[false,false,false,false,false,false,false,false] (by kernel_rfl) rfl rfl ⟨(zx_ HB hw218_0),(zx_ HB hw218_1),(zx_ HB hw218_2),(zx_ HB hw218_3),(zx_ HB hw218_4)⟩ (fun hHeld => ?_);refine with_tabW laws_heldSlotS.tab4 laws_heldSlotS.bits4 (fun HT_ HW_ => ?_)
       generalize wr.drew = w9 at HB HR218_1 HR218_2 hx218_0 hx218_1 hx218_2 hx218_3 hx218_4 hHeld ⊢
       refine zpu 0 (N := some 12) HT_ ?_
       refine zpu 1 (N := some 13) HT_ ?_
       refine zpu 2 (N := some 14) HT_ ?_
       refine zpu 3 (N := some 15) HT_ ?_
       refine zpu 5 (N := some 17) HT_ ?_
       refine ztk 4 (N := some 16) HT_ HW_ hHeld ?_
       refine zon 6 (N := some 18) HT_ (fun K hK => ?_)
       refine zgo Try.func31 #[.int .i64 x1_1] ?_
       with_reducible refine (laws_markText.calls k1 x1_1 t219 _ A5.out).mono ?_
       rintro e w10 ⟨rfl,hb⟩
       refine ⟨_,rfl,?_⟩
       replace HB := zs_ HB hb
       (try clear hb)
       (try clear hb2)
       (try clear hk)
       (try clear hi)
       refine hK.out _ _ ⟨(zx_ HB hw218_0),(zx_ HB hw218_1),(zx_ HB hw218_2),(zx_ HB hw218_3),(zx_ HB hw218_4)⟩ (fun hHeld => ?_)
       clear hK K
       refine norm_ (a' := ?_) ?_ ?_
       rotate_left
       ·show Act.put _ (some 18) _ = _
        simp only [Act.put,p1_,p2_,p3_,i64_w,i32_w]
        rfl
       refine zpu 7 (N := some 19) HT_ ?_
       refine done_ (done_of HT_.out (by kernel_rfl)) ?_
       have p220 : 0 ≤ (x5_1 : Int) := zo_
       have q220 : x5_1 < (l0.length : Int) := zo_
       obtain ⟨ad220,A220_1,c220_1,A220_2,c220_2,e220,hx220_0,hx220_1,hx220_2,hx220_3,hx220_4,hl220_1,hi220_1,hl220_2,hi220_2⟩ := at_T51 HR0.out x5_1 p220 q220
       have hv220_1 := hx220_1
       have hv220_2 := hx220_2
       obtain rfl : ad218 = ad220 := (by injection e220)
       have ea_ := Option.some.inj (hv218_1.symm.trans hv220_1)
       injection ea_ with ea_ en_ ec_
       subst ea_
       subst ec_
       clear en_
       have ea_ := Option.some.inj (hv218_2.symm.trans hv220_2)
       injection ea_ with ea_ en_ ec_
       subst ea_
       subst ec_
       clear en_
       replace hx220_0 := zx_ HB hx220_0
       replace hx220_1 := zx_ HB hx220_1
       replace hx220_2 := zx_ HB hx220_2
       replace hx220_3 := zx_ HB hx220_3
       replace hx220_4 := zx_ HB hx220_4
       have HR220_1 := am_ hi220_1
       have HC220_1 := am_ hl220_1
       clear hi220_1 hl220_1
       have HR220_2 := am_ hi220_2
       have HC220_2 := am_ hl220_2
       clear hi220_2 hl220_2
       replace p220 := eq_true p220
       replace q220 := eq_true q220
       try go_wp2_with (first | ((with_reducible refine gate_callee (f := 25) rfl ?_);refine zgl (some 28) Try.func25 #[.slice A218_1 ((rd_T51 l0 x5_1).f1).length c218_1,.int .i64 (wrap64 (x1_1 + 1))] ?_;(with_reducible refine (laws_heldMessageS.calls k1 _ _ ((rd_T51 l0 x5_1).f1) (wrap64 (x1_1 + 1)) t221 _ ?side1 ?side2 A7.out).mono ?_);(case side1 => exact zc_ HR220_1 HB);(case side2 => exact HC220_1.out);rintro e w11 ⟨rfl,hb⟩;refine ⟨_,rfl,?_⟩;replace HB := zs_ HB hb;(try clear hb);(try clear hb2);(try clear hk);(try clear hi)))
       go_ret
       exact ⟨zt_,zl_ HB⟩
      ·rw [if_neg c8] at H
       have c8b0 : decide (t221 < 0) = false := decide_eq_false c8
       clear c8
       replace H := Option.bind_eq_some_iff.mp H
       obtain ⟨t223,A120,H⟩ := H
       try dsimp only at H
       have A12 := am_ A120
       clear A120
       by_cases c13 : t223 < 0
       ·rw [if_pos c13] at H
        have c13b0 : decide (t223 < 0) = true := decide_eq_true c13
        clear c13
        obtain rfl := Option.some.inj H
        try go_wp2
        replace HB := am_ (below_drew1 HB.out)
        have p218 : 0 ≤ (x5_1 : Int) := zo_
        have q218 : x5_1 < (l0.length : Int) := zo_
        obtain ⟨ad218,A218_1,c218_1,A218_2,c218_2,e218,hx218_0,hx218_1,hx218_2,hx218_3,hx218_4,hl218_1,hi218_1,hl218_2,hi218_2⟩ := at_T51 HR0.out x5_1 p218 q218
        have hw218_4 := hx218_4
        have hw218_3 := hx218_3
        have hw218_2 := hx218_2
        have hw218_1 := hx218_1
        have hw218_0 := hx218_0
        have hv218_1 := hx218_1
        have hv218_2 := hx218_2
        cases e218
        replace hx218_0 := zx_ HB hx218_0
        replace hx218_1 := zx_ HB hx218_1
        replace hx218_2 := zx_ HB hx218_2
        replace hx218_3 := zx_ HB hx218_3
        replace hx218_4 := zx_ HB hx218_4
        have HR218_1 := am_ hi218_1
        have HC218_1 := am_ hl218_1
        clear hi218_1 hl218_1
        have HR218_2 := am_ hi218_2
        have HC218_2 := am_ hl218_2
        clear hi218_2 hl218_2
        replace p218 := eq_true p218
        replace q218 := eq_true q218
        refine start_ (n := 8) (S := fun w' => w'.cell? (ad218.add ((x5_1).toNat * 5)) = some (.string ((rd_T51 l0 x5_1).f0)) ∧ w'.cell? ⟨(ad218.add ((x5_1).toNat * 5)).block,(ad218.add ((x5_1).toNat * 5)).off + 1,none⟩ = some (.slice A218_1 ((rd_T51 l0 x5_1).f1).length c218_1) ∧ w'.cell? ⟨(ad218.add ((x5_1).toNat * 5)).block,(ad218.add ((x5_1).toNat * 5)).off + 2,none⟩ = some (.slice A218_2 ((rd_T51 l0 x5_1).f2).length c218_2) ∧ w'.cell? ⟨(ad218.add ((x5_1).toNat * 5)).block,(ad218.add ((x5_1).toNat * 5)).off + 3,none⟩ = some (.bool ((rd_T51 l0 x5_1).f3)) ∧ w'.cell? ⟨(ad218.add ((x5_1).toNat * 5)).block,(ad218.add ((x5_1).toNat * 5)).off + 4,none⟩ = some (.bool ((rd_T51 l0 x5_1).f4))) (ds := []) #[false,false,false,false,false,false,false,false] (by kernel_rfl) rfl rfl ⟨(zx_ HB hw218_0),(zx_ HB hw218_1),(zx_ HB hw218_2),(zx_ HB hw218_3),(zx_ HB hw218_4)⟩ (fun hHeld => ?_);refine with_tabW laws_heldSlotS.tab4 laws_heldSlotS.bits4 (fun HT_ HW_ => ?_)
        generalize wr.drew = w14 at HB HR218_1 HR218_2 hx218_0 hx218_1 hx218_2 hx218_3 hx218_4 hHeld ⊢
        refine zpu 0 (N := some 12) HT_ ?_
        refine zpu 1 (N := some 13) HT_ ?_
        refine zpu 2 (N := some 14) HT_ ?_
        refine zpu 3 (N := some 15) HT_ ?_
        refine zpu 5 (N := some 17) HT_ ?_
        refine ztk 4 (N := some 16) HT_ HW_ hHeld ?_
        refine zon 6 (N := some 18) HT_ (fun K hK => ?_)
        refine zgo Try.func31 #[.int .i64 x1_1] ?_
        with_reducible refine (laws_markText.calls k1 x1_1 t219 _ A5.out).mono ?_
        rintro e w15 ⟨rfl,hb⟩
        refine ⟨_,rfl,?_⟩
        replace HB := zs_ HB hb
        (try clear hb)
        (try clear hb2)
        (try clear hk)
        (try clear hi)
        refine hK.out _ _ ⟨(zx_ HB hw218_0),(zx_ HB hw218_1),(zx_ HB hw218_2),(zx_ HB hw218_3),(zx_ HB hw218_4)⟩ (fun hHeld => ?_)
        clear hK K
        refine norm_ (a' := ?_) ?_ ?_
        rotate_left
        ·show Act.put _ (some 18) _ = _
         simp only [Act.put,p1_,p2_,p3_,i64_w,i32_w]
         rfl
        refine zpu 7 (N := some 19) HT_ ?_
        refine done_ (done_of HT_.out (by kernel_rfl)) ?_
        have p220 : 0 ≤ (x5_1 : Int) := zo_
        have q220 : x5_1 < (l0.length : Int) := zo_
        obtain ⟨ad220,A220_1,c220_1,A220_2,c220_2,e220,hx220_0,hx220_1,hx220_2,hx220_3,hx220_4,hl220_1,hi220_1,hl220_2,hi220_2⟩ := at_T51 HR0.out x5_1 p220 q220
        have hv220_1 := hx220_1
        have hv220_2 := hx220_2
        obtain rfl : ad218 = ad220 := (by injection e220)
        have ea_ := Option.some.inj (hv218_1.symm.trans hv220_1)
        injection ea_ with ea_ en_ ec_
        subst ea_
        subst ec_
        clear en_
        have ea_ := Option.some.inj (hv218_2.symm.trans hv220_2)
        injection ea_ with ea_ en_ ec_
        subst ea_
        subst ec_
        clear en_
        replace hx220_0 := zx_ HB hx220_0
        replace hx220_1 := zx_ HB hx220_1
        replace hx220_2 := zx_ HB hx220_2
        replace hx220_3 := zx_ HB hx220_3
        replace hx220_4 := zx_ HB hx220_4
        have HR220_1 := am_ hi220_1
        have HC220_1 := am_ hl220_1
        clear hi220_1 hl220_1
        have HR220_2 := am_ hi220_2
        have HC220_2 := am_ hl220_2
        clear hi220_2 hl220_2
        replace p220 := eq_true p220
        replace q220 := eq_true q220
        try go_wp2_with (first | ((with_reducible refine gate_callee (f := 25) rfl ?_);refine zgl (some 28) Try.func25 #[.slice A218_1 ((rd_T51 l0 x5_1).f1).length c218_1,.int .i64 (wrap64 (x1_1 + 1))] ?_;(with_reducible refine (laws_heldMessageS.calls k1 _ _ ((rd_T51 l0 x5_1).f1) (wrap64 (x1_1 + 1)) t221 _ ?side1 ?side2 A7.out).mono ?_);(case side1 => exact zc_ HR220_1 HB);(case side2 => exact HC220_1.out);rintro e w16 ⟨rfl,hb⟩;refine ⟨_,rfl,?_⟩;replace HB := zs_ HB hb;(try clear hb);(try clear hb2);(try clear hk);(try clear hi);have p222 : 0 ≤ (x5_1 : Int) := zo_;have q222 : x5_1 < (l0.length : Int) := zo_;obtain ⟨ad222,A222_1,c222_1,A222_2,c222_2,e222,hx222_0,hx222_1,hx222_2,hx222_3,hx222_4,hl222_1,hi222_1,hl222_2,hi222_2⟩ := at_T51 HR0.out x5_1 p222 q222;have hv222_1 := hx222_1;have hv222_2 := hx222_2;obtain rfl : ad218 = ad222 := (by injection e222);have ea_ := Option.some.inj (hv218_1.symm.trans hv222_1);injection ea_ with ea_ en_ ec_;subst ea_;subst ec_;clear en_;have ea_ := Option.some.inj (hv218_2.symm.trans hv222_2);injection ea_ with ea_ en_ ec_;subst ea_;subst ec_;clear en_;replace hx222_0 := zx_ HB hx222_0;replace hx222_1 := zx_ HB hx222_1;replace hx222_2 := zx_ HB hx222_2;replace hx222_3 := zx_ HB hx222_3;replace hx222_4 := zx_ HB hx222_4;have HR222_1 := am_ hi222_1;have HC222_1 := am_ hl222_1;clear hi222_1 hl222_1;have HR222_2 := am_ hi222_2;have HC222_2 := am_ hl222_2;clear hi222_2 hl222_2;replace p222 := eq_true p222;replace q222 := eq_true q222) | ((with_reducible refine gate_callee (f := 25) rfl ?_);refine zgl (some 37) Try.func25 #[.slice A218_2 ((rd_T51 l0 x5_1).f2).length c218_2,.int .i64 t221] ?_;(with_reducible refine (laws_heldMessageS.calls k1 _ _ ((rd_T51 l0 x5_1).f2) t221 t223 _ ?side1 ?side2 A12.out).mono ?_);(case side1 => exact zc_ HR222_2 HB);(case side2 => exact HC222_2.out);rintro e w17 ⟨rfl,hb⟩;refine ⟨_,rfl,?_⟩;replace HB := zs_ HB hb;(try clear hb);(try clear hb2);(try clear hk);(try clear hi)))
        go_ret
        exact ⟨zt_,zl_ HB⟩
       ·rw [if_neg c13] at H
        have c13b0 : decide (t223 < 0) = false := decide_eq_false c13
        clear c13
        by_cases c18 : (((rd_T51 l0 x5_1).f3) != ((Int.tmod t223 3) == 0)) = true
        ·rw [if_pos c18] at H
         have c18b0 : (((rd_T51 l0 x5_1).f3) != ((Int.tmod t223 3) == 0)) = true := c18
         (try (have c18b1 : decide (((rd_T51 l0 x5_1).f3) = ((Int.tmod t223 3) == 0)) = false := by simpa using c18))
         (try (have c18b2 : (((rd_T51 l0 x5_1).f3) == ((Int.tmod t223 3) == 0)) = false := by simpa using c18))
         (try (have c18b3 : ¬ (((rd_T51 l0 x5_1).f3) = ((Int.tmod t223 3) == 0)) := by simpa using c18))
         clear c18
         obtain rfl := Option.some.inj H
         try go_wp2
         replace HB := am_ (below_drew1 HB.out)
         have p218 : 0 ≤ (x5_1 : Int) := zo_
         have q218 : x5_1 < (l0.length : Int) := zo_
         obtain ⟨ad218,A218_1,c218_1,A218_2,c218_2,e218,hx218_0,hx218_1,hx218_2,hx218_3,hx218_4,hl218_1,hi218_1,hl218_2,hi218_2⟩ := at_T51 HR0.out x5_1 p218 q218
         have hw218_4 := hx218_4
         have hw218_3 := hx218_3
         have hw218_2 := hx218_2
         have hw218_1 := hx218_1
         have hw218_0 := hx218_0
         have hv218_1 := hx218_1
         have hv218_2 := hx218_2
         cases e218
         replace hx218_0 := zx_ HB hx218_0
         replace hx218_1 := zx_ HB hx218_1
         replace hx218_2 := zx_ HB hx218_2
         replace hx218_3 := zx_ HB hx218_3
         replace hx218_4 := zx_ HB hx218_4
         have HR218_1 := am_ hi218_1
         have HC218_1 := am_ hl218_1
         clear hi218_1 hl218_1
         have HR218_2 := am_ hi218_2
         have HC218_2 := am_ hl218_2
         clear hi218_2 hl218_2
         replace p218 := eq_true p218
         replace q218 := eq_true q218
         refine start_ (n := 8) (S := fun w' => w'.cell? (ad218.add ((x5_1).toNat * 5)) = some (.string ((rd_T51 l0 x5_1).f0)) ∧ w'.cell? ⟨(ad218.add ((x5_1).toNat * 5)).block,(ad218.add ((x5_1).toNat * 5)).off + 1,none⟩ = some (.slice A218_1 ((rd_T51 l0 x5_1).f1).length c218_1) ∧ w'.cell? ⟨(ad218.add ((x5_1).toNat * 5)).block,(ad218.add ((x5_1).toNat * 5)).off + 2,none⟩ = some (.slice A218_2 ((rd_T51 l0 x5_1).f2).length c218_2) ∧ w'.cell? ⟨(ad218.add ((x5_1).toNat * 5)).block,(ad218.add ((x5_1).toNat * 5)).off + 3,none⟩ = some (.bool ((rd_T51 l0 x5_1).f3)) ∧ w'.cell? ⟨(ad218.add ((x5_1).toNat * 5)).block,(ad218.add ((x5_1).toNat * 5)).off + 4,none⟩ = some (.bool ((rd_T51 l0 x5_1).f4))) (ds := []) #[false,false,false,false,false,false,false,false] (by kernel_rfl) rfl rfl ⟨(zx_ HB hw218_0),(zx_ HB hw218_1),(zx_ HB hw218_2),(zx_ HB hw218_3),(zx_ HB hw218_4)⟩ (fun hHeld => ?_);refine with_tabW laws_heldSlotS.tab4 laws_heldSlotS.bits4 (fun HT_ HW_ => ?_)
         generalize wr.drew = w19 at HB HR218_1 HR218_2 hx218_0 hx218_1 hx218_2 hx218_3 hx218_4 hHeld ⊢
         refine zpu 0 (N := some 12) HT_ ?_
         refine zpu 1 (N := some 13) HT_ ?_
         refine zpu 2 (N := some 14) HT_ ?_
         refine zpu 3 (N := some 15) HT_ ?_
         refine zpu 5 (N := some 17) HT_ ?_
         refine ztk 4 (N := some 16) HT_ HW_ hHeld ?_
         refine zon 6 (N := some 18) HT_ (fun K hK => ?_)
         refine zgo Try.func31 #[.int .i64 x1_1] ?_
         with_reducible refine (laws_markText.calls k1 x1_1 t219 _ A5.out).mono ?_
         rintro e w20 ⟨rfl,hb⟩
         refine ⟨_,rfl,?_⟩
         replace HB := zs_ HB hb
         (try clear hb)
         (try clear hb2)
         (try clear hk)
         (try clear hi)
         refine hK.out _ _ ⟨(zx_ HB hw218_0),(zx_ HB hw218_1),(zx_ HB hw218_2),(zx_ HB hw218_3),(zx_ HB hw218_4)⟩ (fun hHeld => ?_)
         clear hK K
         refine norm_ (a' := ?_) ?_ ?_
         rotate_left
         ·show Act.put _ (some 18) _ = _
          simp only [Act.put,p1_,p2_,p3_,i64_w,i32_w]
          rfl
         refine zpu 7 (N := some 19) HT_ ?_
         refine done_ (done_of HT_.out (by kernel_rfl)) ?_
         have p220 : 0 ≤ (x5_1 : Int) := zo_
         have q220 : x5_1 < (l0.length : Int) := zo_
         obtain ⟨ad220,A220_1,c220_1,A220_2,c220_2,e220,hx220_0,hx220_1,hx220_2,hx220_3,hx220_4,hl220_1,hi220_1,hl220_2,hi220_2⟩ := at_T51 HR0.out x5_1 p220 q220
         have hv220_1 := hx220_1
         have hv220_2 := hx220_2
         obtain rfl : ad218 = ad220 := (by injection e220)
         have ea_ := Option.some.inj (hv218_1.symm.trans hv220_1)
         injection ea_ with ea_ en_ ec_
         subst ea_
         subst ec_
         clear en_
         have ea_ := Option.some.inj (hv218_2.symm.trans hv220_2)
         injection ea_ with ea_ en_ ec_
         subst ea_
         subst ec_
         clear en_
         replace hx220_0 := zx_ HB hx220_0
         replace hx220_1 := zx_ HB hx220_1
         replace hx220_2 := zx_ HB hx220_2
         replace hx220_3 := zx_ HB hx220_3
         replace hx220_4 := zx_ HB hx220_4
         have HR220_1 := am_ hi220_1
         have HC220_1 := am_ hl220_1
         clear hi220_1 hl220_1
         have HR220_2 := am_ hi220_2
         have HC220_2 := am_ hl220_2
         clear hi220_2 hl220_2
         replace p220 := eq_true p220
         replace q220 := eq_true q220
         try go_wp2_with (first | ((with_reducible refine gate_callee (f := 25) rfl ?_);refine zgl (some 28) Try.func25 #[.slice A218_1 ((rd_T51 l0 x5_1).f1).length c218_1,.int .i64 (wrap64 (x1_1 + 1))] ?_;(with_reducible refine (laws_heldMessageS.calls k1 _ _ ((rd_T51 l0 x5_1).f1) (wrap64 (x1_1 + 1)) t221 _ ?side1 ?side2 A7.out).mono ?_);(case side1 => exact zc_ HR220_1 HB);(case side2 => exact HC220_1.out);rintro e w21 ⟨rfl,hb⟩;refine ⟨_,rfl,?_⟩;replace HB := zs_ HB hb;(try clear hb);(try clear hb2);(try clear hk);(try clear hi);have p222 : 0 ≤ (x5_1 : Int) := zo_;have q222 : x5_1 < (l0.length : Int) := zo_;obtain ⟨ad222,A222_1,c222_1,A222_2,c222_2,e222,hx222_0,hx222_1,hx222_2,hx222_3,hx222_4,hl222_1,hi222_1,hl222_2,hi222_2⟩ := at_T51 HR0.out x5_1 p222 q222;have hv222_1 := hx222_1;have hv222_2 := hx222_2;obtain rfl : ad218 = ad222 := (by injection e222);have ea_ := Option.some.inj (hv218_1.symm.trans hv222_1);injection ea_ with ea_ en_ ec_;subst ea_;subst ec_;clear en_;have ea_ := Option.some.inj (hv218_2.symm.trans hv222_2);injection ea_ with ea_ en_ ec_;subst ea_;subst ec_;clear en_;replace hx222_0 := zx_ HB hx222_0;replace hx222_1 := zx_ HB hx222_1;replace hx222_2 := zx_ HB hx222_2;replace hx222_3 := zx_ HB hx222_3;replace hx222_4 := zx_ HB hx222_4;have HR222_1 := am_ hi222_1;have HC222_1 := am_ hl222_1;clear hi222_1 hl222_1;have HR222_2 := am_ hi222_2;have HC222_2 := am_ hl222_2;clear hi222_2 hl222_2;replace p222 := eq_true p222;replace q222 := eq_true q222) | ((with_reducible refine gate_callee (f := 25) rfl ?_);refine zgl (some 37) Try.func25 #[.slice A218_2 ((rd_T51 l0 x5_1).f2).length c218_2,.int .i64 t221] ?_;(with_reducible refine (laws_heldMessageS.calls k1 _ _ ((rd_T51 l0 x5_1).f2) t221 t223 _ ?side1 ?side2 A12.out).mono ?_);(case side1 => exact zc_ HR222_2 HB);(case side2 => exact HC222_2.out);rintro e w22 ⟨rfl,hb⟩;refine ⟨_,rfl,?_⟩;replace HB := zs_ HB hb;(try clear hb);(try clear hb2);(try clear hk);(try clear hi);have p224 : 0 ≤ (x5_1 : Int) := zo_;have q224 : x5_1 < (l0.length : Int) := zo_;obtain ⟨ad224,A224_1,c224_1,A224_2,c224_2,e224,hx224_0,hx224_1,hx224_2,hx224_3,hx224_4,hl224_1,hi224_1,hl224_2,hi224_2⟩ := at_T51 HR0.out x5_1 p224 q224;have hv224_1 := hx224_1;have hv224_2 := hx224_2;obtain rfl : ad218 = ad224 := (by injection e224);have ea_ := Option.some.inj (hv218_1.symm.trans hv224_1);injection ea_ with ea_ en_ ec_;subst ea_;subst ec_;clear en_;have ea_ := Option.some.inj (hv218_2.symm.trans hv224_2);injection ea_ with ea_ en_ ec_;subst ea_;subst ec_;clear en_;replace hx224_0 := zx_ HB hx224_0;replace hx224_1 := zx_ HB hx224_1;replace hx224_2 := zx_ HB hx224_2;replace hx224_3 := zx_ HB hx224_3;replace hx224_4 := zx_ HB hx224_4;have HR224_1 := am_ hi224_1;have HC224_1 := am_ hl224_1;clear hi224_1 hl224_1;have HR224_2 := am_ hi224_2;have HC224_2 := am_ hl224_2;clear hi224_2 hl224_2;replace p224 := eq_true p224;replace q224 := eq_true q224))
         go_ret
         exact ⟨zt_,zl_ HB⟩
        ·rw [if_neg c18] at H
         have c18b0 : (((rd_T51 l0 x5_1).f3) != ((Int.tmod t223 3) == 0)) = false := by simpa using c18
         (try (have c18b1 : decide (((rd_T51 l0 x5_1).f3) = ((Int.tmod t223 3) == 0)) = true := by simpa using c18))
         (try (have c18b2 : (((rd_T51 l0 x5_1).f3) == ((Int.tmod t223 3) == 0)) = true := by simpa using c18))
         clear c18
         by_cases c23 : (((rd_T51 l0 x5_1).f4) != ((Int.tmod (wrap64 (t223 + 1)) 3) == 0)) = true
         ·rw [if_pos c23] at H
          have c23b0 : (((rd_T51 l0 x5_1).f4) != ((Int.tmod (wrap64 (t223 + 1)) 3) == 0)) = true := c23
          (try (have c23b1 : decide (((rd_T51 l0 x5_1).f4) = ((Int.tmod (wrap64 (t223 + 1)) 3) == 0)) = false := by simpa using c23))
          (try (have c23b2 : (((rd_T51 l0 x5_1).f4) == ((Int.tmod (wrap64 (t223 + 1)) 3) == 0)) = false := by simpa using c23))
          (try (have c23b3 : ¬ (((rd_T51 l0 x5_1).f4) = ((Int.tmod (wrap64 (t223 + 1)) 3) == 0)) := by simpa using c23))
          clear c23
          obtain rfl := Option.some.inj H
          try go_wp2
          replace HB := am_ (below_drew1 HB.out)
          have p218 : 0 ≤ (x5_1 : Int) := zo_
          have q218 : x5_1 < (l0.length : Int) := zo_
          obtain ⟨ad218,A218_1,c218_1,A218_2,c218_2,e218,hx218_0,hx218_1,hx218_2,hx218_3,hx218_4,hl218_1,hi218_1,hl218_2,hi218_2⟩ := at_T51 HR0.out x5_1 p218 q218
          have hw218_4 := hx218_4
          have hw218_3 := hx218_3
          have hw218_2 := hx218_2
          have hw218_1 := hx218_1
          have hw218_0 := hx218_0
          have hv218_1 := hx218_1
          have hv218_2 := hx218_2
          cases e218
          replace hx218_0 := zx_ HB hx218_0
          replace hx218_1 := zx_ HB hx218_1
          replace hx218_2 := zx_ HB hx218_2
          replace hx218_3 := zx_ HB hx218_3
          replace hx218_4 := zx_ HB hx218_4
          have HR218_1 := am_ hi218_1
          have HC218_1 := am_ hl218_1
          clear hi218_1 hl218_1
          have HR218_2 := am_ hi218_2
          have HC218_2 := am_ hl218_2
          clear hi218_2 hl218_2
          replace p218 := eq_true p218
          replace q218 := eq_true q218
          refine start_ (n := 8) (S := fun w' => w'.cell? (ad218.add ((x5_1).toNat * 5)) = some (.string ((rd_T51 l0 x5_1).f0)) ∧ w'.cell? ⟨(ad218.add ((x5_1).toNat * 5)).block,(ad218.add ((x5_1).toNat * 5)).off + 1,none⟩ = some (.slice A218_1 ((rd_T51 l0 x5_1).f1).length c218_1) ∧ w'.cell? ⟨(ad218.add ((x5_1).toNat * 5)).block,(ad218.add ((x5_1).toNat * 5)).off + 2,none⟩ = some (.slice A218_2 ((rd_T51 l0 x5_1).f2).length c218_2) ∧ w'.cell? ⟨(ad218.add ((x5_1).toNat * 5)).block,(ad218.add ((x5_1).toNat * 5)).off + 3,none⟩ = some (.bool ((rd_T51 l0 x5_1).f3)) ∧ w'.cell? ⟨(ad218.add ((x5_1).toNat * 5)).block,(ad218.add ((x5_1).toNat * 5)).off + 4,none⟩ = some (.bool ((rd_T51 l0 x5_1).f4))) (ds := []) #[false,false,false,false,false,false,false,false] (by kernel_rfl) rfl rfl ⟨(zx_ HB hw218_0),(zx_ HB hw218_1),(zx_ HB hw218_2),(zx_ HB hw218_3),(zx_ HB hw218_4)⟩ (fun hHeld => ?_);refine with_tabW laws_heldSlotS.tab4 laws_heldSlotS.bits4 (fun HT_ HW_ => ?_)
          generalize wr.drew = w24 at HB HR218_1 HR218_2 hx218_0 hx218_1 hx218_2 hx218_3 hx218_4 hHeld ⊢
          refine zpu 0 (N := some 12) HT_ ?_
          refine zpu 1 (N := some 13) HT_ ?_
          refine zpu 2 (N := some 14) HT_ ?_
          refine zpu 3 (N := some 15) HT_ ?_
          refine zpu 5 (N := some 17) HT_ ?_
          refine ztk 4 (N := some 16) HT_ HW_ hHeld ?_
          refine zon 6 (N := some 18) HT_ (fun K hK => ?_)
          refine zgo Try.func31 #[.int .i64 x1_1] ?_
          with_reducible refine (laws_markText.calls k1 x1_1 t219 _ A5.out).mono ?_
          rintro e w25 ⟨rfl,hb⟩
          refine ⟨_,rfl,?_⟩
          replace HB := zs_ HB hb
          (try clear hb)
          (try clear hb2)
          (try clear hk)
          (try clear hi)
          refine hK.out _ _ ⟨(zx_ HB hw218_0),(zx_ HB hw218_1),(zx_ HB hw218_2),(zx_ HB hw218_3),(zx_ HB hw218_4)⟩ (fun hHeld => ?_)
          clear hK K
          refine norm_ (a' := ?_) ?_ ?_
          rotate_left
          ·show Act.put _ (some 18) _ = _
           simp only [Act.put,p1_,p2_,p3_,i64_w,i32_w]
           rfl
          refine zpu 7 (N := some 19) HT_ ?_
          refine done_ (done_of HT_.out (by kernel_rfl)) ?_
          have p220 : 0 ≤ (x5_1 : Int) := zo_
          have q220 : x5_1 < (l0.length : Int) := zo_
          obtain ⟨ad220,A220_1,c220_1,A220_2,c220_2,e220,hx220_0,hx220_1,hx220_2,hx220_3,hx220_4,hl220_1,hi220_1,hl220_2,hi220_2⟩ := at_T51 HR0.out x5_1 p220 q220
          have hv220_1 := hx220_1
          have hv220_2 := hx220_2
          obtain rfl : ad218 = ad220 := (by injection e220)
          have ea_ := Option.some.inj (hv218_1.symm.trans hv220_1)
          injection ea_ with ea_ en_ ec_
          subst ea_
          subst ec_
          clear en_
          have ea_ := Option.some.inj (hv218_2.symm.trans hv220_2)
          injection ea_ with ea_ en_ ec_
          subst ea_
          subst ec_
          clear en_
          replace hx220_0 := zx_ HB hx220_0
          replace hx220_1 := zx_ HB hx220_1
          replace hx220_2 := zx_ HB hx220_2
          replace hx220_3 := zx_ HB hx220_3
          replace hx220_4 := zx_ HB hx220_4
          have HR220_1 := am_ hi220_1
          have HC220_1 := am_ hl220_1
          clear hi220_1 hl220_1
          have HR220_2 := am_ hi220_2
          have HC220_2 := am_ hl220_2
          clear hi220_2 hl220_2
          replace p220 := eq_true p220
          replace q220 := eq_true q220
          try go_wp2_with (first | ((with_reducible refine gate_callee (f := 25) rfl ?_);refine zgl (some 28) Try.func25 #[.slice A218_1 ((rd_T51 l0 x5_1).f1).length c218_1,.int .i64 (wrap64 (x1_1 + 1))] ?_;(with_reducible refine (laws_heldMessageS.calls k1 _ _ ((rd_T51 l0 x5_1).f1) (wrap64 (x1_1 + 1)) t221 _ ?side1 ?side2 A7.out).mono ?_);(case side1 => exact zc_ HR220_1 HB);(case side2 => exact HC220_1.out);rintro e w26 ⟨rfl,hb⟩;refine ⟨_,rfl,?_⟩;replace HB := zs_ HB hb;(try clear hb);(try clear hb2);(try clear hk);(try clear hi);have p222 : 0 ≤ (x5_1 : Int) := zo_;have q222 : x5_1 < (l0.length : Int) := zo_;obtain ⟨ad222,A222_1,c222_1,A222_2,c222_2,e222,hx222_0,hx222_1,hx222_2,hx222_3,hx222_4,hl222_1,hi222_1,hl222_2,hi222_2⟩ := at_T51 HR0.out x5_1 p222 q222;have hv222_1 := hx222_1;have hv222_2 := hx222_2;obtain rfl : ad218 = ad222 := (by injection e222);have ea_ := Option.some.inj (hv218_1.symm.trans hv222_1);injection ea_ with ea_ en_ ec_;subst ea_;subst ec_;clear en_;have ea_ := Option.some.inj (hv218_2.symm.trans hv222_2);injection ea_ with ea_ en_ ec_;subst ea_;subst ec_;clear en_;replace hx222_0 := zx_ HB hx222_0;replace hx222_1 := zx_ HB hx222_1;replace hx222_2 := zx_ HB hx222_2;replace hx222_3 := zx_ HB hx222_3;replace hx222_4 := zx_ HB hx222_4;have HR222_1 := am_ hi222_1;have HC222_1 := am_ hl222_1;clear hi222_1 hl222_1;have HR222_2 := am_ hi222_2;have HC222_2 := am_ hl222_2;clear hi222_2 hl222_2;replace p222 := eq_true p222;replace q222 := eq_true q222) | ((with_reducible refine gate_callee (f := 25) rfl ?_);refine zgl (some 37) Try.func25 #[.slice A218_2 ((rd_T51 l0 x5_1).f2).length c218_2,.int .i64 t221] ?_;(with_reducible refine (laws_heldMessageS.calls k1 _ _ ((rd_T51 l0 x5_1).f2) t221 t223 _ ?side1 ?side2 A12.out).mono ?_);(case side1 => exact zc_ HR222_2 HB);(case side2 => exact HC222_2.out);rintro e w27 ⟨rfl,hb⟩;refine ⟨_,rfl,?_⟩;replace HB := zs_ HB hb;(try clear hb);(try clear hb2);(try clear hk);(try clear hi);have p224 : 0 ≤ (x5_1 : Int) := zo_;have q224 : x5_1 < (l0.length : Int) := zo_;obtain ⟨ad224,A224_1,c224_1,A224_2,c224_2,e224,hx224_0,hx224_1,hx224_2,hx224_3,hx224_4,hl224_1,hi224_1,hl224_2,hi224_2⟩ := at_T51 HR0.out x5_1 p224 q224;have hv224_1 := hx224_1;have hv224_2 := hx224_2;obtain rfl : ad218 = ad224 := (by injection e224);have ea_ := Option.some.inj (hv218_1.symm.trans hv224_1);injection ea_ with ea_ en_ ec_;subst ea_;subst ec_;clear en_;have ea_ := Option.some.inj (hv218_2.symm.trans hv224_2);injection ea_ with ea_ en_ ec_;subst ea_;subst ec_;clear en_;replace hx224_0 := zx_ HB hx224_0;replace hx224_1 := zx_ HB hx224_1;replace hx224_2 := zx_ HB hx224_2;replace hx224_3 := zx_ HB hx224_3;replace hx224_4 := zx_ HB hx224_4;have HR224_1 := am_ hi224_1;have HC224_1 := am_ hl224_1;clear hi224_1 hl224_1;have HR224_2 := am_ hi224_2;have HC224_2 := am_ hl224_2;clear hi224_2 hl224_2;replace p224 := eq_true p224;replace q224 := eq_true q224;have p225 : 0 ≤ (x5_1 : Int) := zo_;have q225 : x5_1 < (l0.length : Int) := zo_;obtain ⟨ad225,A225_1,c225_1,A225_2,c225_2,e225,hx225_0,hx225_1,hx225_2,hx225_3,hx225_4,hl225_1,hi225_1,hl225_2,hi225_2⟩ := at_T51 HR0.out x5_1 p225 q225;have hv225_1 := hx225_1;have hv225_2 := hx225_2;obtain rfl : ad218 = ad225 := (by injection e225);have ea_ := Option.some.inj (hv218_1.symm.trans hv225_1);injection ea_ with ea_ en_ ec_;subst ea_;subst ec_;clear en_;have ea_ := Option.some.inj (hv218_2.symm.trans hv225_2);injection ea_ with ea_ en_ ec_;subst ea_;subst ec_;clear en_;replace hx225_0 := zx_ HB hx225_0;replace hx225_1 := zx_ HB hx225_1;replace hx225_2 := zx_ HB hx225_2;replace hx225_3 := zx_ HB hx225_3;replace hx225_4 := zx_ HB hx225_4;have HR225_1 := am_ hi225_1;have HC225_1 := am_ hl225_1;clear hi225_1 hl225_1;have HR225_2 := am_ hi225_2;have HC225_2 := am_ hl225_2;clear hi225_2 hl225_2;replace p225 := eq_true p225;replace q225 := eq_true q225))
          go_ret
          exact ⟨zt_,zl_ HB⟩
         ·rw [if_neg c23] at H
          have c23b0 : (((rd_T51 l0 x5_1).f4) != ((Int.tmod (wrap64 (t223 + 1)) 3) == 0)) = false := by simpa using c23
          (try (have c23b1 : decide (((rd_T51 l0 x5_1).f4) = ((Int.tmod (wrap64 (t223 + 1)) 3) == 0)) = true := by simpa using c23))
          (try (have c23b2 : (((rd_T51 l0 x5_1).f4) == ((Int.tmod (wrap64 (t223 + 1)) 3) == 0)) = true := by simpa using c23))
          clear c23
          have H' := am_ H
          clear H
          try go_wp2
          replace HB := am_ (below_drew1 HB.out)
          have p218 : 0 ≤ (x5_1 : Int) := zo_
          have q218 : x5_1 < (l0.length : Int) := zo_
          obtain ⟨ad218,A218_1,c218_1,A218_2,c218_2,e218,hx218_0,hx218_1,hx218_2,hx218_3,hx218_4,hl218_1,hi218_1,hl218_2,hi218_2⟩ := at_T51 HR0.out x5_1 p218 q218
          have hw218_4 := hx218_4
          have hw218_3 := hx218_3
          have hw218_2 := hx218_2
          have hw218_1 := hx218_1
          have hw218_0 := hx218_0
          have hv218_1 := hx218_1
          have hv218_2 := hx218_2
          cases e218
          replace hx218_0 := zx_ HB hx218_0
          replace hx218_1 := zx_ HB hx218_1
          replace hx218_2 := zx_ HB hx218_2
          replace hx218_3 := zx_ HB hx218_3
          replace hx218_4 := zx_ HB hx218_4
          have HR218_1 := am_ hi218_1
          have HC218_1 := am_ hl218_1
          clear hi218_1 hl218_1
          have HR218_2 := am_ hi218_2
          have HC218_2 := am_ hl218_2
          clear hi218_2 hl218_2
          replace p218 := eq_true p218
          replace q218 := eq_true q218
          refine start_ (n := 8) (S := fun w' => w'.cell? (ad218.add ((x5_1).toNat * 5)) = some (.string ((rd_T51 l0 x5_1).f0)) ∧ w'.cell? ⟨(ad218.add ((x5_1).toNat * 5)).block,(ad218.add ((x5_1).toNat * 5)).off + 1,none⟩ = some (.slice A218_1 ((rd_T51 l0 x5_1).f1).length c218_1) ∧ w'.cell? ⟨(ad218.add ((x5_1).toNat * 5)).block,(ad218.add ((x5_1).toNat * 5)).off + 2,none⟩ = some (.slice A218_2 ((rd_T51 l0 x5_1).f2).length c218_2) ∧ w'.cell? ⟨(ad218.add ((x5_1).toNat * 5)).block,(ad218.add ((x5_1).toNat * 5)).off + 3,none⟩ = some (.bool ((rd_T51 l0 x5_1).f3)) ∧ w'.cell? ⟨(ad218.add ((x5_1).toNat * 5)).block,(ad218.add ((x5_1).toNat * 5)).off + 4,none⟩ = some (.bool ((rd_T51 l0 x5_1).f4))) (ds := []) #[false,false,false,false,false,false,false,false] (by kernel_rfl) rfl rfl ⟨(zx_ HB hw218_0),(zx_ HB hw218_1),(zx_ HB hw218_2),(zx_ HB hw218_3),(zx_ HB hw218_4)⟩ (fun hHeld => ?_);refine with_tabW laws_heldSlotS.tab4 laws_heldSlotS.bits4 (fun HT_ HW_ => ?_)
          generalize wr.drew = w28 at HB HR218_1 HR218_2 hx218_0 hx218_1 hx218_2 hx218_3 hx218_4 hHeld ⊢
          refine zpu 0 (N := some 12) HT_ ?_
          refine zpu 1 (N := some 13) HT_ ?_
          refine zpu 2 (N := some 14) HT_ ?_
          refine zpu 3 (N := some 15) HT_ ?_
          refine zpu 5 (N := some 17) HT_ ?_
          refine ztk 4 (N := some 16) HT_ HW_ hHeld ?_
          refine zon 6 (N := some 18) HT_ (fun K hK => ?_)
          refine zgo Try.func31 #[.int .i64 x1_1] ?_
          with_reducible refine (laws_markText.calls k1 x1_1 t219 _ A5.out).mono ?_
          rintro e w29 ⟨rfl,hb⟩
          refine ⟨_,rfl,?_⟩
          replace HB := zs_ HB hb
          (try clear hb)
          (try clear hb2)
          (try clear hk)
          (try clear hi)
          refine hK.out _ _ ⟨(zx_ HB hw218_0),(zx_ HB hw218_1),(zx_ HB hw218_2),(zx_ HB hw218_3),(zx_ HB hw218_4)⟩ (fun hHeld => ?_)
          clear hK K
          refine norm_ (a' := ?_) ?_ ?_
          rotate_left
          ·show Act.put _ (some 18) _ = _
           simp only [Act.put,p1_,p2_,p3_,i64_w,i32_w]
           rfl
          refine zpu 7 (N := some 19) HT_ ?_
          refine done_ (done_of HT_.out (by kernel_rfl)) ?_
          have p220 : 0 ≤ (x5_1 : Int) := zo_
          have q220 : x5_1 < (l0.length : Int) := zo_
          obtain ⟨ad220,A220_1,c220_1,A220_2,c220_2,e220,hx220_0,hx220_1,hx220_2,hx220_3,hx220_4,hl220_1,hi220_1,hl220_2,hi220_2⟩ := at_T51 HR0.out x5_1 p220 q220
          have hv220_1 := hx220_1
          have hv220_2 := hx220_2
          obtain rfl : ad218 = ad220 := (by injection e220)
          have ea_ := Option.some.inj (hv218_1.symm.trans hv220_1)
          injection ea_ with ea_ en_ ec_
          subst ea_
          subst ec_
          clear en_
          have ea_ := Option.some.inj (hv218_2.symm.trans hv220_2)
          injection ea_ with ea_ en_ ec_
          subst ea_
          subst ec_
          clear en_
          replace hx220_0 := zx_ HB hx220_0
          replace hx220_1 := zx_ HB hx220_1
          replace hx220_2 := zx_ HB hx220_2
          replace hx220_3 := zx_ HB hx220_3
          replace hx220_4 := zx_ HB hx220_4
          have HR220_1 := am_ hi220_1
          have HC220_1 := am_ hl220_1
          clear hi220_1 hl220_1
          have HR220_2 := am_ hi220_2
          have HC220_2 := am_ hl220_2
          clear hi220_2 hl220_2
          replace p220 := eq_true p220
          replace q220 := eq_true q220
          try go_wp2_with (first | ((with_reducible refine gate_callee (f := 25) rfl ?_);refine zgl (some 28) Try.func25 #[.slice A218_1 ((rd_T51 l0 x5_1).f1).length c218_1,.int .i64 (wrap64 (x1_1 + 1))] ?_;(with_reducible refine (laws_heldMessageS.calls k1 _ _ ((rd_T51 l0 x5_1).f1) (wrap64 (x1_1 + 1)) t221 _ ?side1 ?side2 A7.out).mono ?_);(case side1 => exact zc_ HR220_1 HB);(case side2 => exact HC220_1.out);rintro e w30 ⟨rfl,hb⟩;refine ⟨_,rfl,?_⟩;replace HB := zs_ HB hb;(try clear hb);(try clear hb2);(try clear hk);(try clear hi);have p222 : 0 ≤ (x5_1 : Int) := zo_;have q222 : x5_1 < (l0.length : Int) := zo_;obtain ⟨ad222,A222_1,c222_1,A222_2,c222_2,e222,hx222_0,hx222_1,hx222_2,hx222_3,hx222_4,hl222_1,hi222_1,hl222_2,hi222_2⟩ := at_T51 HR0.out x5_1 p222 q222;have hv222_1 := hx222_1;have hv222_2 := hx222_2;obtain rfl : ad218 = ad222 := (by injection e222);have ea_ := Option.some.inj (hv218_1.symm.trans hv222_1);injection ea_ with ea_ en_ ec_;subst ea_;subst ec_;clear en_;have ea_ := Option.some.inj (hv218_2.symm.trans hv222_2);injection ea_ with ea_ en_ ec_;subst ea_;subst ec_;clear en_;replace hx222_0 := zx_ HB hx222_0;replace hx222_1 := zx_ HB hx222_1;replace hx222_2 := zx_ HB hx222_2;replace hx222_3 := zx_ HB hx222_3;replace hx222_4 := zx_ HB hx222_4;have HR222_1 := am_ hi222_1;have HC222_1 := am_ hl222_1;clear hi222_1 hl222_1;have HR222_2 := am_ hi222_2;have HC222_2 := am_ hl222_2;clear hi222_2 hl222_2;replace p222 := eq_true p222;replace q222 := eq_true q222) | ((with_reducible refine gate_callee (f := 25) rfl ?_);refine zgl (some 37) Try.func25 #[.slice A218_2 ((rd_T51 l0 x5_1).f2).length c218_2,.int .i64 t221] ?_;(with_reducible refine (laws_heldMessageS.calls k1 _ _ ((rd_T51 l0 x5_1).f2) t221 t223 _ ?side1 ?side2 A12.out).mono ?_);(case side1 => exact zc_ HR222_2 HB);(case side2 => exact HC222_2.out);rintro e w31 ⟨rfl,hb⟩;refine ⟨_,rfl,?_⟩;replace HB := zs_ HB hb;(try clear hb);(try clear hb2);(try clear hk);(try clear hi);have p224 : 0 ≤ (x5_1 : Int) := zo_;have q224 : x5_1 < (l0.length : Int) := zo_;obtain ⟨ad224,A224_1,c224_1,A224_2,c224_2,e224,hx224_0,hx224_1,hx224_2,hx224_3,hx224_4,hl224_1,hi224_1,hl224_2,hi224_2⟩ := at_T51 HR0.out x5_1 p224 q224;have hv224_1 := hx224_1;have hv224_2 := hx224_2;obtain rfl : ad218 = ad224 := (by injection e224);have ea_ := Option.some.inj (hv218_1.symm.trans hv224_1);injection ea_ with ea_ en_ ec_;subst ea_;subst ec_;clear en_;have ea_ := Option.some.inj (hv218_2.symm.trans hv224_2);injection ea_ with ea_ en_ ec_;subst ea_;subst ec_;clear en_;replace hx224_0 := zx_ HB hx224_0;replace hx224_1 := zx_ HB hx224_1;replace hx224_2 := zx_ HB hx224_2;replace hx224_3 := zx_ HB hx224_3;replace hx224_4 := zx_ HB hx224_4;have HR224_1 := am_ hi224_1;have HC224_1 := am_ hl224_1;clear hi224_1 hl224_1;have HR224_2 := am_ hi224_2;have HC224_2 := am_ hl224_2;clear hi224_2 hl224_2;replace p224 := eq_true p224;replace q224 := eq_true q224;have p225 : 0 ≤ (x5_1 : Int) := zo_;have q225 : x5_1 < (l0.length : Int) := zo_;obtain ⟨ad225,A225_1,c225_1,A225_2,c225_2,e225,hx225_0,hx225_1,hx225_2,hx225_3,hx225_4,hl225_1,hi225_1,hl225_2,hi225_2⟩ := at_T51 HR0.out x5_1 p225 q225;have hv225_1 := hx225_1;have hv225_2 := hx225_2;obtain rfl : ad218 = ad225 := (by injection e225);have ea_ := Option.some.inj (hv218_1.symm.trans hv225_1);injection ea_ with ea_ en_ ec_;subst ea_;subst ec_;clear en_;have ea_ := Option.some.inj (hv218_2.symm.trans hv225_2);injection ea_ with ea_ en_ ec_;subst ea_;subst ec_;clear en_;replace hx225_0 := zx_ HB hx225_0;replace hx225_1 := zx_ HB hx225_1;replace hx225_2 := zx_ HB hx225_2;replace hx225_3 := zx_ HB hx225_3;replace hx225_4 := zx_ HB hx225_4;have HR225_1 := am_ hi225_1;have HC225_1 := am_ hl225_1;clear hi225_1 hl225_1;have HR225_2 := am_ hi225_2;have HC225_2 := am_ hl225_2;clear hi225_2 hl225_2;replace p225 := eq_true p225;replace q225 := eq_true q225))
          go_roundg k1
          case measure => have := HK1.out;omega
          case rel => exact ⟨(wrap64 ((wrap64 (t223 + 1)) + 1)),(wrap64 (x5_1 + 1)),(by first | rfl | (simp;done) | (simp [*];done)),(by first | rfl | (simp;done) | (simp [*];done)),H',⟨by have := HK1.out;omega⟩,⟨zl_ HB⟩⟩
     ·rw [if_neg c6] at H
      have c6b0 : (((rd_T51 l0 x5_1).f0).toList == t219.toList) = false := beq_eq_false_iff_ne.mpr c6
      have c6b1 : (((rd_T51 l0 x5_1).f0).toList != t219.toList) = true := bne_iff_ne.mpr c6
      obtain rfl := Option.some.inj H
      try go_wp2
      replace HB := am_ (below_drew1 HB.out)
      have p218 : 0 ≤ (x5_1 : Int) := zo_
      have q218 : x5_1 < (l0.length : Int) := zo_
      obtain ⟨ad218,A218_1,c218_1,A218_2,c218_2,e218,hx218_0,hx218_1,hx218_2,hx218_3,hx218_4,hl218_1,hi218_1,hl218_2,hi218_2⟩ := at_T51 HR0.out x5_1 p218 q218
      have hw218_4 := hx218_4
      have hw218_3 := hx218_3
      have hw218_2 := hx218_2
      have hw218_1 := hx218_1
      have hw218_0 := hx218_0
      have hv218_1 := hx218_1
      have hv218_2 := hx218_2
      cases e218
      replace hx218_0 := zx_ HB hx218_0
      replace hx218_1 := zx_ HB hx218_1
      replace hx218_2 := zx_ HB hx218_2
      replace hx218_3 := zx_ HB hx218_3
      replace hx218_4 := zx_ HB hx218_4
      have HR218_1 := am_ hi218_1
      have HC218_1 := am_ hl218_1
      clear hi218_1 hl218_1
      have HR218_2 := am_ hi218_2
      have HC218_2 := am_ hl218_2
      clear hi218_2 hl218_2
      replace p218 := eq_true p218
      replace q218 := eq_true q218
      refine start_ (n := 8) (S := fun w' => w'.cell? (ad218.add ((x5_1).toNat * 5)) = some (.string ((rd_T51 l0 x5_1).f0)) ∧ w'.cell? ⟨(ad218.add ((x5_1).toNat * 5)).block,(ad218.add ((x5_1).toNat * 5)).off + 1,none⟩ = some (.slice A218_1 ((rd_T51 l0 x5_1).f1).length c218_1) ∧ w'.cell? ⟨(ad218.add ((x5_1).toNat * 5)).block,(ad218.add ((x5_1).toNat * 5)).off + 2,none⟩ = some (.slice A218_2 ((rd_T51 l0 x5_1).f2).length c218_2) ∧ w'.cell? ⟨(ad218.add ((x5_1).toNat * 5)).block,(ad218.add ((x5_1).toNat * 5)).off + 3,none⟩ = some (.bool ((rd_T51 l0 x5_1).f3)) ∧ w'.cell? ⟨(ad218.add ((x5_1).toNat * 5)).block,(ad218.add ((x5_1).toNat * 5)).off + 4,none⟩ = some (.bool ((rd_T51 l0 x5_1).f4))) (ds := []) #[false,false,false,false,false,false,false,false] (by kernel_rfl) rfl rfl ⟨(zx_ HB hw218_0),(zx_ HB hw218_1),(zx_ HB hw218_2),(zx_ HB hw218_3),(zx_ HB hw218_4)⟩ (fun hHeld => ?_);refine with_tabW laws_heldSlotS.tab4 laws_heldSlotS.bits4 (fun HT_ HW_ => ?_)
      generalize wr.drew = w32 at HB HR218_1 HR218_2 hx218_0 hx218_1 hx218_2 hx218_3 hx218_4 hHeld ⊢
      refine zpu 0 (N := some 12) HT_ ?_
      refine zpu 1 (N := some 13) HT_ ?_
      refine zpu 2 (N := some 14) HT_ ?_
      refine zpu 3 (N := some 15) HT_ ?_
      refine zpu 5 (N := some 17) HT_ ?_
      refine ztk 4 (N := some 16) HT_ HW_ hHeld ?_
      refine zon 6 (N := some 18) HT_ (fun K hK => ?_)
      refine zgo Try.func31 #[.int .i64 x1_1] ?_
      with_reducible refine (laws_markText.calls k1 x1_1 t219 _ A5.out).mono ?_
      rintro e w33 ⟨rfl,hb⟩
      refine ⟨_,rfl,?_⟩
      replace HB := zs_ HB hb
      (try clear hb)
      (try clear hb2)
      (try clear hk)
      (try clear hi)
      refine hK.out _ _ ⟨(zx_ HB hw218_0),(zx_ HB hw218_1),(zx_ HB hw218_2),(zx_ HB hw218_3),(zx_ HB hw218_4)⟩ (fun hHeld => ?_)
      clear hK K
      refine norm_ (a' := ?_) ?_ ?_
      rotate_left
      ·show Act.put _ (some 18) _ = _
       simp only [Act.put,p1_,p2_,p3_,i64_w,i32_w]
       rfl
      refine zpu 7 (N := some 19) HT_ ?_
      refine done_ (done_of HT_.out (by kernel_rfl)) ?_
      try go_wp2
      go_ret
      exact ⟨zt_,zl_ HB⟩
    ·rw [if_neg c4] at H
     exact absurd H (by simp)
   ·rw [if_neg c3] at H
    have c3b0 : decide (x5_1 < (l0.length : Int)) = false := decide_eq_false c3
    clear c3
    obtain rfl := Option.some.inj H
    go_wp2
    go_ret
    exact ⟨zt_,zl_ HB⟩
set_option maxHeartbeats 8000000 in
set_option maxRecDepth 100000 in
theorem laws_heldStringS.calls (k : Nat) (A0 : Option Addr) (c0 : Nat) (l0 : List ByteArray) (a1 : Int) (r : Int) (w : World) (hr0 : Kd.C Kd.string w A0 l0.length l0) (hc0 : l0.length ≤ c0) (h : laws_heldStringS.f k l0 a1 = some r) :
  Calls Try.prog 24 #[.slice A0 l0.length c0,.int .i64 a1] w fun e w' => e = .returned (.int .i64 r) ∧ Below w.heap.size w w' := by
 have HR0 := am_ hr0
 have HC0 := am_ hc0
 clear hr0 hc0
 have HB := am_ (Below.refl w.heap.size w)
 have H : (laws_heldStringS.l0 k l0 a1 0) = some r := h
 clear h
 have H' := am_ H
 clear H
 go_enter Try.func24,Try.ntmps24
 go_wp2
 go_loopg [1,5] k (fun kq v1 v5 w' => ∃ (x1_1 : Int) (x5_1 : Int),v1 = .int .i64 x1_1 ∧ v5 = .int .i64 x5_1 ∧ Aside0 (laws_heldStringS.l0 kq l0 x1_1 x5_1 = some r) ∧ Aside0 (kq ≤ k) ∧ Aside0 (Below w.heap.size w w'))
 case atStart => exact ⟨(a1),(0),(by first | rfl | (simp;done) | (simp [*];done)),(by first | rfl | (simp;done) | (simp [*];done)),H',⟨Nat.le_refl _⟩,⟨zl_ HB⟩⟩
 case round =>
  clear H'
  try clear c2
  try clear p2
  obtain ⟨x1_1,x5_1,rfl,rfl,HA,HK1,HB⟩ := hrel
  cases gk with
  | zero => exact absurd HA.out (by simp [laws_heldStringS.l0])
  | succ k1 =>
   have H := HA.out
   clear HA
   simp only [laws_heldStringS.l0] at H
   by_cases c3 : x5_1 < (l0.length : Int)
   ·rw [if_pos c3] at H
    have c3b0 : decide (x5_1 < (l0.length : Int)) = true := decide_eq_true c3
    clear c3
    by_cases c4 : 0 ≤ x5_1
    ·rw [if_pos c4] at H
     have c4b0 : decide (0 ≤ x5_1) = true := decide_eq_true c4
     clear c4
     replace H := Option.bind_eq_some_iff.mp H
     obtain ⟨t231,A50,H⟩ := H
     try dsimp only at H
     have A5 := am_ A50
     clear A50
     by_cases c6 : (rdOf ByteArray.empty l0 x5_1).toList = t231.toList
     ·rw [if_pos c6] at H
      have c6b0 : ((rdOf ByteArray.empty l0 x5_1).toList == t231.toList) = true := beq_iff_eq.mpr c6
      have c6b1 : ((rdOf ByteArray.empty l0 x5_1).toList != t231.toList) = false := bne_eq_false_iff_eq.mpr c6
      clear c6
      have H' := am_ H
      clear H
      try go_wp2
      replace HB := am_ (below_drew1 HB.out)
      have p230 : 0 ≤ (x5_1 : Int) := zo_
      have q230 : x5_1 < (l0.length : Int) := zo_
      obtain ⟨ad230,e230,hx230_0⟩ := Kd.at_string HR0.out x5_1 p230 q230
      have hw230_0 := hx230_0
      cases e230
      replace hx230_0 := zx_ HB hx230_0
      replace p230 := eq_true p230
      replace q230 := eq_true q230
      refine start_ (n := 7) (S := fun w' => w'.cell? (ad230.add (x5_1).toNat) = some (.string (rdOf ByteArray.empty l0 x5_1))) (ds := []) #[false,false,false,false,false,false,false] (by kernel_rfl) rfl rfl ((zx_ HB hw230_0)) (fun hHeld => ?_)
      generalize wr.drew = w7 at HB hx230_0 hHeld ⊢
      refine pure_ (i := 0) (N := some 12) (v := ?_) (a' := ?_) #[true,false,false,false,false,false,false] rfl rfl (by kernel_rfl) (fun _ _ _ h => h) (Or.inl ⟨by rfl,?_⟩) ?_ ?_
      rotate_left
      ·intro w'
       go_simp
       with_reducible rfl
      rotate_left
      ·simp only [Act.put,p1_,p2_,p3_,i64_w,i32_w]
       rfl
      refine pure_ (i := 1) (N := some 13) (v := ?_) (a' := ?_) #[true,true,false,false,false,false,false] rfl rfl (by kernel_rfl) (fun _ _ _ h => h) (Or.inl ⟨by rfl,?_⟩) ?_ ?_
      rotate_left
      ·intro w'
       go_simp
       with_reducible rfl
      rotate_left
      ·simp only [Act.put,p1_,p2_,p3_,i64_w,i32_w]
       rfl
      refine pure_ (i := 2) (N := some 14) (v := ?_) (a' := ?_) #[true,true,true,false,false,false,false] rfl rfl (by kernel_rfl) (fun _ _ _ h => h) (Or.inl ⟨by rfl,?_⟩) ?_ ?_
      rotate_left
      ·intro w'
       go_simp
       with_reducible rfl
      rotate_left
      ·simp only [Act.put,p1_,p2_,p3_,i64_w,i32_w]
       rfl
      refine pure_ (i := 4) (N := some 16) (v := ?_) (a' := ?_) #[true,true,true,false,true,false,false] rfl rfl (by kernel_rfl) (fun _ _ _ h => h) (Or.inl ⟨by rfl,?_⟩) ?_ ?_
      rotate_left
      ·intro w'
       go_simp
       with_reducible rfl
      rotate_left
      ·simp only [Act.put,p1_,p2_,p3_,i64_w,i32_w]
       rfl
      refine take_ (i := 3) (N := some 15) (v := ?_) (a' := ?_) #[true,true,true,true,true,false,false] rfl rfl (by kernel_rfl) (fun _ _ _ h => h) (Or.inl ⟨by rfl,?_⟩) hHeld ?_ ?_
      rotate_left
      ·intro w' s0
       go_simp
       with_reducible rfl
      rotate_left
      ·simp only [Act.put,p1_,p2_,p3_,i64_w,i32_w]
       rfl
      refine one_ (i := 5) (N := some 17) #[true,true,true,true,true,true,false] rfl rfl (by kernel_rfl) (by decide) (fun K hK => ?_)
      refine zgo Try.func31 #[.int .i64 x1_1] ?_
      with_reducible refine (laws_markText.calls k1 x1_1 t231 _ A5.out).mono ?_
      rintro e w8 ⟨rfl,hb⟩
      refine ⟨_,rfl,?_⟩
      replace HB := zs_ HB hb
      (try clear hb)
      (try clear hb2)
      (try clear hk)
      (try clear hi)
      refine hK.out _ _ ((zx_ HB hw230_0)) (fun hHeld => ?_)
      clear hK K
      refine norm_ (a' := ?_) ?_ ?_
      rotate_left
      ·show Act.put _ (some 17) _ = _
       simp only [Act.put,p1_,p2_,p3_,i64_w,i32_w]
       rfl
      refine pure_ (i := 6) (N := some 18) (v := ?_) (a' := ?_) #[true,true,true,true,true,true,true] rfl rfl (by kernel_rfl) (fun _ _ _ h => h) (Or.inl ⟨by rfl,?_⟩) ?_ ?_
      rotate_left
      ·intro w'
       go_simp
       with_reducible rfl
      rotate_left
      ·simp only [Act.put,p1_,p2_,p3_,i64_w,i32_w]
       rfl
      refine done_ (by kernel_rfl) ?_
      try go_wp2
      go_roundg k1
      case measure => have := HK1.out;omega
      case rel => exact ⟨(wrap64 (x1_1 + 1)),(wrap64 (x5_1 + 1)),(by first | rfl | (simp;done) | (simp [*];done)),(by first | rfl | (simp;done) | (simp [*];done)),H',⟨by have := HK1.out;omega⟩,⟨zl_ HB⟩⟩
     ·rw [if_neg c6] at H
      have c6b0 : ((rdOf ByteArray.empty l0 x5_1).toList == t231.toList) = false := beq_eq_false_iff_ne.mpr c6
      have c6b1 : ((rdOf ByteArray.empty l0 x5_1).toList != t231.toList) = true := bne_iff_ne.mpr c6
      obtain rfl := Option.some.inj H
      try go_wp2
      replace HB := am_ (below_drew1 HB.out)
      have p230 : 0 ≤ (x5_1 : Int) := zo_
      have q230 : x5_1 < (l0.length : Int) := zo_
      obtain ⟨ad230,e230,hx230_0⟩ := Kd.at_string HR0.out x5_1 p230 q230
      have hw230_0 := hx230_0
      cases e230
      replace hx230_0 := zx_ HB hx230_0
      replace p230 := eq_true p230
      replace q230 := eq_true q230
      refine start_ (n := 7) (S := fun w' => w'.cell? (ad230.add (x5_1).toNat) = some (.string (rdOf ByteArray.empty l0 x5_1))) (ds := []) #[false,false,false,false,false,false,false] (by kernel_rfl) rfl rfl ((zx_ HB hw230_0)) (fun hHeld => ?_)
      generalize wr.drew = w9 at HB hx230_0 hHeld ⊢
      refine pure_ (i := 0) (N := some 12) (v := ?_) (a' := ?_) #[true,false,false,false,false,false,false] rfl rfl (by kernel_rfl) (fun _ _ _ h => h) (Or.inl ⟨by rfl,?_⟩) ?_ ?_
      rotate_left
      ·intro w'
       go_simp
       with_reducible rfl
      rotate_left
      ·simp only [Act.put,p1_,p2_,p3_,i64_w,i32_w]
       rfl
      refine pure_ (i := 1) (N := some 13) (v := ?_) (a' := ?_) #[true,true,false,false,false,false,false] rfl rfl (by kernel_rfl) (fun _ _ _ h => h) (Or.inl ⟨by rfl,?_⟩) ?_ ?_
      rotate_left
      ·intro w'
       go_simp
       with_reducible rfl
      rotate_left
      ·simp only [Act.put,p1_,p2_,p3_,i64_w,i32_w]
       rfl
      refine pure_ (i := 2) (N := some 14) (v := ?_) (a' := ?_) #[true,true,true,false,false,false,false] rfl rfl (by kernel_rfl) (fun _ _ _ h => h) (Or.inl ⟨by rfl,?_⟩) ?_ ?_
      rotate_left
      ·intro w'
       go_simp
       with_reducible rfl
      rotate_left
      ·simp only [Act.put,p1_,p2_,p3_,i64_w,i32_w]
       rfl
      refine pure_ (i := 4) (N := some 16) (v := ?_) (a' := ?_) #[true,true,true,false,true,false,false] rfl rfl (by kernel_rfl) (fun _ _ _ h => h) (Or.inl ⟨by rfl,?_⟩) ?_ ?_
      rotate_left
      ·intro w'
       go_simp
       with_reducible rfl
      rotate_left
      ·simp only [Act.put,p1_,p2_,p3_,i64_w,i32_w]
       rfl
      refine take_ (i := 3) (N := some 15) (v := ?_) (a' := ?_) #[true,true,true,true,true,false,false] rfl rfl (by kernel_rfl) (fun _ _ _ h => h) (Or.inl ⟨by rfl,?_⟩) hHeld ?_ ?_
      rotate_left
      ·intro w' s0
       go_simp
       with_reducible rfl
      rotate_left
      ·simp only [Act.put,p1_,p2_,p3_,i64_w,i32_w]
       rfl
      refine one_ (i := 5) (N := some 17) #[true,true,true,true,true,true,false] rfl rfl (by kernel_rfl) (by decide) (fun K hK => ?_)
      refine zgo Try.func31 #[.int .i64 x1_1] ?_
      with_reducible refine (laws_markText.calls k1 x1_1 t231 _ A5.out).mono ?_
      rintro e w10 ⟨rfl,hb⟩
      refine ⟨_,rfl,?_⟩
      replace HB := zs_ HB hb
      (try clear hb)
      (try clear hb2)
      (try clear hk)
      (try clear hi)
      refine hK.out _ _ ((zx_ HB hw230_0)) (fun hHeld => ?_)
      clear hK K
      refine norm_ (a' := ?_) ?_ ?_
      rotate_left
      ·show Act.put _ (some 17) _ = _
       simp only [Act.put,p1_,p2_,p3_,i64_w,i32_w]
       rfl
      refine pure_ (i := 6) (N := some 18) (v := ?_) (a' := ?_) #[true,true,true,true,true,true,true] rfl rfl (by kernel_rfl) (fun _ _ _ h => h) (Or.inl ⟨by rfl,?_⟩) ?_ ?_
      rotate_left
      ·intro w'
       go_simp
       with_reducible rfl
      rotate_left
      ·simp only [Act.put,p1_,p2_,p3_,i64_w,i32_w]
       rfl
      refine done_ (by kernel_rfl) ?_
      try go_wp2
      go_ret
      exact ⟨zt_,zl_ HB⟩
    ·rw [if_neg c4] at H
     exact absurd H (by simp)
   ·rw [if_neg c3] at H
    have c3b0 : decide (x5_1 < (l0.length : Int)) = false := decide_eq_false c3
    clear c3
    obtain rfl := Option.some.inj H
    go_wp2
    go_ret
    exact ⟨zt_,zl_ HB⟩
set_option maxHeartbeats 8000000 in
set_option maxRecDepth 100000 in
theorem laws_heldReplica.calls (k : Nat) (a0_0 : Int) (a0_1 : Int) (a0_2 : Int) (a0_3 : Bool) (A0_4 : Option Addr) (c0_4 : Nat) (l0_4 : List (S51)) (A0_5 : Option Addr) (c0_5 : Nat) (l0_5 : List (S46)) (A0_6 : Option Addr) (c0_6 : Nat) (l0_6 : List ByteArray) (A0_7 : Option Addr) (c0_7 : Nat) (l0_7 : List (S55)) (a1 : Int) (r : Int) (w : World) (hr0_4 : Kd.C k51 w A0_4 l0_4.length l0_4) (hc0_4 : l0_4.length ≤ c0_4) (hr0_5 : Kd.C k46 w A0_5 l0_5.length l0_5) (hc0_5 : l0_5.length ≤ c0_5) (hr0_6 : Kd.C Kd.string w A0_6 l0_6.length l0_6) (hc0_6 : l0_6.length ≤ c0_6) (hr0_7 : Kd.C k55 w A0_7 l0_7.length l0_7) (hc0_7 : l0_7.length ≤ c0_7) (h : laws_heldReplica.f k a0_0 a0_1 a0_2 a0_3 l0_4 l0_5 l0_6 l0_7 a1 = some r) :
  Calls Try.prog 8 #[.agg #[.int .i64 a0_0,.int .i64 a0_1,.int .i64 a0_2,.bool a0_3,.slice A0_4 l0_4.length c0_4,.slice A0_5 l0_5.length c0_5,.slice A0_6 l0_6.length c0_6,.slice A0_7 l0_7.length c0_7],.int .i64 a1] w fun e w' => e = .returned (.int .i64 r) ∧ Below w.heap.size w w' := by
 have hu27 := Try.underlying27
 have HR0_4 := am_ hr0_4
 have HC0_4 := am_ hc0_4
 clear hr0_4 hc0_4
 have HR0_5 := am_ hr0_5
 have HC0_5 := am_ hc0_5
 clear hr0_5 hc0_5
 have HR0_6 := am_ hr0_6
 have HC0_6 := am_ hc0_6
 clear hr0_6 hc0_6
 have HR0_7 := am_ hr0_7
 have HC0_7 := am_ hc0_7
 clear hr0_7 hc0_7
 have HB := am_ (Below.refl w.heap.size w)
 have H : ((laws_heldSlotS.f k l0_4 a1).bind fun t233 => (if t233 < 0 then (some (-1)) else ((laws_heldCertS.f k l0_5 t233).bind fun t234 => (if t234 < 0 then (some (-1)) else ((laws_heldStringS.f k l0_6 t234).bind fun t235 => (if t235 < 0 then (some (-1)) else ((laws_heldMessageS.f k l0_7 t235).bind fun t236 => (if t236 < 0 then (some (-1)) else (some t236))))))))) = some r := h
 clear h
 replace H := Option.bind_eq_some_iff.mp H
 obtain ⟨t233,A30,H⟩ := H
 try dsimp only at H
 have A3 := am_ A30
 clear A30
 by_cases c4 : t233 < 0
 ·rw [if_pos c4] at H
  have c4b0 : decide (t233 < 0) = true := decide_eq_true c4
  clear c4
  obtain rfl := Option.some.inj H
  go_enter Try.func8,Try.ntmps8
  go_wp2_with (first | ((with_reducible refine gate_dst (N := 2) rfl ?_);refine zbx (N := 2) (cs := #[.int .i64 a0_0,.int .i64 a0_1,.int .i64 a0_2,.bool a0_3,.slice A0_4 l0_4.length c0_4,.slice A0_5 l0_5.length c0_5,.slice A0_6 l0_6.length c0_6,.slice A0_7 l0_7.length c0_7]) (t := 27) ?_;intro gb232 hg w5 hbox hb;have BK232 := am_ (hbox);have GW232 := zw_ HB hg;have GE232 := zw_ HB hg;replace HB := zs_ HB hb;clear hb hbox hg;obtain ⟨hcz6_0,hcz6_1,hcz6_2,hcz6_3,hcz6_4,hcz6_5,hcz6_6,hcz6_7,hfz6_0,hfz6_1,hfz6_2,hfz6_3,hfz6_4,hfz6_5,hfz6_6,hfz6_7⟩ := zc8 BK232) | ((with_reducible refine gate_callee (f := 22) rfl ?_);refine zgl (some 8) Try.func22 #[.slice A0_4 l0_4.length c0_4,.int .i64 a1] ?_;(with_reducible refine (laws_heldSlotS.calls k _ _ l0_4 a1 t233 _ ?side1 ?side2 A3.out).mono ?_);(case side1 => exact zc_ HR0_4 HB);(case side2 => exact HC0_4.out);rintro e w7 ⟨rfl,hb⟩;refine ⟨_,rfl,?_⟩;replace BK232 := zb BK232 hb;replace HB := zs_ HB hb;(try clear hb);(try clear hb2);(try clear hk);(try clear hi)))
  go_ret
  exact ⟨zt_,zl_ HB⟩
 ·rw [if_neg c4] at H
  have c4b0 : decide (t233 < 0) = false := decide_eq_false c4
  clear c4
  replace H := Option.bind_eq_some_iff.mp H
  obtain ⟨t234,A80,H⟩ := H
  try dsimp only at H
  have A8 := am_ A80
  clear A80
  by_cases c9 : t234 < 0
  ·rw [if_pos c9] at H
   have c9b0 : decide (t234 < 0) = true := decide_eq_true c9
   clear c9
   obtain rfl := Option.some.inj H
   go_enter Try.func8,Try.ntmps8
   go_wp2_with (first | ((with_reducible refine gate_dst (N := 2) rfl ?_);refine zbx (N := 2) (cs := #[.int .i64 a0_0,.int .i64 a0_1,.int .i64 a0_2,.bool a0_3,.slice A0_4 l0_4.length c0_4,.slice A0_5 l0_5.length c0_5,.slice A0_6 l0_6.length c0_6,.slice A0_7 l0_7.length c0_7]) (t := 27) ?_;intro gb232 hg w10 hbox hb;have BK232 := am_ (hbox);have GW232 := zw_ HB hg;have GE232 := zw_ HB hg;replace HB := zs_ HB hb;clear hb hbox hg;obtain ⟨hcz11_0,hcz11_1,hcz11_2,hcz11_3,hcz11_4,hcz11_5,hcz11_6,hcz11_7,hfz11_0,hfz11_1,hfz11_2,hfz11_3,hfz11_4,hfz11_5,hfz11_6,hfz11_7⟩ := zc8 BK232) | ((with_reducible refine gate_callee (f := 22) rfl ?_);refine zgl (some 8) Try.func22 #[.slice A0_4 l0_4.length c0_4,.int .i64 a1] ?_;(with_reducible refine (laws_heldSlotS.calls k _ _ l0_4 a1 t233 _ ?side1 ?side2 A3.out).mono ?_);(case side1 => exact zc_ HR0_4 HB);(case side2 => exact HC0_4.out);rintro e w12 ⟨rfl,hb⟩;refine ⟨_,rfl,?_⟩;replace BK232 := zb BK232 hb;replace HB := zs_ HB hb;(try clear hb);(try clear hb2);(try clear hk);(try clear hi);obtain ⟨hcz13_0,hcz13_1,hcz13_2,hcz13_3,hcz13_4,hcz13_5,hcz13_6,hcz13_7,hfz13_0,hfz13_1,hfz13_2,hfz13_3,hfz13_4,hfz13_5,hfz13_6,hfz13_7⟩ := zc8 BK232) | ((with_reducible refine gate_callee (f := 23) rfl ?_);refine zgl (some 14) Try.func23 #[.slice A0_5 l0_5.length c0_5,.int .i64 t233] ?_;(with_reducible refine (laws_heldCertS.calls k _ _ l0_5 t233 t234 _ ?side1 ?side2 A8.out).mono ?_);(case side1 => exact zc_ HR0_5 HB);(case side2 => exact HC0_5.out);rintro e w14 ⟨rfl,hb⟩;refine ⟨_,rfl,?_⟩;replace BK232 := zb BK232 hb;replace HB := zs_ HB hb;(try clear hb);(try clear hb2);(try clear hk);(try clear hi)))
   go_ret
   exact ⟨zt_,zl_ HB⟩
  ·rw [if_neg c9] at H
   have c9b0 : decide (t234 < 0) = false := decide_eq_false c9
   clear c9
   replace H := Option.bind_eq_some_iff.mp H
   obtain ⟨t235,A150,H⟩ := H
   try dsimp only at H
   have A15 := am_ A150
   clear A150
   by_cases c16 : t235 < 0
   ·rw [if_pos c16] at H
    have c16b0 : decide (t235 < 0) = true := decide_eq_true c16
    clear c16
    obtain rfl := Option.some.inj H
    go_enter Try.func8,Try.ntmps8
    go_wp2_with (first | ((with_reducible refine gate_dst (N := 2) rfl ?_);refine zbx (N := 2) (cs := #[.int .i64 a0_0,.int .i64 a0_1,.int .i64 a0_2,.bool a0_3,.slice A0_4 l0_4.length c0_4,.slice A0_5 l0_5.length c0_5,.slice A0_6 l0_6.length c0_6,.slice A0_7 l0_7.length c0_7]) (t := 27) ?_;intro gb232 hg w17 hbox hb;have BK232 := am_ (hbox);have GW232 := zw_ HB hg;have GE232 := zw_ HB hg;replace HB := zs_ HB hb;clear hb hbox hg;obtain ⟨hcz18_0,hcz18_1,hcz18_2,hcz18_3,hcz18_4,hcz18_5,hcz18_6,hcz18_7,hfz18_0,hfz18_1,hfz18_2,hfz18_3,hfz18_4,hfz18_5,hfz18_6,hfz18_7⟩ := zc8 BK232) | ((with_reducible refine gate_callee (f := 22) rfl ?_);refine zgl (some 8) Try.func22 #[.slice A0_4 l0_4.length c0_4,.int .i64 a1] ?_;(with_reducible refine (laws_heldSlotS.calls k _ _ l0_4 a1 t233 _ ?side1 ?side2 A3.out).mono ?_);(case side1 => exact zc_ HR0_4 HB);(case side2 => exact HC0_4.out);rintro e w19 ⟨rfl,hb⟩;refine ⟨_,rfl,?_⟩;replace BK232 := zb BK232 hb;replace HB := zs_ HB hb;(try clear hb);(try clear hb2);(try clear hk);(try clear hi);obtain ⟨hcz20_0,hcz20_1,hcz20_2,hcz20_3,hcz20_4,hcz20_5,hcz20_6,hcz20_7,hfz20_0,hfz20_1,hfz20_2,hfz20_3,hfz20_4,hfz20_5,hfz20_6,hfz20_7⟩ := zc8 BK232) | ((with_reducible refine gate_callee (f := 23) rfl ?_);refine zgl (some 14) Try.func23 #[.slice A0_5 l0_5.length c0_5,.int .i64 t233] ?_;(with_reducible refine (laws_heldCertS.calls k _ _ l0_5 t233 t234 _ ?side1 ?side2 A8.out).mono ?_);(case side1 => exact zc_ HR0_5 HB);(case side2 => exact HC0_5.out);rintro e w21 ⟨rfl,hb⟩;refine ⟨_,rfl,?_⟩;replace BK232 := zb BK232 hb;replace HB := zs_ HB hb;(try clear hb);(try clear hb2);(try clear hk);(try clear hi);obtain ⟨hcz22_0,hcz22_1,hcz22_2,hcz22_3,hcz22_4,hcz22_5,hcz22_6,hcz22_7,hfz22_0,hfz22_1,hfz22_2,hfz22_3,hfz22_4,hfz22_5,hfz22_6,hfz22_7⟩ := zc8 BK232) | ((with_reducible refine gate_callee (f := 24) rfl ?_);refine zgl (some 20) Try.func24 #[.slice A0_6 l0_6.length c0_6,.int .i64 t234] ?_;(with_reducible refine (laws_heldStringS.calls k _ _ l0_6 t234 t235 _ ?side1 ?side2 A15.out).mono ?_);(case side1 => exact zc_ HR0_6 HB);(case side2 => exact HC0_6.out);rintro e w23 ⟨rfl,hb⟩;refine ⟨_,rfl,?_⟩;replace BK232 := zb BK232 hb;replace HB := zs_ HB hb;(try clear hb);(try clear hb2);(try clear hk);(try clear hi)))
    go_ret
    exact ⟨zt_,zl_ HB⟩
   ·rw [if_neg c16] at H
    have c16b0 : decide (t235 < 0) = false := decide_eq_false c16
    clear c16
    replace H := Option.bind_eq_some_iff.mp H
    obtain ⟨t236,A240,H⟩ := H
    try dsimp only at H
    have A24 := am_ A240
    clear A240
    by_cases c25 : t236 < 0
    ·rw [if_pos c25] at H
     have c25b0 : decide (t236 < 0) = true := decide_eq_true c25
     clear c25
     obtain rfl := Option.some.inj H
     go_enter Try.func8,Try.ntmps8
     go_wp2_with (first | ((with_reducible refine gate_dst (N := 2) rfl ?_);refine zbx (N := 2) (cs := #[.int .i64 a0_0,.int .i64 a0_1,.int .i64 a0_2,.bool a0_3,.slice A0_4 l0_4.length c0_4,.slice A0_5 l0_5.length c0_5,.slice A0_6 l0_6.length c0_6,.slice A0_7 l0_7.length c0_7]) (t := 27) ?_;intro gb232 hg w26 hbox hb;have BK232 := am_ (hbox);have GW232 := zw_ HB hg;have GE232 := zw_ HB hg;replace HB := zs_ HB hb;clear hb hbox hg;obtain ⟨hcz27_0,hcz27_1,hcz27_2,hcz27_3,hcz27_4,hcz27_5,hcz27_6,hcz27_7,hfz27_0,hfz27_1,hfz27_2,hfz27_3,hfz27_4,hfz27_5,hfz27_6,hfz27_7⟩ := zc8 BK232) | ((with_reducible refine gate_callee (f := 22) rfl ?_);refine zgl (some 8) Try.func22 #[.slice A0_4 l0_4.length c0_4,.int .i64 a1] ?_;(with_reducible refine (laws_heldSlotS.calls k _ _ l0_4 a1 t233 _ ?side1 ?side2 A3.out).mono ?_);(case side1 => exact zc_ HR0_4 HB);(case side2 => exact HC0_4.out);rintro e w28 ⟨rfl,hb⟩;refine ⟨_,rfl,?_⟩;replace BK232 := zb BK232 hb;replace HB := zs_ HB hb;(try clear hb);(try clear hb2);(try clear hk);(try clear hi);obtain ⟨hcz29_0,hcz29_1,hcz29_2,hcz29_3,hcz29_4,hcz29_5,hcz29_6,hcz29_7,hfz29_0,hfz29_1,hfz29_2,hfz29_3,hfz29_4,hfz29_5,hfz29_6,hfz29_7⟩ := zc8 BK232) | ((with_reducible refine gate_callee (f := 23) rfl ?_);refine zgl (some 14) Try.func23 #[.slice A0_5 l0_5.length c0_5,.int .i64 t233] ?_;(with_reducible refine (laws_heldCertS.calls k _ _ l0_5 t233 t234 _ ?side1 ?side2 A8.out).mono ?_);(case side1 => exact zc_ HR0_5 HB);(case side2 => exact HC0_5.out);rintro e w30 ⟨rfl,hb⟩;refine ⟨_,rfl,?_⟩;replace BK232 := zb BK232 hb;replace HB := zs_ HB hb;(try clear hb);(try clear hb2);(try clear hk);(try clear hi);obtain ⟨hcz31_0,hcz31_1,hcz31_2,hcz31_3,hcz31_4,hcz31_5,hcz31_6,hcz31_7,hfz31_0,hfz31_1,hfz31_2,hfz31_3,hfz31_4,hfz31_5,hfz31_6,hfz31_7⟩ := zc8 BK232) | ((with_reducible refine gate_callee (f := 24) rfl ?_);refine zgl (some 20) Try.func24 #[.slice A0_6 l0_6.length c0_6,.int .i64 t234] ?_;(with_reducible refine (laws_heldStringS.calls k _ _ l0_6 t234 t235 _ ?side1 ?side2 A15.out).mono ?_);(case side1 => exact zc_ HR0_6 HB);(case side2 => exact HC0_6.out);rintro e w32 ⟨rfl,hb⟩;refine ⟨_,rfl,?_⟩;replace BK232 := zb BK232 hb;replace HB := zs_ HB hb;(try clear hb);(try clear hb2);(try clear hk);(try clear hi);obtain ⟨hcz33_0,hcz33_1,hcz33_2,hcz33_3,hcz33_4,hcz33_5,hcz33_6,hcz33_7,hfz33_0,hfz33_1,hfz33_2,hfz33_3,hfz33_4,hfz33_5,hfz33_6,hfz33_7⟩ := zc8 BK232) | ((with_reducible refine gate_callee (f := 25) rfl ?_);refine zgl (some 26) Try.func25 #[.slice A0_7 l0_7.length c0_7,.int .i64 t235] ?_;(with_reducible refine (laws_heldMessageS.calls k _ _ l0_7 t235 t236 _ ?side1 ?side2 A24.out).mono ?_);(case side1 => exact zc_ HR0_7 HB);(case side2 => exact HC0_7.out);rintro e w34 ⟨rfl,hb⟩;refine ⟨_,rfl,?_⟩;replace BK232 := zb BK232 hb;replace HB := zs_ HB hb;(try clear hb);(try clear hb2);(try clear hk);(try clear hi)))
     go_ret
     exact ⟨zt_,zl_ HB⟩
    ·rw [if_neg c25] at H
     have c25b0 : decide (t236 < 0) = false := decide_eq_false c25
     clear c25
     obtain rfl := Option.some.inj H
     go_enter Try.func8,Try.ntmps8
     go_wp2_with (first | ((with_reducible refine gate_dst (N := 2) rfl ?_);refine zbx (N := 2) (cs := #[.int .i64 a0_0,.int .i64 a0_1,.int .i64 a0_2,.bool a0_3,.slice A0_4 l0_4.length c0_4,.slice A0_5 l0_5.length c0_5,.slice A0_6 l0_6.length c0_6,.slice A0_7 l0_7.length c0_7]) (t := 27) ?_;intro gb232 hg w35 hbox hb;have BK232 := am_ (hbox);have GW232 := zw_ HB hg;have GE232 := zw_ HB hg;replace HB := zs_ HB hb;clear hb hbox hg;obtain ⟨hcz36_0,hcz36_1,hcz36_2,hcz36_3,hcz36_4,hcz36_5,hcz36_6,hcz36_7,hfz36_0,hfz36_1,hfz36_2,hfz36_3,hfz36_4,hfz36_5,hfz36_6,hfz36_7⟩ := zc8 BK232) | ((with_reducible refine gate_callee (f := 22) rfl ?_);refine zgl (some 8) Try.func22 #[.slice A0_4 l0_4.length c0_4,.int .i64 a1] ?_;(with_reducible refine (laws_heldSlotS.calls k _ _ l0_4 a1 t233 _ ?side1 ?side2 A3.out).mono ?_);(case side1 => exact zc_ HR0_4 HB);(case side2 => exact HC0_4.out);rintro e w37 ⟨rfl,hb⟩;refine ⟨_,rfl,?_⟩;replace BK232 := zb BK232 hb;replace HB := zs_ HB hb;(try clear hb);(try clear hb2);(try clear hk);(try clear hi);obtain ⟨hcz38_0,hcz38_1,hcz38_2,hcz38_3,hcz38_4,hcz38_5,hcz38_6,hcz38_7,hfz38_0,hfz38_1,hfz38_2,hfz38_3,hfz38_4,hfz38_5,hfz38_6,hfz38_7⟩ := zc8 BK232) | ((with_reducible refine gate_callee (f := 23) rfl ?_);refine zgl (some 14) Try.func23 #[.slice A0_5 l0_5.length c0_5,.int .i64 t233] ?_;(with_reducible refine (laws_heldCertS.calls k _ _ l0_5 t233 t234 _ ?side1 ?side2 A8.out).mono ?_);(case side1 => exact zc_ HR0_5 HB);(case side2 => exact HC0_5.out);rintro e w39 ⟨rfl,hb⟩;refine ⟨_,rfl,?_⟩;replace BK232 := zb BK232 hb;replace HB := zs_ HB hb;(try clear hb);(try clear hb2);(try clear hk);(try clear hi);obtain ⟨hcz40_0,hcz40_1,hcz40_2,hcz40_3,hcz40_4,hcz40_5,hcz40_6,hcz40_7,hfz40_0,hfz40_1,hfz40_2,hfz40_3,hfz40_4,hfz40_5,hfz40_6,hfz40_7⟩ := zc8 BK232) | ((with_reducible refine gate_callee (f := 24) rfl ?_);refine zgl (some 20) Try.func24 #[.slice A0_6 l0_6.length c0_6,.int .i64 t234] ?_;(with_reducible refine (laws_heldStringS.calls k _ _ l0_6 t234 t235 _ ?side1 ?side2 A15.out).mono ?_);(case side1 => exact zc_ HR0_6 HB);(case side2 => exact HC0_6.out);rintro e w41 ⟨rfl,hb⟩;refine ⟨_,rfl,?_⟩;replace BK232 := zb BK232 hb;replace HB := zs_ HB hb;(try clear hb);(try clear hb2);(try clear hk);(try clear hi);obtain ⟨hcz42_0,hcz42_1,hcz42_2,hcz42_3,hcz42_4,hcz42_5,hcz42_6,hcz42_7,hfz42_0,hfz42_1,hfz42_2,hfz42_3,hfz42_4,hfz42_5,hfz42_6,hfz42_7⟩ := zc8 BK232) | ((with_reducible refine gate_callee (f := 25) rfl ?_);refine zgl (some 26) Try.func25 #[.slice A0_7 l0_7.length c0_7,.int .i64 t235] ?_;(with_reducible refine (laws_heldMessageS.calls k _ _ l0_7 t235 t236 _ ?side1 ?side2 A24.out).mono ?_);(case side1 => exact zc_ HR0_7 HB);(case side2 => exact HC0_7.out);rintro e w43 ⟨rfl,hb⟩;refine ⟨_,rfl,?_⟩;replace HB := zs_ HB hb;(try clear hb);(try clear hb2);(try clear hk);(try clear hi)))
     go_ret
     exact ⟨zt_,zl_ HB⟩
end Go.Proofs.Ytlifdodphkimpaa.A
end

section
namespace Go.Proofs.Ytlifdodphkimpaa.A
open Go.RowKit Go.Proofs.YtlifdodphkimpaaW.PrintWords Go.Proofs.YtlifdodphkimpaaW.PrintLast Go.Proofs.YtlifdodphkimpaaW.PrintMore
/-- Between two worlds only the blocks of two rows of one's own were written. -/
structure Marked (w w' : World) (u v : Value) : Prop where
  kept : Kept w w' (fun k => u.ownBlock = some k ∨ v.ownBlock = some k)
  tu : ∀ k, u.ownBlock = some k → ∃ cells, w.heap[k]? = some (.cells cells 51 (0, 0))
  tv : ∀ k, v.ownBlock = some k → ∃ cells, w.heap[k]? = some (.cells cells 46 (0, 0))
theorem S_own_typed {α : Type} {d : Kd α} {e : Nat} {w : World} {base : Nat} {ok : Nat → Prop} {v : Value} {xs : List α} (h : Kd.S d e w base ok v xs) (k : Nat) (hk : v.ownBlock = some k) : ∃ cells, w.heap[k]? = some (.cells cells e (0, 0)) := by
  obtain ⟨_, inner, ho, _⟩ := Kd.S_R h
  exact own_typed ho k hk
theorem Marked.far {α : Type} {d : Kd α} {e : Nat} {w w' : World} {u v : Value} (m : Marked w w' u v) {base : Nat} {ok : Nat → Prop}
    (h4 : (∀ k, ok k → u.ownBlock ≠ some k) ∨ ∀ q, q ∈ e :: d.E → q ≠ 51) (h5 : (∀ k, ok k → v.ownBlock ≠ some k) ∨ ∀ q, q ∈ e :: d.E → q ≠ 46)
    (k : Nat) (hk : ok k ∧ base ≤ k ∧ k < w.heap.size ∧ ∃ q, q ∈ e :: d.E ∧ ∃ cells, w.heap[k]? = some (.cells cells q (0, 0))) : w'.heap[k]? = w.heap[k]? := by
  obtain ⟨ho, _, hlt, q, hq, cells, hc⟩ := hk
  refine m.kept.2 k hlt (fun hx => ?_)
  rcases hx with hx | hx
  · rcases h4 with h4 | h4
    · exact h4 k ho hx
    · obtain ⟨c2, hc2⟩ := m.tu k hx
      rw [hc] at hc2
      injection hc2 with hc2
      injection hc2 with _ ht _
      exact h4 q hq ht
  · rcases h5 with h5 | h5
    · exact h5 k ho hx
    · obtain ⟨c2, hc2⟩ := m.tv k hx
      rw [hc] at hc2
      injection hc2 with hc2
      injection hc2 with _ ht _
      exact h5 q hq ht
theorem Marked.S {α : Type} {d : Kd α} {e : Nat} {w w' : World} {u v : Value} (m : Marked w w' u v) {base : Nat} {ok : Nat → Prop} {x : Value} {xs : List α} (h : Kd.S d e w base ok x xs)
    (h4 : (∀ k, ok k → u.ownBlock ≠ some k) ∨ ∀ q, q ∈ e :: d.E → q ≠ 51) (h5 : (∀ k, ok k → v.ownBlock ≠ some k) ∨ ∀ q, q ∈ e :: d.E → q ≠ 46) : Kd.S d e w' base ok x xs :=
  Kd.S_mono (Kd.S_move (Kd.S_bound h) (fun k hk => m.far (d := d) (e := e) h4 h5 k hk)) (fun _ hk => hk.1)
theorem Marked.R {α : Type} {d : Kd α} {e : Nat} {w w' : World} {u v : Value} (m : Marked w w' u v) {base : Nat} {ok : Nat → Prop} {x : Value} {xs : List α} (h : Kd.R d e w base ok x xs)
    (h4 : (∀ k, ok k → u.ownBlock ≠ some k) ∨ ∀ q, q ∈ e :: d.E → q ≠ 51) (h5 : (∀ k, ok k → v.ownBlock ≠ some k) ∨ ∀ q, q ∈ e :: d.E → q ≠ 46) : Kd.R d e w' base ok x xs :=
  Kd.R_mono (Kd.R_move (Kd.R_bound h) (fun k hk => m.far (d := d) (e := e) h4 h5 k hk)) (fun _ hk => hk.1)
theorem Marked.blk {w w' : World} {u v : Value} (m : Marked w w' u v) {g t : Nat} {cs : Array Value} (h : w.heap[g]? = some (.cells cs t (0, 0))) (h4 : t ≠ 51) (h5 : t ≠ 46) : w'.heap[g]? = some (.cells cs t (0, 0)) := by
  rw [m.kept.2 g (blk_lt h) (fun hx => ?_)]
  · exact h
  · rcases hx with hx | hx
    · obtain ⟨c2, hc2⟩ := m.tu g hx
      rw [h] at hc2
      injection hc2 with hc2
      injection hc2 with _ ht _
      exact h4 ht
    · obtain ⟨c2, hc2⟩ := m.tv g hx
      rw [h] at hc2
      injection hc2 with hc2
      injection hc2 with _ ht _
      exact h5 ht
theorem own_none {n c : Nat} (j : Nat) : (Value.slice none n c).ownBlock ≠ some j := by simp [Value.ownBlock]
set_option maxHeartbeats 4000000 in
set_option maxRecDepth 100000 in
theorem mark_full (k : Nat) (a b c : Int) (d : Bool) (A4 : Option Addr) (n4 c4 : Nat) (l4 l4' : List S51) (A5 : Option Addr) (n5 c5 : Nat) (l5 l5' : List S46) (A6 A7 : Option Addr) (c6 c7 : Nat) (k0 k1 k2 : Int) (ok4 ok5 : Nat → Prop) (w0 w : World) (hB : Below w0.heap.size w0 w)
    (h4 : Kd.S k51 51 w w0.heap.size ok4 (.slice A4 n4 c4) l4) (h5 : Kd.S k46 46 w w0.heap.size ok5 (.slice A5 n5 c5) l5) (e4 : ∀ x ∈ l4, x.f1 = [] ∧ x.f2 = []) (e5 : ∀ x ∈ l5, x.f1 = [])
    (m4 : laws_markSlotS.f k l4 k0 = some (k1, l4')) (m5 : laws_markCertS.f k l5 k1 = some (k2, l5')) :
    Calls Try.prog 7 #[.agg #[.int .i64 a, .int .i64 b, .int .i64 c, .bool d, .slice A4 n4 c4, .slice A5 n5 c5, .slice A6 0 c6, .slice A7 0 c7], .int .i64 k0] w fun e w' => e = .returned (.int .i64 k2) ∧ Kd.S k51 51 w' w0.heap.size (fun j => ok4 j ∨ w.heap.size ≤ j) (.slice A4 n4 c4) l4' ∧ Kd.S k46 46 w' w0.heap.size (fun j => ok5 j ∨ w.heap.size ≤ j) (.slice A5 n5 c5) l5' ∧ Marked w w' (.slice A4 n4 c4) (.slice A5 n5 c5) ∧ Below w0.heap.size w0 w' := by
  have T4 := Aside0.mk (S_own_typed h4)
  have T5 := Aside0.mk (S_own_typed h5)
  have H4 := Aside0.mk h4
  have H5 := Aside0.mk h5
  have HB0 := Aside0.mk hB
  have E4 := Aside0.mk e4
  have E5 := Aside0.mk e5
  have M4 := Aside0.mk m4
  have M5 := Aside0.mk m5
  clear h4 h5 hB e4 e5 m4 m5
  go_enter Try.func7, Try.ntmps7
  go_wp2_with (first
    | ((with_reducible refine gate_dst (N := 2) rfl ?_); refine zbx (N := 2) (cs := #[.int .i64 a, .int .i64 b, .int .i64 c, .bool d, .slice A4 n4 c4, .slice A5 n5 c5, .slice A6 0 c6, .slice A7 0 c7]) (t := 27) ?_; intro g_ hg w1 hbox hb; have HW := Aside0.mk hb; replace HB0 := Aside0.mk (HB0.out.trans (hb.mono HB0.out.size)); replace H4 := Aside0.mk (Kd.S_below H4.out hb); replace H5 := Aside0.mk (Kd.S_below H5.out hb); have BK := Aside0.mk hbox; clear hb hbox hg; obtain ⟨hz0, hz1, hz2, hz3, hz4, hz5, hz6, hz7, hf0, hf1, hf2, hf3, hf4, hf5, hf6, hf7⟩ := zc8 BK)
    | (go_at_call 18; refine (laws_markSlotS.calls k ok4 (fun j => (Value.slice A4 n4 c4).ownBlock = some j) _ (fun _ h => h) l4 k0 k1 l4' w0 _ HB0.out E4.out H4.out M4.out).mono ?_; rintro e w2 ⟨rfl, hs, hb, hk⟩; have K1 := Aside0.mk hk; have MM := (⟨Kept.mono hk (fun _ h => Or.inl h), S_own_typed H4.out, fun j hj => absurd hj (own_none j)⟩ : Marked w1 w2 (.slice A4 n4 c4) (.slice none 0 0)); replace H5 := Aside0.mk (MM.S H5.out (.inr (by decide)) (.inl fun j _ => own_none j)); replace BK := Aside0.mk (MM.blk BK.out (by decide) (by decide)); replace HB0 := Aside0.mk hb; have H4b := Aside0.mk (Kd.S_mono hs (fun j hj => hj.imp id (fun h => Nat.le_trans HW.out.size h))); clear hs hb hk MM H4; clear hz0 hz1 hz2 hz3 hz4 hz5 hz6 hz7 hf0 hf1 hf2 hf3 hf4 hf5 hf6 hf7; obtain ⟨hz0, hz1, hz2, hz3, hz4, hz5, hz6, hz7, hf0, hf1, hf2, hf3, hf4, hf5, hf6, hf7⟩ := zc8 BK)
    | (go_at_call 19; refine (laws_markCertS.calls k ok5 (fun j => (Value.slice A5 n5 c5).ownBlock = some j) _ (fun _ h => h) l5 k1 k2 l5' w0 _ HB0.out E5.out H5.out M5.out).mono ?_; rintro e w3 ⟨rfl, hs, hb, hk⟩; have K2 := Aside0.mk hk; have MM := (⟨Kept.mono hk (fun _ h => Or.inr h), fun j hj => absurd hj (own_none j), S_own_typed H5.out⟩ : Marked w2 w3 (.slice none 0 0) (.slice A5 n5 c5)); replace H4b := Aside0.mk (MM.S H4b.out (.inl fun j _ => own_none j) (.inr (by decide))); replace BK := Aside0.mk (MM.blk BK.out (by decide) (by decide)); replace HB0 := Aside0.mk hb; have H5b := Aside0.mk (Kd.S_mono hs (fun j hj => hj.imp id (fun h => Nat.le_trans (Nat.le_trans HW.out.size K1.out.1) h))); clear hs hb hk MM H5; clear hz0 hz1 hz2 hz3 hz4 hz5 hz6 hz7 hf0 hf1 hf2 hf3 hf4 hf5 hf6 hf7; obtain ⟨hz0, hz1, hz2, hz3, hz4, hz5, hz6, hz7, hf0, hf1, hf2, hf3, hf4, hf5, hf6, hf7⟩ := zc8 BK)
    | (go_at_call 20; refine (mark_texts A6 0 k2 c6 _).mono ?_; rintro e w_ ⟨rfl, hw_⟩; replace hw_ := hw_.symm; subst hw_)
    | (go_at_call 21; refine (mark_messages A7 0 k2 c7 _).mono ?_; rintro e w_ ⟨rfl, hw_⟩; replace hw_ := hw_.symm; subst hw_))
  go_ret
  refine ⟨rfl, H4b.out, H5b.out, ⟨⟨Nat.le_trans (Nat.le_trans HW.out.size K1.out.1) K2.out.1, fun i hi hn => ?_⟩, T4.out, T5.out⟩, HB0.out⟩
  have h1 : i < w1.heap.size := Nat.lt_of_lt_of_le hi HW.out.size
  have h2 : i < w2.heap.size := Nat.lt_of_lt_of_le h1 K1.out.1
  rw [K2.out.2 i h2 (fun h => hn (Or.inr h)), K1.out.2 i h1 (fun h => hn (Or.inl h))]
  exact HW.out.block i hi
theorem old_ne {α : Type} {d : Kd α} {e : Nat} {w : World} {base : Nat} {ok : Nat → Prop} {v : Value} {xs : List α} (h : Kd.R d e w base ok v xs) {j : Nat} (hle : w.heap.size ≤ j) : some j ≠ v.ownBlock := fun he => by
  obtain ⟨_, inner, ho, _⟩ := h
  have := own_lt ho j he.symm
  omega
theorem laws_markReplica.calls (k : Nat) (a b c : Int) (d : Bool) (A4 : Option Addr) (n4 c4 : Nat) (l4 : List S51) (A5 : Option Addr) (n5 c5 : Nat) (l5 : List S46) (A6 : Option Addr) (c6 : Nat) (l6 : List ByteArray) (A7 : Option Addr) (c7 : Nat) (l7 : List S55) (k0 k2 : Int) (l4' : List S51) (l5' : List S46) (ok4 ok5 : Nat → Prop) (w0 w : World) (hB : Below w0.heap.size w0 w)
    (h4 : Kd.S k51 51 w w0.heap.size ok4 (.slice A4 n4 c4) l4) (h5 : Kd.S k46 46 w w0.heap.size ok5 (.slice A5 n5 c5) l5) (h : laws_markReplica.f k a b c d l4 l5 l6 l7 k0 = some (k2, l4', l5')) :
    Calls Try.prog 7 #[.agg #[.int .i64 a, .int .i64 b, .int .i64 c, .bool d, .slice A4 n4 c4, .slice A5 n5 c5, .slice A6 l6.length c6, .slice A7 l7.length c7], .int .i64 k0] w fun e w' => e = .returned (.int .i64 k2) ∧ Kd.S k51 51 w' w0.heap.size (fun j => ok4 j ∨ w.heap.size ≤ j) (.slice A4 n4 c4) l4' ∧ Kd.S k46 46 w' w0.heap.size (fun j => ok5 j ∨ w.heap.size ≤ j) (.slice A5 n5 c5) l5' ∧ Marked w w' (.slice A4 n4 c4) (.slice A5 n5 c5) ∧ Below w0.heap.size w0 w' := by
  unfold laws_markReplica.f at h
  by_cases q : l6.length = 0 ∧ l7.length = 0 ∧ (∀ x ∈ l4, x.f1.length = 0 ∧ x.f2.length = 0) ∧ ∀ x ∈ l5, x.f1.length = 0
  · rw [if_pos q] at h
    obtain ⟨q6, q7, q4, q5⟩ := q
    replace h := Option.bind_eq_some_iff.mp h
    obtain ⟨⟨k1, m4⟩, e1, h⟩ := h
    replace h := Option.bind_eq_some_iff.mp h
    obtain ⟨⟨k3, m5⟩, e2, h⟩ := h
    simp only [Option.some.injEq, Prod.mk.injEq] at h
    obtain ⟨rfl, rfl, rfl⟩ := h
    rw [q6, q7]
    exact mark_full k a b c d A4 n4 c4 l4 m4 A5 n5 c5 l5 m5 A6 A7 c6 c7 k0 k1 k3 ok4 ok5 w0 w hB h4 h5 (fun x hx => ⟨List.length_eq_zero_iff.1 (q4 x hx).1, List.length_eq_zero_iff.1 (q4 x hx).2⟩) (fun x hx => List.length_eq_zero_iff.1 (q5 x hx)) e1 e2
  · rw [if_neg q] at h
    cases h
theorem held_n (k : Nat) (a b c : Int) (d : Bool) (A4 : Option Addr) (n4 c4 : Nat) (l4 : List S51) (A5 : Option Addr) (n5 c5 : Nat) (l5 : List S46) (A6 : Option Addr) (c6 : Nat) (l6 : List ByteArray) (A7 : Option Addr) (c7 : Nat) (l7 : List S55) (a1 r : Int) (w : World) (e4 : n4 = l4.length) (e5 : n5 = l5.length)
    (hr4 : Kd.C k51 w A4 l4.length l4) (hc4 : n4 ≤ c4) (hr5 : Kd.C k46 w A5 l5.length l5) (hc5 : n5 ≤ c5) (hr6 : Kd.C Kd.string w A6 l6.length l6) (hc6 : l6.length ≤ c6) (hr7 : Kd.C k55 w A7 l7.length l7) (hc7 : l7.length ≤ c7) (h : laws_heldReplica.f k a b c d l4 l5 l6 l7 a1 = some r) :
    Calls Try.prog 8 #[.agg #[.int .i64 a, .int .i64 b, .int .i64 c, .bool d, .slice A4 n4 c4, .slice A5 n5 c5, .slice A6 l6.length c6, .slice A7 l7.length c7], .int .i64 a1] w fun e w' => e = .returned (.int .i64 r) ∧ Below w.heap.size w w' := by
  subst e4 e5
  exact laws_heldReplica.calls k a b c d A4 c4 l4 A5 c5 l5 A6 c6 l6 A7 c7 l7 a1 r w hr4 hc4 hr5 hc5 hr6 hc6 hr7 hc7 h
end Go.Proofs.Ytlifdodphkimpaa.A
end

section
namespace Go.Proofs.Ytlifdodphkimpaa.A
open Go.RowKit Go.Proofs.YtlifdodphkimpaaW.PrintWords Go.Proofs.YtlifdodphkimpaaW.PrintLast Go.Proofs.YtlifdodphkimpaaW.PrintMore
attribute [local go_sem] max2_int min2_int max_two min_two max_three min_three max_four min_four
set_option maxHeartbeats 8000000 in
set_option maxRecDepth 100000 in
theorem impl_FaultsOf.calls (a0 : Int) (r1 : Int) (r2 : Int) (w : World) (h : impl_FaultsOf.f a0 = some (r1,r2)) :
  Calls Try.prog 27 #[.int .i64 a0] w fun e w' => e = .returned (.tuple #[.int .i64 r1,.int .i64 r2]) ∧ Drawn0 w w' := by
 have H : (if a0 = 1 then (some (wrap64 (Int.tdiv (wrap64 (a0 - 1)) 3),0)) else (if a0 = 4 then (some (wrap64 (Int.tdiv (wrap64 (a0 - 1)) 3),0)) else (if a0 = 7 then (some (wrap64 (Int.tdiv (wrap64 (a0 - 1)) 3),0)) else (some (0,4))))) = some (r1,r2) := h
 clear h
 by_cases c2 : a0 = 1
 ·rw [if_pos c2] at H
  have c2b0 : (a0 == 1) = true := beq_iff_eq.mpr c2
  have c2b1 : (a0 != 1) = false := bne_eq_false_iff_eq.mpr c2
  clear c2
  simp only [Option.some.injEq,Prod.mk.injEq] at H
  obtain ⟨rfl,rfl⟩ := H
  go_enter Try.func27,Try.ntmps27
  go_wp2
  go_ret2
  exact ⟨by first | rfl | (simp;done) | (simp [*];done),by repeat (first | exact Drawn0.refl _ | apply Drawn0.step)⟩
 ·rw [if_neg c2] at H
  have c2b0 : (a0 == 1) = false := beq_eq_false_iff_ne.mpr c2
  have c2b1 : (a0 != 1) = true := bne_iff_ne.mpr c2
  by_cases c3 : a0 = 4
  ·rw [if_pos c3] at H
   have c3b0 : (a0 == 4) = true := beq_iff_eq.mpr c3
   have c3b1 : (a0 != 4) = false := bne_eq_false_iff_eq.mpr c3
   clear c3
   simp only [Option.some.injEq,Prod.mk.injEq] at H
   obtain ⟨rfl,rfl⟩ := H
   go_enter Try.func27,Try.ntmps27
   go_wp2
   go_ret2
   exact ⟨by first | rfl | (simp;done) | (simp [*];done),by repeat (first | exact Drawn0.refl _ | apply Drawn0.step)⟩
  ·rw [if_neg c3] at H
   have c3b0 : (a0 == 4) = false := beq_eq_false_iff_ne.mpr c3
   have c3b1 : (a0 != 4) = true := bne_iff_ne.mpr c3
   by_cases c4 : a0 = 7
   ·rw [if_pos c4] at H
    have c4b0 : (a0 == 7) = true := beq_iff_eq.mpr c4
    have c4b1 : (a0 != 7) = false := bne_eq_false_iff_eq.mpr c4
    clear c4
    simp only [Option.some.injEq,Prod.mk.injEq] at H
    obtain ⟨rfl,rfl⟩ := H
    go_enter Try.func27,Try.ntmps27
    go_wp2
    go_ret2
    exact ⟨by first | rfl | (simp;done) | (simp [*];done),by repeat (first | exact Drawn0.refl _ | apply Drawn0.step)⟩
   ·rw [if_neg c4] at H
    have c4b0 : (a0 == 7) = false := beq_eq_false_iff_ne.mpr c4
    have c4b1 : (a0 != 7) = true := bne_iff_ne.mpr c4
    simp only [Option.some.injEq,Prod.mk.injEq] at H
    obtain ⟨rfl,rfl⟩ := H
    go_enter Try.func27,Try.ntmps27
    go_wp2
    go_ret2
    exact ⟨by first | rfl | (simp;done) | (simp [*];done),by repeat (first | exact Drawn0.refl _ | apply Drawn0.step)⟩
set_option maxHeartbeats 8000000 in
set_option maxRecDepth 100000 in
theorem impl_areNodes.calls (a0 : Int) (r : Bool) (w : World) (h : impl_areNodes.f a0 = some r) :
  Calls Try.prog 12 #[.int .i64 a0] w fun e w' => e = .returned (.bool r) ∧ Drawn0 w w' := by
 have H : ((impl_FaultsOf.f a0).bind fun bt152 => (some (bt152.2 == 0))) = some r := h
 clear h
 replace H := Option.bind_eq_some_iff.mp H
 obtain ⟨⟨t152,t153⟩,A20,H⟩ := H
 try dsimp only at H
 have A2 := am_ A20
 clear A20
 obtain rfl := Option.some.inj H
 go_enter Try.func12,Try.ntmps12
 go_wp2_with (first | ((with_reducible refine gate_callee (f := 27) rfl ?_);refine zgl (some 7) Try.func27 #[.int .i64 a0] ?_;(with_reducible refine (impl_FaultsOf.calls a0 t152 t153 _ A2.out).mono ?_);rintro e w' ⟨rfl,⟨nd,rfl⟩⟩;refine ⟨_,rfl,?_⟩))
 go_ret
 exact ⟨by first | rfl | (simp;done) | (simp [*];done),by repeat (first | exact Drawn0.refl _ | apply Drawn0.step)⟩
set_option maxHeartbeats 8000000 in
set_option maxRecDepth 100000 in
theorem impl_within.calls (a0 : Int) (a1 : Int) (a2 : Int) (r : Bool) (w : World) (h : impl_within.f a0 a1 a2 = some r) :
  Calls Try.prog 13 #[.int .i64 a0,.int .i64 a1,.int .i64 a2] w fun e w' => e = .returned (.bool r) ∧ Drawn0 w w' := by
 have H : (if a0 ≥ a1 then (some (decide (a0 ≤ a2))) else (some false)) = some r := h
 clear h
 by_cases c4 : a0 ≥ a1
 ·rw [if_pos c4] at H
  have c4b0 : decide (a1 ≤ a0) = true := decide_eq_true c4
  clear c4
  obtain rfl := Option.some.inj H
  go_enter Try.func13,Try.ntmps13
  go_wp2
  go_ret
  exact ⟨by first | rfl | (simp;done) | (simp [*];done),by repeat (first | exact Drawn0.refl _ | apply Drawn0.step)⟩
 ·rw [if_neg c4] at H
  have c4b0 : decide (a1 ≤ a0) = false := decide_eq_false c4
  clear c4
  obtain rfl := Option.some.inj H
  go_enter Try.func13,Try.ntmps13
  go_wp2
  go_ret
  exact ⟨by first | rfl | (simp;done) | (simp [*];done),by repeat (first | exact Drawn0.refl _ | apply Drawn0.step)⟩
set_option maxHeartbeats 8000000 in
set_option maxRecDepth 100000 in
theorem impl_NewReplica.calls (a0 : Int) (a1 : Int) (r1 : Int) (r2 : Int) (r3 : Int) (r4 : Bool) (r5 : List (S51)) (r6 : List (S46)) (r7 : List ByteArray) (r8 : List (S55)) (r9 : Int) (w : World) (h : impl_NewReplica.f a0 a1 = some (r1,r2,r3,r4,r5,r6,r7,r8,r9)) :
  Calls Try.prog 5 #[.int .i64 a0,.int .i64 a1] w fun e w' => ∃ v4_ v5_ v6_ v7_ : Value,e = .returned (.tuple #[.agg #[.int .i64 r1,.int .i64 r2,.int .i64 r3,.bool r4,v4_,v5_,v6_,v7_],.int .i64 r9]) ∧ Kd.S k51 51 w' w.heap.size (fun k_ => some k_ ≠ (v7_ : Value).ownBlock) v4_ r5 ∧ Kd.S k46 46 w' w.heap.size (fun k_ => some k_ ≠ (v7_ : Value).ownBlock) v5_ r6 ∧ Kd.R Kd.string 9 w' w.heap.size (fun _ => True) v6_ r7 ∧ Kd.R k55 55 w' w.heap.size (fun _ => True) v7_ r8 ∧ Below w.heap.size w w' := by
 have hu27 := Try.underlying27
 have HB := am_ (Below.refl w.heap.size w)
 have H : ((impl_areNodes.f a1).bind fun t155 => (if t155 = true then ((impl_within.f a0 0 (wrap64 (a1 - 1))).bind fun t156 => (if t156 = true then (if 8 ≤ 3909374676536 then (if 8 ≤ 7036874417766 then (some (a0,a1,0,true,(List.replicate 8 z51),(List.replicate 8 z46),([] : List ByteArray),([] : List (S55)),0)) else (none)) else (none)) else (some (0,0,0,false,([] : List (S51)),([] : List (S46)),([] : List ByteArray),([] : List (S55)),4)))) else (some (0,0,0,false,([] : List (S51)),([] : List (S46)),([] : List ByteArray),([] : List (S55)),4)))) = some (r1,r2,r3,r4,r5,r6,r7,r8,r9) := h
 clear h
 replace H := Option.bind_eq_some_iff.mp H
 obtain ⟨t155,A30,H⟩ := H
 try dsimp only at H
 have A3 := am_ A30
 clear A30
 by_cases c4 : t155 = true
 ·subst c4
  have H1 : ((impl_within.f a0 0 (wrap64 (a1 - 1))).bind fun t156 => (if t156 = true then (if 8 ≤ 3909374676536 then (if 8 ≤ 7036874417766 then (some (a0,a1,0,true,(List.replicate 8 z51),(List.replicate 8 z46),([] : List ByteArray),([] : List (S55)),0)) else (none)) else (none)) else (some (0,0,0,false,([] : List (S51)),([] : List (S46)),([] : List ByteArray),([] : List (S55)),4)))) = some (r1,r2,r3,r4,r5,r6,r7,r8,r9) := by rw [if_pos rfl] at H;exact H
  clear H
  have H := H1
  clear H1
  replace H := Option.bind_eq_some_iff.mp H
  obtain ⟨t156,A50,H⟩ := H
  try dsimp only at H
  have A5 := am_ A50
  clear A50
  by_cases c6 : t156 = true
  ·subst c6
   have H1 : (if 8 ≤ 3909374676536 then (if 8 ≤ 7036874417766 then (some (a0,a1,0,true,(List.replicate 8 z51),(List.replicate 8 z46),([] : List ByteArray),([] : List (S55)),0)) else (none)) else (none)) = some (r1,r2,r3,r4,r5,r6,r7,r8,r9) := by rw [if_pos rfl] at H;exact H
   clear H
   have H := H1
   clear H1
   by_cases c7 : 8 ≤ 3909374676536
   ·rw [if_pos c7] at H
    have c7b0 := eq_true c7
    have c7b1 : decide (8 ≤ 3909374676536) = true := decide_eq_true c7
    clear c7
    obtain ⟨y157,hy157⟩ : ∃ y_ : List (S51),y_ = (List.replicate 8 z51) := ⟨_,rfl⟩
    replace H : (if 8 ≤ 7036874417766 then (some (a0,a1,0,true,y157,(List.replicate 8 z46),([] : List ByteArray),([] : List (S55)),0)) else (none)) = some (r1,r2,r3,r4,r5,r6,r7,r8,r9) := by first | (rw [hy157];with_reducible exact H) | (have H2_ := (Option.bind_some _ _).symm.trans H;rw [hy157];with_reducible exact H2_) | (have H2_ := (Option.bind_some _ _).symm.trans H;with_reducible exact H2_) | with_reducible exact H | (rw [hy157];exact H) | exact H
    have Ny157 := am_ hy157
    clear hy157
    by_cases c8 : 8 ≤ 7036874417766
    ·rw [if_pos c8] at H
     have c8b0 := eq_true c8
     have c8b1 : decide (8 ≤ 7036874417766) = true := decide_eq_true c8
     clear c8
     obtain ⟨y160,hy160⟩ : ∃ y_ : List (S46),y_ = (List.replicate 8 z46) := ⟨_,rfl⟩
     replace H : (some (a0,a1,0,true,y157,y160,([] : List ByteArray),([] : List (S55)),0)) = some (r1,r2,r3,r4,r5,r6,r7,r8,r9) := by first | (rw [hy160];with_reducible exact H) | (have H2_ := (Option.bind_some _ _).symm.trans H;rw [hy160];with_reducible exact H2_) | (have H2_ := (Option.bind_some _ _).symm.trans H;with_reducible exact H2_) | with_reducible exact H | (rw [hy160];exact H) | exact H
     have Ny160 := am_ hy160
     clear hy160
     simp only [Option.some.injEq,Prod.mk.injEq] at H
     obtain ⟨rfl,rfl,rfl,rfl,rfl,rfl,rfl,rfl,rfl⟩ := H
     go_enter Try.func5,Try.ntmps5
     try go_wp2_with (first | ((with_reducible refine gate_dst (N := 4) rfl ?_);refine zbx (N := 4) (cs := #[.int .i64 0,.int .i64 0,.int .i64 0,.bool false,.slice none 0 0,.slice none 0 0,.slice none 0 0,.slice none 0 0]) (t := 27) ?_;intro gb154 hg w9 hbox hb;have BK154 := am_ (hbox);have GW154 := zw_ HB hg;have GE154 := zw_ HB hg;replace HB := zs_ HB hb;clear hb hbox hg) | ((with_reducible refine gate_callee (f := 12) rfl ?_);refine zgl (some 7) Try.func12 #[.int .i64 a1] ?_;(with_reducible refine (impl_areNodes.calls a1 true _ A3.out).mono ?_);rintro e w' ⟨rfl,⟨nd,rfl⟩⟩;refine ⟨_,rfl,?_⟩;(try (rw [drewN_self w9];generalize hq_ : World.drewN w9 _ = w9;have n0_ : Aside0 (w9.heap[gb154]? = some (.cells #[.int .i64 0,.int .i64 0,.int .i64 0,.bool false,.slice none 0 0,.slice none 0 0,.slice none 0 0,.slice none 0 0] 27 (0,0))) := ⟨by rw [← hq_];exact (zk BK154)⟩;have n1_ : Aside0 (Below w.heap.size w w9) := ⟨by rw [← hq_];exact (zl_ HB)⟩;clear BK154 HB hq_;have BK154 := n0_;have HB := n1_;clear n0_ n1_));(try have hfu154_0 := blk_frozen BK154.out 0);(try have hcu154_0 : w9.cell? ⟨gb154,0,none⟩ = some (.int .i64 0) := (blk_cell BK154.out 0).trans rfl);(try have hfu154_1 := blk_frozen BK154.out 1);(try have hcu154_1 : w9.cell? ⟨gb154,1,none⟩ = some (.int .i64 0) := (blk_cell BK154.out 1).trans rfl);(try have hfu154_2 := blk_frozen BK154.out 2);(try have hcu154_2 : w9.cell? ⟨gb154,2,none⟩ = some (.int .i64 0) := (blk_cell BK154.out 2).trans rfl);(try have hfu154_3 := blk_frozen BK154.out 3);(try have hcu154_3 : w9.cell? ⟨gb154,3,none⟩ = some (.bool false) := (blk_cell BK154.out 3).trans rfl);(try have hfu154_4 := blk_frozen BK154.out 4);(try have hcu154_4 : w9.cell? ⟨gb154,4,none⟩ = some (.slice none 0 0) := (blk_cell BK154.out 4).trans rfl);(try have hfu154_5 := blk_frozen BK154.out 5);(try have hcu154_5 : w9.cell? ⟨gb154,5,none⟩ = some (.slice none 0 0) := (blk_cell BK154.out 5).trans rfl);(try have hfu154_6 := blk_frozen BK154.out 6);(try have hcu154_6 : w9.cell? ⟨gb154,6,none⟩ = some (.slice none 0 0) := (blk_cell BK154.out 6).trans rfl);(try have hfu154_7 := blk_frozen BK154.out 7);(try have hcu154_7 : w9.cell? ⟨gb154,7,none⟩ = some (.slice none 0 0) := (blk_cell BK154.out 7).trans rfl)) | (go_at_call 13;(with_reducible refine (impl_within.calls a0 0 (wrap64 (a1 - 1)) true _ A5.out).mono ?_);rintro e w' ⟨rfl,⟨nd,rfl⟩⟩;(try (rw [drewN_self w9];generalize hq_ : World.drewN w9 _ = w9;have n0_ : Aside0 (w9.heap[gb154]? = some (.cells #[.int .i64 0,.int .i64 0,.int .i64 0,.bool false,.slice none 0 0,.slice none 0 0,.slice none 0 0,.slice none 0 0] 27 (0,0))) := ⟨by rw [← hq_];exact (zk BK154)⟩;have n1_ : Aside0 (Below w.heap.size w w9) := ⟨by rw [← hq_];exact (zl_ HB)⟩;clear BK154 HB hq_;have BK154 := n0_;have HB := n1_;clear n0_ n1_));(try have hfu154_0 := blk_frozen BK154.out 0);(try have hcu154_0 : w9.cell? ⟨gb154,0,none⟩ = some (.int .i64 0) := (blk_cell BK154.out 0).trans rfl);(try have hfu154_1 := blk_frozen BK154.out 1);(try have hcu154_1 : w9.cell? ⟨gb154,1,none⟩ = some (.int .i64 0) := (blk_cell BK154.out 1).trans rfl);(try have hfu154_2 := blk_frozen BK154.out 2);(try have hcu154_2 : w9.cell? ⟨gb154,2,none⟩ = some (.int .i64 0) := (blk_cell BK154.out 2).trans rfl);(try have hfu154_3 := blk_frozen BK154.out 3);(try have hcu154_3 : w9.cell? ⟨gb154,3,none⟩ = some (.bool false) := (blk_cell BK154.out 3).trans rfl);(try have hfu154_4 := blk_frozen BK154.out 4);(try have hcu154_4 : w9.cell? ⟨gb154,4,none⟩ = some (.slice none 0 0) := (blk_cell BK154.out 4).trans rfl);(try have hfu154_5 := blk_frozen BK154.out 5);(try have hcu154_5 : w9.cell? ⟨gb154,5,none⟩ = some (.slice none 0 0) := (blk_cell BK154.out 5).trans rfl);(try have hfu154_6 := blk_frozen BK154.out 6);(try have hcu154_6 : w9.cell? ⟨gb154,6,none⟩ = some (.slice none 0 0) := (blk_cell BK154.out 6).trans rfl);(try have hfu154_7 := blk_frozen BK154.out 7);(try have hcu154_7 : w9.cell? ⟨gb154,7,none⟩ = some (.slice none 0 0) := (blk_cell BK154.out 7).trans rfl)))
     replace BK154 := am_ (blk_drew BK154.out)
     replace HB := am_ (below_drew1 HB.out)
     refine start_ (n := 7) (S := fun w' => True) (ds := []) #[false,false,false,false,false,false,false] (by kernel_rfl) rfl rfl trivial (fun hHeld => ?_)
     generalize w9.drew = w10 at BK154 HB hHeld ⊢
     refine pure_ (i := 0) (N := some 17) (v := ?_) (a' := ?_) #[true,false,false,false,false,false,false] rfl rfl (by kernel_rfl) (fun _ _ _ h => h) (Or.inl ⟨by rfl,?_⟩) ?_ ?_
     rotate_left
     ·intro w'
      go_simp
      with_reducible rfl
     rotate_left
     ·simp only [Act.put,p1_,p2_,p3_,i64_w,i32_w]
      rfl
     refine pure_ (i := 1) (N := some 18) (v := ?_) (a' := ?_) #[true,true,false,false,false,false,false] rfl rfl (by kernel_rfl) (fun _ _ _ h => h) (Or.inl ⟨by rfl,?_⟩) ?_ ?_
     rotate_left
     ·intro w'
      go_simp
      with_reducible rfl
     rotate_left
     ·simp only [Act.put,p1_,p2_,p3_,i64_w,i32_w]
      rfl
     refine join_ (σ := Value × Value) 3 #[true,true,true,true,false,false,false] (fun s_ => [(19,s_.1),(20,s_.2)]) (fun s_ w' => (Kd.S k51 51 w' w.heap.size (fun _ => True) s_.1 y157) ∧ (Kd.S k46 46 w' w.heap.size (fun _ => True) s_.2 y160) ∧ (w'.heap[gb154]? = some (.cells #[.int .i64 0,.int .i64 0,.int .i64 0,.bool false,.slice none 0 0,.slice none 0 0,.slice none 0 0,.slice none 0 0] 27 (0,0))) ∧ (Below w.heap.size w w')) ?_ ?_
     rotate_left
     ·intro hCont
      refine two_ (i := 2) (j := 3) (Ni := some 19) (Nj := some 20) #[true,true,true,false,false,false,false] #[true,true,false,true,false,false,false] rfl rfl rfl rfl (by kernel_rfl) (by decide) (by decide) (fun K hK => ?_) (fun K hK => ?_)
      ·skip
       refine Kd.S_make_step k51 _ 51 (by rfl) (N := 19) rfl 22 _ _ rfl 8 rfl rfl Try.underlying22 (.agg #[(.string ⟨#[]⟩),(.slice none 0 0),(.slice none 0 0),(.bool false),(.bool false)]) 72 info51 rfl (by decide) (by omega) z51 (ok := fun _ => True) (okp := fun _ => True) (k51_mkM _ _ _ z51 (Kd.R_nil _ _ _ _ _) (Kd.R_nil _ _ _ _ _)) (fun _ hk => hk) trivial (by omega) (by omega) (Below.refl _ _) (Nat.le_refl _) ?_
       intro v158 w11 ho12 hb hg_ hnew_
       clear hg_ hnew_
       (first | rw [← Ny157.out] at ho12 | (simp only [Int.reduceToNat] at ho12;rw [← Ny157.out] at ho12))
       have HO159 := am_ (Kd.S_lower ho12 (below_size (zl_ HB)))
       replace BK154 := zb BK154 hb
       replace HB := zs_ HB hb
       clear hb ho12
       refine hK.out _ _ trivial (fun hHeld => ?_)
       clear hK K
       refine norm_ (a' := ?_) ?_ ?_
       rotate_left
       ·show Act.put _ (some 19) _ = _
        simp only [Act.put,p1_,p2_,p3_,i64_w,i32_w]
        rfl
       refine one_ (i := 3) (N := some 20) #[true,true,true,true,false,false,false] rfl rfl (by kernel_rfl) (by decide) (fun K hK => ?_)
       refine Kd.S_make_step k46 _ 46 (by rfl) (N := 20) rfl 23 _ _ rfl 8 rfl rfl Try.underlying23 (.agg #[(.string ⟨#[]⟩),(.slice none 0 0)]) 40 info46 rfl (by decide) (by omega) z46 (ok := fun _ => True) (okp := fun _ => True) (k46_mkM _ _ _ z46 (Kd.R_nil _ _ _ _ _)) (fun _ hk => hk) trivial (by omega) (by omega) (Below.refl _ _) (Nat.le_refl _) ?_
       intro v161 w13 ho14 hb hg_ hnew_
       clear hg_ hnew_
       (first | rw [← Ny160.out] at ho14 | (simp only [Int.reduceToNat] at ho14;rw [← Ny160.out] at ho14))
       replace HO159 := am_ (Kd.S_below (by (with_reducible repeat (first | apply Kd.S_alloc | apply Kd.S_drewN | apply Kd.S_drew));exact HO159.out) hb)
       have HO162 := am_ (Kd.S_lower ho14 (below_size (zl_ HB)))
       replace BK154 := zb BK154 hb
       replace HB := zs_ HB hb
       clear hb ho14
       obtain ⟨Ao15,co15,eo15⟩ := Kd.S_slice HO162.out
       (first | subst eo15 | (injection eo15 with f1_ f2_ f3_;have f4_ := f1_.symm;have f5_ := f3_.symm;clear f1_ f2_ f3_;subst f4_;subst f5_))
       obtain ⟨Ao16,co16,eo16⟩ := Kd.S_slice HO159.out
       (first | subst eo16 | (injection eo16 with f1_ f2_ f3_;have f4_ := f1_.symm;have f5_ := f3_.symm;clear f1_ f2_ f3_;subst f4_;subst f5_))
       refine hK.out _ _ trivial (fun hHeld => ?_)
       clear hK K
       refine norm_ (a' := ?_) ?_ ?_
       rotate_left
       ·show Act.put _ (some 20) _ = _
        simp only [Act.put,p1_,p2_,p3_,i64_w,i32_w]
        rfl
       exact norm_ (by simp only [putAll,Act.put,p1_,p2_,p3_]) (hCont (.slice Ao16 y157.length co16,.slice Ao15 y160.length co15) _ ⟨(by (with_reducible repeat (first | apply Kd.S_alloc | apply Kd.S_drewN | apply Kd.S_drew));exact HO159.out),(by (with_reducible repeat (first | apply Kd.S_alloc | apply Kd.S_drewN | apply Kd.S_drew));exact HO162.out),(zk BK154),(zl_ HB)⟩)
      ·skip
       refine Kd.S_make_step k46 _ 46 (by rfl) (N := 20) rfl 23 _ _ rfl 8 rfl rfl Try.underlying23 (.agg #[(.string ⟨#[]⟩),(.slice none 0 0)]) 40 info46 rfl (by decide) (by omega) z46 (ok := fun _ => True) (okp := fun _ => True) (k46_mkM _ _ _ z46 (Kd.R_nil _ _ _ _ _)) (fun _ hk => hk) trivial (by omega) (by omega) (Below.refl _ _) (Nat.le_refl _) ?_
       intro v161 w11 ho12 hb hg_ hnew_
       clear hg_ hnew_
       (first | rw [← Ny160.out] at ho12 | (simp only [Int.reduceToNat] at ho12;rw [← Ny160.out] at ho12))
       have HO162 := am_ (Kd.S_lower ho12 (below_size (zl_ HB)))
       replace BK154 := zb BK154 hb
       replace HB := zs_ HB hb
       clear hb ho12
       refine hK.out _ _ trivial (fun hHeld => ?_)
       clear hK K
       refine norm_ (a' := ?_) ?_ ?_
       rotate_left
       ·show Act.put _ (some 20) _ = _
        simp only [Act.put,p1_,p2_,p3_,i64_w,i32_w]
        rfl
       refine one_ (i := 2) (N := some 19) #[true,true,true,true,false,false,false] rfl rfl (by kernel_rfl) (by decide) (fun K hK => ?_)
       refine Kd.S_make_step k51 _ 51 (by rfl) (N := 19) rfl 22 _ _ rfl 8 rfl rfl Try.underlying22 (.agg #[(.string ⟨#[]⟩),(.slice none 0 0),(.slice none 0 0),(.bool false),(.bool false)]) 72 info51 rfl (by decide) (by omega) z51 (ok := fun _ => True) (okp := fun _ => True) (k51_mkM _ _ _ z51 (Kd.R_nil _ _ _ _ _) (Kd.R_nil _ _ _ _ _)) (fun _ hk => hk) trivial (by omega) (by omega) (Below.refl _ _) (Nat.le_refl _) ?_
       intro v158 w13 ho14 hb hg_ hnew_
       clear hg_ hnew_
       (first | rw [← Ny157.out] at ho14 | (simp only [Int.reduceToNat] at ho14;rw [← Ny157.out] at ho14))
       replace HO162 := am_ (Kd.S_below (by (with_reducible repeat (first | apply Kd.S_alloc | apply Kd.S_drewN | apply Kd.S_drew));exact HO162.out) hb)
       have HO159 := am_ (Kd.S_lower ho14 (below_size (zl_ HB)))
       replace BK154 := zb BK154 hb
       replace HB := zs_ HB hb
       clear hb ho14
       obtain ⟨Ao15,co15,eo15⟩ := Kd.S_slice HO162.out
       (first | subst eo15 | (injection eo15 with f1_ f2_ f3_;have f4_ := f1_.symm;have f5_ := f3_.symm;clear f1_ f2_ f3_;subst f4_;subst f5_))
       obtain ⟨Ao16,co16,eo16⟩ := Kd.S_slice HO159.out
       (first | subst eo16 | (injection eo16 with f1_ f2_ f3_;have f4_ := f1_.symm;have f5_ := f3_.symm;clear f1_ f2_ f3_;subst f4_;subst f5_))
       refine hK.out _ _ trivial (fun hHeld => ?_)
       clear hK K
       refine norm_ (a' := ?_) ?_ ?_
       rotate_left
       ·show Act.put _ (some 19) _ = _
        simp only [Act.put,p1_,p2_,p3_,i64_w,i32_w]
        rfl
       exact norm_ (by simp only [putAll,Act.put,p1_,p2_,p3_]) (hCont (.slice Ao16 y157.length co16,.slice Ao15 y160.length co15) _ ⟨(by (with_reducible repeat (first | apply Kd.S_alloc | apply Kd.S_drewN | apply Kd.S_drew));exact HO159.out),(by (with_reducible repeat (first | apply Kd.S_alloc | apply Kd.S_drewN | apply Kd.S_drew));exact HO162.out),(zk BK154),(zl_ HB)⟩)
     rintro ⟨v158,v161⟩ w17 ⟨h0_,h1_,h2_,h3_⟩
     have n0_ : Aside0 (Kd.S k51 51 w17 w.heap.size (fun _ => True) v158 y157) := ⟨h0_⟩
     have n1_ : Aside0 (Kd.S k46 46 w17 w.heap.size (fun _ => True) v161 y160) := ⟨h1_⟩
     have n2_ : Aside0 (w17.heap[gb154]? = some (.cells #[.int .i64 0,.int .i64 0,.int .i64 0,.bool false,.slice none 0 0,.slice none 0 0,.slice none 0 0,.slice none 0 0] 27 (0,0))) := ⟨h2_⟩
     have n3_ : Aside0 (Below w.heap.size w w17) := ⟨h3_⟩
     clear BK154
     clear HB
     clear h0_ h1_ h2_ h3_
     have HO159 := n0_
     have HO162 := n1_
     have BK154 := n2_
     have HB := n3_
     clear n0_ n1_ n2_ n3_
     have hHeld := trivial
     obtain ⟨Ao18,co18,eo18⟩ := Kd.S_slice HO162.out
     (first | subst eo18 | (injection eo18 with f1_ f2_ f3_;have f4_ := f1_.symm;have f5_ := f3_.symm;clear f1_ f2_ f3_;subst f4_;subst f5_))
     obtain ⟨Ao19,co19,eo19⟩ := Kd.S_slice HO159.out
     (first | subst eo19 | (injection eo19 with f1_ f2_ f3_;have f4_ := f1_.symm;have f5_ := f3_.symm;clear f1_ f2_ f3_;subst f4_;subst f5_))
     refine norm_ (a' := ?_) ?_ ?_
     rotate_left
     ·simp only [putAll,Act.put,p1_,p2_,p3_]
      rfl
     refine pure_ (i := 4) (N := some 21) (v := ?_) (a' := ?_) #[true,true,true,true,true,false,false] rfl rfl (by kernel_rfl) (fun _ _ _ h => h) (Or.inl ⟨by rfl,?_⟩) ?_ ?_
     rotate_left
     ·intro w'
      go_simp
      with_reducible rfl
     rotate_left
     ·simp only [Act.put,p1_,p2_,p3_,i64_w,i32_w]
      rfl
     refine one_ (i := 5) (N := none) #[true,true,true,true,true,true,false] rfl rfl (by kernel_rfl) (by decide) (fun K hK => ?_)
     have hs20 : w17.cell? ⟨gb154,0,none⟩ = some (.int .i64 0) := (blk_cell BK154.out 0).trans rfl
     have hfs20 := blk_frozen BK154.out 0
     have hs21 : w17.cell? ⟨gb154,1,none⟩ = some (.int .i64 0) := (blk_cell BK154.out 1).trans rfl
     have hfs21 := blk_frozen BK154.out 1
     have hs22 : w17.cell? ⟨gb154,2,none⟩ = some (.int .i64 0) := (blk_cell BK154.out 2).trans rfl
     have hfs22 := blk_frozen BK154.out 2
     have hs23 : w17.cell? ⟨gb154,3,none⟩ = some (.bool false) := (blk_cell BK154.out 3).trans rfl
     have hfs23 := blk_frozen BK154.out 3
     have hs24 : w17.cell? ⟨gb154,4,none⟩ = some (.slice none 0 0) := (blk_cell BK154.out 4).trans rfl
     have hfs24 := blk_frozen BK154.out 4
     have hs25 : w17.cell? ⟨gb154,5,none⟩ = some (.slice none 0 0) := (blk_cell BK154.out 5).trans rfl
     have hfs25 := blk_frozen BK154.out 5
     have hs26 : w17.cell? ⟨gb154,6,none⟩ = some (.slice none 0 0) := (blk_cell BK154.out 6).trans rfl
     have hfs26 := blk_frozen BK154.out 6
     have hs27 : w17.cell? ⟨gb154,7,none⟩ = some (.slice none 0 0) := (blk_cell BK154.out 7).trans rfl
     have hfs27 := blk_frozen BK154.out 7
     refine skip_ (w1 := ?_) (by rfl) rfl ?_ ?_
     rotate_left
     ·go_simp
      rfl
     refine hK.out _ _ trivial (fun hHeld => ?_)
     clear hK K
     refine pure_ (i := 6) (N := some 5) (v := ?_) (a' := ?_) #[true,true,true,true,true,true,true] rfl rfl (by kernel_rfl) (fun _ _ _ h => h) (Or.inl ⟨by rfl,?_⟩) ?_ ?_
     rotate_left
     ·intro w'
      go_simp
      with_reducible rfl
     rotate_left
     ·simp only [Act.put,p1_,p2_,p3_,i64_w,i32_w]
      rfl
     refine done_ (by kernel_rfl) ?_
     try go_wp2
     refine bodyPost_ret (results_ct rfl _ _ gb154 27 #[.int .i64 a0,.int .i64 a1,.int .i64 0,.bool true,.slice Ao19 y157.length co19,.slice Ao18 y160.length co18,.slice none 0 0,.slice none 0 0] (0,0) _ rfl (zq BK154) Try.underlying27 rfl (by kernel_rfl)) rfl ?_
     exact ⟨_,_,_,_,zt_,by (with_reducible repeat (first | apply Kd.S_alloc | apply Kd.S_drewN | apply Kd.S_drew));exact Kd.S_mono (Kd.S_far (p := ⟨gb154,7,none⟩) (Kd.S_far (p := ⟨gb154,6,none⟩) (Kd.S_far (p := ⟨gb154,5,none⟩) (Kd.S_far (p := ⟨gb154,4,none⟩) (Kd.S_far (p := ⟨gb154,3,none⟩) (Kd.S_far (p := ⟨gb154,2,none⟩) (Kd.S_far (p := ⟨gb154,1,none⟩) (Kd.S_far (p := ⟨gb154,0,none⟩) (Kd.S_types HO159.out BK154.out (by decide)) (fun _ hk => hk.2) (.int .i64 a0)) (fun _ hk => hk.2) (.int .i64 a1)) (fun _ hk => hk.2) (.int .i64 0)) (fun _ hk => hk.2) (.bool true)) (fun _ hk => hk.2) (.slice Ao19 y157.length co19)) (fun _ hk => hk.2) (.slice Ao18 y160.length co18)) (fun _ hk => hk.2) (.slice none 0 0)) (fun _ hk => hk.2) (.slice none 0 0)) (fun _ hk => (by simp [Value.ownBlock])),by (with_reducible repeat (first | apply Kd.S_alloc | apply Kd.S_drewN | apply Kd.S_drew));exact Kd.S_mono (Kd.S_far (p := ⟨gb154,7,none⟩) (Kd.S_far (p := ⟨gb154,6,none⟩) (Kd.S_far (p := ⟨gb154,5,none⟩) (Kd.S_far (p := ⟨gb154,4,none⟩) (Kd.S_far (p := ⟨gb154,3,none⟩) (Kd.S_far (p := ⟨gb154,2,none⟩) (Kd.S_far (p := ⟨gb154,1,none⟩) (Kd.S_far (p := ⟨gb154,0,none⟩) (Kd.S_types HO162.out BK154.out (by decide)) (fun _ hk => hk.2) (.int .i64 a0)) (fun _ hk => hk.2) (.int .i64 a1)) (fun _ hk => hk.2) (.int .i64 0)) (fun _ hk => hk.2) (.bool true)) (fun _ hk => hk.2) (.slice Ao19 y157.length co19)) (fun _ hk => hk.2) (.slice Ao18 y160.length co18)) (fun _ hk => hk.2) (.slice none 0 0)) (fun _ hk => hk.2) (.slice none 0 0)) (fun _ hk => (by simp [Value.ownBlock])),by first | exact Kd.R_nil _ _ _ _ _ | exact Kd.N_nil _ _ _ _ _ | exact Kd.V_nil _ _ _ _ _ | exact Kd.Q_nil _ _ _ _ _ | exact Kd.S_nil _ _ _ _ _,by first | exact Kd.R_nil _ _ _ _ _ | exact Kd.N_nil _ _ _ _ _ | exact Kd.V_nil _ _ _ _ _ | exact Kd.Q_nil _ _ _ _ _ | exact Kd.S_nil _ _ _ _ _,zl_ HB⟩
    ·rw [if_neg c8] at H
     exact absurd H (by simp)
   ·rw [if_neg c7] at H
    exact absurd H (by simp)
  ·replace c6 := Bool.eq_false_iff.mpr c6
   subst c6
   have H1 : (some (0,0,0,false,([] : List (S51)),([] : List (S46)),([] : List ByteArray),([] : List (S55)),4)) = some (r1,r2,r3,r4,r5,r6,r7,r8,r9) := by rw [if_neg (show ¬ (false = true) by decide)] at H;exact H
   clear H
   have H := H1
   clear H1
   simp only [Option.some.injEq,Prod.mk.injEq] at H
   obtain ⟨rfl,rfl,rfl,rfl,rfl,rfl,rfl,rfl,rfl⟩ := H
   go_enter Try.func5,Try.ntmps5
   go_wp2_with (first | ((with_reducible refine gate_dst (N := 4) rfl ?_);refine zbx (N := 4) (cs := #[.int .i64 0,.int .i64 0,.int .i64 0,.bool false,.slice none 0 0,.slice none 0 0,.slice none 0 0,.slice none 0 0]) (t := 27) ?_;intro gb154 hg w28 hbox hb;have BK154 := am_ (hbox);have GW154 := zw_ HB hg;have GE154 := zw_ HB hg;replace HB := zs_ HB hb;clear hb hbox hg) | ((with_reducible refine gate_callee (f := 12) rfl ?_);refine zgl (some 7) Try.func12 #[.int .i64 a1] ?_;(with_reducible refine (impl_areNodes.calls a1 true _ A3.out).mono ?_);rintro e w' ⟨rfl,⟨nd,rfl⟩⟩;refine ⟨_,rfl,?_⟩;(try (rw [drewN_self w28];generalize hq_ : World.drewN w28 _ = w28;have n0_ : Aside0 (w28.heap[gb154]? = some (.cells #[.int .i64 0,.int .i64 0,.int .i64 0,.bool false,.slice none 0 0,.slice none 0 0,.slice none 0 0,.slice none 0 0] 27 (0,0))) := ⟨by rw [← hq_];exact (zk BK154)⟩;have n1_ : Aside0 (Below w.heap.size w w28) := ⟨by rw [← hq_];exact (zl_ HB)⟩;clear BK154 HB hq_;have BK154 := n0_;have HB := n1_;clear n0_ n1_));(try have hfu154_0 := blk_frozen BK154.out 0);(try have hcu154_0 : w28.cell? ⟨gb154,0,none⟩ = some (.int .i64 0) := (blk_cell BK154.out 0).trans rfl);(try have hfu154_1 := blk_frozen BK154.out 1);(try have hcu154_1 : w28.cell? ⟨gb154,1,none⟩ = some (.int .i64 0) := (blk_cell BK154.out 1).trans rfl);(try have hfu154_2 := blk_frozen BK154.out 2);(try have hcu154_2 : w28.cell? ⟨gb154,2,none⟩ = some (.int .i64 0) := (blk_cell BK154.out 2).trans rfl);(try have hfu154_3 := blk_frozen BK154.out 3);(try have hcu154_3 : w28.cell? ⟨gb154,3,none⟩ = some (.bool false) := (blk_cell BK154.out 3).trans rfl);(try have hfu154_4 := blk_frozen BK154.out 4);(try have hcu154_4 : w28.cell? ⟨gb154,4,none⟩ = some (.slice none 0 0) := (blk_cell BK154.out 4).trans rfl);(try have hfu154_5 := blk_frozen BK154.out 5);(try have hcu154_5 : w28.cell? ⟨gb154,5,none⟩ = some (.slice none 0 0) := (blk_cell BK154.out 5).trans rfl);(try have hfu154_6 := blk_frozen BK154.out 6);(try have hcu154_6 : w28.cell? ⟨gb154,6,none⟩ = some (.slice none 0 0) := (blk_cell BK154.out 6).trans rfl);(try have hfu154_7 := blk_frozen BK154.out 7);(try have hcu154_7 : w28.cell? ⟨gb154,7,none⟩ = some (.slice none 0 0) := (blk_cell BK154.out 7).trans rfl)) | (go_at_call 13;(with_reducible refine (impl_within.calls a0 0 (wrap64 (a1 - 1)) false _ A5.out).mono ?_);rintro e w' ⟨rfl,⟨nd,rfl⟩⟩;(try (rw [drewN_self w28];generalize hq_ : World.drewN w28 _ = w28;have n0_ : Aside0 (w28.heap[gb154]? = some (.cells #[.int .i64 0,.int .i64 0,.int .i64 0,.bool false,.slice none 0 0,.slice none 0 0,.slice none 0 0,.slice none 0 0] 27 (0,0))) := ⟨by rw [← hq_];exact (zk BK154)⟩;have n1_ : Aside0 (Below w.heap.size w w28) := ⟨by rw [← hq_];exact (zl_ HB)⟩;clear BK154 HB hq_;have BK154 := n0_;have HB := n1_;clear n0_ n1_));(try have hfu154_0 := blk_frozen BK154.out 0);(try have hcu154_0 : w28.cell? ⟨gb154,0,none⟩ = some (.int .i64 0) := (blk_cell BK154.out 0).trans rfl);(try have hfu154_1 := blk_frozen BK154.out 1);(try have hcu154_1 : w28.cell? ⟨gb154,1,none⟩ = some (.int .i64 0) := (blk_cell BK154.out 1).trans rfl);(try have hfu154_2 := blk_frozen BK154.out 2);(try have hcu154_2 : w28.cell? ⟨gb154,2,none⟩ = some (.int .i64 0) := (blk_cell BK154.out 2).trans rfl);(try have hfu154_3 := blk_frozen BK154.out 3);(try have hcu154_3 : w28.cell? ⟨gb154,3,none⟩ = some (.bool false) := (blk_cell BK154.out 3).trans rfl);(try have hfu154_4 := blk_frozen BK154.out 4);(try have hcu154_4 : w28.cell? ⟨gb154,4,none⟩ = some (.slice none 0 0) := (blk_cell BK154.out 4).trans rfl);(try have hfu154_5 := blk_frozen BK154.out 5);(try have hcu154_5 : w28.cell? ⟨gb154,5,none⟩ = some (.slice none 0 0) := (blk_cell BK154.out 5).trans rfl);(try have hfu154_6 := blk_frozen BK154.out 6);(try have hcu154_6 : w28.cell? ⟨gb154,6,none⟩ = some (.slice none 0 0) := (blk_cell BK154.out 6).trans rfl);(try have hfu154_7 := blk_frozen BK154.out 7);(try have hcu154_7 : w28.cell? ⟨gb154,7,none⟩ = some (.slice none 0 0) := (blk_cell BK154.out 7).trans rfl);obtain ⟨hcz29_0,hcz29_1,hcz29_2,hcz29_3,hcz29_4,hcz29_5,hcz29_6,hcz29_7,hfz29_0,hfz29_1,hfz29_2,hfz29_3,hfz29_4,hfz29_5,hfz29_6,hfz29_7⟩ := zc8 BK154))
   refine bodyPost_ret (results_ct rfl _ _ gb154 27 #[.int .i64 0,.int .i64 0,.int .i64 0,.bool false,.slice none 0 0,.slice none 0 0,.slice none 0 0,.slice none 0 0] (0,0) _ rfl (zq BK154) Try.underlying27 rfl (by kernel_rfl)) rfl ?_
   exact ⟨_,_,_,_,zt_,by first | exact Kd.S_nil _ _ _ _ _ | exact Kd.N_nil _ _ _ _ _ | exact Kd.V_nil _ _ _ _ _ | exact Kd.Q_nil _ _ _ _ _ | exact Kd.R_nil _ _ _ _ _,by first | exact Kd.S_nil _ _ _ _ _ | exact Kd.N_nil _ _ _ _ _ | exact Kd.V_nil _ _ _ _ _ | exact Kd.Q_nil _ _ _ _ _ | exact Kd.R_nil _ _ _ _ _,by first | exact Kd.R_nil _ _ _ _ _ | exact Kd.N_nil _ _ _ _ _ | exact Kd.V_nil _ _ _ _ _ | exact Kd.Q_nil _ _ _ _ _ | exact Kd.S_nil _ _ _ _ _,by first | exact Kd.R_nil _ _ _ _ _ | exact Kd.N_nil _ _ _ _ _ | exact Kd.V_nil _ _ _ _ _ | exact Kd.Q_nil _ _ _ _ _ | exact Kd.S_nil _ _ _ _ _,zl_ HB⟩
 ·replace c4 := Bool.eq_false_iff.mpr c4
  subst c4
  have H1 : (some (0,0,0,false,([] : List (S51)),([] : List (S46)),([] : List ByteArray),([] : List (S55)),4)) = some (r1,r2,r3,r4,r5,r6,r7,r8,r9) := by rw [if_neg (show ¬ (false = true) by decide)] at H;exact H
  clear H
  have H := H1
  clear H1
  simp only [Option.some.injEq,Prod.mk.injEq] at H
  obtain ⟨rfl,rfl,rfl,rfl,rfl,rfl,rfl,rfl,rfl⟩ := H
  go_enter Try.func5,Try.ntmps5
  go_wp2_with (first | ((with_reducible refine gate_dst (N := 4) rfl ?_);refine zbx (N := 4) (cs := #[.int .i64 0,.int .i64 0,.int .i64 0,.bool false,.slice none 0 0,.slice none 0 0,.slice none 0 0,.slice none 0 0]) (t := 27) ?_;intro gb154 hg w30 hbox hb;have BK154 := am_ (hbox);have GW154 := zw_ HB hg;have GE154 := zw_ HB hg;replace HB := zs_ HB hb;clear hb hbox hg) | ((with_reducible refine gate_callee (f := 12) rfl ?_);refine zgl (some 7) Try.func12 #[.int .i64 a1] ?_;(with_reducible refine (impl_areNodes.calls a1 false _ A3.out).mono ?_);rintro e w' ⟨rfl,⟨nd,rfl⟩⟩;refine ⟨_,rfl,?_⟩;(try (rw [drewN_self w30];generalize hq_ : World.drewN w30 _ = w30;have n0_ : Aside0 (w30.heap[gb154]? = some (.cells #[.int .i64 0,.int .i64 0,.int .i64 0,.bool false,.slice none 0 0,.slice none 0 0,.slice none 0 0,.slice none 0 0] 27 (0,0))) := ⟨by rw [← hq_];exact (zk BK154)⟩;have n1_ : Aside0 (Below w.heap.size w w30) := ⟨by rw [← hq_];exact (zl_ HB)⟩;clear BK154 HB hq_;have BK154 := n0_;have HB := n1_;clear n0_ n1_));(try have hfu154_0 := blk_frozen BK154.out 0);(try have hcu154_0 : w30.cell? ⟨gb154,0,none⟩ = some (.int .i64 0) := (blk_cell BK154.out 0).trans rfl);(try have hfu154_1 := blk_frozen BK154.out 1);(try have hcu154_1 : w30.cell? ⟨gb154,1,none⟩ = some (.int .i64 0) := (blk_cell BK154.out 1).trans rfl);(try have hfu154_2 := blk_frozen BK154.out 2);(try have hcu154_2 : w30.cell? ⟨gb154,2,none⟩ = some (.int .i64 0) := (blk_cell BK154.out 2).trans rfl);(try have hfu154_3 := blk_frozen BK154.out 3);(try have hcu154_3 : w30.cell? ⟨gb154,3,none⟩ = some (.bool false) := (blk_cell BK154.out 3).trans rfl);(try have hfu154_4 := blk_frozen BK154.out 4);(try have hcu154_4 : w30.cell? ⟨gb154,4,none⟩ = some (.slice none 0 0) := (blk_cell BK154.out 4).trans rfl);(try have hfu154_5 := blk_frozen BK154.out 5);(try have hcu154_5 : w30.cell? ⟨gb154,5,none⟩ = some (.slice none 0 0) := (blk_cell BK154.out 5).trans rfl);(try have hfu154_6 := blk_frozen BK154.out 6);(try have hcu154_6 : w30.cell? ⟨gb154,6,none⟩ = some (.slice none 0 0) := (blk_cell BK154.out 6).trans rfl);(try have hfu154_7 := blk_frozen BK154.out 7);(try have hcu154_7 : w30.cell? ⟨gb154,7,none⟩ = some (.slice none 0 0) := (blk_cell BK154.out 7).trans rfl);obtain ⟨hcz31_0,hcz31_1,hcz31_2,hcz31_3,hcz31_4,hcz31_5,hcz31_6,hcz31_7,hfz31_0,hfz31_1,hfz31_2,hfz31_3,hfz31_4,hfz31_5,hfz31_6,hfz31_7⟩ := zc8 BK154))
  refine bodyPost_ret (results_ct rfl _ _ gb154 27 #[.int .i64 0,.int .i64 0,.int .i64 0,.bool false,.slice none 0 0,.slice none 0 0,.slice none 0 0,.slice none 0 0] (0,0) _ rfl (zq BK154) Try.underlying27 rfl (by kernel_rfl)) rfl ?_
  exact ⟨_,_,_,_,zt_,by first | exact Kd.S_nil _ _ _ _ _ | exact Kd.N_nil _ _ _ _ _ | exact Kd.V_nil _ _ _ _ _ | exact Kd.Q_nil _ _ _ _ _ | exact Kd.R_nil _ _ _ _ _,by first | exact Kd.S_nil _ _ _ _ _ | exact Kd.N_nil _ _ _ _ _ | exact Kd.V_nil _ _ _ _ _ | exact Kd.Q_nil _ _ _ _ _ | exact Kd.R_nil _ _ _ _ _,by first | exact Kd.R_nil _ _ _ _ _ | exact Kd.N_nil _ _ _ _ _ | exact Kd.V_nil _ _ _ _ _ | exact Kd.Q_nil _ _ _ _ _ | exact Kd.S_nil _ _ _ _ _,by first | exact Kd.R_nil _ _ _ _ _ | exact Kd.N_nil _ _ _ _ _ | exact Kd.V_nil _ _ _ _ _ | exact Kd.Q_nil _ _ _ _ _ | exact Kd.S_nil _ _ _ _ _,zl_ HB⟩
set_option maxHeartbeats 8000000 in
set_option maxRecDepth 100000 in
theorem laws_eqMessage.calls (a0_0 : Int) (a0_1 : Int) (a0_2 : Int) (a0_3 : Int) (a0_4 : ByteArray) (a0_5 : ByteArray) (a0_6 : ByteArray) (a1_0 : Int) (a1_1 : Int) (a1_2 : Int) (a1_3 : Int) (a1_4 : ByteArray) (a1_5 : ByteArray) (a1_6 : ByteArray) (r : Bool) (w : World) (h : laws_eqMessage.f a0_0 a0_1 a0_2 a0_3 a0_4 a0_5 a0_6 a1_0 a1_1 a1_2 a1_3 a1_4 a1_5 a1_6 = some r) :
  Calls Try.prog 30 #[.agg #[.int .i64 a0_0,.int .i64 a0_1,.int .i64 a0_2,.int .i64 a0_3,.string a0_4,.string a0_5,.string a0_6],.agg #[.int .i64 a1_0,.int .i64 a1_1,.int .i64 a1_2,.int .i64 a1_3,.string a1_4,.string a1_5,.string a1_6]] w fun e w' => e = .returned (.bool r) ∧ Below w.heap.size w w' := by
 have hu55 := Try.underlying55
 have HB := am_ (Below.refl w.heap.size w)
 have H : (if a0_0 = a1_0 then (if a0_1 = a1_1 then (if a0_2 = a1_2 then (if a0_3 = a1_3 then (if a0_4.toList = a1_4.toList then (if a0_5.toList = a1_5.toList then (if a0_6.toList = a1_6.toList then (some true) else (some false)) else (some false)) else (some false)) else (some false)) else (some false)) else (some false)) else (some false)) = some r := h
 clear h
 by_cases c3 : a0_0 = a1_0
 ·rw [if_pos c3] at H
  have c3b0 : (a0_0 == a1_0) = true := beq_iff_eq.mpr c3
  have c3b1 : (a0_0 != a1_0) = false := bne_eq_false_iff_eq.mpr c3
  clear c3
  by_cases c4 : a0_1 = a1_1
  ·rw [if_pos c4] at H
   have c4b0 : (a0_1 == a1_1) = true := beq_iff_eq.mpr c4
   have c4b1 : (a0_1 != a1_1) = false := bne_eq_false_iff_eq.mpr c4
   clear c4
   by_cases c5 : a0_2 = a1_2
   ·rw [if_pos c5] at H
    have c5b0 : (a0_2 == a1_2) = true := beq_iff_eq.mpr c5
    have c5b1 : (a0_2 != a1_2) = false := bne_eq_false_iff_eq.mpr c5
    clear c5
    by_cases c6 : a0_3 = a1_3
    ·rw [if_pos c6] at H
     have c6b0 : (a0_3 == a1_3) = true := beq_iff_eq.mpr c6
     have c6b1 : (a0_3 != a1_3) = false := bne_eq_false_iff_eq.mpr c6
     clear c6
     by_cases c7 : a0_4.toList = a1_4.toList
     ·rw [if_pos c7] at H
      have c7b0 : (a0_4.toList == a1_4.toList) = true := beq_iff_eq.mpr c7
      have c7b1 : (a0_4.toList != a1_4.toList) = false := bne_eq_false_iff_eq.mpr c7
      clear c7
      by_cases c8 : a0_5.toList = a1_5.toList
      ·rw [if_pos c8] at H
       have c8b0 : (a0_5.toList == a1_5.toList) = true := beq_iff_eq.mpr c8
       have c8b1 : (a0_5.toList != a1_5.toList) = false := bne_eq_false_iff_eq.mpr c8
       clear c8
       by_cases c9 : a0_6.toList = a1_6.toList
       ·rw [if_pos c9] at H
        have c9b0 : (a0_6.toList == a1_6.toList) = true := beq_iff_eq.mpr c9
        have c9b1 : (a0_6.toList != a1_6.toList) = false := bne_eq_false_iff_eq.mpr c9
        clear c9
        obtain rfl := Option.some.inj H
        go_enter Try.func30,Try.ntmps30
        go_wp2_with (first | ((with_reducible refine gate_dst (N := 2) rfl ?_);refine zbx (N := 2) (cs := #[.int .i64 a0_0,.int .i64 a0_1,.int .i64 a0_2,.int .i64 a0_3,.string a0_4,.string a0_5,.string a0_6]) (t := 55) ?_;intro gb163 hg w10 hbox hb;have BK163 := am_ (hbox);have GW163 := zw_ HB hg;have GE163 := zw_ HB hg;replace HB := zs_ HB hb;clear hb hbox hg) | ((with_reducible refine gate_dst (N := 3) rfl ?_);refine zbx (N := 3) (cs := #[.int .i64 a1_0,.int .i64 a1_1,.int .i64 a1_2,.int .i64 a1_3,.string a1_4,.string a1_5,.string a1_6]) (t := 55) ?_;intro gb164 hg w11 hbox hb;have BK164 := am_ (hbox);have GW164 := zw_ HB hg;have GE164 := zw_ HB hg;replace HB := zs_ HB hb;have NB163_164 := zl hg BK163;have NB164_163 := zg hg BK163;replace BK163 := zb BK163 hb;clear hb hbox hg;have hnb12 := NB163_164.out;have hnc12 := NB164_163.out;obtain ⟨hcz13_0,hcz13_1,hcz13_2,hcz13_3,hcz13_4,hcz13_5,hcz13_6,hfz13_0,hfz13_1,hfz13_2,hfz13_3,hfz13_4,hfz13_5,hfz13_6⟩ := zc7 BK163;obtain ⟨hcz14_0,hcz14_1,hcz14_2,hcz14_3,hcz14_4,hcz14_5,hcz14_6,hfz14_0,hfz14_1,hfz14_2,hfz14_3,hfz14_4,hfz14_5,hfz14_6⟩ := zc7 BK164))
        go_ret
        exact ⟨zt_,zl_ HB⟩
       ·rw [if_neg c9] at H
        have c9b0 : (a0_6.toList == a1_6.toList) = false := beq_eq_false_iff_ne.mpr c9
        have c9b1 : (a0_6.toList != a1_6.toList) = true := bne_iff_ne.mpr c9
        obtain rfl := Option.some.inj H
        go_enter Try.func30,Try.ntmps30
        go_wp2_with (first | ((with_reducible refine gate_dst (N := 2) rfl ?_);refine zbx (N := 2) (cs := #[.int .i64 a0_0,.int .i64 a0_1,.int .i64 a0_2,.int .i64 a0_3,.string a0_4,.string a0_5,.string a0_6]) (t := 55) ?_;intro gb163 hg w15 hbox hb;have BK163 := am_ (hbox);have GW163 := zw_ HB hg;have GE163 := zw_ HB hg;replace HB := zs_ HB hb;clear hb hbox hg) | ((with_reducible refine gate_dst (N := 3) rfl ?_);refine zbx (N := 3) (cs := #[.int .i64 a1_0,.int .i64 a1_1,.int .i64 a1_2,.int .i64 a1_3,.string a1_4,.string a1_5,.string a1_6]) (t := 55) ?_;intro gb164 hg w16 hbox hb;have BK164 := am_ (hbox);have GW164 := zw_ HB hg;have GE164 := zw_ HB hg;replace HB := zs_ HB hb;have NB163_164 := zl hg BK163;have NB164_163 := zg hg BK163;replace BK163 := zb BK163 hb;clear hb hbox hg;have hnb17 := NB163_164.out;have hnc17 := NB164_163.out;obtain ⟨hcz18_0,hcz18_1,hcz18_2,hcz18_3,hcz18_4,hcz18_5,hcz18_6,hfz18_0,hfz18_1,hfz18_2,hfz18_3,hfz18_4,hfz18_5,hfz18_6⟩ := zc7 BK163;obtain ⟨hcz19_0,hcz19_1,hcz19_2,hcz19_3,hcz19_4,hcz19_5,hcz19_6,hfz19_0,hfz19_1,hfz19_2,hfz19_3,hfz19_4,hfz19_5,hfz19_6⟩ := zc7 BK164))
        go_ret
        exact ⟨zt_,zl_ HB⟩
      ·rw [if_neg c8] at H
       have c8b0 : (a0_5.toList == a1_5.toList) = false := beq_eq_false_iff_ne.mpr c8
       have c8b1 : (a0_5.toList != a1_5.toList) = true := bne_iff_ne.mpr c8
       obtain rfl := Option.some.inj H
       go_enter Try.func30,Try.ntmps30
       go_wp2_with (first | ((with_reducible refine gate_dst (N := 2) rfl ?_);refine zbx (N := 2) (cs := #[.int .i64 a0_0,.int .i64 a0_1,.int .i64 a0_2,.int .i64 a0_3,.string a0_4,.string a0_5,.string a0_6]) (t := 55) ?_;intro gb163 hg w20 hbox hb;have BK163 := am_ (hbox);have GW163 := zw_ HB hg;have GE163 := zw_ HB hg;replace HB := zs_ HB hb;clear hb hbox hg) | ((with_reducible refine gate_dst (N := 3) rfl ?_);refine zbx (N := 3) (cs := #[.int .i64 a1_0,.int .i64 a1_1,.int .i64 a1_2,.int .i64 a1_3,.string a1_4,.string a1_5,.string a1_6]) (t := 55) ?_;intro gb164 hg w21 hbox hb;have BK164 := am_ (hbox);have GW164 := zw_ HB hg;have GE164 := zw_ HB hg;replace HB := zs_ HB hb;have NB163_164 := zl hg BK163;have NB164_163 := zg hg BK163;replace BK163 := zb BK163 hb;clear hb hbox hg;have hnb22 := NB163_164.out;have hnc22 := NB164_163.out;obtain ⟨hcz23_0,hcz23_1,hcz23_2,hcz23_3,hcz23_4,hcz23_5,hcz23_6,hfz23_0,hfz23_1,hfz23_2,hfz23_3,hfz23_4,hfz23_5,hfz23_6⟩ := zc7 BK163;obtain ⟨hcz24_0,hcz24_1,hcz24_2,hcz24_3,hcz24_4,hcz24_5,hcz24_6,hfz24_0,hfz24_1,hfz24_2,hfz24_3,hfz24_4,hfz24_5,hfz24_6⟩ := zc7 BK164))
       go_ret
       exact ⟨zt_,zl_ HB⟩
     ·rw [if_neg c7] at H
      have c7b0 : (a0_4.toList == a1_4.toList) = false := beq_eq_false_iff_ne.mpr c7
      have c7b1 : (a0_4.toList != a1_4.toList) = true := bne_iff_ne.mpr c7
      obtain rfl := Option.some.inj H
      go_enter Try.func30,Try.ntmps30
      go_wp2_with (first | ((with_reducible refine gate_dst (N := 2) rfl ?_);refine zbx (N := 2) (cs := #[.int .i64 a0_0,.int .i64 a0_1,.int .i64 a0_2,.int .i64 a0_3,.string a0_4,.string a0_5,.string a0_6]) (t := 55) ?_;intro gb163 hg w25 hbox hb;have BK163 := am_ (hbox);have GW163 := zw_ HB hg;have GE163 := zw_ HB hg;replace HB := zs_ HB hb;clear hb hbox hg) | ((with_reducible refine gate_dst (N := 3) rfl ?_);refine zbx (N := 3) (cs := #[.int .i64 a1_0,.int .i64 a1_1,.int .i64 a1_2,.int .i64 a1_3,.string a1_4,.string a1_5,.string a1_6]) (t := 55) ?_;intro gb164 hg w26 hbox hb;have BK164 := am_ (hbox);have GW164 := zw_ HB hg;have GE164 := zw_ HB hg;replace HB := zs_ HB hb;have NB163_164 := zl hg BK163;have NB164_163 := zg hg BK163;replace BK163 := zb BK163 hb;clear hb hbox hg;have hnb27 := NB163_164.out;have hnc27 := NB164_163.out;obtain ⟨hcz28_0,hcz28_1,hcz28_2,hcz28_3,hcz28_4,hcz28_5,hcz28_6,hfz28_0,hfz28_1,hfz28_2,hfz28_3,hfz28_4,hfz28_5,hfz28_6⟩ := zc7 BK163;obtain ⟨hcz29_0,hcz29_1,hcz29_2,hcz29_3,hcz29_4,hcz29_5,hcz29_6,hfz29_0,hfz29_1,hfz29_2,hfz29_3,hfz29_4,hfz29_5,hfz29_6⟩ := zc7 BK164))
      go_ret
      exact ⟨zt_,zl_ HB⟩
    ·rw [if_neg c6] at H
     have c6b0 : (a0_3 == a1_3) = false := beq_eq_false_iff_ne.mpr c6
     have c6b1 : (a0_3 != a1_3) = true := bne_iff_ne.mpr c6
     obtain rfl := Option.some.inj H
     go_enter Try.func30,Try.ntmps30
     go_wp2_with (first | ((with_reducible refine gate_dst (N := 2) rfl ?_);refine zbx (N := 2) (cs := #[.int .i64 a0_0,.int .i64 a0_1,.int .i64 a0_2,.int .i64 a0_3,.string a0_4,.string a0_5,.string a0_6]) (t := 55) ?_;intro gb163 hg w30 hbox hb;have BK163 := am_ (hbox);have GW163 := zw_ HB hg;have GE163 := zw_ HB hg;replace HB := zs_ HB hb;clear hb hbox hg) | ((with_reducible refine gate_dst (N := 3) rfl ?_);refine zbx (N := 3) (cs := #[.int .i64 a1_0,.int .i64 a1_1,.int .i64 a1_2,.int .i64 a1_3,.string a1_4,.string a1_5,.string a1_6]) (t := 55) ?_;intro gb164 hg w31 hbox hb;have BK164 := am_ (hbox);have GW164 := zw_ HB hg;have GE164 := zw_ HB hg;replace HB := zs_ HB hb;have NB163_164 := zl hg BK163;have NB164_163 := zg hg BK163;replace BK163 := zb BK163 hb;clear hb hbox hg;have hnb32 := NB163_164.out;have hnc32 := NB164_163.out;obtain ⟨hcz33_0,hcz33_1,hcz33_2,hcz33_3,hcz33_4,hcz33_5,hcz33_6,hfz33_0,hfz33_1,hfz33_2,hfz33_3,hfz33_4,hfz33_5,hfz33_6⟩ := zc7 BK163;obtain ⟨hcz34_0,hcz34_1,hcz34_2,hcz34_3,hcz34_4,hcz34_5,hcz34_6,hfz34_0,hfz34_1,hfz34_2,hfz34_3,hfz34_4,hfz34_5,hfz34_6⟩ := zc7 BK164))
     go_ret
     exact ⟨zt_,zl_ HB⟩
   ·rw [if_neg c5] at H
    have c5b0 : (a0_2 == a1_2) = false := beq_eq_false_iff_ne.mpr c5
    have c5b1 : (a0_2 != a1_2) = true := bne_iff_ne.mpr c5
    obtain rfl := Option.some.inj H
    go_enter Try.func30,Try.ntmps30
    go_wp2_with (first | ((with_reducible refine gate_dst (N := 2) rfl ?_);refine zbx (N := 2) (cs := #[.int .i64 a0_0,.int .i64 a0_1,.int .i64 a0_2,.int .i64 a0_3,.string a0_4,.string a0_5,.string a0_6]) (t := 55) ?_;intro gb163 hg w35 hbox hb;have BK163 := am_ (hbox);have GW163 := zw_ HB hg;have GE163 := zw_ HB hg;replace HB := zs_ HB hb;clear hb hbox hg) | ((with_reducible refine gate_dst (N := 3) rfl ?_);refine zbx (N := 3) (cs := #[.int .i64 a1_0,.int .i64 a1_1,.int .i64 a1_2,.int .i64 a1_3,.string a1_4,.string a1_5,.string a1_6]) (t := 55) ?_;intro gb164 hg w36 hbox hb;have BK164 := am_ (hbox);have GW164 := zw_ HB hg;have GE164 := zw_ HB hg;replace HB := zs_ HB hb;have NB163_164 := zl hg BK163;have NB164_163 := zg hg BK163;replace BK163 := zb BK163 hb;clear hb hbox hg;have hnb37 := NB163_164.out;have hnc37 := NB164_163.out;obtain ⟨hcz38_0,hcz38_1,hcz38_2,hcz38_3,hcz38_4,hcz38_5,hcz38_6,hfz38_0,hfz38_1,hfz38_2,hfz38_3,hfz38_4,hfz38_5,hfz38_6⟩ := zc7 BK163;obtain ⟨hcz39_0,hcz39_1,hcz39_2,hcz39_3,hcz39_4,hcz39_5,hcz39_6,hfz39_0,hfz39_1,hfz39_2,hfz39_3,hfz39_4,hfz39_5,hfz39_6⟩ := zc7 BK164))
    go_ret
    exact ⟨zt_,zl_ HB⟩
  ·rw [if_neg c4] at H
   have c4b0 : (a0_1 == a1_1) = false := beq_eq_false_iff_ne.mpr c4
   have c4b1 : (a0_1 != a1_1) = true := bne_iff_ne.mpr c4
   obtain rfl := Option.some.inj H
   go_enter Try.func30,Try.ntmps30
   go_wp2_with (first | ((with_reducible refine gate_dst (N := 2) rfl ?_);refine zbx (N := 2) (cs := #[.int .i64 a0_0,.int .i64 a0_1,.int .i64 a0_2,.int .i64 a0_3,.string a0_4,.string a0_5,.string a0_6]) (t := 55) ?_;intro gb163 hg w40 hbox hb;have BK163 := am_ (hbox);have GW163 := zw_ HB hg;have GE163 := zw_ HB hg;replace HB := zs_ HB hb;clear hb hbox hg) | ((with_reducible refine gate_dst (N := 3) rfl ?_);refine zbx (N := 3) (cs := #[.int .i64 a1_0,.int .i64 a1_1,.int .i64 a1_2,.int .i64 a1_3,.string a1_4,.string a1_5,.string a1_6]) (t := 55) ?_;intro gb164 hg w41 hbox hb;have BK164 := am_ (hbox);have GW164 := zw_ HB hg;have GE164 := zw_ HB hg;replace HB := zs_ HB hb;have NB163_164 := zl hg BK163;have NB164_163 := zg hg BK163;replace BK163 := zb BK163 hb;clear hb hbox hg;have hnb42 := NB163_164.out;have hnc42 := NB164_163.out;obtain ⟨hcz43_0,hcz43_1,hcz43_2,hcz43_3,hcz43_4,hcz43_5,hcz43_6,hfz43_0,hfz43_1,hfz43_2,hfz43_3,hfz43_4,hfz43_5,hfz43_6⟩ := zc7 BK163;obtain ⟨hcz44_0,hcz44_1,hcz44_2,hcz44_3,hcz44_4,hcz44_5,hcz44_6,hfz44_0,hfz44_1,hfz44_2,hfz44_3,hfz44_4,hfz44_5,hfz44_6⟩ := zc7 BK164))
   go_ret
   exact ⟨zt_,zl_ HB⟩
 ·rw [if_neg c3] at H
  have c3b0 : (a0_0 == a1_0) = false := beq_eq_false_iff_ne.mpr c3
  have c3b1 : (a0_0 != a1_0) = true := bne_iff_ne.mpr c3
  obtain rfl := Option.some.inj H
  go_enter Try.func30,Try.ntmps30
  go_wp2_with (first | ((with_reducible refine gate_dst (N := 2) rfl ?_);refine zbx (N := 2) (cs := #[.int .i64 a0_0,.int .i64 a0_1,.int .i64 a0_2,.int .i64 a0_3,.string a0_4,.string a0_5,.string a0_6]) (t := 55) ?_;intro gb163 hg w45 hbox hb;have BK163 := am_ (hbox);have GW163 := zw_ HB hg;have GE163 := zw_ HB hg;replace HB := zs_ HB hb;clear hb hbox hg) | ((with_reducible refine gate_dst (N := 3) rfl ?_);refine zbx (N := 3) (cs := #[.int .i64 a1_0,.int .i64 a1_1,.int .i64 a1_2,.int .i64 a1_3,.string a1_4,.string a1_5,.string a1_6]) (t := 55) ?_;intro gb164 hg w46 hbox hb;have BK164 := am_ (hbox);have GW164 := zw_ HB hg;have GE164 := zw_ HB hg;replace HB := zs_ HB hb;have NB163_164 := zl hg BK163;have NB164_163 := zg hg BK163;replace BK163 := zb BK163 hb;clear hb hbox hg;have hnb47 := NB163_164.out;have hnc47 := NB164_163.out;obtain ⟨hcz48_0,hcz48_1,hcz48_2,hcz48_3,hcz48_4,hcz48_5,hcz48_6,hfz48_0,hfz48_1,hfz48_2,hfz48_3,hfz48_4,hfz48_5,hfz48_6⟩ := zc7 BK163;obtain ⟨hcz49_0,hcz49_1,hcz49_2,hcz49_3,hcz49_4,hcz49_5,hcz49_6,hfz49_0,hfz49_1,hfz49_2,hfz49_3,hfz49_4,hfz49_5,hfz49_6⟩ := zc7 BK164))
  go_ret
  exact ⟨zt_,zl_ HB⟩
def laws_eqMessageS.T6 : Bool × List (List Nat × List Nat) := (true,[([],[]),([],[]),([0,1],[0,1]),([2],[2]),([],[]),([],[]),([4,5],[4,5]),([6],[6]),([3,7],[3,7]),([8],[8])])
def laws_eqMessageS.B6 : List Nat := [0,0,3,7,0,0,48,112,255,511]
theorem laws_eqMessageS.tab6 : rtab .any (opsOf Try.f17 6) = laws_eqMessageS.T6 := by kernel_rfl
theorem laws_eqMessageS.bits6 : waitsOk laws_eqMessageS.T6.2 laws_eqMessageS.B6 = true := by kernel_rfl
set_option maxHeartbeats 8000000 in
set_option maxRecDepth 100000 in
theorem laws_eqMessageS.calls (k : Nat) (A0 : Option Addr) (c0 : Nat) (l0 : List (S55)) (A1 : Option Addr) (c1 : Nat) (l1 : List (S55)) (r : Bool) (w : World) (hr0 : Kd.C k55 w A0 l0.length l0) (hc0 : l0.length ≤ c0) (hr1 : Kd.C k55 w A1 l1.length l1) (hc1 : l1.length ≤ c1) (h : laws_eqMessageS.f k l0 l1 = some r) :
  Calls Try.prog 17 #[.slice A0 l0.length c0,.slice A1 l1.length c1] w fun e w' => e = .returned (.bool r) ∧ Below w.heap.size w w' := by
 have hu55 := Try.underlying55
 have HR0 := am_ hr0
 have HC0 := am_ hc0
 clear hr0 hc0
 have HR1 := am_ hr1
 have HC1 := am_ hc1
 clear hr1 hc1
 have HB := am_ (Below.refl w.heap.size w)
 have H : (if (l0.length : Int) = (l1.length : Int) then (laws_eqMessageS.l0 k l0 l1 0) else (some false)) = some r := h
 clear h
 by_cases c3 : (l0.length : Int) = (l1.length : Int)
 ·rw [if_pos c3] at H
  have c3b0 : ((l0.length : Int) == (l1.length : Int)) = true := beq_iff_eq.mpr c3
  have c3b1 : ((l0.length : Int) != (l1.length : Int)) = false := bne_eq_false_iff_eq.mpr c3
  have c3b2 : (l0.length == l1.length) = true := by first | simpa using c3 | (simp at c3 ⊢;omega)
  clear c3
  have H' := am_ H
  clear H
  go_enter Try.func17,Try.ntmps17
  go_wp2
  go_loopg [5] k (fun kq v5 w' => ∃ (x5_1 : Int),v5 = .int .i64 x5_1 ∧ Aside0 (laws_eqMessageS.l0 kq l0 l1 x5_1 = some r) ∧ Aside0 (kq ≤ k) ∧ Aside0 (Below w.heap.size w w'))
  case atStart => exact ⟨(0),(by first | rfl | (simp;done) | (simp [*];done)),H',⟨Nat.le_refl _⟩,⟨zl_ HB⟩⟩
  case round =>
   clear H'
   try clear c1
   try clear p2
   try clear c3
   try clear c3b0
   try clear c3b1
   try clear c3b2
   obtain ⟨x5_1,rfl,HA,HK1,HB⟩ := hrel
   cases gk with
   | zero => exact absurd HA.out (by simp [laws_eqMessageS.l0])
   | succ k1 =>
    have H := HA.out
    clear HA
    simp only [laws_eqMessageS.l0] at H
    by_cases c4 : x5_1 < (l0.length : Int)
    ·rw [if_pos c4] at H
     have c4b0 : decide (x5_1 < (l0.length : Int)) = true := decide_eq_true c4
     clear c4
     by_cases c5 : 0 ≤ x5_1
     ·rw [if_pos c5] at H
      have c5b0 : decide (0 ≤ x5_1) = true := decide_eq_true c5
      clear c5
      by_cases c6 : x5_1 < (l1.length : Int)
      ·rw [if_pos c6] at H
       have c6b0 : decide (x5_1 < (l1.length : Int)) = true := decide_eq_true c6
       clear c6
       replace H := Option.bind_eq_some_iff.mp H
       obtain ⟨t167,A70,H⟩ := H
       try dsimp only at H
       have A7 := am_ A70
       clear A70
       by_cases c8 : t167 = true
       ·subst c8
        have H1 : (laws_eqMessageS.l0 k1 l0 l1 (wrap64 (x5_1 + 1))) = some r := by rw [if_pos rfl] at H;exact H
        clear H
        have H := H1
        clear H1
        have H' := am_ H
        clear H
        try go_wp2
        replace HB := am_ (below_drew1 HB.out)
        have p165 : 0 ≤ (x5_1 : Int) := zo_
        have q165 : x5_1 < (l0.length : Int) := zo_
        obtain ⟨ad165,e165,hx165_0,hx165_1,hx165_2,hx165_3,hx165_4,hx165_5,hx165_6⟩ := at_T55 HR0.out x5_1 p165 q165
        have hw165_6 := hx165_6
        have hw165_5 := hx165_5
        have hw165_4 := hx165_4
        have hw165_3 := hx165_3
        have hw165_2 := hx165_2
        have hw165_1 := hx165_1
        have hw165_0 := hx165_0
        cases e165
        replace hx165_0 := zx_ HB hx165_0
        replace hx165_1 := zx_ HB hx165_1
        replace hx165_2 := zx_ HB hx165_2
        replace hx165_3 := zx_ HB hx165_3
        replace hx165_4 := zx_ HB hx165_4
        replace hx165_5 := zx_ HB hx165_5
        replace hx165_6 := zx_ HB hx165_6
        replace p165 := eq_true p165
        replace q165 := eq_true q165
        have p166 : 0 ≤ (x5_1 : Int) := zo_
        have q166 : x5_1 < (l1.length : Int) := zo_
        obtain ⟨ad166,e166,hx166_0,hx166_1,hx166_2,hx166_3,hx166_4,hx166_5,hx166_6⟩ := at_T55 HR1.out x5_1 p166 q166
        have hw166_6 := hx166_6
        have hw166_5 := hx166_5
        have hw166_4 := hx166_4
        have hw166_3 := hx166_3
        have hw166_2 := hx166_2
        have hw166_1 := hx166_1
        have hw166_0 := hx166_0
        cases e166
        replace hx166_0 := zx_ HB hx166_0
        replace hx166_1 := zx_ HB hx166_1
        replace hx166_2 := zx_ HB hx166_2
        replace hx166_3 := zx_ HB hx166_3
        replace hx166_4 := zx_ HB hx166_4
        replace hx166_5 := zx_ HB hx166_5
        replace hx166_6 := zx_ HB hx166_6
        replace p166 := eq_true p166
        replace q166 := eq_true q166
        refine start_ (n := 10) (S := fun w' => w'.cell? (ad165.add ((x5_1).toNat * 7)) = some (.int .i64 ((rd_T55 l0 x5_1).f0)) ∧ w'.cell? ⟨(ad165.add ((x5_1).toNat * 7)).block,(ad165.add ((x5_1).toNat * 7)).off + 1,none⟩ = some (.int .i64 ((rd_T55 l0 x5_1).f1)) ∧ w'.cell? ⟨(ad165.add ((x5_1).toNat * 7)).block,(ad165.add ((x5_1).toNat * 7)).off + 2,none⟩ = some (.int .i64 ((rd_T55 l0 x5_1).f2)) ∧ w'.cell? ⟨(ad165.add ((x5_1).toNat * 7)).block,(ad165.add ((x5_1).toNat * 7)).off + 3,none⟩ = some (.int .i64 ((rd_T55 l0 x5_1).f3)) ∧ w'.cell? ⟨(ad165.add ((x5_1).toNat * 7)).block,(ad165.add ((x5_1).toNat * 7)).off + 4,none⟩ = some (.string ((rd_T55 l0 x5_1).f4)) ∧ w'.cell? ⟨(ad165.add ((x5_1).toNat * 7)).block,(ad165.add ((x5_1).toNat * 7)).off + 5,none⟩ = some (.string ((rd_T55 l0 x5_1).f5)) ∧ w'.cell? ⟨(ad165.add ((x5_1).toNat * 7)).block,(ad165.add ((x5_1).toNat * 7)).off + 6,none⟩ = some (.string ((rd_T55 l0 x5_1).f6)) ∧ w'.cell? (ad166.add ((x5_1).toNat * 7)) = some (.int .i64 ((rd_T55 l1 x5_1).f0)) ∧ w'.cell? ⟨(ad166.add ((x5_1).toNat * 7)).block,(ad166.add ((x5_1).toNat * 7)).off + 1,none⟩ = some (.int .i64 ((rd_T55 l1 x5_1).f1)) ∧ w'.cell? ⟨(ad166.add ((x5_1).toNat * 7)).block,(ad166.add ((x5_1).toNat * 7)).off + 2,none⟩ = some (.int .i64 ((rd_T55 l1 x5_1).f2)) ∧ w'.cell? ⟨(ad166.add ((x5_1).toNat * 7)).block,(ad166.add ((x5_1).toNat * 7)).off + 3,none⟩ = some (.int .i64 ((rd_T55 l1 x5_1).f3)) ∧ w'.cell? ⟨(ad166.add ((x5_1).toNat * 7)).block,(ad166.add ((x5_1).toNat * 7)).off + 4,none⟩ = some (.string ((rd_T55 l1 x5_1).f4)) ∧ w'.cell? ⟨(ad166.add ((x5_1).toNat * 7)).block,(ad166.add ((x5_1).toNat * 7)).off + 5,none⟩ = some (.string ((rd_T55 l1 x5_1).f5)) ∧ w'.cell? ⟨(ad166.add ((x5_1).toNat * 7)).block,(ad166.add ((x5_1).toNat * 7)).off + 6,none⟩ = some (.string ((rd_T55 l1 x5_1).f6))) (ds := []) #[false,false,false,false,false,false,false,false,false,false] (by kernel_rfl) rfl rfl ⟨(zx_ HB hw165_0),(zx_ HB hw165_1),(zx_ HB hw165_2),(zx_ HB hw165_3),(zx_ HB hw165_4),(zx_ HB hw165_5),(zx_ HB hw165_6),(zx_ HB hw166_0),(zx_ HB hw166_1),(zx_ HB hw166_2),(zx_ HB hw166_3),(zx_ HB hw166_4),(zx_ HB hw166_5),(zx_ HB hw166_6)⟩ (fun hHeld => ?_);refine with_tabW laws_eqMessageS.tab6 laws_eqMessageS.bits6 (fun HT_ HW_ => ?_)
        generalize wr.drew = w9 at HB hx165_0 hx165_1 hx165_2 hx165_3 hx165_4 hx165_5 hx165_6 hx166_0 hx166_1 hx166_2 hx166_3 hx166_4 hx166_5 hx166_6 hHeld ⊢
        refine zpu 0 (N := some 17) HT_ ?_
        refine zpu 1 (N := some 18) HT_ ?_
        refine zpu 2 (N := some 19) HT_ ?_
        refine zpu 4 (N := some 21) HT_ ?_
        refine zpu 5 (N := some 22) HT_ ?_
        refine zpu 6 (N := some 23) HT_ ?_
        refine ztk 3 (N := some 20) HT_ HW_ hHeld ?_
        refine ztk 7 (N := some 24) HT_ HW_ hHeld ?_
        refine zon 8 (N := some 25) HT_ (fun K hK => ?_)
        refine zgo Try.func30 #[.agg #[.int .i64 ((rd_T55 l0 x5_1).f0),.int .i64 ((rd_T55 l0 x5_1).f1),.int .i64 ((rd_T55 l0 x5_1).f2),.int .i64 ((rd_T55 l0 x5_1).f3),.string ((rd_T55 l0 x5_1).f4),.string ((rd_T55 l0 x5_1).f5),.string ((rd_T55 l0 x5_1).f6)],.agg #[.int .i64 ((rd_T55 l1 x5_1).f0),.int .i64 ((rd_T55 l1 x5_1).f1),.int .i64 ((rd_T55 l1 x5_1).f2),.int .i64 ((rd_T55 l1 x5_1).f3),.string ((rd_T55 l1 x5_1).f4),.string ((rd_T55 l1 x5_1).f5),.string ((rd_T55 l1 x5_1).f6)]] ?_
        with_reducible refine (laws_eqMessage.calls ((rd_T55 l0 x5_1).f0) ((rd_T55 l0 x5_1).f1) ((rd_T55 l0 x5_1).f2) ((rd_T55 l0 x5_1).f3) ((rd_T55 l0 x5_1).f4) ((rd_T55 l0 x5_1).f5) ((rd_T55 l0 x5_1).f6) ((rd_T55 l1 x5_1).f0) ((rd_T55 l1 x5_1).f1) ((rd_T55 l1 x5_1).f2) ((rd_T55 l1 x5_1).f3) ((rd_T55 l1 x5_1).f4) ((rd_T55 l1 x5_1).f5) ((rd_T55 l1 x5_1).f6) true _ A7.out).mono ?_
        rintro e w10 ⟨rfl,hb⟩
        refine ⟨_,rfl,?_⟩
        replace HB := zs_ HB hb
        (try clear hb)
        (try clear hb2)
        (try clear hk)
        (try clear hi)
        refine hK.out _ _ ⟨(zx_ HB hw165_0),(zx_ HB hw165_1),(zx_ HB hw165_2),(zx_ HB hw165_3),(zx_ HB hw165_4),(zx_ HB hw165_5),(zx_ HB hw165_6),(zx_ HB hw166_0),(zx_ HB hw166_1),(zx_ HB hw166_2),(zx_ HB hw166_3),(zx_ HB hw166_4),(zx_ HB hw166_5),(zx_ HB hw166_6)⟩ (fun hHeld => ?_)
        clear hK K
        refine norm_ (a' := ?_) ?_ ?_
        rotate_left
        ·show Act.put _ (some 25) _ = _
         simp only [Act.put,p1_,p2_,p3_,i64_w,i32_w]
         rfl
        refine zpu 9 (N := some 26) HT_ ?_
        refine done_ (done_of HT_.out (by kernel_rfl)) ?_
        try go_wp2
        go_roundg k1
        case measure => have := HK1.out;omega
        case rel => exact ⟨(wrap64 (x5_1 + 1)),(by first | rfl | (simp;done) | (simp [*];done)),H',⟨by have := HK1.out;omega⟩,⟨zl_ HB⟩⟩
       ·replace c8 := Bool.eq_false_iff.mpr c8
        subst c8
        have H1 : (some false) = some r := by rw [if_neg (show ¬ (false = true) by decide)] at H;exact H
        clear H
        have H := H1
        clear H1
        obtain rfl := Option.some.inj H
        try go_wp2
        replace HB := am_ (below_drew1 HB.out)
        have p165 : 0 ≤ (x5_1 : Int) := zo_
        have q165 : x5_1 < (l0.length : Int) := zo_
        obtain ⟨ad165,e165,hx165_0,hx165_1,hx165_2,hx165_3,hx165_4,hx165_5,hx165_6⟩ := at_T55 HR0.out x5_1 p165 q165
        have hw165_6 := hx165_6
        have hw165_5 := hx165_5
        have hw165_4 := hx165_4
        have hw165_3 := hx165_3
        have hw165_2 := hx165_2
        have hw165_1 := hx165_1
        have hw165_0 := hx165_0
        cases e165
        replace hx165_0 := zx_ HB hx165_0
        replace hx165_1 := zx_ HB hx165_1
        replace hx165_2 := zx_ HB hx165_2
        replace hx165_3 := zx_ HB hx165_3
        replace hx165_4 := zx_ HB hx165_4
        replace hx165_5 := zx_ HB hx165_5
        replace hx165_6 := zx_ HB hx165_6
        replace p165 := eq_true p165
        replace q165 := eq_true q165
        have p166 : 0 ≤ (x5_1 : Int) := zo_
        have q166 : x5_1 < (l1.length : Int) := zo_
        obtain ⟨ad166,e166,hx166_0,hx166_1,hx166_2,hx166_3,hx166_4,hx166_5,hx166_6⟩ := at_T55 HR1.out x5_1 p166 q166
        have hw166_6 := hx166_6
        have hw166_5 := hx166_5
        have hw166_4 := hx166_4
        have hw166_3 := hx166_3
        have hw166_2 := hx166_2
        have hw166_1 := hx166_1
        have hw166_0 := hx166_0
        cases e166
        replace hx166_0 := zx_ HB hx166_0
        replace hx166_1 := zx_ HB hx166_1
        replace hx166_2 := zx_ HB hx166_2
        replace hx166_3 := zx_ HB hx166_3
        replace hx166_4 := zx_ HB hx166_4
        replace hx166_5 := zx_ HB hx166_5
        replace hx166_6 := zx_ HB hx166_6
        replace p166 := eq_true p166
        replace q166 := eq_true q166
        refine start_ (n := 10) (S := fun w' => w'.cell? (ad165.add ((x5_1).toNat * 7)) = some (.int .i64 ((rd_T55 l0 x5_1).f0)) ∧ w'.cell? ⟨(ad165.add ((x5_1).toNat * 7)).block,(ad165.add ((x5_1).toNat * 7)).off + 1,none⟩ = some (.int .i64 ((rd_T55 l0 x5_1).f1)) ∧ w'.cell? ⟨(ad165.add ((x5_1).toNat * 7)).block,(ad165.add ((x5_1).toNat * 7)).off + 2,none⟩ = some (.int .i64 ((rd_T55 l0 x5_1).f2)) ∧ w'.cell? ⟨(ad165.add ((x5_1).toNat * 7)).block,(ad165.add ((x5_1).toNat * 7)).off + 3,none⟩ = some (.int .i64 ((rd_T55 l0 x5_1).f3)) ∧ w'.cell? ⟨(ad165.add ((x5_1).toNat * 7)).block,(ad165.add ((x5_1).toNat * 7)).off + 4,none⟩ = some (.string ((rd_T55 l0 x5_1).f4)) ∧ w'.cell? ⟨(ad165.add ((x5_1).toNat * 7)).block,(ad165.add ((x5_1).toNat * 7)).off + 5,none⟩ = some (.string ((rd_T55 l0 x5_1).f5)) ∧ w'.cell? ⟨(ad165.add ((x5_1).toNat * 7)).block,(ad165.add ((x5_1).toNat * 7)).off + 6,none⟩ = some (.string ((rd_T55 l0 x5_1).f6)) ∧ w'.cell? (ad166.add ((x5_1).toNat * 7)) = some (.int .i64 ((rd_T55 l1 x5_1).f0)) ∧ w'.cell? ⟨(ad166.add ((x5_1).toNat * 7)).block,(ad166.add ((x5_1).toNat * 7)).off + 1,none⟩ = some (.int .i64 ((rd_T55 l1 x5_1).f1)) ∧ w'.cell? ⟨(ad166.add ((x5_1).toNat * 7)).block,(ad166.add ((x5_1).toNat * 7)).off + 2,none⟩ = some (.int .i64 ((rd_T55 l1 x5_1).f2)) ∧ w'.cell? ⟨(ad166.add ((x5_1).toNat * 7)).block,(ad166.add ((x5_1).toNat * 7)).off + 3,none⟩ = some (.int .i64 ((rd_T55 l1 x5_1).f3)) ∧ w'.cell? ⟨(ad166.add ((x5_1).toNat * 7)).block,(ad166.add ((x5_1).toNat * 7)).off + 4,none⟩ = some (.string ((rd_T55 l1 x5_1).f4)) ∧ w'.cell? ⟨(ad166.add ((x5_1).toNat * 7)).block,(ad166.add ((x5_1).toNat * 7)).off + 5,none⟩ = some (.string ((rd_T55 l1 x5_1).f5)) ∧ w'.cell? ⟨(ad166.add ((x5_1).toNat * 7)).block,(ad166.add ((x5_1).toNat * 7)).off + 6,none⟩ = some (.string ((rd_T55 l1 x5_1).f6))) (ds := []) #[false,false,false,false,false,false,false,false,false,false] (by kernel_rfl) rfl rfl ⟨(zx_ HB hw165_0),(zx_ HB hw165_1),(zx_ HB hw165_2),(zx_ HB hw165_3),(zx_ HB hw165_4),(zx_ HB hw165_5),(zx_ HB hw165_6),(zx_ HB hw166_0),(zx_ HB hw166_1),(zx_ HB hw166_2),(zx_ HB hw166_3),(zx_ HB hw166_4),(zx_ HB hw166_5),(zx_ HB hw166_6)⟩ (fun hHeld => ?_);refine with_tabW laws_eqMessageS.tab6 laws_eqMessageS.bits6 (fun HT_ HW_ => ?_)
        generalize wr.drew = w11 at HB hx165_0 hx165_1 hx165_2 hx165_3 hx165_4 hx165_5 hx165_6 hx166_0 hx166_1 hx166_2 hx166_3 hx166_4 hx166_5 hx166_6 hHeld ⊢
        refine zpu 0 (N := some 17) HT_ ?_
        refine zpu 1 (N := some 18) HT_ ?_
        refine zpu 2 (N := some 19) HT_ ?_
        refine zpu 4 (N := some 21) HT_ ?_
        refine zpu 5 (N := some 22) HT_ ?_
        refine zpu 6 (N := some 23) HT_ ?_
        refine ztk 3 (N := some 20) HT_ HW_ hHeld ?_
        refine ztk 7 (N := some 24) HT_ HW_ hHeld ?_
        refine zon 8 (N := some 25) HT_ (fun K hK => ?_)
        refine zgo Try.func30 #[.agg #[.int .i64 ((rd_T55 l0 x5_1).f0),.int .i64 ((rd_T55 l0 x5_1).f1),.int .i64 ((rd_T55 l0 x5_1).f2),.int .i64 ((rd_T55 l0 x5_1).f3),.string ((rd_T55 l0 x5_1).f4),.string ((rd_T55 l0 x5_1).f5),.string ((rd_T55 l0 x5_1).f6)],.agg #[.int .i64 ((rd_T55 l1 x5_1).f0),.int .i64 ((rd_T55 l1 x5_1).f1),.int .i64 ((rd_T55 l1 x5_1).f2),.int .i64 ((rd_T55 l1 x5_1).f3),.string ((rd_T55 l1 x5_1).f4),.string ((rd_T55 l1 x5_1).f5),.string ((rd_T55 l1 x5_1).f6)]] ?_
        with_reducible refine (laws_eqMessage.calls ((rd_T55 l0 x5_1).f0) ((rd_T55 l0 x5_1).f1) ((rd_T55 l0 x5_1).f2) ((rd_T55 l0 x5_1).f3) ((rd_T55 l0 x5_1).f4) ((rd_T55 l0 x5_1).f5) ((rd_T55 l0 x5_1).f6) ((rd_T55 l1 x5_1).f0) ((rd_T55 l1 x5_1).f1) ((rd_T55 l1 x5_1).f2) ((rd_T55 l1 x5_1).f3) ((rd_T55 l1 x5_1).f4) ((rd_T55 l1 x5_1).f5) ((rd_T55 l1 x5_1).f6) false _ A7.out).mono ?_
        rintro e w12 ⟨rfl,hb⟩
        refine ⟨_,rfl,?_⟩
        replace HB := zs_ HB hb
        (try clear hb)
        (try clear hb2)
        (try clear hk)
        (try clear hi)
        refine hK.out _ _ ⟨(zx_ HB hw165_0),(zx_ HB hw165_1),(zx_ HB hw165_2),(zx_ HB hw165_3),(zx_ HB hw165_4),(zx_ HB hw165_5),(zx_ HB hw165_6),(zx_ HB hw166_0),(zx_ HB hw166_1),(zx_ HB hw166_2),(zx_ HB hw166_3),(zx_ HB hw166_4),(zx_ HB hw166_5),(zx_ HB hw166_6)⟩ (fun hHeld => ?_)
        clear hK K
        refine norm_ (a' := ?_) ?_ ?_
        rotate_left
        ·show Act.put _ (some 25) _ = _
         simp only [Act.put,p1_,p2_,p3_,i64_w,i32_w]
         rfl
        refine zpu 9 (N := some 26) HT_ ?_
        refine done_ (done_of HT_.out (by kernel_rfl)) ?_
        try go_wp2
        go_ret
        exact ⟨zt_,zl_ HB⟩
      ·rw [if_neg c6] at H
       exact absurd H (by simp)
     ·rw [if_neg c5] at H
      exact absurd H (by simp)
    ·rw [if_neg c4] at H
     have c4b0 : decide (x5_1 < (l0.length : Int)) = false := decide_eq_false c4
     clear c4
     obtain rfl := Option.some.inj H
     go_wp2
     go_ret
     exact ⟨zt_,zl_ HB⟩
 ·rw [if_neg c3] at H
  have c3b0 : ((l0.length : Int) == (l1.length : Int)) = false := beq_eq_false_iff_ne.mpr c3
  have c3b1 : ((l0.length : Int) != (l1.length : Int)) = true := bne_iff_ne.mpr c3
  have c3b2 : (l0.length == l1.length) = false := by first | simpa using c3 | (simp at c3 ⊢;omega)
  obtain rfl := Option.some.inj H
  go_enter Try.func17,Try.ntmps17
  go_wp2
  go_ret
  exact ⟨zt_,zl_ HB⟩
end Go.Proofs.Ytlifdodphkimpaa.A
end
