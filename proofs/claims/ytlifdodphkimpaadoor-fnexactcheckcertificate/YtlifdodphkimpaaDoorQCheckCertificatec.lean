/- A part of the proof that FnExactCheckCertificate returns true at every input: plain functions, contracts and lemmas. No conditions. -/
import Derived.Test.YtlifdodphkimpaaDoorQCheckCertificateb
set_option linter.unusedVariables false
set_option linter.unusedSimpArgs false
set_option linter.unusedSectionVars false
section
namespace Go.Proofs.YtlifdodphkimpaaDoorW.PrintWords
open Go.RowKit
/-- What a walk keeps of a row of bytes of its own: block g, behind block n. -/
structure Hs (w W : World) (n g cap : Nat) (l : List Int) : Prop where
  row : Bm W g cap l
  mine : n ≤ g
  lt : g < W.heap.size
  below : Below n w W
theorem Hs.alloc {w W : World} {n g cap : Nat} {l : List Int} (h : Hs w W n g cap l) (o : Obj) : Hs w (W.alloc o) n g cap l := by
  have hs : (W.alloc o).heap.size = W.heap.size + 1 := by simp [World.alloc, -World.alloc_eq]
  have e : ∀ k, k < W.heap.size → (W.alloc o).heap[k]? = W.heap[k]? := fun k hk => by
    have : W.heap.size ≠ k := by omega
    simp [World.alloc, -World.alloc_eq, Array.getElem?_push, Ne.symm this]
  refine ⟨h.row.at (e _ h.lt), h.mine, by rw [hs]; have := h.lt; omega, ⟨h.below.os, h.below.tape, h.below.output, by rw [hs]; have := h.below.size; omega, fun k hk => ?_⟩⟩
  rw [e k (by have := h.mine; have := h.lt; omega)]
  exact h.below.block k hk
theorem Hs.on {w W W' : World} {n g cap : Nat} {l : List Int} (h : Hs w W n g cap l) (b : Below W.heap.size W W') : Hs w W' n g cap l := by
  have := h.lt
  have := h.mine
  exact ⟨h.row.at (b.block g h.lt), h.mine, by have := b.size; omega, ⟨b.os.trans h.below.os, b.tape.trans h.below.tape, b.output.trans h.below.output, Nat.le_trans h.below.size b.size, fun k hk => (b.block k (by omega)).trans (h.below.block k hk)⟩⟩
section
variable {P : Program} {ops : Array Oper} {rest : List Oper} {o : Oper} {a : Act} {Q : Exit → Act → World → Prop}
theorem conv_hs {w : World} (e : Nat) (hgd : o.guard = none) (src dst : TypeId) (x : Operand) (ho : o.op = .convert src dst x) (s : ByteArray) (hx : a.eval x = .string s)
    (hs : P.underlying src = some .string) (ht : P.underlying dst = some (.slice e)) (he : P.underlying e = some (.int .u8))
    (h : ∀ g cap w1, Hs w w1 w.heap.size g cap (bytesOf s) → wpList P ops Q rest (a.put o.dst (.slice (some ⟨g, 0, none⟩) s.size cap)) w1) : wpList P ops Q (o :: rest) a w := by
  have hrun : (execOp a.eval o).run P w = .ok (.value (.slice (some ⟨w.heap.size, 0, none⟩) s.size (grownCap w s.size 0 e))) (Lib.bytesWorld w e s) := by
    simp [execOp, ho, hx, Lib.run_convert_string_bytes w src dst e s hs ht he]
  exact Kd.event_run hgd hrun (h _ _ _ ⟨Bm.conv w e s, Nat.le_refl _, by rw [Lib.bytesWorld_size]; omega, ⟨rfl, rfl, rfl, by rw [Lib.bytesWorld_size]; omega, fun i hi => Lib.bytesWorld_at_old w e s i (by omega)⟩⟩)
theorem Hs.after {w W w1 : World} {n g g' cap cap' : Nat} {l l' : List Int} (h : Hs w W n g cap l) (hb : Bm w1 g' cap' l') (hc : 0 < cap') (hg : W.grownBy w1 (some g)) (hat : g' = g ∨ W.heap.size ≤ g') : Hs w w1 n g' cap' l' := by
  have h1 := h.lt
  have h2 := h.mine
  refine ⟨hb, by rcases hat with rfl | h3 <;> omega, ?_, ⟨hg.os.trans h.below.os, hg.tape.trans h.below.tape, hg.output.trans h.below.output, Nat.le_trans h.below.size hg.size, fun k hk => ?_⟩⟩
  · obtain ⟨v, hv⟩ := Option.isSome_iff_exists.1 (hb.there 0 hc)
    exact World.block_lt_of_cell? w1 _ hv
  · rw [hg.block k (by omega) (by intro e; injection e with e; omega)]
    exact h.below.block k hk
theorem append1_hs {w W : World} {n g cap : Nat} {l : List Int} (t e : TypeId) (hgd : o.guard = none) (s x : Operand) (ho : o.op = .call { callee := .builtin .append, args := #[s, x], argTypes := #[t, t] })
    (ht : P.underlying t = some (.slice e)) (hinfo : (P.info? e).map (fun i => (i.zero, i.size, i.bytes)) = some (some (.int .u8 0), 1, 1)) (z : Int)
    (hs : a.eval s = .slice (some ⟨g, 0, none⟩) l.length cap) (hx : a.eval x = .slice (some ⟨W.heap.size, 0, none⟩) 1 1) (HB : Hs w W n g cap l) (hl : l.length + 1 ≤ 140737488355328)
    (h : ∀ g' cap' w1, Hs w w1 n g' cap' (l ++ [z]) → wpList P ops Q rest (a.put o.dst (.slice (some ⟨g', 0, none⟩) (l ++ [z]).length cap')) w1) :
    wpList P ops Q (o :: rest) a (W.alloc (.cells #[.int .u8 z] e)) := by
  have H2 := HB.alloc (.cells #[.int .u8 z] e)
  obtain ⟨g', cap', w1, hr, hb, hg, hat⟩ := run_append_bm (P := P) (W := W.alloc (.cells #[.int .u8 z] e)) t t o.type e ht (Or.inr ht) hinfo (.slice (some ⟨W.heap.size, 0, none⟩) 1 1) [z] (fun W' => by simp [Builtin.lenOf]) (fun W' hW => by
    have hc : W'.cell? ⟨W.heap.size, 0, none⟩ = some (.int .u8 z) := by
      unfold World.cell?
      rw [hW]
      simp [World.alloc, -World.alloc_eq]
    exact run_firstCells_some (P := P) W' 1 1 ⟨W.heap.size, 0, none⟩ 1 1 (nums .u8 [z]) (by simp [nums]) (fun j v hj => by
      cases j with
      | zero => rw [add0]; rw [hc]; simpa [nums] using hj
      | succ j => simp [nums] at hj)) H2.row (by simpa using hl)
  refine wpList_plain hgd fun K hK => ?_
  unfold Oper.wp execOp
  simp only [ho, resolve, invoke, builtin, Sem.run_bind, Sem.run_pure, Result.andThen_ok, List.map_toArray, List.map_cons, List.map_nil, hs, hx, hr]
  refine hK _ _ ?_
  have := h g' cap' w1 (H2.after hb (by have := hb.room; rw [List.length_append, List.length_singleton] at this; omega) hg hat)
  rwa [List.length_append] at this
theorem appendS_hs {w W : World} {n g cap : Nat} {l : List Int} (t u e : TypeId) (hgd : o.guard = none) (s x : Operand) (ho : o.op = .call { callee := .builtin .append, args := #[s, x], argTypes := #[t, u] })
    (ht : P.underlying t = some (.slice e)) (hu : P.underlying u = some .string) (hinfo : (P.info? e).map (fun i => (i.zero, i.size, i.bytes)) = some (some (.int .u8 0), 1, 1)) (y : ByteArray)
    (hs : a.eval s = .slice (some ⟨g, 0, none⟩) l.length cap) (hx : a.eval x = .string y) (hy : 0 < y.size) (HB : Hs w W n g cap l) (hl : l.length + y.size ≤ 140737488355328)
    (h : ∀ g' cap' w1, Hs w w1 n g' cap' (l ++ bytesOf y) → wpList P ops Q rest (a.put o.dst (.slice (some ⟨g', 0, none⟩) (l ++ bytesOf y).length cap')) w1) :
    wpList P ops Q (o :: rest) a W := by
  have hyl : (bytesOf y).length = y.size := bytesOf_length y
  obtain ⟨g', cap', w1, hr, hb, hg, hat⟩ := run_append_bm (P := P) (W := W) t u o.type e ht (Or.inl hu) hinfo (.string y) (bytesOf y) (fun W' => by simp [Builtin.lenOf, hyl]) (fun W' hW => by
    rw [hyl, Lib.run_firstCells_string (P := P) W' 1 y]
    congr 1
    simp [nums, bytesOf, Lib.strCells]) HB.row (by omega)
  refine wpList_plain hgd fun K hK => ?_
  unfold Oper.wp execOp
  simp only [ho, resolve, invoke, builtin, Sem.run_bind, Sem.run_pure, Result.andThen_ok, List.map_toArray, List.map_cons, List.map_nil, hs, hx, hr]
  refine hK _ _ ?_
  have := h g' cap' w1 (HB.after hb (by have := hb.room; rw [List.length_append] at this; omega) hg hat)
  rwa [List.length_append] at this
end
end Go.Proofs.YtlifdodphkimpaaDoorW.PrintWords
end

section
namespace Go.Proofs.YtlifdodphkimpaaDoorW.PrintWords
open Go.RowKit
namespace Kd
def B (e : Nat) (W : World) (base : Nat) (ok : Nat → Prop) (v : Value) (xs : List Int) : Prop :=
  (∀ k, v.ownBlock = some k → ok k) ∧ xs.length ≤ 9223372036854775807 ∧ ((v = .slice none 0 0 ∧ xs = []) ∨ ∃ (g c m : Nat) (cells : Array Value), v = .slice (some ⟨g, 0, none⟩) xs.length c ∧ base ≤ g ∧ W.heap[g]? = some (.cells cells e (m, m + 1)) ∧ cells.size ≤ m ∧
    xs.length ≤ c ∧ xs.length ≤ cells.size ∧ ∀ j, j < xs.length → cells[j]? = some (.int .u8 (xs.getD j 0)))
section
variable {P : Program} {e base base' n cap g : Nat} {ok ok' ok1 S : Nat → Prop} {W w1 W2 : World} {u v : Value} {xs : List Int}
variable {ops : Array Oper} {rest : List Oper} {o : Oper} {a : Act} {Q : Exit → Act → World → Prop}
/-- make([]byte, 0, c): an own row with room. -/
theorem R_room {w0 W : World} (base e : Nat) (hgd : o.guard = none) {N : Tmp} (_hd : o.dst = some N) (t : TypeId) (x y : Operand) (ho : o.op = .makeSlice t x y) (kl kc : IntKind) (c : Nat) (hx : a.eval x = .int kl 0) (hy : a.eval y = .int kc (c : Int))
    (ht : P.underlying t = some (.slice e)) (hinfo : (P.info? e).map (fun i => (i.zero, i.size, i.bytes)) = some (some (.int .u8 0), 1, 1)) (hc : c ≤ 1000000000) (HB : Below base w0 W) (hbase : base ≤ W.heap.size)
    (h : ∀ v1 w1, (Kd.int .u8).R e w1 base (fun _ => True) v1 [] → Below base w0 w1 → W.grownBy w1 none → (∃ b, v1.ownBlock = some b ∧ W.heap.size ≤ b) → wpList P ops Q rest (a.put o.dst v1) w1) : wpList P ops Q (o :: rest) a W := by
  have hr := run_make_room (P := P) t e (.int .u8 0) 1 ht hinfo rfl kl kc c (by omega) (by omega) W
  have hrun : (execOp a.eval o).run P W = .ok (.value (.slice (some ⟨W.heap.size, 0, none⟩) 0 c)) (W.alloc (.cells (madeCells #[.int .u8 0] c) e)) := by
    simp [execOp, ho, hx, hy, hr]
  have hsz : (madeCells #[Value.int .u8 0] c).size = c := by simp [size_madeCells]
  refine event_run hgd hrun (h _ _ (R_of_own (xs := []) ⟨by simp [encs], .inr ⟨W.heap.size, c, madeCells #[.int .u8 0] c, rfl, hbase, blk_new W _, by simp, by simp only [maxLen]; omega, by simpa using hsz, by simp [encs]⟩⟩ (fun _ _ => trivial)) (HB.alloc hbase _) (World.grownBy_alloc W _ none) ⟨W.heap.size, by simp [Value.ownBlock], Nat.le_refl _⟩)
end
end Kd
end Go.Proofs.YtlifdodphkimpaaDoorW.PrintWords
end

section
namespace Go.Proofs.YtlifdodphkimpaaDoorW.PrintWords
open Go.RowKit
section
variable {P : Program} {ops : Array Oper} {rest : List Oper} {o : Oper} {a : Act} {Q : Exit → Act → World → Prop}
theorem lit_at (w : World) (o : Obj) : (w.alloc o).heap[w.heap.size]? = some o := by simp [World.alloc, -World.alloc_eq]
theorem lit_old (w : World) (o : Obj) {k : Nat} (hk : k < w.heap.size) : (w.alloc o).heap[k]? = w.heap[k]? := by
  have : w.heap.size ≠ k := by omega
  simp [World.alloc, -World.alloc_eq, Array.getElem?_push, Ne.symm this]
theorem lit_size (w : World) (o : Obj) : (w.alloc o).heap.size = w.heap.size + 1 := by simp [World.alloc, -World.alloc_eq]
theorem lit_bm (w : World) (e : TypeId) (l : List Int) (p : Nat × Nat) (hp : l.length ≤ p.1) : Bm (w.alloc (.cells (nums .u8 l).toArray e p)) w.heap.size l.length l := by
  have hn : (nums .u8 l).length = l.length := nums_length _ _
  refine ⟨fun j hj => ?_, fun j hj => ?_, fun j hj => ?_, Nat.le_refl _⟩
  · unfold World.cell?
    rw [lit_at]
    simp [nums, List.getD, hj]
  · unfold World.cell?
    rw [lit_at]
    simp [nums, hj]
  · unfold World.frozen?
    rw [lit_at]
    obtain ⟨p1, p2⟩ := p
    simp
    intro h
    omega
theorem conv_lit {w : World} (t e : TypeId) {C : Array Value} {n : Nat} (hgd : o.guard = none) (x : Operand) (ho : o.op = .convert t t x)
    (ht : P.underlying t = some (.slice e)) (he : P.underlying e = some (.int .u8)) (hx : a.eval x = .slice (some ⟨w.heap.size, 0, none⟩) n n)
    (h : wpList P ops Q rest (a.put o.dst (.slice (some ⟨w.heap.size, 0, none⟩) n n)) (w.alloc (.cells C e (C.size, C.size + 1)))) : wpList P ops Q (o :: rest) a (w.alloc (.cells C e)) := by
  have hrun : (execOp a.eval o).run P (w.alloc (.cells C e)) = .ok (.value (.slice (some ⟨w.heap.size, 0, none⟩) n n)) (w.alloc (.cells C e (C.size, C.size + 1))) := by
    have h1 := Lib.run_convert_bytes_const (P := P) w t e C n n ht he
    simp only [execOp, ho, hx, Sem.run_bind, h1, Result.andThen_ok, Sem.run_pure]
  exact Kd.event_run hgd hrun h
theorem convlit_hs {w : World} (t e : TypeId) (l : List Int) {C : Array Value} {n : Nat} (hgd : o.guard = none) (x : Operand) (ho : o.op = .convert t t x)
    (ht : P.underlying t = some (.slice e)) (he : P.underlying e = some (.int .u8)) (hC : C = (nums .u8 l).toArray) (hn : n = l.length) (h0 : 0 < l.length) (hx : a.eval x = .slice (some ⟨w.heap.size, 0, none⟩) n n)
    (h : ∀ g cap w1, Hs w w1 w.heap.size g cap l → wpList P ops Q rest (a.put o.dst (.slice (some ⟨g, 0, none⟩) l.length cap)) w1) : wpList P ops Q (o :: rest) a (w.alloc (.cells C e)) := by
  subst hC hn
  refine conv_lit t e hgd x ho ht he hx (h _ _ _ ⟨lit_bm w e l _ (by simp [nums]), Nat.le_refl _, by rw [lit_size]; omega, ⟨rfl, rfl, rfl, by rw [lit_size]; omega, fun k hk => lit_old w _ hk⟩⟩)
theorem bmC {W : World} {g cap : Nat} {l : List Int} (h : Bm W g cap l) (hl : l.length ≤ 140737488355328) : Kd.C (Kd.int .u8) W (some ⟨g, 0, none⟩) l.length l :=
  Kd.C_of_reads (enc := Value.int .u8) (d := (0 : Int)) (h1 := fun _ => rfl) ⟨rfl, by omega, fun hn => ⟨⟨g, 0, none⟩, rfl, fun j hj => by rw [add0]; exact h.cell j hj⟩⟩
theorem appendT_hs {w W : World} {n g cap : Nat} {l : List Int} (t u e : TypeId) (hgd : o.guard = none) (s x : Operand) (ho : o.op = .call { callee := .builtin .append, args := #[s, x], argTypes := #[t, u] })
    (ht : P.underlying t = some (.slice e)) (hu : P.underlying u = some .string) (hinfo : (P.info? e).map (fun i => (i.zero, i.size, i.bytes)) = some (some (.int .u8 0), 1, 1)) (y : ByteArray)
    (hs : a.eval s = .slice (some ⟨g, 0, none⟩) l.length cap) (hx : a.eval x = .string y) (h0 : 0 < l.length) (HB : Hs w W n g cap l) (hl : l.length + y.size ≤ 140737488355328)
    (h : ∀ g' cap' w1, Hs w w1 n g' cap' (l ++ bytesOf y) → wpList P ops Q rest (a.put o.dst (.slice (some ⟨g', 0, none⟩) (l ++ bytesOf y).length cap')) w1) :
    wpList P ops Q (o :: rest) a W := by
  have hyl : (bytesOf y).length = y.size := bytesOf_length y
  obtain ⟨g', cap', w1, hr, hb, hg, hat⟩ := run_append_bm (P := P) (W := W) t u o.type e ht (Or.inl hu) hinfo (.string y) (bytesOf y) (fun W' => by simp [Builtin.lenOf, hyl]) (fun W' hW => by
    rw [hyl, Lib.run_firstCells_string (P := P) W' 1 y]
    congr 1
    simp [nums, bytesOf, Lib.strCells]) HB.row (by omega)
  refine wpList_plain hgd fun K hK => ?_
  unfold Oper.wp execOp
  simp only [ho, resolve, invoke, builtin, Sem.run_bind, Sem.run_pure, Result.andThen_ok, List.map_toArray, List.map_cons, List.map_nil, hs, hx, hr]
  refine hK _ _ ?_
  have := h g' cap' w1 (HB.after hb (by have := hb.room; rw [List.length_append] at this; omega) hg hat)
  rwa [List.length_append] at this
end
end Go.Proofs.YtlifdodphkimpaaDoorW.PrintWords
end

section
namespace Go.Proofs.YtlifdodphkimpaaDoorW.PrintWords
open Go.RowKit
namespace Kd
def U (e : Nat) (W : World) (base : Nat) (ok : Nat → Prop) (v : Value) (xs : List Int) : Prop :=
  (∀ k, v.ownBlock = some k → ok k) ∧ xs.length ≤ 140737488355328 ∧ ∃ (g c : Nat), v = .slice (some ⟨g, 0, none⟩) xs.length c ∧ base ≤ g ∧ g < W.heap.size ∧ 0 < xs.length ∧ Bm W g c xs
section
variable {P : Program} {e base base' n cap g : Nat} {ok ok' ok1 S : Nat → Prop} {W w1 W2 : World} {u v : Value} {xs : List Int}
theorem U_lower (h : U e W base ok v xs) (hb : base' ≤ base) : U e W base' ok v xs := by
  obtain ⟨h0, hl, g, c, h1, h2, h3⟩ := h
  exact ⟨h0, hl, g, c, h1, Nat.le_trans hb h2, h3⟩
theorem U_lt (h : U e W base ok v xs) : ∀ k, v.ownBlock = some k → k < W.heap.size := by
  obtain ⟨h0, hl, g, c, rfl, h2, h3, _⟩ := h
  intro k hk
  have : g = k := by simpa [Value.ownBlock] using hk
  omega
theorem U_move (h : U e W base ok v xs) (hm : ∀ k, v.ownBlock = some k → w1.heap[k]? = W.heap[k]?) : U e w1 base ok v xs := by
  obtain ⟨h0, hl, g, c, rfl, h2, h3, h4, h5⟩ := h
  have hg := hm g (by simp [Value.ownBlock])
  refine ⟨h0, hl, g, c, rfl, h2, ?_, h4, h5.at hg⟩
  rcases Nat.lt_or_ge g w1.heap.size with h' | h'
  · exact h'
  · rw [Array.getElem?_eq_none h', Array.getElem?_eq_getElem h3] at hg
    cases hg
theorem U_below (h : U e W base ok v xs) (hb : Below W.heap.size W w1) : U e w1 base ok v xs := U_move h (fun k hk => hb.block k (U_lt h k hk))
theorem U_alloc (h : U e W base ok v xs) (o : Obj) : U e (W.alloc o) base ok v xs := U_below h (below_alloc (Below.refl _ _) o)
theorem U_drew (h : U e W base ok v xs) : U e W.drew base ok v xs := U_below h (below_drew (Below.refl _ _))
theorem U_drewN (h : U e W base ok v xs) (m : Nat) : U e (W.drewN m) base ok v xs := U_below h (pw_below_drewN (Below.refl _ _) m)
theorem U_ne' (h : U e W base (fun k => k ≠ g) v xs) : some g ≠ v.ownBlock := fun he => (h.1 g he.symm) rfl
theorem zrU (b : Aside0 (U e W base ok v xs)) (m : U e W base ok v xs → U e w1 base ok v xs := by intro h_; (with_reducible repeat (first | apply Kd.U_alloc | apply Kd.U_drewN | apply Kd.U_drew)); exact h_) : U e w1 base ok v xs := m b.out
theorem zrbU (b : Aside0 (U e W base ok v xs)) (hb : Below w1.heap.size w1 W2) (m : U e W base ok v xs → U e w1 base ok v xs := by intro h_; (with_reducible repeat (first | apply Kd.U_alloc | apply Kd.U_drewN | apply Kd.U_drew)); exact h_) : Aside0 (U e W2 base ok v xs) := ⟨U_below (m b.out) hb⟩
theorem U_slice (h : U e W base ok v xs) : ∃ A c, v = .slice A xs.length c := by
  obtain ⟨h0, hl, g, c, rfl, _⟩ := h
  exact ⟨_, c, rfl⟩
theorem U_reads' {A : Option Addr} {n c : Nat} (h : U e W base ok (.slice A n c) xs) : n = xs.length ∧ n ≤ c ∧ (Kd.int .u8).C W A xs.length xs := by
  obtain ⟨h0, hl, g, c', hv, h2, h3, h4, h5⟩ := h
  injection hv with e1 e2 e3
  subst e1; subst e2; subst e3
  exact ⟨rfl, h5.room, bmC h5 hl⟩
variable {ops : Array Oper} {rest : List Oper} {o : Oper} {a : Act} {Q : Exit → Act → World → Prop} {Kc : Act → World → Prop}
theorem U_lit (d : Kd Int) (hd0 : d = Kd.int .u8) {w0 w : World} (base t e : Nat) (l : List Int) {C : Array Value} {n : Nat} {ok : Nat → Prop} (hgd : o.guard = none) (x : Operand) (ho : o.op = .convert t t x)
    (ht : P.underlying t = some (.slice e)) (he : P.underlying e = some (.int .u8)) (hC : C = (nums .u8 l).toArray) (hn : n = l.length) (h0 : 0 < l.length) (hll : l.length ≤ 140737488355328) (hx : a.eval x = .slice (some ⟨w.heap.size, 0, none⟩) n n)
    (HB : Below base w0 w) (hbase : base ≤ w.heap.size) (hok : ok w.heap.size)
    (h : ∀ v1 w1, U e w1 base ok v1 l → Below base w0 w1 → w.grownBy w1 none → (∃ b, v1.ownBlock = some b ∧ w.heap.size ≤ b) → wpList P ops Q rest (a.put o.dst v1) w1) : wpList P ops Q (o :: rest) a (w.alloc (.cells C e)) := by
  subst hC hn
  have hs : (w.alloc (.cells (nums .u8 l).toArray e ((nums .u8 l).toArray.size, (nums .u8 l).toArray.size + 1))).heap.size = w.heap.size + 1 := by rw [lit_size]
  refine conv_lit t e hgd x ho ht he hx (h _ _ ⟨fun k hk => ?_, hll, w.heap.size, l.length, rfl, hbase, by rw [hs]; omega, h0, lit_bm w e l _ (by simp [nums])⟩ ?_ ?_ ⟨w.heap.size, by simp [Value.ownBlock], Nat.le_refl _⟩)
  · have : w.heap.size = k := by simpa [Value.ownBlock] using hk
    rw [← this]; exact hok
  · exact HB.trans ⟨rfl, rfl, rfl, by rw [hs]; omega, fun i hi => lit_old w _ (by omega)⟩
  · exact ⟨rfl, rfl, rfl, by rw [hs]; omega, fun i hi _ => lit_old w _ hi⟩
theorem run_append_U {w0 W : World} (base : Nat) (t u ty e : TypeId) (ht : P.underlying t = some (.slice e)) (hu : P.underlying u = some .string) (hinfo : (P.info? e).map (fun i => (i.zero, i.size, i.bytes)) = some (some (.int .u8 0), 1, 1))
    (v : Value) (xs : List Int) (y : ByteArray) (ok : Nat → Prop) (HO : U e W base ok v xs) (hfresh : ∀ k, W.heap.size ≤ k → ok k) (HB : Below base w0 W) (hbase : base ≤ W.heap.size) (hl : xs.length + y.size ≤ 140737488355328) :
    ∃ v1 w1, (Builtin.append_ #[t, u] ty #[v, .string y]).run P W = .ok v1 w1 ∧ U e w1 base ok v1 (xs ++ bytesOf y) ∧ Below base w0 w1 ∧ W.grownBy w1 v.ownBlock ∧ (v1.ownBlock = v.ownBlock ∨ ∃ b, v1.ownBlock = some b ∧ W.heap.size ≤ b) := by
  obtain ⟨hok, hxl, g, cap, rfl, hbg, hgl, hc0, HBm⟩ := HO
  have hyl : (bytesOf y).length = y.size := bytesOf_length y
  obtain ⟨g', cap', w1, hr, hb, hg, hat⟩ := run_append_bm (P := P) (W := W) t u ty e ht (Or.inl hu) hinfo (.string y) (bytesOf y) (fun W' => by simp [Builtin.lenOf, hyl]) (fun W' hW => by
    rw [hyl, Lib.run_firstCells_string (P := P) W' 1 y]
    congr 1
    simp [nums, bytesOf, Lib.strCells]) HBm (by omega)
  have hroom := hb.room
  have hl2 : (xs ++ bytesOf y).length = xs.length + (bytesOf y).length := List.length_append
  have hcp : 0 < cap' := by omega
  have hlt : g' < w1.heap.size := by
    obtain ⟨u_, hu_⟩ := Option.isSome_iff_exists.1 (hb.there 0 hcp)
    exact World.block_lt_of_cell? w1 _ hu_
  refine ⟨_, w1, hr, ⟨fun k hk => ?_, by rw [hl2]; omega, g', cap', by rw [hl2], by rcases hat with rfl | h3 <;> omega, hlt, by rw [hl2]; omega, hb⟩, HB.grown hg hbase (fun k hk => by injection hk with hk; omega), hg, ?_⟩
  · have hk' : g' = k := by simpa [Value.ownBlock] using hk
    subst hk'
    rcases hat with rfl | h3
    · exact hok _ (by simp [Value.ownBlock])
    · exact hfresh _ h3
  · rcases hat with rfl | h3
    · exact .inl (by simp [Value.ownBlock])
    · exact .inr ⟨g', by simp [Value.ownBlock], h3⟩
theorem U_append_str (d : Kd Int) (hd0 : d = Kd.int .u8) {w0 W : World} (base : Nat) (hgd : o.guard = none) (s x : Operand) (t u e : TypeId)
    (ho : o.op = .call { callee := .builtin .append, args := #[s, x], argTypes := #[t, u] })
    (ht : P.underlying t = some (.slice e)) (hu : P.underlying u = some .string) (hinfo : (P.info? e).map (fun i => (i.zero, i.size, i.bytes)) = some (some (.int .u8 0), 1, 1))
    (v : Value) (xs : List Int) (y : ByteArray) (ok : Nat → Prop) (hs : a.eval s = v) (hx : a.eval x = .string y)
    (HO : U e W base ok v xs) (hfresh : ∀ k, W.heap.size ≤ k → ok k) (HB : Below base w0 W) (hbase : base ≤ W.heap.size) (hl : xs.length + y.size ≤ 140737488355328)
    (h : ∀ v1 w1, U e w1 base ok v1 (xs ++ bytesOf y) → Below base w0 w1 → W.grownBy w1 v.ownBlock → (v1.ownBlock = v.ownBlock ∨ ∃ b, v1.ownBlock = some b ∧ W.heap.size ≤ b) → wpList P ops Q rest (a.put o.dst v1) w1) :
    wpList P ops Q (o :: rest) a W := by
  obtain ⟨v1, w1, hr, hU, hB1, hg, hat⟩ := run_append_U (P := P) base t u o.type e ht hu hinfo v xs y ok HO hfresh HB hbase hl
  refine wpList_plain hgd fun K hK => ?_
  unfold Oper.wp execOp
  simp only [ho, resolve, invoke, builtin, Sem.run_bind, Sem.run_pure, Result.andThen_ok, List.map_toArray, List.map_cons, List.map_nil, hs, hx, hr]
  exact hK _ _ (h v1 w1 hU hB1 hg hat)
theorem U_append_str_step (d : Kd Int) (hd0 : d = Kd.int .u8) {w0 W : World} (base : Nat) (hw : Region.wanted o (yielded ops a.tmps) = true) (s x : Operand) (t u e : TypeId)
    (ho : o.op = .call { callee := .builtin .append, args := #[s, x], argTypes := #[t, u] })
    (ht : P.underlying t = some (.slice e)) (hu : P.underlying u = some .string) (hinfo : (P.info? e).map (fun i => (i.zero, i.size, i.bytes)) = some (some (.int .u8 0), 1, 1))
    (v : Value) (xs : List Int) (y : ByteArray) (ok : Nat → Prop) (hs : a.eval s = v) (hx : a.eval x = .string y)
    (HO : U e W base ok v xs) (hfresh : ∀ k, W.heap.size ≤ k → ok k) (HB : Below base w0 W) (hbase : base ≤ W.heap.size) (hl : xs.length + y.size ≤ 140737488355328)
    (h : ∀ v1 w1, U e w1 base ok v1 (xs ++ bytesOf y) → Below base w0 w1 → W.grownBy w1 v.ownBlock → (v1.ownBlock = v.ownBlock ∨ ∃ b, v1.ownBlock = some b ∧ W.heap.size ≤ b) → Kc (a.put o.dst v1) w1) :
    if Region.wanted o (yielded ops a.tmps) = true then Oper.wp P o a W Kc Q else Kc (a.put o.dst undef) W := by
  obtain ⟨v1, w1, hr, hU, hB1, hg, hat⟩ := run_append_U (P := P) base t u o.type e ht hu hinfo v xs y ok HO hfresh HB hbase hl
  rw [if_pos hw]
  unfold Oper.wp execOp
  simp only [ho, resolve, invoke, builtin, Sem.run_bind, Sem.run_pure, Result.andThen_ok, List.map_toArray, List.map_cons, List.map_nil, hs, hx, hr]
  exact h v1 w1 hU hB1 hg hat
end
end Kd
end Go.Proofs.YtlifdodphkimpaaDoorW.PrintWords
end

section
namespace Go.Proofs.YtlifdodphkimpaaDoor.A
open Go.RowKit Go.Proofs.YtlifdodphkimpaaDoorW.PrintWords Go.Proofs.YtlifdodphkimpaaDoorW.PrintLast Go.Proofs.YtlifdodphkimpaaDoorW.PrintMore
attribute [local go_sem] max2_int min2_int max_two min_two max_three min_three max_four min_four
def good23 (y : S23) : Prop := y.f0.size ≤ 9223372036854775807 ∧ (Lit.int .i64 y.f1).wf = true ∧ (Lit.int .i64 y.f2).wf = true ∧ (Lit.int .i64 y.f3).wf = true
def good139 (y : S139) : Prop := (Lit.int .i64 y.f0).wf = true ∧ (y.f1.length ≤ 9223372036854775807 ∧ ∀ y_ ∈ y.f1, y_.size ≤ 9223372036854775807) ∧ (y.f2.length ≤ 9223372036854775807 ∧ ∀ y_ ∈ y.f2, y_.size ≤ 9223372036854775807) ∧ (y.f3.length ≤ 9223372036854775807 ∧ ∀ y_ ∈ y.f3, y_.size ≤ 9223372036854775807)
def good27 (y : S27) : Prop := good23 y.f0 ∧ (y.f1.length ≤ 9223372036854775807 ∧ ∀ y_ ∈ y.f1, (Lit.int .i64 y_).wf = true) ∧ (y.f2.length ≤ 9223372036854775807 ∧ ∀ y_ ∈ y.f2, good139 y_)
end Go.Proofs.YtlifdodphkimpaaDoor.A
end

section
namespace Go.Proofs.YtlifdodphkimpaaDoorW.PrintWords
open Go.RowKit
theorem wrap_id {x : Int} (h0 : -9223372036854775808 ≤ x) (h1 : x ≤ 9223372036854775807) : wrap64 x = x := by unfold wrap64; omega
/-- p at d places from i on. -/
def allB (p : Int → Bool) : Nat → Int → Bool
  | 0, _ => true
  | d + 1, i => p i && allB p d (i + 1)
def allI (p : Int → Bool) (i n : Int) : Bool := allB p (n - i).toNat i
theorem allI_step {p : Int → Bool} {i n : Int} (h : i < n) : allI p i n = (p i && allI p (i + 1) n) := by
  unfold allI
  obtain ⟨d, hd⟩ : ∃ d : Nat, (n - i).toNat = d + 1 := ⟨(n - i).toNat - 1, by omega⟩
  rw [hd, show (n - (i + 1)).toNat = d by omega]
  rfl
theorem allI_end {p : Int → Bool} {i n : Int} (h : n ≤ i) : allI p i n = true := by
  unfold allI
  rw [show (n - i).toNat = 0 by omega]
  rfl
theorem allI_iff (p : Int → Bool) (n : Int) : ∀ (d : Nat) (i : Int), (n - i).toNat = d → (allI p i n = true ↔ ∀ j, i ≤ j → j < n → p j = true)
  | 0, i, h => by
    rw [allI_end (by omega)]
    exact ⟨fun _ j h1 h2 => by omega, fun _ => rfl⟩
  | d + 1, i, h => by
    rw [allI_step (by omega), Bool.and_eq_true, allI_iff p n d (i + 1) (by omega)]
    refine ⟨fun ⟨h1, h2⟩ j h3 h4 => ?_, fun h1 => ⟨h1 i (by omega) (by omega), fun j h3 h4 => h1 j (by omega) h4⟩⟩
    by_cases e : j = i
    · rw [e]; exact h1
    · exact h2 j (by omega) h4
/-- A loop that asks p at each place. -/
theorem loop_all {L : Int → Option Bool} (p : Int → Bool) (n : Int) (hn : n ≤ 9223372036854775807) (hL : ∀ i, 0 ≤ i → i < n → L i = if p i = true then L (wrap64 (i + 1)) else some false) (hE : ∀ i, 0 ≤ i → n ≤ i → L i = some true) :
    ∀ (d : Nat) (i : Int), (n - i).toNat = d → 0 ≤ i → L i = some (allI p i n)
  | 0, i, h, h0 => by rw [hE i h0 (by omega), allI_end (by omega)]
  | d + 1, i, h, h0 => by
    rw [hL i h0 (by omega), allI_step (by omega), wrap_id (by omega) (by omega), loop_all p n hn hL hE d (i + 1) (by omega) (by omega)]
    cases p i <;> simp
def letterB (c : Int) : Bool := decide ((97 ≤ c ∧ c ≤ 122) ∨ (65 ≤ c ∧ c ≤ 90) ∨ c = 95)
def digitB (c : Int) : Bool := decide (48 ≤ c ∧ c ≤ 57)
def inB (n low high : Int) : Bool := decide (low ≤ n ∧ n ≤ high)
def nameB (s : ByteArray) : Bool := decide (1 ≤ s.size ∧ s.size ≤ 40) && (letterB (bt s 0) && allI (fun j => letterB (bt s j) || digitB (bt s j)) 1 s.size)
theorem ba_toList (a : ByteArray) : a.toList = a.data.toList := ByteArray.toList_eq a
theorem ba_inj {a b : ByteArray} : a.toList = b.toList ↔ a = b := by
  rw [ba_toList, ba_toList]
  refine ⟨fun h => ?_, fun h => by rw [h]⟩
  cases a; cases b
  simp only [ByteArray.mk.injEq]
  exact Array.toList_inj.1 h
theorem strOf_size (l : List Int) : (strOfNums l).size = l.length := by
  show (strOfNums l).data.size = _
  simp [strOfNums]
theorem strOf_extract (l : List Int) (i j : Nat) : (strOfNums l).extract i j = strOfNums ((l.take j).drop i) := by
  apply ByteArray.ext
  rw [ByteArray.data_extract]
  simp [strOfNums]
  rw [List.drop_take]
theorem copy_loop {α β : Type} (d : α) (g : α → β) (l : List α) (hn : l.length ≤ 9223372036854775806) (L : List β → Int → Option (List β))
    (hL : ∀ acc i, 0 ≤ i → i < (l.length : Int) → acc.length = l.length → L acc i = L (acc.set i.toNat (g (l.getD i.toNat d))) (wrap64 (i + 1))) (hE : ∀ acc i, (l.length : Int) ≤ i → L acc i = some acc) :
    ∀ (n : Nat) (acc : List β) (i : Int), ((l.length : Int) - i).toNat = n → 0 ≤ i → i ≤ l.length → acc.length = l.length → (∀ j : Nat, j < i.toNat → acc[j]? = (l.map g)[j]?) → L acc i = some (l.map g)
  | 0, acc, i, h, h0, h1, ha, hj => by
    rw [hE acc i (by omega)]
    congr 1
    apply List.ext_getElem?
    intro j
    by_cases hjl : j < l.length
    · exact hj j (by omega)
    · rw [List.getElem?_eq_none (by omega), List.getElem?_eq_none (by simp; omega)]
  | n + 1, acc, i, h, h0, h1, ha, hj => by
    have hlt : i < (l.length : Int) := by omega
    rw [hL acc i h0 hlt ha, wrap_id (by omega) (by omega)]
    refine copy_loop d g l hn L hL hE n _ (i + 1) (by omega) (by omega) (by omega) (by simp [ha]) (fun j hj2 => ?_)
    by_cases e : j = i.toNat
    · subst e
      rw [List.getElem?_set_self (by omega), List.getElem?_map, List.getElem?_eq_getElem (by omega : i.toNat < l.length)]
      simp [List.getD, List.getElem?_eq_getElem (by omega : i.toNat < l.length)]
    · rw [List.getElem?_set_ne (by omega)]
      exact hj j (by omega)
end Go.Proofs.YtlifdodphkimpaaDoorW.PrintWords
end

section
namespace Go.Proofs.YtlifdodphkimpaaDoor.A
open Go.RowKit Go.Proofs.YtlifdodphkimpaaDoorW.PrintWords
def turnF (x n : Int) : Int := Go.bits .or .u32 (shr .u32 x n) (shl .u32 x (32 - n))
theorem u64_small (n : Int) (h0 : 0 ≤ n) (h1 : n < 18446744073709551616) : IntKind.u64.wrap n = n := by
  unfold IntKind.wrap
  simp [IntKind.bits, IntKind.signed]
  omega
theorem turn_v (x n : Int) (h0 : 0 ≤ n) (h1 : n ≤ 32) : spec_l01Turn.v x n = some (turnF x n) := by
  rw [spec_l01Turn.v_eq, if_pos h0, u64_small (32 - n) (by omega) (by omega), if_pos (by omega)]
  rfl
theorem block_l3 (v : List Int) (hv : v.length = 8) : ∀ (k i : Nat) (h : List Int), 8 - i = k → i ≤ 8 → h.length = 8 → ∃ r, spec_l01Block.lv3 h v i = some r ∧ r.length = 8
  | 0, i, h, hk, hi, hh => by
    rw [spec_l01Block.lv3_eq, if_neg (by omega)]
    exact ⟨h, rfl, hh⟩
  | k + 1, i, h, hk, hi, hh => by
    obtain ⟨r, e, hr⟩ := block_l3 v hv k (i + 1) (h.set (i : Int).toNat (((rd h i) + (rd v i)) % 4294967296)) (by omega) (by omega) (by rw [List.length_set]; exact hh)
    have w : wrap64 ((i : Int) + 1) = ((i + 1 : Nat) : Int) := by rw [wrap_id (by omega) (by omega)]; omega
    rw [spec_l01Block.lv3_eq, w, e]
    clear w
    rw [if_pos (by omega), if_pos (by omega), if_pos (by omega), if_pos (by omega)]
    exact ⟨r, rfl, hr⟩
theorem block_l2 (h ks ws : List Int) (hh : h.length = 8) (hk : ks.length = 64) (hw : ws.length = 64) : ∀ (k i : Nat) (v : List Int), 64 - i = k → i ≤ 64 → v.length = 8 → ∃ r, spec_l01Block.lv2 h ks ws v i = some r ∧ r.length = 8
  | 0, i, v, hi0, hi, hv => by
    rw [spec_l01Block.lv2_eq, if_neg (by omega)]
    exact block_l3 v hv 8 0 h rfl (by omega) hh
  | k + 1, i, v, hi0, hi, hv => by
    have ih := fun v' => block_l2 h ks ws hh hk hw k (i + 1) v' (by omega) (by omega)
    have w : wrap64 ((i : Int) + 1) = ((i + 1 : Nat) : Int) := by rw [wrap_id (by omega) (by omega)]; omega
    rw [spec_l01Block.lv2_eq, w]
    clear w
    have c1 : (i : Int) < 64 := by omega
    have c2 : (4 : Int) < (v.length : Int) := by omega
    have c3 : (0 : Int) < (v.length : Int) := by omega
    have c4 : (7 : Int) < (v.length : Int) := by omega
    have c5 : (5 : Int) < (v.length : Int) := by omega
    have c6 : (6 : Int) < (v.length : Int) := by omega
    have c7 : (0 : Int) ≤ (i : Int) := by omega
    have c8 : (i : Int) < (ks.length : Int) := by omega
    have c9 : (i : Int) < (ws.length : Int) := by omega
    have d1 : (1 : Int) < (v.length : Int) := by omega
    have d2 : (2 : Int) < (v.length : Int) := by omega
    have d3 : (3 : Int) < (v.length : Int) := by omega
    have t1 : ∀ x, spec_l01Turn.v x 6 = some (turnF x 6) := fun x => turn_v x 6 (by omega) (by omega)
    have t2 : ∀ x, spec_l01Turn.v x 11 = some (turnF x 11) := fun x => turn_v x 11 (by omega) (by omega)
    have t3 : ∀ x, spec_l01Turn.v x 25 = some (turnF x 25) := fun x => turn_v x 25 (by omega) (by omega)
    have t4 : ∀ x, spec_l01Turn.v x 2 = some (turnF x 2) := fun x => turn_v x 2 (by omega) (by omega)
    have t5 : ∀ x, spec_l01Turn.v x 13 = some (turnF x 13) := fun x => turn_v x 13 (by omega) (by omega)
    have t6 : ∀ x, spec_l01Turn.v x 22 = some (turnF x 22) := fun x => turn_v x 22 (by omega) (by omega)
    simp only [if_pos c1, if_pos c2, if_pos c3, if_pos c4, if_pos c5, if_pos c6, if_pos c7, if_pos c8, if_pos c9, if_pos d1, if_pos d2, if_pos d3, t1, t2, t3, t4, t5, t6, Option.bind_some]
    exact ih _ rfl
theorem block_l1 (h ks : List Int) (hh : h.length = 8) (hk : ks.length = 64) : ∀ (k i : Nat) (ws : List Int), 64 - i = k → 16 ≤ i → i ≤ 64 → ws.length = 64 → ∃ r, spec_l01Block.lv1 h ks ws i = some r ∧ r.length = 8
  | 0, i, ws, hi0, h16, hi, hw => by
    rw [spec_l01Block.lv1_eq, if_neg (by omega), Option.bind_some, if_pos (by simp; omega)]
    exact block_l2 h ks ws hh hk hw 64 0 _ rfl (by omega) (by simpa using hh)
  | k + 1, i, ws, hi0, h16, hi, hw => by
    have ih := fun ws' => block_l1 h ks hh hk k (i + 1) ws' (by omega) (by omega) (by omega)
    have c1 : (i : Int) < 64 := by omega
    have c2 : (0 : Int) ≤ (i : Int) - 15 := by omega
    have c3 : (i : Int) - 15 < (ws.length : Int) := by omega
    have c4 : (0 : Int) ≤ (i : Int) - 2 := by omega
    have c5 : (i : Int) - 2 < (ws.length : Int) := by omega
    have c6 : (0 : Int) ≤ (i : Int) - 16 := by omega
    have c7 : (i : Int) - 16 < (ws.length : Int) := by omega
    have c8 : (0 : Int) ≤ (i : Int) - 7 := by omega
    have c9 : (i : Int) - 7 < (ws.length : Int) := by omega
    have d1 : (0 : Int) ≤ (i : Int) := by omega
    have d2 : (i : Int) < (ws.length : Int) := by omega
    have t1 : ∀ x, spec_l01Turn.v x 7 = some (turnF x 7) := fun x => turn_v x 7 (by omega) (by omega)
    have t2 : ∀ x, spec_l01Turn.v x 18 = some (turnF x 18) := fun x => turn_v x 18 (by omega) (by omega)
    have t3 : ∀ x, spec_l01Turn.v x 17 = some (turnF x 17) := fun x => turn_v x 17 (by omega) (by omega)
    have t4 : ∀ x, spec_l01Turn.v x 19 = some (turnF x 19) := fun x => turn_v x 19 (by omega) (by omega)
    have w : wrap64 ((i : Int) + 1) = ((i + 1 : Nat) : Int) := by rw [wrap_id (by omega) (by omega)]; omega
    have w1 : wrap64 ((i : Int) - 15) = (i : Int) - 15 := wrap_id (by omega) (by omega)
    have w2 : wrap64 ((i : Int) - 2) = (i : Int) - 2 := wrap_id (by omega) (by omega)
    have w3 : wrap64 ((i : Int) - 16) = (i : Int) - 16 := wrap_id (by omega) (by omega)
    have w4 : wrap64 ((i : Int) - 7) = (i : Int) - 7 := wrap_id (by omega) (by omega)
    rw [spec_l01Block.lv1_eq]
    simp only [w, w1, w2, w3, w4, if_pos c1, if_pos c2, if_pos c3, if_pos c4, if_pos c5, if_pos c6, if_pos c7, if_pos c8, if_pos c9, if_pos d1, if_pos d2, t1, t2, t3, t4, Option.bind_some]
    clear w w1 w2 w3 w4
    exact ih _ (by rw [List.length_set]; exact hw)
theorem block_l0 (h b ks : List Int) (hh : h.length = 8) (hb : b.length = 64) (hk : ks.length = 64) : ∀ (k i : Nat) (ws : List Int), 16 - i = k → i ≤ 16 → ws.length = 64 → ∃ r, spec_l01Block.lv0 h b ks ws i = some r ∧ r.length = 8
  | 0, i, ws, hi0, hi, hw => by
    rw [spec_l01Block.lv0_eq, if_neg (by omega)]
    exact block_l1 h ks hh hk 48 16 ws rfl (by omega) (by omega) hw
  | k + 1, i, ws, hi0, hi, hw => by
    have ih := fun ws' => block_l0 h b ks hh hb hk k (i + 1) ws' (by omega) (by omega)
    have c1 : (i : Int) < 16 := by omega
    have c2 : (0 : Int) ≤ 4 * (i : Int) := by omega
    have c3 : 4 * (i : Int) < (b.length : Int) := by omega
    have c4 : (0 : Int) ≤ 4 * (i : Int) + 1 := by omega
    have c5 : 4 * (i : Int) + 1 < (b.length : Int) := by omega
    have c6 : (0 : Int) ≤ 4 * (i : Int) + 2 := by omega
    have c7 : 4 * (i : Int) + 2 < (b.length : Int) := by omega
    have c8 : (0 : Int) ≤ 4 * (i : Int) + 3 := by omega
    have c9 : 4 * (i : Int) + 3 < (b.length : Int) := by omega
    have d1 : (0 : Int) ≤ (i : Int) := by omega
    have d2 : (i : Int) < (ws.length : Int) := by omega
    have w : wrap64 ((i : Int) + 1) = ((i + 1 : Nat) : Int) := by rw [wrap_id (by omega) (by omega)]; omega
    have w0 : wrap64 (4 * (i : Int)) = 4 * (i : Int) := wrap_id (by omega) (by omega)
    have w1 : wrap64 (4 * (i : Int) + 1) = 4 * (i : Int) + 1 := wrap_id (by omega) (by omega)
    have w2 : wrap64 (4 * (i : Int) + 2) = 4 * (i : Int) + 2 := wrap_id (by omega) (by omega)
    have w3 : wrap64 (4 * (i : Int) + 3) = 4 * (i : Int) + 3 := wrap_id (by omega) (by omega)
    rw [spec_l01Block.lv0_eq]
    simp only [w, w0, w1, w2, w3, if_pos c1, if_pos c2, if_pos c3, if_pos c4, if_pos c5, if_pos c6, if_pos c7, if_pos c8, if_pos c9, if_pos d1, if_pos d2]
    clear w w0 w1 w2 w3
    exact ih _ (by rw [List.length_set]; exact hw)
theorem block_v (h b ks : List Int) (hh : h.length = 8) (hb : b.length = 64) (hk : ks.length = 64) : ∃ r, spec_l01Block.v h b ks = some r ∧ r.length = 8 := by
  rw [spec_l01Block.v_eq, if_pos ⟨hh, hb, hk⟩, if_pos (by omega)]
  exact block_l0 h b ks hh hb hk 16 0 _ rfl (by omega) (by simp)
theorem hash_l3 (h : List Int) (hh : h.length = 8) : ∀ (k i : Nat) (out : List Int), 8 - i = k → i ≤ 8 → out.length = 4 * i → ∃ t, spec_l01Hash.lv3 h out i = some t ∧ t.size = 32
  | 0, i, out, hi0, hi, ho => by
    rw [spec_l01Hash.lv3_eq, if_neg (by omega)]
    exact ⟨_, rfl, by rw [strOf_size]; omega⟩
  | k + 1, i, out, hi0, hi, ho => by
    have ih := fun out' => hash_l3 h hh k (i + 1) out' (by omega) (by omega)
    have w : wrap64 ((i : Int) + 1) = ((i + 1 : Nat) : Int) := by rw [wrap_id (by omega) (by omega)]; omega
    rw [spec_l01Hash.lv3_eq, w]
    clear w
    rw [if_pos (by omega), if_pos (by omega), if_pos (by omega), Option.bind_some, if_pos (by simp; omega)]
    exact ih _ (by simp; omega)
theorem hash_l2 (all ks : List Int) (hk : ks.length = 64) (n : Nat) (ha : all.length = 64 * n) (hn : n ≤ 1000000) : ∀ (k i : Nat) (h : List Int), n - i = k → i ≤ n → h.length = 8 → ∃ t, spec_l01Hash.lv2 h all ks ((64 * i : Nat) : Int) = some t ∧ t.size = 32
  | 0, i, h, hi0, hi, hh => by
    rw [spec_l01Hash.lv2_eq, if_neg (by omega)]
    exact hash_l3 h hh 8 0 [] rfl (by omega) rfl
  | k + 1, i, h, hi0, hi, hh => by
    have ih := fun h' => hash_l2 all ks hk n ha hn k (i + 1) h' (by omega) (by omega)
    obtain ⟨r, e, hr⟩ := block_v h ((all.take (64 * (i + 1))).drop (64 * i)) ks hh (by rw [List.length_drop, List.length_take]; omega) hk
    have w : wrap64 (((64 * i : Nat) : Int) + 64) = ((64 * (i + 1) : Nat) : Int) := by rw [wrap_id (by omega) (by omega)]; omega
    rw [spec_l01Hash.lv2_eq, w]
    clear w
    simp only [Int.toNat_natCast]
    rw [if_pos (by omega), if_pos (by omega), if_pos (by omega), if_pos (by omega), e, Option.bind_some]
    exact ih _ hr
theorem hash_l1 (x h : List Int) (hh : h.length = 8) : ∀ (k : Nat) (all : List Int), k ≤ 8 → all.length + k ≤ 60000000 → (all.length + k) % 64 = 0 → ∃ t, spec_l01Hash.lv1 x h all ((k : Int) - 1) = some t ∧ t.size = 32
  | 0, all, hk, ha, hm => by
    rw [spec_l01Hash.lv1_eq, if_neg (by omega), spec_l01Consts.v_eq, Option.bind_some]
    exact hash_l2 all _ rfl (all.length / 64) (by omega) (by omega) (all.length / 64) 0 h rfl (by omega) hh
  | k + 1, all, hk, ha, hm => by
    have ih := fun a => hash_l1 x h hh k (all ++ [a]) (by omega) (by simp; omega) (by simp; omega)
    have e : (((k + 1 : Nat) : Int) - 1) = (k : Int) := by omega
    have c1 : (k : Int) ≥ 0 := by omega
    have c2 : all.length < 140737488355328 := by omega
    have w : wrap64 ((k : Int) - 1) = (k : Int) - 1 := wrap_id (by omega) (by omega)
    have w1 : IntKind.u64.wrap (wrap64 (8 * (k : Int))) = 8 * (k : Int) := by
      rw [show wrap64 (8 * (k : Int)) = 8 * (k : Int) from wrap_id (by omega) (by omega), u64_small _ (by omega) (by omega)]
    have c3 : (0 : Int) ≤ 8 * (k : Int) := by clear w w1; omega
    rw [e, spec_l01Hash.lv1_eq, w, w1]
    clear w w1
    rw [if_pos c1, if_pos c3, if_pos c2]
    exact ih _
theorem hash_l0 (x h : List Int) (hh : h.length = 8) : ∀ (k : Nat) (all : List Int), (all.length + k) % 64 = 56 → k ≤ 64 → all.length + k ≤ 50000000 → ∃ t, spec_l01Hash.lv0 x h all = some t ∧ t.size = 32
  | 0, all, hm, hk, ha => by
    rw [spec_l01Hash.lv0_eq, if_pos (by omega)]
    exact hash_l1 x h hh 8 all (by omega) (by omega) (by omega)
  | k + 1, all, hm, hk, ha => by
    rw [spec_l01Hash.lv0_eq]
    by_cases c : ((all.length : Int) % 64) = 56
    · rw [if_pos c]
      exact hash_l1 x h hh 8 all (by omega) (by omega) (by omega)
    · rw [if_neg c, if_pos (by omega)]
      exact hash_l0 x h hh k (all ++ [0]) (by simp; omega) (by omega) (by simp; omega)
theorem hash_v (x : List Int) (hx : x.length ≤ 40000000) : ∃ t, spec_l01Hash.v x = some t ∧ t.size = 32 := by
  rw [spec_l01Hash.v_eq, Option.bind_some, if_pos (by simp; omega), Option.bind_some, if_pos (by simp; omega)]
  refine hash_l0 x _ rfl ((56 + 64 - (x.length + 1) % 64) % 64) _ ?_ (by omega) ?_
  · simp; omega
  · simp; omega
theorem bytesOf_rd (s : ByteArray) (i : Int) (h0 : 0 ≤ i) (h1 : i < s.size) : rd (bytesOf s) i = bt s i := by
  unfold rd bt
  rw [dif_pos (by omega)]
  unfold bytesOf
  rw [List.getD, List.getElem?_map, List.getElem?_eq_getElem (by rw [Array.length_toList]; show _ < s.size; omega)]
  simp
  rfl
theorem bytes_append (a b : ByteArray) : bytesOf (a ++ b) = bytesOf a ++ bytesOf b := by
  unfold bytesOf
  rw [ByteArray.data_append, Array.toList_append, List.map_append]
theorem str_append (a b : List Int) : strOfNums (a ++ b) = strOfNums a ++ strOfNums b := by
  apply ByteArray.ext
  apply Array.toList_inj.1
  rw [ByteArray.data_append, Array.toList_append, strOfNums_data, strOfNums_data, strOfNums_data, List.map_append]
/-- n in k bytes, the high one first. -/
def beL (n : Int) : Nat → List Int
  | 0 => []
  | k + 1 => beL (n / 256) k ++ [n % 256]
theorem beL_len (n : Int) (k : Nat) : (beL n k).length = k := by
  induction k generalizing n with
  | zero => rfl
  | succ k ih => simp [beL, ih]
theorem impl_number1 (n : Int) : impl_number.v n 1 = some (strOfNums (beL n 1)) := by
  have w0 : wrap64 (1 - 1) = 0 := by rw [wrap_id (by omega) (by omega)]; rfl
  have w1 : wrap64 (0 - 1) = -1 := by rw [wrap_id (by omega) (by omega)]; rfl
  rw [impl_number.v_eq, if_pos (by omega), if_pos (by simp), w0, impl_number.lv0_eq, if_pos (by omega), if_pos (by omega), if_pos (by simp), w1, impl_number.lv0_eq, if_neg (by omega)]
  rfl
theorem rdOf_at (l : List ByteArray) (i : Nat) (h : i < l.length) : rdOf ByteArray.empty l i = l[i] := by
  unfold rdOf
  rw [Int.toNat_natCast, List.getD_eq_getElem?_getD, List.getElem?_eq_getElem h]
  rfl
theorem be1 (n : Int) : beL n 1 = [n % 256] := rfl
theorem long1 (s : ByteArray) : impl_areLong.v [s] = some (decide ((s.size : Int) > 65536)) := by
  rw [impl_areLong.v_eq, contains_impl_areLong_1.v_eq]
  simp only [List.any_cons, List.any_nil, Bool.or_false, impl_areLong_1.v_eq, Option.getD_some, Option.bind_some]
theorem hash_one (t : ByteArray) (h : t.size ≤ 40000000) : ∃ r, spec_l01Hash.v (bytesOf t) = some r ∧ impl_hash.v t = some r ∧ r.size = 32 := by
  obtain ⟨r, h1, h2⟩ := hash_v (bytesOf t) (by rw [bytesOf_length]; exact h)
  exact ⟨r, h1, by rw [impl_hash.v_eq, if_pos h, h1], h2⟩
theorem root_seed (n : Int) : ∃ t, spec_l12Seed.v n = some t ∧ impl_nodeSeed.v n = some t ∧ t.size = 32 := by
  have h1 : (strOfNums [n % 256]).size = 1 := by rw [strOf_size]; rfl
  have h9 : (⟨#[110, 111, 100, 101, 32, 115, 101, 101, 100]⟩ : ByteArray).size = 9 := rfl
  obtain ⟨s, hs⟩ : ∃ s, s = (⟨#[110, 111, 100, 101, 32, 115, 101, 101, 100]⟩ : ByteArray) ++ strOfNums [n % 256] := ⟨_, rfl⟩
  have hz : s.size = 10 := by rw [hs, ByteArray.size_append, h1, h9]
  obtain ⟨t, ht, hi, h32⟩ := hash_one s (by omega)
  refine ⟨t, ?_, ?_, h32⟩
  · rw [spec_l12Seed.v_eq, Option.bind_some, ← hs, h1, hz, if_pos (by decide), if_pos (by decide), ht, Option.bind_some]
  · rw [impl_nodeSeed.v_eq, impl_number1, Option.bind_some, be1, ← hs, h1, if_pos (by decide), hi, Option.bind_some]
theorem ba_assoc (a b c : ByteArray) : (a ++ b) ++ c = a ++ (b ++ c) := by
  apply ByteArray.ext
  simp only [ByteArray.data_append, Array.append_assoc]
theorem secret_one (s : ByteArray) (hs : s.size ≤ 1000) (a b c : Int) : ∃ t, spec_l03Secret.v s a b c = some t ∧ impl_secret.v s a b c = some t ∧ t.size = 32 := by
  have z1 : ∀ n : Int, (strOfNums (beL n 1)).size = 1 := fun n => by rw [strOf_size, beL_len]
  have z6 : (⟨#[115, 101, 99, 114, 101, 116]⟩ : ByteArray).size = 6 := rfl
  obtain ⟨p, hp⟩ : ∃ p, p = (⟨#[115, 101, 99, 114, 101, 116]⟩ : ByteArray) ++ s := ⟨_, rfl⟩
  have zp : p.size = 6 + s.size := by rw [hp, ByteArray.size_append, z6]
  obtain ⟨X, hX⟩ : ∃ X, X = ((p ++ strOfNums (beL a 1)) ++ strOfNums (beL b 1)) ++ strOfNums (beL c 1) := ⟨_, rfl⟩
  have x1 : (p ++ strOfNums (beL a 1)).size = 7 + s.size := by rw [ByteArray.size_append, z1, zp]; omega
  have x2 : ((p ++ strOfNums (beL a 1)) ++ strOfNums (beL b 1)).size = 8 + s.size := by rw [ByteArray.size_append, z1, x1]; omega
  have x3 : X.size = 9 + s.size := by rw [hX, ByteArray.size_append, z1, x2]; omega
  have hX2 : p ++ strOfNums [a % 256, b % 256, c % 256] = X := by
    rw [hX, be1, be1, be1, show ([a % 256, b % 256, c % 256] : List Int) = [a % 256] ++ ([b % 256] ++ [c % 256]) from rfl, str_append, str_append, ba_assoc, ba_assoc]
  have z3 : (strOfNums [a % 256, b % 256, c % 256]).size = 3 := by rw [strOf_size]; rfl
  obtain ⟨t, h1, h2, h3⟩ := hash_one X (by omega)
  refine ⟨t, ?_, ?_, h3⟩
  · rw [spec_l03Secret.v_eq, ← hp, if_pos (by omega), Option.bind_some, zp, z3, if_pos (by omega), hX2, x3, if_pos (by omega), h1, Option.bind_some]
  · rw [impl_secret.v_eq, ← hp, if_pos (by omega), impl_number1, Option.bind_some, zp, z1, if_pos (by omega), impl_number1, Option.bind_some, x1, z1, if_pos (by omega), impl_number1, Option.bind_some, x2, z1, if_pos (by omega), ← hX, h2, Option.bind_some]
theorem key_l (s : ByteArray) (hs : s.size ≤ 1000) (a : Int) : ∀ (d : Nat) (i : Int) (x : ByteArray), (32 - i).toNat = d → 0 ≤ i → i ≤ 32 → (x.size : Int) = 3 + 64 * i → ∃ t, spec_l03Key.lv0 s a (bytesOf x) i = some t ∧ impl_oneTimeKey.lv0 s a x i = some t ∧ t.size = 32
  | 0, i, x, h, h0, h1, hx => by
    obtain ⟨t, e1, e2, e3⟩ := hash_one x (by omega)
    exact ⟨t, by rw [spec_l03Key.lv0_eq, if_neg (by omega), e1, Option.bind_some], by rw [impl_oneTimeKey.lv0_eq, if_neg (by omega), e2, Option.bind_some], e3⟩
  | d + 1, i, x, h, h0, h1, hx => by
    obtain ⟨s0, a1, a2, a3⟩ := secret_one s hs a i 0
    obtain ⟨k0, b1, b2, b3⟩ := hash_one s0 (by omega)
    obtain ⟨s1, c1, c2, c3⟩ := secret_one s hs a i 1
    obtain ⟨k1, d1, d2, d3⟩ := hash_one s1 (by omega)
    have hz : (k0 ++ k1).size = 64 := by rw [ByteArray.size_append, b3, d3]
    obtain ⟨t, e1, e2, e3⟩ := key_l s hs a d (i + 1) (x ++ (k0 ++ k1)) (by omega) (by omega) (by omega) (by rw [ByteArray.size_append, hz]; omega)
    have hb : (bytesOf x ++ bytesOf k0) ++ bytesOf k1 = bytesOf (x ++ (k0 ++ k1)) := by rw [bytes_append, bytes_append, List.append_assoc]
    refine ⟨t, ?_, ?_, e3⟩
    · rw [spec_l03Key.lv0_eq, if_pos (by omega), spec_l03Key.lv1_eq, if_pos (by decide), a1, Option.bind_some, if_pos (by omega), b1, Option.bind_some, if_pos (by rw [bytesOf_length]; omega), wrap_id (x := 0 + 1) (by omega) (by omega),
        spec_l03Key.lv1_eq, if_pos (by decide), show (0 + 1 : Int) = 1 from rfl, c1, Option.bind_some, if_pos (by omega), d1, Option.bind_some, if_pos (by rw [List.length_append, bytesOf_length, bytesOf_length]; omega), wrap_id (x := 1 + 1) (by omega) (by omega),
        spec_l03Key.lv1_eq, if_neg (by decide), wrap_id (x := i + 1) (by omega) (by omega), hb, e1]
    · rw [impl_oneTimeKey.lv0_eq, if_pos (by omega), a2, Option.bind_some, b2, Option.bind_some, c2, Option.bind_some, d2, Option.bind_some, b3, d3, if_pos (by decide), hz, if_pos (by omega), wrap_id (x := i + 1) (by omega) (by omega), e2]
theorem onekey_one (s : ByteArray) (hs : s.size ≤ 1000) (a : Int) : ∃ t, spec_l03Key.v s a = some t ∧ impl_oneTimeKey.v s a = some t ∧ t.size = 32 := by
  obtain ⟨t, h1, h2, h3⟩ := key_l s hs a _ 0 ⟨#[107, 101, 121]⟩ rfl (by omega) (by omega) (by decide)
  refine ⟨t, ?_, ?_, h3⟩
  · rw [spec_l03Key.v_eq, ← h1, show bytesOf (⟨#[107, 101, 121]⟩ : ByteArray) = [107, 101, 121] by decide]
  · rw [impl_oneTimeKey.v_eq, h2]
theorem keys_l (s : ByteArray) (hs : s.size ≤ 1000) : ∀ (d : Nat) (i : Int) (l : List ByteArray), (8 - i).toNat = d → 0 ≤ i → i ≤ 8 → (l.length : Int) = i → (∀ y ∈ l, y.size = 32) → ∃ r, spec_l03Keys.lv0 s l i = some r ∧ impl_keys.lv0 s l i = some r ∧ r.length = 8 ∧ ∀ y ∈ r, y.size = 32
  | 0, i, l, h, h0, h1, hl, hy => ⟨l, by rw [spec_l03Keys.lv0_eq, if_neg (by omega)], by rw [impl_keys.lv0_eq, if_neg (by omega)], by omega, hy⟩
  | d + 1, i, l, h, h0, h1, hl, hy => by
    obtain ⟨t, e1, e2, e3⟩ := onekey_one s hs i
    obtain ⟨r, f1, f2, f3, f4⟩ := keys_l s hs d (i + 1) (l ++ [t]) (by omega) (by omega) (by omega) (by simp; omega) (fun y hm => by
      rcases List.mem_append.1 hm with h | h
      · exact hy y h
      · rw [List.mem_singleton.1 h]; exact e3)
    refine ⟨r, ?_, ?_, f3, f4⟩
    · rw [spec_l03Keys.lv0_eq, if_pos (by omega), e1, Option.bind_some, if_pos (by omega), wrap_id (x := i + 1) (by omega) (by omega), f1]
    · rw [impl_keys.lv0_eq, if_pos (by omega), e2, Option.bind_some, if_pos (by omega), wrap_id (x := i + 1) (by omega) (by omega), f2]
theorem node_one (a b : ByteArray) (ha : a.size = 32) (hb : b.size = 32) : ∃ t, spec_l03Node.v a b = some t ∧ impl_node.v a b = some t ∧ t.size = 32 := by
  have z4 : (⟨#[110, 111, 100, 101]⟩ : ByteArray).size = 4 := rfl
  obtain ⟨p, hp⟩ : ∃ p, p = (⟨#[110, 111, 100, 101]⟩ : ByteArray) ++ a := ⟨_, rfl⟩
  have zp : p.size = 36 := by rw [hp, ByteArray.size_append, z4, ha]
  obtain ⟨X, hX⟩ : ∃ X, X = p ++ b := ⟨_, rfl⟩
  have zX : X.size = 68 := by rw [hX, ByteArray.size_append, zp, hb]
  obtain ⟨t, h1, h2, h3⟩ := hash_one X (by omega)
  refine ⟨t, ?_, ?_, h3⟩
  · rw [spec_l03Node.v_eq, ← hp, ← hX, ha, if_pos (by decide), zp, hb, if_pos (by decide), zX, if_pos (by decide), h1, Option.bind_some]
  · rw [impl_node.v_eq, ← hp, ← hX, ha, if_pos (by decide), zp, hb, if_pos (by decide), h2, Option.bind_some]
theorem level_l (l : List ByteArray) (m : Nat) (hm : l.length = 2 * m) (hm2 : m ≤ 1000) (hy : ∀ y ∈ l, y.size = 32) : ∀ (d j : Nat) (acc : List ByteArray), m - j = d → j ≤ m → acc.length = j → (∀ y ∈ acc, y.size = 32) → ∃ r, spec_l03Level.lv0 l acc ((2 * j : Nat) : Int) = some r ∧ impl_above.lv0 l acc ((2 * j : Nat) : Int) = some r ∧ r.length = m ∧ ∀ y ∈ r, y.size = 32
  | 0, j, acc, h, h0, ha, hc => ⟨acc, by rw [spec_l03Level.lv0_eq, if_neg (by omega)], by rw [impl_above.lv0_eq, if_neg (by omega)], by omega, hc⟩
  | d + 1, j, acc, h, h0, ha, hc => by
    have g1 : rdOf ByteArray.empty l ((2 * j : Nat) : Int) ∈ l := by rw [rdOf_at l (2 * j) (by omega)]; exact List.getElem_mem _
    have g2 : rdOf ByteArray.empty l (((2 * j + 1 : Nat)) : Int) ∈ l := by rw [rdOf_at l (2 * j + 1) (by omega)]; exact List.getElem_mem _
    obtain ⟨t, e1, e2, e3⟩ := node_one _ _ (hy _ g1) (hy _ g2)
    obtain ⟨r, f1, f2, f3, f4⟩ := level_l l m hm hm2 hy d (j + 1) (acc ++ [t]) (by omega) (by omega) (by simp; omega) (fun y hm => by
      rcases List.mem_append.1 hm with h | h
      · exact hc y h
      · rw [List.mem_singleton.1 h]; exact e3)
    have w1 : wrap64 (((2 * j : Nat) : Int) + 1) = ((2 * j + 1 : Nat) : Int) := by rw [wrap_id (by omega) (by omega)]; omega
    have w2 : wrap64 (((2 * j : Nat) : Int) + 2) = ((2 * (j + 1) : Nat) : Int) := by rw [wrap_id (by omega) (by omega)]; omega
    refine ⟨r, ?_, ?_, f3, f4⟩
    · rw [spec_l03Level.lv0_eq, w1, w2, if_pos (by omega), if_pos (by omega), if_pos (by omega), if_pos (by omega), e1, Option.bind_some, if_pos (by omega), f1]
    · rw [impl_above.lv0_eq, w1, w2, if_pos (by omega), if_pos (by omega), if_pos (by omega), if_pos (by omega), e2, Option.bind_some, if_pos (by omega), f2]
def bitF (t : ByteArray) (i k : Int) : Int := (48 + (Go.bits .and .u8 (shr .u8 (bt t i) k) 1)) % 256
def bitsL (t : ByteArray) (i : Int) : Nat → List Int
  | 0 => []
  | d + 1 => bitF t i d :: bitsL t i d
theorem bitsL_len (t : ByteArray) (i : Int) : ∀ d, (bitsL t i d).length = d
  | 0 => rfl
  | d + 1 => by rw [bitsL, List.length_cons, bitsL_len t i d]
def allL (t : ByteArray) : Nat → Int → List Int
  | 0, _ => []
  | n + 1, i => bitsL t i 8 ++ allL t n (i + 1)
theorem hb_in (t : ByteArray) (i : Int) (h0 : 0 ≤ i) (h1 : i < t.size) (ht : t.size = 32) : ∀ (d : Nat) (x : List Int), d ≤ 8 → x.length ≤ 1000 - d → impl_hashBits.lv1 t x i ((d : Int) - 1) 32 i = impl_hashBits.lv0 t (x ++ bitsL t i d) 32 (i + 1)
  | 0, x, hd, hx => by
    rw [impl_hashBits.lv1_eq, if_neg (by omega), wrap_id (x := i + 1) (by omega) (by omega), bitsL, List.append_nil]
  | d + 1, x, hd, hx => by
    have e : ((d + 1 : Nat) : Int) - 1 = (d : Int) := by omega
    have w : wrap64 ((d : Int) - 1) = (d : Int) - 1 := wrap_id (by omega) (by omega)
    rw [impl_hashBits.lv1_eq, e, if_pos (by omega), if_pos h0, if_pos h1, if_pos (by omega), if_pos (by omega), w]
    clear w
    rw [hb_in t i h0 h1 ht d _ (by omega) (by rw [List.length_append]; simp; omega), List.append_assoc]
    rfl
theorem hb_out (t : ByteArray) (ht : t.size = 32) : ∀ (n : Nat) (i : Int) (x : List Int), (32 - i).toNat = n → 0 ≤ i → i ≤ 32 → (x.length : Int) = 8 * i → impl_hashBits.lv0 t x 32 i = some (strOfNums (x ++ allL t n i))
  | 0, i, x, h, h0, h1, hx => by rw [impl_hashBits.lv0_eq, if_neg (by omega), allL, List.append_nil]
  | n + 1, i, x, h, h0, h1, hx => by
    rw [impl_hashBits.lv0_eq, if_pos (by omega)]
    have := hb_in t i h0 (by omega) ht 8 x (by omega) (by omega)
    rw [show ((8 : Nat) : Int) - 1 = 7 from rfl] at this
    rw [this, hb_out t ht n (i + 1) _ (by omega) (by omega) (by omega) (by rw [List.length_append, bitsL_len]; omega), List.append_assoc]
    rfl
theorem hashBits_v (t : ByteArray) (ht : t.size = 32) : impl_hashBits.v t = some (strOfNums (allL t 32 0)) := by
  rw [impl_hashBits.v_eq, if_pos (by omega)]
  have := hb_out t ht 32 0 [] (by omega) (by omega) (by omega) (by simp)
  rw [List.nil_append] at this
  rw [ht]
  exact this
theorem sb_in (t : ByteArray) (ht : t.size = 32) (i : Int) (h0 : 0 ≤ i) (h1 : i < 4) : ∀ (d : Nat) (x : List Int), d ≤ 8 → x.length ≤ 1000 - d → spec_l03Bits.lv0 t x (8 * i + (8 - d)) = spec_l03Bits.lv0 t (x ++ bitsL t i d) (8 * (i + 1))
  | 0, x, hd, hx => by
    rw [bitsL, List.append_nil]
    congr 1
    omega
  | d + 1, x, hd, hx => by
    have q1 : Int.tdiv (8 * i + (8 - ((d + 1 : Nat) : Int))) 8 = i := by rw [Int.tdiv_eq_ediv_of_nonneg (by omega)]; omega
    have q2 : Int.tmod (8 * i + (8 - ((d + 1 : Nat) : Int))) 8 = 7 - d := by rw [Int.tmod_eq_emod_of_nonneg (by omega)]; omega
    have w1 : wrap64 i = i := wrap_id (by omega) (by omega)
    have w2 : wrap64 (7 - (7 - (d : Int))) = d := by rw [wrap_id (by omega) (by omega)]; omega
    have w3 : IntKind.u64.wrap (d : Int) = d := u64_small _ (by omega) (by omega)
    have w4 : wrap64 (8 * i + (8 - ((d + 1 : Nat) : Int)) + 1) = 8 * i + (8 - (d : Int)) := by rw [wrap_id (by omega) (by omega)]; omega
    rw [spec_l03Bits.lv0_eq, if_pos (by omega), q1, q2, w1, w2, w3, w4]
    clear w1 w2 w3 w4 q1 q2
    rw [if_pos h0, if_pos (by omega), if_pos (by omega), if_pos (by omega), sb_in t ht i h0 h1 d _ (by omega) (by rw [List.length_append]; simp; omega), List.append_assoc]
    rfl
theorem specBits_l (t : ByteArray) (ht : t.size = 32) : spec_l03Bits.lv0 t [] 0 = some (strOfNums (bitsL t 0 8 ++ (bitsL t 1 8 ++ (bitsL t 2 8 ++ bitsL t 3 8)))) := by
  have s0 := sb_in t ht 0 (by omega) (by omega) 8 [] (by omega) (by simp)
  have s1 := sb_in t ht 1 (by omega) (by omega) 8 (bitsL t 0 8) (by omega) (by rw [bitsL_len]; omega)
  have s2 := sb_in t ht 2 (by omega) (by omega) 8 (bitsL t 0 8 ++ bitsL t 1 8) (by omega) (by rw [List.length_append, bitsL_len, bitsL_len]; omega)
  have s3 := sb_in t ht 3 (by omega) (by omega) 8 (bitsL t 0 8 ++ bitsL t 1 8 ++ bitsL t 2 8) (by omega) (by simp only [List.length_append, bitsL_len]; omega)
  simp only [List.nil_append] at s0
  have e0 : spec_l03Bits.lv0 t [] 0 = spec_l03Bits.lv0 t (bitsL t 0 8) 8 := s0
  have e1 : spec_l03Bits.lv0 t (bitsL t 0 8) 8 = spec_l03Bits.lv0 t (bitsL t 0 8 ++ bitsL t 1 8) 16 := s1
  have e2 : spec_l03Bits.lv0 t (bitsL t 0 8 ++ bitsL t 1 8) 16 = spec_l03Bits.lv0 t (bitsL t 0 8 ++ bitsL t 1 8 ++ bitsL t 2 8) 24 := s2
  have e3 : spec_l03Bits.lv0 t (bitsL t 0 8 ++ bitsL t 1 8 ++ bitsL t 2 8) 24 = spec_l03Bits.lv0 t (bitsL t 0 8 ++ bitsL t 1 8 ++ bitsL t 2 8 ++ bitsL t 3 8) 32 := s3
  rw [e0, e1, e2, e3, spec_l03Bits.lv0_eq, if_neg (by omega)]
  simp only [List.append_assoc]
theorem bits_one (m : ByteArray) (hm : m.size ≤ 30000000) : ∃ s, spec_l03Bits.v m = some s ∧ impl_messageBits.v m = some s ∧ s.size = 32 := by
  have z : (⟨#[100, 105, 103, 101, 115, 116]⟩ : ByteArray).size = 6 := rfl
  have hz : ((⟨#[100, 105, 103, 101, 115, 116]⟩ : ByteArray) ++ m).size = 6 + m.size := by rw [ByteArray.size_append, z]
  obtain ⟨t, t1, t2, t3⟩ := hash_one ((⟨#[100, 105, 103, 101, 115, 116]⟩ : ByteArray) ++ m) (by omega)
  have hA : (allL t 32 0).length = 256 := by
    have : ∀ n i, (allL t n i).length = 8 * n := by
      intro n
      induction n with
      | zero => intro i; rfl
      | succ n ih => intro i; rw [allL, List.length_append, bitsL_len, ih]; omega
    rw [this]
  have hsz : (strOfNums (allL t 32 0)).size = 256 := by rw [strOf_size, hA]
  rw [spec_l03Bits.v_eq, impl_messageBits.v_eq, if_pos (by omega), if_pos (by omega), if_pos (by omega), t1, t2, Option.bind_some, Option.bind_some, specBits_l t t3, hashBits_v t t3, Option.bind_some, if_pos (by omega), if_pos (by omega)]
  refine ⟨_, rfl, ?_, by rw [strOf_size]; simp only [List.length_append, bitsL_len]⟩
  rw [show ((strOfNums (allL t 32 0)).extract 0 32) = strOfNums (((allL t 32 0).take 32).drop 0) from strOf_extract _ _ _, List.drop_zero]
  have ha : allL t 32 0 = (bitsL t 0 8 ++ (bitsL t 1 8 ++ (bitsL t 2 8 ++ bitsL t 3 8))) ++ allL t 28 4 := by
    simp only [List.append_assoc]
    rfl
  rw [ha, List.take_left' (by simp only [List.length_append, bitsL_len])]
theorem node_any (a b : ByteArray) (ha : a.size ≤ 32) (hb : b.size ≤ 32) : ∃ t, spec_l03Node.v a b = some t ∧ impl_node.v a b = some t ∧ t.size = 32 := by
  have z4 : (⟨#[110, 111, 100, 101]⟩ : ByteArray).size = 4 := rfl
  obtain ⟨p, hp⟩ : ∃ p, p = (⟨#[110, 111, 100, 101]⟩ : ByteArray) ++ a := ⟨_, rfl⟩
  have zp : p.size = 4 + a.size := by rw [hp, ByteArray.size_append, z4]
  obtain ⟨X, hX⟩ : ∃ X, X = p ++ b := ⟨_, rfl⟩
  have zX : X.size = 4 + a.size + b.size := by rw [hX, ByteArray.size_append, zp]
  obtain ⟨t, h1, h2, h3⟩ := hash_one X (by omega)
  refine ⟨t, ?_, ?_, h3⟩
  · rw [spec_l03Node.v_eq, ← hp, ← hX, if_pos (by omega), if_pos (by omega), if_pos (by omega), h1, Option.bind_some]
  · rw [impl_node.v_eq, ← hp, ← hX, if_pos (by omega), if_pos (by omega), h2, Option.bind_some]
noncomputable def nodeF (a b : ByteArray) : ByteArray := (spec_l03Node.v a b).getD ⟨#[]⟩
theorem nodeF_v (a b : ByteArray) (ha : a.size ≤ 32) (hb : b.size ≤ 32) : spec_l03Node.v a b = some (nodeF a b) ∧ impl_node.v a b = some (nodeF a b) ∧ (nodeF a b).size = 32 := by
  obtain ⟨t, h1, h2, h3⟩ := node_any a b ha hb
  have e : nodeF a b = t := by unfold nodeF; rw [h1]; rfl
  rw [e]; exact ⟨h1, h2, h3⟩
theorem spec_l01In_v (n low high : Int) : spec_l01In.v n low high = some (inB n low high) := by
  rw [spec_l01In.v_eq]; unfold inB; split <;> simp <;> omega
theorem impl_within_v (n low high : Int) : impl_within.v n low high = some (inB n low high) := by
  rw [impl_within.v_eq]; unfold inB; split <;> simp <;> omega
theorem wN (i : Nat) (h : i ≤ 1000) : wrap64 ((i : Int) + 1) = ((i + 1 : Nat) : Int) := by rw [wrap_id (by omega) (by omega)]; omega
theorem wT (n : Nat) (h : n ≤ 1000) : wrap64 (Int.tdiv (n : Int) 2) = ((n / 2 : Nat) : Int) := by rw [Int.tdiv_eq_ediv_of_nonneg (by omega), wrap_id (by omega) (by omega)]; omega
theorem areHashes_i (l : List ByteArray) (n : Int) : impl_areHashes.v l n = some (decide ((l.length : Int) = n) && l.all fun s => decide (s.size = 32)) := by
  rw [impl_areHashes.v_eq]
  by_cases h : (l.length : Int) = n
  · rw [if_pos h, decide_eq_true h, Bool.true_and, contains_impl_areHashes_1.v_eq, Option.bind_some]
    have hf : (fun s => (impl_areHashes_1.v s).getD false) = fun s : ByteArray => !decide (s.size = 32) := by
      funext s
      rw [impl_areHashes_1.v_eq, impl_isHash.v_eq, Option.bind_some, Option.getD_some]
      congr 1
      rw [Bool.eq_iff_iff]; simp; omega
    rw [hf]
    congr 1
    rw [Bool.eq_iff_iff]
    simp
  · rw [if_neg h, decide_eq_false h, Bool.false_and]
theorem hashes_l (l : List ByteArray) (h : l.length ≤ 1000000) : ∀ (d i : Nat), l.length - i = d → i ≤ l.length → spec_l03Hashes.lv0 l l.length i = some ((l.drop i).all fun s => decide (s.size = 32))
  | 0, i, hd, hi => by rw [spec_l03Hashes.lv0_eq, if_neg (by omega), List.drop_eq_nil_of_le (by omega)]; rfl
  | d + 1, i, hd, hi => by
    have hlt : i < l.length := by omega
    have w : wrap64 ((i : Int) + 1) = ((i + 1 : Nat) : Int) := by rw [wrap_id (by omega) (by omega)]; omega
    rw [spec_l03Hashes.lv0_eq, if_pos (by omega), if_pos (by omega), if_pos (by omega), rdOf_at l i hlt, w, hashes_l l h d (i + 1) (by omega) (by omega), List.drop_eq_getElem_cons hlt, List.all_cons]
    clear w
    by_cases hs : l[i].size = 32
    · rw [if_pos (by omega), decide_eq_true hs, Bool.true_and]
    · rw [if_neg (by omega), decide_eq_false hs, Bool.false_and]
theorem hashes_s (l : List ByteArray) (n : Int) (hn : n ≤ 1000) : spec_l03Hashes.v l n = some (decide ((l.length : Int) = n) && l.all fun s => decide (s.size = 32)) := by
  rw [spec_l03Hashes.v_eq]
  by_cases h : (l.length : Int) = n
  · rw [if_pos h, decide_eq_true h, Bool.true_and]
    subst h
    have := hashes_l l (by omega) l.length 0 rfl (by omega)
    rw [List.drop_zero] at this
    exact this
  · rw [if_neg h, decide_eq_false h, Bool.false_and]
set_option maxHeartbeats 4000000 in
theorem lead_path (s : ByteArray) (i0 : Int) (o r p : List ByteArray) (hp : p.length = 3) (hy : ∀ y ∈ p, y.size = 32) : ∀ (d i : Nat) (x : ByteArray) (n : Nat), 3 - i = d → i ≤ 3 → x.size = 32 → n ≤ 1000 →
    ∃ t, spec_CheckSignature.lv1 s x n i i0 o r p = some (if t.toList = s.toList then 0 else 12) ∧ impl_KeySignature_leads.lv1 x n p 3 i = some t
  | 0, i, x, n, h, hi, hx, hn => ⟨x, by
      rw [spec_CheckSignature.lv1_eq, if_neg (by omega)]
      split <;> rfl, by rw [impl_KeySignature_leads.lv1_eq, if_neg (by omega)]⟩
  | d + 1, i, x, n, h, hi, hx, hn => by
    have hlt : i < p.length := by omega
    have hz := hy _ (List.getElem_mem hlt)
    by_cases hm : Int.tmod (n : Int) 2 = 0
    · obtain ⟨e1, e2, e3⟩ := nodeF_v x p[i] (by omega) (by omega)
      obtain ⟨t, t1, t2⟩ := lead_path s i0 o r p hp hy d (i + 1) (nodeF x p[i]) (n / 2) (by omega) (by omega) e3 (by omega)
      refine ⟨t, ?_, ?_⟩
      · rw [spec_CheckSignature.lv1_eq, if_pos (by omega), if_pos hm, if_pos (by omega), if_pos (by omega), rdOf_at p i hlt, e1, Option.bind_some, wN i (by omega), wT n hn]; exact t1
      · rw [impl_KeySignature_leads.lv1_eq, if_pos (by omega), if_pos (by omega), if_pos (by omega), if_pos hm, rdOf_at p i hlt, e2, Option.bind_some, wN i (by omega), wT n hn]; exact t2
    · obtain ⟨e1, e2, e3⟩ := nodeF_v p[i] x (by omega) (by omega)
      obtain ⟨t, t1, t2⟩ := lead_path s i0 o r p hp hy d (i + 1) (nodeF p[i] x) (n / 2) (by omega) (by omega) e3 (by omega)
      refine ⟨t, ?_, ?_⟩
      · rw [spec_CheckSignature.lv1_eq, if_pos (by omega), if_neg hm, if_pos (by omega), if_pos (by omega), rdOf_at p i hlt, e1, Option.bind_some, wN i (by omega), wT n hn]; exact t1
      · rw [impl_KeySignature_leads.lv1_eq, if_pos (by omega), if_pos (by omega), if_pos (by omega), if_neg hm, rdOf_at p i hlt, e2, Option.bind_some, wN i (by omega), wT n hn]; exact t2
set_option maxHeartbeats 4000000 in
theorem lead_l (s b : ByteArray) (hb : b.size = 32) (i0 : Nat) (hi0 : i0 ≤ 1000) (o r p : List ByteArray) (ho : o.length = 32) (hr : r.length = 32) (hp : p.length = 3) (yo : ∀ y ∈ o, y.size = 32) (yr : ∀ y ∈ r, y.size = 32) (yp : ∀ y ∈ p, y.size = 32) : ∀ (d i : Nat) (x : ByteArray), 32 - i = d → i ≤ 32 → x.size = 3 + 64 * i →
    ∃ t, spec_CheckSignature.lv0 s b (bytesOf x) i i0 o r p = some (if t.toList = s.toList then 0 else 12) ∧ impl_KeySignature_leads.lv0 x (bytesOf b) 32 i i0 o r p = some t
  | 0, i, x, h, hi, hx => by
    obtain ⟨t, t1, t2, t3⟩ := hash_one x (by omega)
    obtain ⟨q, q1, q2⟩ := lead_path s i0 o r p hp yp 3 0 t i0 rfl (by omega) t3 hi0
    refine ⟨q, ?_, ?_⟩
    · rw [spec_CheckSignature.lv0_eq, if_neg (by omega), t1, Option.bind_some]; exact q1
    · rw [impl_KeySignature_leads.lv0_eq, if_neg (by omega), t2, Option.bind_some, hp]; exact q2
  | d + 1, i, x, h, hi, hx => by
    have hbl : (bytesOf b).length = 32 := by rw [bytesOf_length, hb]
    have hrd : rd (bytesOf b) i = bt b i := bytesOf_rd b i (by omega) (by omega)
    have hlo : i < o.length := by omega
    have hlr : i < r.length := by omega
    have zo := yo _ (List.getElem_mem hlo)
    have zr := yr _ (List.getElem_mem hlr)
    have hxl : (bytesOf x).length = x.size := bytesOf_length x
    obtain ⟨t, t1, t2, t3⟩ := hash_one o[i] (by omega)
    have htl : (bytesOf t).length = t.size := bytesOf_length t
    have hrl : (bytesOf r[i]).length = r[i].size := bytesOf_length _
    by_cases hk : bt b i = 48
    · have hz : (x ++ (t ++ r[i])).size = 3 + 64 * (i + 1) := by rw [ByteArray.size_append, ByteArray.size_append]; omega
      obtain ⟨q, q1, q2⟩ := lead_l s b hb i0 hi0 o r p ho hr hp yo yr yp d (i + 1) (x ++ (t ++ r[i])) (by omega) (by omega) hz
      rw [bytes_append, bytes_append, ← List.append_assoc] at q1
      refine ⟨q, ?_, ?_⟩
      · rw [spec_CheckSignature.lv0_eq, if_pos (by omega), if_pos (by omega), if_pos (by omega), rdOf_at o i hlo, if_pos (by omega), t1, Option.bind_some, if_pos (by omega), if_pos hk, if_pos (by omega), Option.bind_some, if_pos (by omega), rdOf_at r i hlr, if_pos (by rw [List.length_append]; omega), wN i (by omega)]
        exact q1
      · rw [impl_KeySignature_leads.lv0_eq, if_pos (by omega), if_pos (by omega), if_pos (by omega), hrd, if_pos hk, if_pos (by omega), rdOf_at o i hlo, t2, Option.bind_some, if_pos (by omega), rdOf_at r i hlr, if_pos (by omega), if_pos (by rw [ByteArray.size_append]; omega), wN i (by omega)]
        exact q2
    · have hz : (x ++ (r[i] ++ t)).size = 3 + 64 * (i + 1) := by rw [ByteArray.size_append, ByteArray.size_append]; omega
      obtain ⟨q, q1, q2⟩ := lead_l s b hb i0 hi0 o r p ho hr hp yo yr yp d (i + 1) (x ++ (r[i] ++ t)) (by omega) (by omega) hz
      rw [bytes_append, bytes_append, ← List.append_assoc] at q1
      refine ⟨q, ?_, ?_⟩
      · rw [spec_CheckSignature.lv0_eq, if_pos (by omega), if_pos (by omega), if_pos (by omega), rdOf_at o i hlo, if_pos (by omega), t1, Option.bind_some, if_pos (by omega), if_neg hk, if_pos (by omega), rdOf_at r i hlr, if_pos (by omega), Option.bind_some, if_pos (by rw [List.length_append]; omega), wN i (by omega)]
        exact q1
      · rw [impl_KeySignature_leads.lv0_eq, if_pos (by omega), if_pos (by omega), if_pos (by omega), hrd, if_neg hk, if_pos (by omega), rdOf_at r i hlr, if_pos (by omega), rdOf_at o i hlo, t2, Option.bind_some, if_pos (by omega), if_pos (by rw [ByteArray.size_append]; omega), wN i (by omega)]
        exact q2
theorem check_one (s m : ByteArray) (hs : s.size ≤ 65536) (hm : m.size ≤ 30000000) (i0 : Int) (o r p : List ByteArray) : ∃ q : Int, spec_CheckSignature.v s m i0 o r p = some q ∧ impl_CheckSignature.v s m i0 o r p = some q := by
  rw [spec_CheckSignature.v_eq, impl_CheckSignature.v_eq, long1, Option.bind_some]
  have f1 : decide ((s.size : Int) > 65536) = false := decide_eq_false (by omega)
  rw [f1]
  simp only [Bool.false_eq_true, if_false]
  by_cases h1 : (m.size : Int) > 65530
  · rw [if_pos h1, decide_eq_true h1, spec_CheckSignature.jv0_eq, impl_CheckSignature.jv0_eq]
    exact ⟨_, rfl, rfl⟩
  rw [if_neg h1, decide_eq_false h1, spec_CheckSignature.jv0_eq, impl_CheckSignature.jv0_eq]
  simp only [Bool.false_eq_true, if_false, impl_isHash.v_eq, Option.bind_some, areHashes_i, hashes_s _ 32 (by omega), hashes_s _ 3 (by omega), spec_CheckSignature.jv1_eq, impl_CheckSignature.jv1_eq, spec_l01In_v, impl_isIndex.v_eq, impl_within_v]
  by_cases h2 : (s.size : Int) = 32
  · have hb2 : ((s.size : Int) == 32) = true := by rw [h2]; rfl
    simp only [if_pos h2, hb2, if_true]
    cases ho : (decide ((o.length : Int) = 32) && o.all fun s => decide (s.size = 32)) with
    | false => exact ⟨1, rfl, rfl⟩
    | true =>
      cases hr : (decide ((r.length : Int) = 32) && r.all fun s => decide (s.size = 32)) with
      | false => exact ⟨1, rfl, rfl⟩
      | true =>
        cases hp : (decide ((p.length : Int) = 3) && p.all fun s => decide (s.size = 32)) with
        | false => exact ⟨1, rfl, rfl⟩
        | true =>
          simp only [Bool.not_true, Bool.false_eq_true, if_false, if_true]
          by_cases hi : inB i0 0 7 = true
          · have hi2 : 0 ≤ i0 ∧ i0 ≤ 7 := by
              unfold inB at hi
              simp at hi
              omega
            obtain ⟨n, rfl⟩ : ∃ n : Nat, i0 = n := ⟨i0.toNat, by omega⟩
            obtain ⟨b, b1, b2, b3⟩ := bits_one m hm
            rw [Bool.and_eq_true, decide_eq_true_eq, List.all_eq_true] at ho hr hp
            obtain ⟨t, t1, t2⟩ := lead_l s b b3 n (by omega) o r p (by omega) (by omega) (by omega) (fun y h => by simpa using ho.2 y h) (fun y h => by simpa using hr.2 y h) (fun y h => by simpa using hp.2 y h) 32 0 (⟨#[107, 101, 121]⟩ : ByteArray) rfl (by omega) rfl
            have hbl : ((bytesOf b).length : Int) = 32 := by rw [bytesOf_length, b3]; rfl
            rw [if_pos hi, if_pos hi, b1, Option.bind_some, impl_KeySignature_leads.v_eq, b2, Option.bind_some, if_pos (by omega), Option.bind_some, hbl]
            rw [show ((0 : Nat) : Int) = 0 from rfl] at t1 t2
            rw [t2, Option.bind_some, show ([107, 101, 121] : List Int) = bytesOf (⟨#[107, 101, 121]⟩ : ByteArray) from rfl, t1]
            refine ⟨_, rfl, ?_⟩
            split <;> rfl
          · rw [if_neg hi, if_neg hi]
            exact ⟨_, rfl, rfl⟩
  · have hb2 : ((s.size : Int) == 32) = false := by simpa using h2
    simp only [if_neg h2, hb2, Bool.false_eq_true, if_false, if_true]
    exact ⟨1, rfl, rfl⟩
theorem nodes_one (a : Int) : ∃ r, spec_l04Nodes.v a = some r ∧ impl_areNodes.v a = some r := by
  rw [spec_l04Nodes.v_eq, impl_areNodes.v_eq, impl_FaultsOf.v_eq]
  by_cases h1 : a = 1
  · rw [if_pos h1, if_pos h1, Option.bind_some]; exact ⟨_, rfl, rfl⟩
  by_cases h4 : a = 4
  · rw [if_neg h1, if_neg h1, if_pos h4, if_pos h4, Option.bind_some]; exact ⟨_, rfl, rfl⟩
  by_cases h7 : a = 7
  · rw [if_neg h1, if_neg h1, if_neg h4, if_neg h4, if_pos h7, Option.bind_some, h7]; exact ⟨_, rfl, rfl⟩
  · rw [if_neg h1, if_neg h1, if_neg h4, if_neg h4, if_neg h7, Option.bind_some]
    exact ⟨false, by simp [h7], rfl⟩
/-- A number's text. -/
def decB (n : Nat) : ByteArray := ⟨(Go.Lib.decDigits n).toArray⟩
theorem decB_small (n : Nat) (h : n < 10) : decB n = strOfNums [(wrap64 (48 + (n : Int))) % 256] := by
  have w : wrap64 (48 + (n : Int)) = 48 + (n : Int) := wrap_id (by omega) (by omega)
  unfold decB
  rw [Go.Lib.decDigits, dif_pos h, w]
  have : n = 0 ∨ n = 1 ∨ n = 2 ∨ n = 3 ∨ n = 4 ∨ n = 5 ∨ n = 6 ∨ n = 7 ∨ n = 8 ∨ n = 9 := by omega
  rcases this with rfl | rfl | rfl | rfl | rfl | rfl | rfl | rfl | rfl | rfl <;> rfl
theorem decB_size_one (n : Nat) (h : n < 10) : (decB n).size = 1 := by
  rw [decB_small n h, strOf_size]; rfl
theorem decB_big (n : Nat) (h : ¬ n < 10) : decB n = decB (n / 10) ++ decB (n % 10) := by
  have h2 : n % 10 < 10 := Nat.mod_lt _ (by omega)
  show (⟨(Go.Lib.decDigits n).toArray⟩ : ByteArray) = (⟨(Go.Lib.decDigits (n / 10)).toArray⟩ : ByteArray) ++ (⟨(Go.Lib.decDigits (n % 10)).toArray⟩ : ByteArray)
  rw [Go.Lib.decDigits, dif_neg h, Go.Lib.decDigits.eq_1 (n % 10), dif_pos h2]
  refine ba_inj.1 ?_
  rw [ba_toList, ba_toList, ByteArray.data_append]
  simp
theorem decB_le : ∀ (N n : Nat), n ≤ N → (decB n).size ≤ n + 1
  | 0, n, h => by rw [decB_size_one n (by omega)]; omega
  | N + 1, n, h => by
    by_cases h1 : n < 10
    · rw [decB_size_one n h1]; omega
    · have ih := decB_le N (n / 10) (by omega)
      rw [decB_big n h1, ByteArray.size_append, decB_size_one (n % 10) (Nat.mod_lt _ (by omega))]
      omega
theorem itoa_v (n : Nat) (h : n ≤ 9223372036854775807) : strconv_Itoa.v n = some (decB n) := by
  rw [strconv_Itoa.v_eq, if_pos (by omega)]
  show some (⟨(Go.Lib.itoa (n : Int)).toArray⟩ : ByteArray) = _
  unfold Go.Lib.itoa
  rw [if_neg (by omega), Int.toNat_natCast]
  rfl
theorem digits_v : ∀ (N n : Nat), n ≤ N → n ≤ 1000000000000000 → spec_l00Digits.v n = some (decB n)
  | 0, n, h, hn => by
    rw [spec_l00Digits.v_eq, if_neg (by omega), if_neg (by omega), if_pos (by omega), decB_small n (by omega)]
  | N + 1, n, h, hn => by
    by_cases h1 : n < 10
    · rw [spec_l00Digits.v_eq, if_neg (by omega), if_neg (by omega), if_pos (by omega), decB_small n h1]
    · have hd : Int.tdiv (n : Int) 10 = ((n / 10 : Nat) : Int) := by rw [Int.tdiv_eq_ediv_of_nonneg (by omega)]; omega
      have hm : Int.tmod (n : Int) 10 = ((n % 10 : Nat) : Int) := by rw [Int.tmod_eq_emod_of_nonneg (by omega)]; omega
      have w : wrap64 ((n / 10 : Nat) : Int) = ((n / 10 : Nat) : Int) := wrap_id (by omega) (by omega)
      have ih := digits_v N (n / 10) (by omega) (by omega)
      have hl := decB_le (n / 10) (n / 10) (by omega)
      have h2 : n % 10 < 10 := Nat.mod_lt _ (by omega)
      rw [spec_l00Digits.v_eq, if_neg (by omega), if_neg (by omega), if_neg (by omega), hd, hm, w]
      clear w hd hm
      rw [ih, Option.bind_some, Option.bind_some, ← decB_small (n % 10) h2, decB_size_one (n % 10) h2, if_pos (by omega), ← decB_big n h1]
theorem spec_l00Letter_v (c : Int) : spec_l00Letter.v c = some (letterB c) := by
  rw [spec_l00Letter.v_eq]; unfold letterB; repeat' split
  all_goals (congr 1; rw [Bool.eq_iff_iff]; simp <;> omega)
theorem impl_isLetter_v (c : Int) : impl_isLetter.v c = some (letterB c) := by
  rw [impl_isLetter.v_eq]; unfold letterB; repeat' split
  all_goals (congr 1; rw [Bool.eq_iff_iff]; simp <;> omega)
theorem spec_l00Digit_v (c : Int) : spec_l00Digit.v c = some (digitB c) := by
  rw [spec_l00Digit.v_eq]; unfold digitB; split <;> simp <;> omega
theorem spec_l00Word_l (s : ByteArray) (hs : s.size ≤ 9223372036854775807) (i : Int) (h : 0 ≤ i) : spec_l00Word.lv0 s i = some (allI (fun j => letterB (bt s j) || digitB (bt s j)) i s.size) := by
  refine loop_all _ s.size (by omega) (fun i h0 h1 => ?_) (fun i h0 h1 => ?_) _ i rfl h
  · rw [spec_l00Word.lv0_eq, if_pos h1, if_pos h0, spec_l00Letter_v, spec_l00Digit_v]
    simp only [Option.bind_some]
    cases letterB (bt s i) <;> cases digitB (bt s i) <;> simp
  · rw [spec_l00Word.lv0_eq, if_neg (by omega)]
theorem impl_NameOK_l (s : ByteArray) (hs : s.size ≤ 9223372036854775807) (i : Int) (h : 0 ≤ i) : impl_NameOK.lv0 s s.size i = some (allI (fun j => letterB (bt s j) || digitB (bt s j)) i s.size) := by
  refine loop_all (L := fun i => impl_NameOK.lv0 s s.size i) _ s.size (by omega) (fun i h0 h1 => ?_) (fun i h0 h1 => ?_) _ i rfl h
  · rw [impl_NameOK.lv0_eq, if_pos h1, if_pos h0, if_pos h1, impl_isLetter_v]
    simp only [Option.bind_some]
    cases letterB (bt s i) <;> simp [digitB]
    by_cases h2 : bt s i < 48
    · simp [h2, show ¬ 48 ≤ bt s i by omega]
    · by_cases h3 : 57 < bt s i
      · simp [h2, h3, show ¬ bt s i ≤ 57 by omega]
      · simp [h2, h3, show 48 ≤ bt s i by omega, show bt s i ≤ 57 by omega]
  · rw [impl_NameOK.lv0_eq, if_neg (by omega)]
theorem spec_NameOK_v (s : ByteArray) (hs : s.size ≤ 9223372036854775807) : spec_NameOK.v s = some (nameB s) := by
  rw [spec_NameOK.v_eq, spec_l00Word.v_eq]
  simp only [spec_l00Letter_v, spec_l00Word.jv0_eq, spec_l00Word_l s hs 1 (by omega), Option.bind_some, nameB]
  by_cases h1 : (s.size : Int) < 1
  · simp [h1]; omega
  · by_cases h2 : (s.size : Int) > 40
    · simp [h1, h2]; omega
    · simp only [if_neg h1, if_neg h2, if_pos (show 0 < (s.size : Int) by omega), Option.bind_some, show (1 ≤ s.size ∧ s.size ≤ 40) = True by simp; omega]
      cases letterB (bt s 0) <;> simp
theorem impl_NameOK_v (s : ByteArray) (hs : s.size ≤ 9223372036854775807) : impl_NameOK.v s = some (nameB s) := by
  rw [impl_NameOK.v_eq]
  simp only [impl_isLetter_v, impl_NameOK.jv0_eq, impl_NameOK_l s hs 0 (by omega), Option.bind_some, nameB]
  by_cases h1 : (s.size : Int) < 1
  · simp [h1]; omega
  · by_cases h2 : (s.size : Int) > 40
    · simp [h1, h2]; omega
    · simp only [if_neg h1, if_neg h2, if_pos (show 0 < (s.size : Int) by omega), Option.bind_some, show (1 ≤ s.size ∧ s.size ≤ 40) = True by simp; omega]
      rw [allI_step (i := 0) (by omega)]
      cases letterB (bt s 0) <;> simp
theorem spec_l02Text_v (s : ByteArray) (n : Int) (hs : s.size ≤ 9223372036854775807) : spec_l02Text.v s n = some (decide ((s.size : Int) ≤ n) && nameB s) := by
  rw [spec_l02Text.v_eq, spec_l01In_v, spec_NameOK_v s hs]
  simp only [Option.bind_some, inB]
  by_cases h : (1 : Int) ≤ s.size ∧ (s.size : Int) ≤ n
  · simp [h]
  · by_cases h2 : (s.size : Int) ≤ n
    · simp [h, h2, nameB, show ¬ (1 ≤ s.size) by omega]
    · simp [h, h2]
theorem impl_isOpName_v (s : ByteArray) (hs : s.size ≤ 9223372036854775807) : impl_isOpName.v s = some (decide ((s.size : Int) ≤ 12) && nameB s) := by
  rw [impl_isOpName.v_eq, impl_NameOK_v s hs]
  by_cases h : (s.size : Int) ≤ 12 <;> simp [h]
theorem grantOK_v (a : ByteArray) (b c d : Int) (ha : a.size ≤ 9223372036854775807) : impl_GrantOK.v a b c d = some ((decide ((a.size : Int) ≤ 12) && nameB a) && (inB b 0 255 && (inB c 1 1000000 && inB d 0 2000000000))) := by
  rw [impl_GrantOK.v_eq, impl_isOpName_v a ha]
  simp only [impl_within_v, Option.bind_some]
  cases (decide ((a.size : Int) ≤ 12) && nameB a) <;> cases inB b 0 255 <;> cases inB c 1 1000000 <;> simp
theorem spec_grantOK_v (a : ByteArray) (b c d : Int) (ha : a.size ≤ 9223372036854775807) : spec_GrantOK.v a b c d = some ((decide ((a.size : Int) ≤ 12) && nameB a) && (inB b 0 255 && (inB c 1 1000000 && inB d 0 2000000000))) := by
  rw [spec_GrantOK.v_eq, spec_l02Text_v a 12 ha]
  simp only [spec_l01In_v, Option.bind_some]
  cases (decide ((a.size : Int) ≤ 12) && nameB a) <;> cases inB b 0 255 <;> cases inB c 1 1000000 <;> simp
def grantB (a : ByteArray) (b c d : Int) : Bool := (decide ((a.size : Int) ≤ 12) && nameB a) && (inB b 0 255 && (inB c 1 1000000 && inB d 0 2000000000))
theorem grantB_facts {a : ByteArray} {b c d : Int} (h : grantB a b c d = true) : a.size ≤ 12 ∧ 0 ≤ b ∧ b ≤ 255 ∧ 1 ≤ c ∧ c ≤ 1000000 ∧ 0 ≤ d ∧ d ≤ 2000000000 := by
  unfold grantB inB at h
  simp only [Bool.and_eq_true, decide_eq_true_eq] at h
  omega
theorem toS_v (l : List ByteArray) (h : l.length ≤ 1048576) : laws_toStringS.v l = some l := by
  rw [laws_toStringS.v_eq, if_pos (by omega), if_pos (by omega)]
  have h1 := copy_loop ByteArray.empty id l (by omega) (fun acc i => laws_toStringS.lv0 l acc i) (fun acc i h0 h1 h2 => by
    show laws_toStringS.lv0 l acc i = _
    rw [laws_toStringS.lv0_eq, if_pos h1, if_pos h0, if_pos (by omega)]; rfl) (fun acc i h0 => by
    show laws_toStringS.lv0 l acc i = _
    rw [laws_toStringS.lv0_eq, if_neg (by omega)]) l.length (List.replicate ((l.length : Int) : Int).toNat ⟨#[]⟩) 0 (by omega) (by omega) (by omega) (by simp) (fun j hj => by omega)
  simpa using h1
theorem eqS_v (l : List ByteArray) (h : l.length ≤ 281474976710656) : laws_eqStringS.v l l = some true := by
  rw [laws_eqStringS.v_eq, if_pos rfl, loop_all (L := fun i => laws_eqStringS.lv0 l l i) (fun _ => true) l.length (by omega) (fun i h0 h1 => by
    show laws_eqStringS.lv0 l l i = _
    rw [laws_eqStringS.lv0_eq, if_pos h1, if_pos h0, if_pos h1, if_pos rfl]; rfl) (fun i h0 h1 => by
    show laws_eqStringS.lv0 l l i = _
    rw [laws_eqStringS.lv0_eq, if_neg (by omega)]) _ 0 rfl (by omega), (allI_iff _ _ _ _ rfl).2 (fun _ _ _ => rfl)]
theorem decB_pow : ∀ (k n : Nat), n < 10 ^ (k + 1) → (decB n).size ≤ k + 1
  | 0, n, h => by rw [decB_size_one n (by omega)]; omega
  | k + 1, n, h => by
    by_cases h1 : n < 10
    · rw [decB_size_one n h1]; omega
    · have h2 : n / 10 < 10 ^ (k + 1) := by rw [Nat.pow_succ] at h; omega
      have := decB_pow k (n / 10) h2
      rw [decB_big n h1, ByteArray.size_append, decB_size_one (n % 10) (Nat.mod_lt _ (by omega))]
      omega
theorem digits_s (n : Int) (h0 : 0 ≤ n) (h1 : n ≤ 2000000000) : ∃ t, spec_l00Digits.v n = some t ∧ strconv_Itoa.v n = some t ∧ t.size ≤ 10 := by
  obtain ⟨m, rfl⟩ : ∃ m : Nat, n = m := ⟨n.toNat, by omega⟩
  have := decB_pow 9 m (by have : (10 : Nat) ^ (9 + 1) = 10000000000 := by decide
                           omega)
  exact ⟨decB m, digits_v m m (by omega) (by omega), itoa_v m (by omega), this⟩
theorem grantText_small (a : ByteArray) (b c d : Int) (h : grantB a b c d = true) : ∃ t, spec_l12Text.v a b c d = some t ∧ impl_grantText.v a b c d = some t ∧ t.size ≤ 1000 := by
  obtain ⟨h0, h1, h2, h3, h4, h5, h6⟩ := grantB_facts h
  obtain ⟨x, x1, x2, x3⟩ := digits_s b h1 (by omega)
  obtain ⟨y, y1, y2, y3⟩ := digits_s c (by omega) (by omega)
  obtain ⟨z, z1, z2, z3⟩ := digits_s d h5 (by omega)
  have k6 : (⟨#[103, 114, 97, 110, 116, 32]⟩ : ByteArray).size = 6 := rfl
  have k1 : (⟨#[32]⟩ : ByteArray).size = 1 := rfl
  rw [spec_l12Text.v_eq, impl_grantText.v_eq, x1, x2, y1, y2, z1, z2]
  simp only [Option.bind_some, ByteArray.size_append, k6, k1]
  rw [if_pos (by omega), if_pos (by omega), if_pos (by omega), if_pos (by omega), if_pos (by omega), if_pos (by omega), if_pos (by omega)]
  exact ⟨_, rfl, rfl, by simp only [ByteArray.size_append, k6, k1]; omega⟩
theorem from_l (a : Int) (l : List Int) (hl : l.length ≤ 1048576) : ∀ (d i : Nat), l.length - i = d → i ≤ l.length → ∃ r, spec_l12From.lv0 a l i = some r ∧ impl_rises.lv0 l 0 (wrap64 (a - 1)) l l.length i = some r
  | 0, i, h, hi => ⟨true, by rw [spec_l12From.lv0_eq, if_neg (by omega)], by rw [impl_rises.lv0_eq, if_neg (by omega)]⟩
  | d + 1, i, h, hi => by
    obtain ⟨r, e1, e2⟩ := from_l a l hl d (i + 1) (by omega) (by omega)
    have hw : wrap64 ((i : Int) + 1) = ((i + 1 : Nat) : Int) := by rw [wrap_id (by omega) (by omega)]; omega
    have c1 : (i : Int) < (l.length : Int) := by omega
    have c2 : (0 : Int) ≤ (i : Int) := by omega
    rw [spec_l12From.lv0_eq, impl_rises.lv0_eq]
    simp only [if_pos c1, if_pos c2, spec_l01In_v, impl_within_v, Option.bind_some, hw, e1, e2]
    clear hw
    cases inB (rd l i) 0 (wrap64 (a - 1)) with
    | false => exact ⟨false, rfl, rfl⟩
    | true =>
      simp only [if_true]
      by_cases h0 : (i : Int) > 0
      · have hw : wrap64 ((i : Int) - 1) = (i : Int) - 1 := wrap_id (by omega) (by omega)
        have c3 : (0 : Int) ≤ (i : Int) - 1 := by omega
        have c4 : (i : Int) - 1 < (l.length : Int) := by omega
        simp only [if_pos h0, hw, if_pos c3, if_pos c4]
        split
        · exact ⟨false, rfl, rfl⟩
        · exact ⟨r, rfl, rfl⟩
      · simp only [if_neg h0]
        exact ⟨r, rfl, rfl⟩
theorem from_one (a : Int) (l : List Int) (hl : l.length ≤ 1048576) : ∃ r, spec_l12From.v a l = some r ∧ impl_isEnough.v a l = some r := by
  rw [spec_l12From.v_eq, impl_isEnough.v_eq]
  by_cases h : (l.length : Int) = wrap64 (wrap64 (Int.tdiv (wrap64 (a - 1)) 3) + 1)
  · obtain ⟨r, e1, e2⟩ := from_l a l hl _ 0 rfl (by omega)
    rw [if_pos h, if_pos h, impl_rises.v_eq]
    rw [show ((0 : Nat) : Int) = 0 from rfl] at e1 e2
    rw [e1, e2]
    exact ⟨r, rfl, rfl⟩
  · rw [if_neg h, if_neg h]
    exact ⟨false, rfl, rfl⟩
theorem root_ls : ∀ (k : Nat) (l : List ByteArray), k ≤ 9 → l.length = 2 ^ k → (∀ y ∈ l, y.size = 32) → ∃ t, spec_l03Root.lv0 l = some t ∧ impl_chainRoot.lv0 l = some t ∧ t.size = 32
  | 0, l, hk, hl, hy => by
    have hl1 : l.length = 1 := by simpa using hl
    refine ⟨rdOf ByteArray.empty l 0, by rw [spec_l03Root.lv0_eq, if_neg (by omega), if_pos (by omega)], by rw [impl_chainRoot.lv0_eq, if_neg (by omega), if_pos (by omega)], ?_⟩
    have := rdOf_at l 0 (by omega)
    rw [show ((0 : Nat) : Int) = 0 from rfl] at this
    rw [this]
    exact hy _ (List.getElem_mem (by omega))
  | k + 1, l, hk, hl, hy => by
    have hp : 2 ^ k ≤ 2 ^ 9 := Nat.pow_le_pow_right (by decide) (by omega)
    have h0 : 0 < 2 ^ k := Nat.pow_pos (by decide)
    have hl2 : l.length = 2 * 2 ^ k := by rw [hl, Nat.pow_succ, Nat.mul_comm]
    obtain ⟨r, e1, e2, e3, e4⟩ := level_l l (2 ^ k) hl2 (by omega) hy _ 0 [] rfl (by omega) rfl (fun y h => by cases h)
    obtain ⟨t, f1, f2, f3⟩ := root_ls k r (by omega) e3 e4
    refine ⟨t, ?_, ?_, f3⟩
    · rw [spec_l03Root.lv0_eq, if_pos (by omega), spec_l03Level.v_eq, show (0 : Int) = ((2 * 0 : Nat) : Int) from rfl, e1, Option.bind_some, f1]
    · rw [impl_chainRoot.lv0_eq, if_pos (by omega), impl_above.v_eq, show (0 : Int) = ((2 * 0 : Nat) : Int) from rfl, e2, Option.bind_some, f2]
theorem chain_one (s : ByteArray) (hs : s.size ≤ 1000) : ∃ (l : List ByteArray) (t : ByteArray), spec_l03Keys.v s = some l ∧ spec_l03Root.v l = some t ∧ impl_chainRoot.v s = some t ∧ t.size = 32 := by
  obtain ⟨l, k1, k2, k3, k4⟩ := keys_l s hs _ 0 [] rfl (by omega) (by omega) rfl (fun y h => by cases h)
  obtain ⟨t, r1, r2, r3⟩ := root_ls 3 l (by decide) k3 k4
  exact ⟨l, t, by rw [spec_l03Keys.v_eq, k1], by rw [spec_l03Root.v_eq, r1], by rw [impl_chainRoot.v_eq, impl_keys.v_eq, k2, Option.bind_some, r2], r3⟩
theorem check_l (a : ByteArray) (b c d : Int) (hg : grantB a b c d = true) (f : List Int) (s : List S52) (hf : f.length ≤ 1048576) (hs : s.length = f.length) : ∀ (e i : Nat), f.length - i = e → i ≤ f.length →
    ∃ r, spec_CheckCertificate.lv0 i a b c d f s = some r ∧ impl_CheckCertificate.lv0 f f.length i a b c d f s = some r
  | 0, i, h, hi => ⟨0, by rw [spec_CheckCertificate.lv0_eq, if_neg (by omega)], by rw [impl_CheckCertificate.lv0_eq, if_neg (by omega)]⟩
  | e + 1, i, h, hi => by
    obtain ⟨r, e1, e2⟩ := check_l a b c d hg f s hf hs e (i + 1) (by omega) (by omega)
    obtain ⟨m, m1, m2, m3⟩ := grantText_small a b c d hg
    obtain ⟨x, x1, x2, x3⟩ := root_seed (rd f i)
    obtain ⟨l, t, k1, k2, k3, k4⟩ := chain_one x (by omega)
    obtain ⟨q, q1, q2⟩ := check_one t m (by omega) (by omega) (rd_T52 s i).f0 (rd_T52 s i).f1 (rd_T52 s i).f2 (rd_T52 s i).f3
    have hw : wrap64 ((i : Int) + 1) = ((i + 1 : Nat) : Int) := by rw [wrap_id (by omega) (by omega)]; omega
    have c1 : (i : Int) < (f.length : Int) := by omega
    have c2 : (0 : Int) ≤ (i : Int) := by omega
    have c3 : (i : Int) < (s.length : Int) := by omega
    rw [spec_CheckCertificate.lv0_eq, impl_CheckCertificate.lv0_eq]
    simp only [if_pos c1, if_pos c2, if_pos c3, x1, x2, k1, k2, k3, m1, m2, q1, q2, Option.bind_some, hw, e1, e2]
    clear hw
    by_cases hq : q = 0
    · rw [if_pos hq]; exact ⟨r, rfl, rfl⟩
    · rw [if_neg hq]; exact ⟨q, rfl, rfl⟩
theorem checkCert_one (n : Int) (a : ByteArray) (b c d : Int) (f : List Int) (s : List S52) (ha : a.size ≤ 9223372036854775807) (hf : f.length ≤ 1048576) : ∃ r, spec_CheckCertificate.v n a b c d f s = some r ∧ impl_CheckCertificate.v n a b c d f s = some r := by
  rw [spec_CheckCertificate.v_eq, impl_CheckCertificate.v_eq, grantOK_v a b c d ha, spec_grantOK_v a b c d ha]
  obtain ⟨p, p1, p2⟩ := nodes_one n
  obtain ⟨o, o1, o2⟩ := from_one n f hf
  simp only [Option.bind_some, p1, p2, o1, o2, spec_CheckCertificate.jv0_eq]
  by_cases hg : ((decide ((a.size : Int) ≤ 12) && nameB a) && (inB b 0 255 && (inB c 1 1000000 && inB d 0 2000000000))) = true
  · simp only [if_pos hg]
    cases p with
    | false => exact ⟨_, rfl, rfl⟩
    | true =>
      cases o with
      | false => exact ⟨_, rfl, rfl⟩
      | true =>
        simp only [if_true]
        by_cases hs : (s.length : Int) = (f.length : Int)
        · obtain ⟨r, e1, e2⟩ := check_l a b c d hg f s hf (by omega) _ 0 rfl (by omega)
          have hb : ((s.length : Int) != (f.length : Int)) = false := bne_eq_false_iff_eq.mpr hs
          rw [show ((0 : Nat) : Int) = 0 from rfl] at e1 e2
          simp only [hb, if_pos hs, Bool.false_eq_true, if_false]
          exact ⟨r, e1, e2⟩
        · have hb : ((s.length : Int) != (f.length : Int)) = true := by simpa using hs
          simp only [hb, if_neg hs, if_true]
          exact ⟨_, rfl, rfl⟩
  · simp only [if_neg hg]
    exact ⟨_, rfl, rfl⟩
theorem szSb_l (l : List ByteArray) (hl : l.length ≤ 9223372036854775806) (hg : ∀ y ∈ l, y.size ≤ 9223372036854775807) : ∀ (d : Nat) (i x : Int), ((l.length : Int) - i).toNat = d → 0 ≤ i → 0 ≤ x → x ≤ 1048576 → ∃ t, laws_szStringS.lv0 l x i = some t ∧ (t < 0 ∨ (0 ≤ t ∧ t ≤ 1048576))
  | 0, i, x, h, h0, hx, hx2 => ⟨x, by rw [laws_szStringS.lv0_eq, if_neg (by omega)], Or.inr ⟨hx, hx2⟩⟩
  | d + 1, i, x, h, h0, hx, hx2 => by
    have hlt : i < (l.length : Int) := by omega
    have hm : rdOf ByteArray.empty l i ∈ l := by
      obtain ⟨j, rfl⟩ : ∃ j : Nat, i = j := ⟨i.toNat, by omega⟩
      rw [rdOf_at l j (by omega)]; exact List.getElem_mem _
    have hs := hg _ hm
    rw [laws_szStringS.lv0_eq, if_pos hlt, if_pos h0, wrap_id (x := x - _) (by omega) (by omega)]
    by_cases h2 : x - ((rdOf ByteArray.empty l i).size : Int) < 0
    · rw [if_pos h2]; exact ⟨-1, rfl, Or.inl (by omega)⟩
    · rw [if_neg h2, wrap_id (x := i + 1) (by omega) (by omega)]
      exact szSb_l l hl hg d (i + 1) _ (by omega) (by omega) (by omega) (by omega)
theorem szSx_v (l : List ByteArray) (x : Int) (h0 : 0 ≤ x) (h1 : x ≤ 1048576) (hl : l.length ≤ 9223372036854775807) (hg : ∀ y ∈ l, y.size ≤ 9223372036854775807) : ∃ t, laws_szStringS.v l x = some t ∧ (t < 0 ∨ (0 ≤ t ∧ t ≤ 1048576 ∧ l.length ≤ 1048576)) := by
  rw [laws_szStringS.v_eq, wrap_id (x := x - (l.length : Int)) (by omega) (by omega)]
  by_cases h2 : x - (l.length : Int) < 0
  · rw [if_pos h2]; exact ⟨-1, rfl, Or.inl (by omega)⟩
  · obtain ⟨t, e, ht⟩ := szSb_l l (by omega) hg _ 0 (x - (l.length : Int)) rfl (by omega) (by omega) (by omega)
    rw [if_neg h2, e]
    exact ⟨t, rfl, by omega⟩
def sigOK (y : S139) : Prop := y.f1.length ≤ 1048576 ∧ y.f2.length ≤ 1048576 ∧ y.f3.length ≤ 1048576
theorem szSig_v (y : S139) (hg : good139 y) (x : Int) (h0 : 0 ≤ x) (h1 : x ≤ 1048576) : ∃ t, laws_szKeySignature.v y.f0 y.f1 y.f2 y.f3 x = some t ∧ (t < 0 ∨ (0 ≤ t ∧ t ≤ 1048576 ∧ sigOK y)) := by
  obtain ⟨-, ⟨a1, a2⟩, ⟨b1, b2⟩, ⟨c1, c2⟩⟩ := hg
  obtain ⟨t1, e1, q1⟩ := szSx_v y.f1 x h0 h1 a1 a2
  rw [laws_szKeySignature.v_eq, e1, Option.bind_some]
  by_cases n1 : t1 < 0
  · rw [if_pos n1]; exact ⟨-1, rfl, Or.inl (by omega)⟩
  obtain ⟨t2, e2, q2⟩ := szSx_v y.f2 t1 (by omega) (by omega) b1 b2
  rw [if_neg n1, e2, Option.bind_some]
  by_cases n2 : t2 < 0
  · rw [if_pos n2]; exact ⟨-1, rfl, Or.inl (by omega)⟩
  obtain ⟨t3, e3, q3⟩ := szSx_v y.f3 t2 (by omega) (by omega) c1 c2
  rw [if_neg n2, e3, Option.bind_some]
  by_cases n3 : t3 < 0
  · rw [if_pos n3]; exact ⟨-1, rfl, Or.inl (by omega)⟩
  · rw [if_neg n3]; exact ⟨t3, rfl, Or.inr ⟨by omega, by omega, by omega, by omega, by omega⟩⟩
theorem szSigS_l (l : List S139) (hl : l.length ≤ 9223372036854775806) (hg : ∀ y ∈ l, good139 y) : ∀ (d i : Nat) (x : Int), l.length - i = d → i ≤ l.length → 0 ≤ x → x ≤ 1048576 → ∃ t, laws_szKeySignatureS.lv0 l x i = some t ∧ (t < 0 ∨ (0 ≤ t ∧ t ≤ 1048576 ∧ ∀ y ∈ l.drop i, sigOK y))
  | 0, i, x, h, hi, hx, hx2 => ⟨x, by rw [laws_szKeySignatureS.lv0_eq, if_neg (by omega)], Or.inr ⟨hx, hx2, fun y hy => by rw [List.drop_eq_nil_of_le (by omega)] at hy; cases hy⟩⟩
  | d + 1, i, x, h, hi, hx, hx2 => by
    have hlt : i < l.length := by omega
    have hr : rd_T139 l (i : Int) = l[i] := by
      unfold rd_T139
      rw [List.getD, Int.toNat_natCast, List.getElem?_eq_getElem hlt]; rfl
    obtain ⟨t, e, ht⟩ := szSig_v l[i] (hg _ (List.getElem_mem hlt)) x hx hx2
    rw [laws_szKeySignatureS.lv0_eq, if_pos (by omega), if_pos (by omega), hr, e, Option.bind_some, show wrap64 ((i : Int) + 1) = ((i + 1 : Nat) : Int) from by rw [wrap_id (by omega) (by omega)]; omega]
    by_cases h2 : t < 0
    · rw [if_pos h2]; exact ⟨-1, rfl, Or.inl (by omega)⟩
    · rw [if_neg h2]
      obtain ⟨q, e2, hq⟩ := szSigS_l l hl hg d (i + 1) t (by omega) (by omega) (by omega) (by omega)
      refine ⟨q, e2, ?_⟩
      rcases hq with hq | ⟨q1, q2, q3⟩
      · exact Or.inl hq
      · refine Or.inr ⟨q1, q2, fun y hy => ?_⟩
        rw [List.drop_eq_getElem_cons hlt] at hy
        rcases List.mem_cons.1 hy with rfl | hy
        · rcases ht with ht | ht
          · exact absurd ht h2
          · exact ht.2.2
        · exact q3 y hy
def sigTo (v : S139) : S52 := ⟨v.f0, v.f1, v.f2, v.f3⟩
theorem toSigS_v (l : List S139) (h : l.length ≤ 1048576) (hg : ∀ y ∈ l, sigOK y) : laws_toKeySignatureS.v l = some (l.map sigTo) := by
  rw [laws_toKeySignatureS.v_eq, if_pos (by omega), if_pos (by omega)]
  exact copy_loop z139 sigTo l (by omega) (fun acc i => laws_toKeySignatureS.lv0 l acc i) (fun acc i h0 h1 h2 => by
    show laws_toKeySignatureS.lv0 l acc i = _
    have hm : rd_T139 l i ∈ l := by
      unfold rd_T139
      rw [List.getD, List.getElem?_eq_getElem (by omega : i.toNat < l.length)]
      exact List.getElem_mem _
    obtain ⟨g1, g2, g3⟩ := hg _ hm
    rw [laws_toKeySignatureS.lv0_eq, if_pos h1, if_pos h0, laws_toKeySignature.v_eq, toS_v _ g1, Option.bind_some, toS_v _ g2, Option.bind_some, toS_v _ g3, Option.bind_some, Option.bind_some, if_pos (by omega)]; rfl) (fun acc i h0 => by
    show laws_toKeySignatureS.lv0 l acc i = _
    rw [laws_toKeySignatureS.lv0_eq, if_neg (by omega)]) l.length (List.replicate ((l.length : Int) : Int).toNat z52) 0 (by omega) (by omega) (by omega) (by simp) (fun j hj => by omega)
theorem eqSigS_v (l : List S52) (h : l.length ≤ 281474976710656) (hg : ∀ y ∈ l, y.f1.length ≤ 1048576 ∧ y.f2.length ≤ 1048576 ∧ y.f3.length ≤ 1048576) : laws_eqKeySignatureS.v l l = some true := by
  rw [laws_eqKeySignatureS.v_eq, if_pos rfl, loop_all (L := fun i => laws_eqKeySignatureS.lv0 l l i) (fun _ => true) l.length (by omega) (fun i h0 h1 => by
    show laws_eqKeySignatureS.lv0 l l i = _
    have hm : rd_T52 l i ∈ l := by
      unfold rd_T52
      rw [List.getD, List.getElem?_eq_getElem (by omega : i.toNat < l.length)]
      exact List.getElem_mem _
    obtain ⟨g1, g2, g3⟩ := hg _ hm
    rw [laws_eqKeySignatureS.lv0_eq, if_pos h1, if_pos h0, if_pos h1, laws_eqKeySignature.v_eq, if_pos rfl, eqS_v _ (by omega), Option.bind_some, if_pos rfl, eqS_v _ (by omega), Option.bind_some, if_pos rfl, eqS_v _ (by omega), Option.bind_some, if_pos rfl, Option.bind_some]) (fun i h0 h1 => by
    show laws_eqKeySignatureS.lv0 l l i = _
    rw [laws_eqKeySignatureS.lv0_eq, if_neg (by omega)]) _ 0 rfl (by omega), (allI_iff _ _ _ _ rfl).2 (fun _ _ _ => rfl)]
theorem toIntS_v (l : List Int) (h : l.length ≤ 1048576) : laws_toIntS.v l = some l := by
  rw [laws_toIntS.v_eq, if_pos (by omega), if_pos (by omega)]
  have h1 := copy_loop (0 : Int) id l (by omega) (fun acc i => laws_toIntS.lv0 l acc i) (fun acc i h0 h1 h2 => by
    show laws_toIntS.lv0 l acc i = _
    rw [laws_toIntS.lv0_eq, if_pos h1, if_pos h0, if_pos (by omega)]; rfl) (fun acc i h0 => by
    show laws_toIntS.lv0 l acc i = _
    rw [laws_toIntS.lv0_eq, if_neg (by omega)]) l.length (List.replicate ((l.length : Int) : Int).toNat 0) 0 (by omega) (by omega) (by omega) (by simp) (fun j hj => by omega)
  rw [List.map_id] at h1
  exact h1
theorem eqIntS_v (l : List Int) (h : l.length ≤ 281474976710656) : laws_eqIntS.v l l = some true := by
  rw [laws_eqIntS.v_eq, if_pos rfl, loop_all (L := fun i => laws_eqIntS.lv0 l l i) (fun _ => true) l.length (by omega) (fun i h0 h1 => by
    show laws_eqIntS.lv0 l l i = _
    rw [laws_eqIntS.lv0_eq, if_pos h1, if_pos h0, if_pos h1, if_pos rfl]; rfl) (fun i h0 h1 => by
    show laws_eqIntS.lv0 l l i = _
    rw [laws_eqIntS.lv0_eq, if_neg (by omega)]) _ 0 rfl (by omega), (allI_iff _ _ _ _ rfl).2 (fun _ _ _ => rfl)]
theorem FnExactCheckCertificate_pure (a0 : Int) (y1 : S27) : (Lit.int .i64 a0).wf = true → good27 y1 → laws_FnExactCheckCertificate.v a0 y1.f0.f0 y1.f0.f1 y1.f0.f2 y1.f0.f3 y1.f1 y1.f2 = some true := by
  intro _ hg
  obtain ⟨⟨ha, -⟩, ⟨hl, -⟩, ⟨hs, hy⟩⟩ := hg
  have hsz : ∃ t, laws_szCertificate.v y1.f0.f0 y1.f0.f1 y1.f0.f2 y1.f0.f3 y1.f1 y1.f2 1048576 = some t ∧ (¬ t < 0 → y1.f1.length ≤ 1048576 ∧ y1.f2.length ≤ 1048576 ∧ ∀ y ∈ y1.f2, sigOK y) := by
    rw [laws_szCertificate.v_eq, laws_szGrant.v_eq, wrap_id (x := 1048576 - (y1.f0.f0.size : Int)) (by omega) (by omega)]
    by_cases c1 : (1048576 : Int) - (y1.f0.f0.size : Int) < 0
    · rw [if_pos c1, Option.bind_some, if_pos (by decide)]; exact ⟨-1, rfl, fun h => by omega⟩
    rw [if_neg c1, Option.bind_some, if_neg c1, laws_szIntS.v_eq, wrap_id (x := 1048576 - (y1.f0.f0.size : Int) - (y1.f1.length : Int)) (by omega) (by omega)]
    by_cases c2 : (1048576 : Int) - (y1.f0.f0.size : Int) - (y1.f1.length : Int) < 0
    · rw [if_pos c2, Option.bind_some, if_pos (by decide)]; exact ⟨-1, rfl, fun h => by omega⟩
    rw [if_neg c2, Option.bind_some, if_neg c2, laws_szKeySignatureS.v_eq, wrap_id (x := 1048576 - (y1.f0.f0.size : Int) - (y1.f1.length : Int) - (y1.f2.length : Int)) (by omega) (by omega)]
    by_cases c3 : (1048576 : Int) - (y1.f0.f0.size : Int) - (y1.f1.length : Int) - (y1.f2.length : Int) < 0
    · rw [if_pos c3, Option.bind_some, if_pos (by decide)]; exact ⟨-1, rfl, fun h => by omega⟩
    obtain ⟨t, e, ht⟩ := szSigS_l y1.f2 (by omega) hy _ 0 (1048576 - (y1.f0.f0.size : Int) - (y1.f1.length : Int) - (y1.f2.length : Int)) rfl (by omega) (by omega) (by omega)
    rw [show ((0 : Nat) : Int) = 0 from rfl] at e
    rw [if_neg c3, e, Option.bind_some]
    by_cases c4 : t < 0
    · rw [if_pos c4]; exact ⟨-1, rfl, fun h => by omega⟩
    · rw [if_neg c4]
      rw [List.drop_zero] at ht
      rcases ht with ht | ⟨-, -, ht⟩
      · exact absurd ht c4
      · exact ⟨t, rfl, fun _ => ⟨by omega, by omega, ht⟩⟩
  obtain ⟨t, e, ht⟩ := hsz
  rw [laws_FnExactCheckCertificate.v_eq, e, Option.bind_some]
  by_cases h0 : t < 0
  · rw [if_pos h0]
  obtain ⟨k1, k2, k3⟩ := ht h0
  have hto : laws_toCertificate.v y1.f0.f0 y1.f0.f1 y1.f0.f2 y1.f0.f3 y1.f1 y1.f2 = some (y1.f0.f0, y1.f0.f1, y1.f0.f2, y1.f0.f3, y1.f1, y1.f2.map sigTo) := by
    rw [laws_toCertificate.v_eq, laws_toGrant.v_eq, Option.bind_some, toIntS_v _ k1, Option.bind_some, toSigS_v _ k2 k3, Option.bind_some]
  obtain ⟨r, r1, r2⟩ := checkCert_one a0 y1.f0.f0 y1.f0.f1 y1.f0.f2 y1.f0.f3 y1.f1 (y1.f2.map sigTo) ha k1
  have he := eqSigS_v (y1.f2.map sigTo) (by rw [List.length_map]; omega) (fun y hy => by
    obtain ⟨v, hv, rfl⟩ := List.mem_map.1 hy
    exact k3 v hv)
  simp only [if_neg h0, hto, Option.bind_some, r1, r2, if_true, laws_eqCertificate.v_eq, laws_eqGrant.v_eq, eqIntS_v y1.f1 (show y1.f1.length ≤ 281474976710656 by omega), he]
end Go.Proofs.YtlifdodphkimpaaDoor.A
end
