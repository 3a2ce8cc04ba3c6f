/- A part of the proof that FnExactReadGrant returns true at every input: plain functions, contracts and lemmas. No conditions. -/
import Derived.Test.YtioocldcdonlpaaDoorProg
import Derived.Below
import Derived.Deep.Draws
import Derived.Deep.AppendLies
import Derived.Maps.AppendAt
import Derived.OwnWalk
import Derived.Laws.BytesArg
import Derived.Laws.MakeOwn
import Derived.Laws.OwnMore
import Derived.Deep.OwnRows
import Derived.Tactics
import Derived.Lib.ConvBytes
import Derived.Laws.Slices
import Derived.WalkKit
import Derived.KernelRfl
import Derived.RowKit3
import Derived.Deep.LoopGhost
import Derived.Deep.QuietTactic
import Derived.BigQuiet
import Derived.WideLaws
import Derived.Deep.DeepCutAuto
import Derived.Deep.CutBlock
import Derived.Deep.RegionHeld3
import Derived.Laws.Rows
import Derived.Lib.AppendStr
import Derived.ArgAppend
import Derived.Laws.IdiomCopy
import Derived.RowKit
import Derived.OrdersHeld
import Derived.Laws.BitsLemmas
import Derived.Laws.StructEq
import Derived.Lib.ItoaNum
import Derived.Lib.Join
import Derived.Lib.AtoiAll
import Derived.Lib.Split
import Derived.Lib.Strings
import Derived.Laws.Strings
import Derived.Lib.AtoiAllCases
import Derived.Lib.ItoaMem
import Derived.Lib.SplitLaws
import Derived.Lib.ItoaLen
set_option linter.unusedVariables false
set_option linter.unusedSimpArgs false
set_option linter.unusedSectionVars false
section
namespace Go.Proofs.YtioocldcdonlpaaDoorW.PrintWords
open Go.RowKit
/-- A fact that the walk's simp doesn't look into. -/
structure Aside0 (p : Prop) : Prop where mk :: (out : p)
/-- The world is the old one, some orders having been drawn. -/
structure Drawn0 (w w' : World) : Prop where mk :: (out : ∃ n, w' = w.drewN n)
theorem Drawn0.refl (w : World) : Drawn0 w w := ⟨⟨0, rfl⟩⟩
theorem Drawn0.step {w w' : World} (h : Drawn0 w w') (n : Nat) : Drawn0 w (w'.drewN n) := by
  obtain ⟨m, rfl⟩ := h
  exact ⟨⟨m + n, World.drewN_drewN ..⟩⟩
theorem Drawn0.grown {w w' : World} (h : Drawn0 w w') : Grown w w' := by
  obtain ⟨n, rfl⟩ := h
  induction n with
  | zero => exact Grown.refl _
  | succ n ih => rw [← World.drew_drewN]; exact Grown.drew ih
theorem Drawn0.below {w w' : World} (h : Drawn0 w w') : Below w.heap.size w w' := by
  obtain ⟨n, rfl⟩ := h
  induction n with
  | zero => exact Below.refl _ _
  | succ n ih => rw [← World.drew_drewN]; exact ih.drew
def rd (xs : List Int) (i : Int) : Int := xs.getD i.toNat 0
def bt (s : ByteArray) (i : Int) : Int := if h : i.toNat < s.size then ((s[i.toNat]'h).toNat : Int) else 0
theorem bt_at (s : ByteArray) (i : Int) : ∀ h : i.toNat < s.size, ((s[i.toNat]'h).toNat : Int) = bt s i := fun h => by simp [bt, h]
theorem below_alloc {w W : World} (h : Below w.heap.size w W) (o : Obj) : Below w.heap.size w (W.alloc o) := h.alloc h.size o
theorem below_drew {B : Nat} {w W : World} (h : Below B w W) : Below B w W.drew := ⟨h.os, h.tape, h.output, h.size, h.block⟩
theorem pw_below_drewN {B : Nat} {w W : World} (h : Below B w W) (n : Nat) : Below B w (W.drewN n) := ⟨h.os, h.tape, h.output, h.size, h.block⟩
theorem below_then {B : Nat} {w w1 w2 : World} (h : Below B w w1) (hB : B ≤ w1.heap.size) (k : Below w1.heap.size w1 w2) : Below B w w2 :=
  h.trans ⟨k.os, k.tape, k.output, k.size, fun i hi => k.block i (Nat.lt_of_lt_of_le hi hB)⟩
theorem grown_of_below {w w1 : World} (h : Below w.heap.size w w1) (row : Option Nat) : w.grownBy w1 row := ⟨h.os, h.tape, h.output, h.size, fun i hi _ => h.block i hi⟩
theorem pw_cell_below {w w1 : World} (h : Below w.heap.size w w1) {a : Addr} {v : Value} (hc : w.cell? a = some v) : w1.cell? a = some v := (h.cell (World.block_lt_of_cell? w a hc)).trans hc
def ReadsInt (w : World) (k : IntKind) (A : Option Addr) (n : Nat) (xs : List Int) : Prop :=
  xs.length = n ∧ n ≤ 9223372036854775807 ∧ (0 < n → ∃ ad, A = some ad ∧ ∀ j, j < n → w.cell? (ad.add j) = some (.int k (xs.getD j 0)))
theorem ReadsInt.at_ {w : World} {k : IntKind} {A : Option Addr} {n : Nat} {xs : List Int} (h : ReadsInt w k A n xs) (i : Int) (h0 : 0 ≤ i) (h1 : i < n) : ∃ ad, A = some ad ∧ w.cell? (ad.add i.toNat) = some (.int k (rd xs i)) := by
  obtain ⟨ad, e, hc⟩ := h.2.2 (by omega)
  exact ⟨ad, e, hc _ (by omega)⟩
theorem ReadsInt.below {w w1 : World} {k : IntKind} {A : Option Addr} {n : Nat} {xs : List Int} (h : ReadsInt w k A n xs) (hb : Below w.heap.size w w1) : ReadsInt w1 k A n xs :=
  ⟨h.1, h.2.1, fun hn => by
    obtain ⟨ad, e, hc⟩ := h.2.2 hn
    exact ⟨ad, e, fun j hj => pw_cell_below hb (hc j hj)⟩⟩
theorem own_base {w : World} {base : Nat} {e : TypeId} {size n : Nat} {v : Value} {xs : List Value} (h : w.ownsRow base e size v n xs) (k : Nat) (hk : v.ownBlock = some k) : base ≤ k := by
  rcases h.2 with ⟨rfl, _⟩ | ⟨g, cap, cur, rfl, hb, _⟩
  · simp [Value.ownBlock] at hk
  · have : g = k := by simpa [Value.ownBlock] using hk
    omega
theorem own_lt {w : World} {base : Nat} {e : TypeId} {size n : Nat} {v : Value} {xs : List Value} (h : w.ownsRow base e size v n xs) (k : Nat) (hk : v.ownBlock = some k) : k < w.heap.size := by
  rcases h.2 with ⟨rfl, _⟩ | ⟨g, cap, cur, rfl, hb, hh, _⟩
  · simp [Value.ownBlock] at hk
  · have : g = k := by simpa [Value.ownBlock] using hk
    subst this
    exact (Array.getElem?_eq_some_iff.1 hh).1
theorem pw_own_below {w w1 : World} {base : Nat} {e : TypeId} {size n : Nat} {v : Value} {xs : List Value} (h : w.ownsRow base e size v n xs) (hb : Below w.heap.size w w1) : w1.ownsRow base e size v n xs :=
  h.kept (grown_of_below hb none) (by cases v.ownBlock <;> simp)
/-- 'xs[:k]' and 'xs[k:]' of a slice that is read; the address of the second as_ the walk has it. -/
theorem ReadsInt.take_ {w : World} {k : IntKind} {A : Option Addr} {n : Nat} {xs : List Int} (h : ReadsInt w k A n xs) (i : Nat) (hi : i ≤ n) : ReadsInt w k A i (xs.take i) := by
  refine ⟨by rw [List.length_take, h.1]; omega, by have := h.2.1; omega, fun hp => ?_⟩
  obtain ⟨ad, e, hc⟩ := h.2.2 (by omega)
  refine ⟨ad, e, fun j hj => ?_⟩
  rw [hc j (by omega)]
  simp [List.getD_eq_getElem?_getD, hj]
/-- Where the first answers, the second answers the same. -/
def LeO {α : Type} (a b : Option α) : Prop := ∀ r, a = some r → b = some r
theorem LeO.refl {α : Type} (a : Option α) : LeO a a := fun _ h => h
theorem LeO.none {α : Type} (b : Option α) : LeO Option.none b := fun _ h => by cases h
theorem LeO.trans {α : Type} {a b c : Option α} (h : LeO a b) (k : LeO b c) : LeO a c := fun r hr => k r (h r hr)
theorem LeO.ite {α : Type} {c : Prop} [Decidable c] {a a' b b' : Option α} (h : LeO a a') (k : LeO b b') : LeO (if c then a else b) (if c then a' else b') := by
  split
  · exact h
  · exact k
theorem LeO.bind {α β : Type} {a a' : Option α} {f f' : α → Option β} (h : LeO a a') (k : ∀ x, LeO (f x) (f' x)) : LeO (a.bind f) (a'.bind f') := by
  intro r hr
  obtain ⟨x, hx, hf⟩ := Option.bind_eq_some_iff.1 hr
  exact Option.bind_eq_some_iff.2 ⟨x, h x hx, k x r hf⟩
theorem LeO.map {α β : Type} {a a' : Option α} (f : α → β) (h : LeO a a') : LeO (a.map f) (a'.map f) := by
  intro r hr
  obtain ⟨x, hx, hf⟩ := Option.map_eq_some_iff.1 hr
  exact Option.map_eq_some_iff.2 ⟨x, h x hx, hf⟩
theorem more_rounds {α : Type} {g : Nat → Option α} (h : ∀ k, LeO (g k) (g (k + 1))) (k : Nat) : ∀ j, LeO (g k) (g (k + j))
  | 0 => LeO.refl _
  | j + 1 => (more_rounds h k j).trans (h (k + j))
theorem at_rounds {α : Type} {g : Nat → Option α} (h : ∀ k, LeO (g k) (g (k + 1))) {k k' : Nat} (hk : k ≤ k') {r : α} (hr : g k = some r) : g k' = some r := by
  have := more_rounds h k (k' - k) r hr
  rwa [Nat.add_sub_cancel' hk] at this
def Reps {α : Type} (R : α → List Value → Prop) (size : Nat) (ps : List α) (cs : List Value) : Prop :=
  cs.length = ps.length * size ∧ ∀ j p, ps[j]? = some p → R p ((cs.drop (j * size)).take size)
theorem Reps.none {α : Type} (R : α → List Value → Prop) (size : Nat) : Reps R size [] [] := ⟨by simp, fun j p h => by simp at h⟩
theorem Reps.snoc {α : Type} {R : α → List Value → Prop} {size : Nat} {ps : List α} {cs c : List Value} {p : α} (h : Reps R size ps cs) (hp : R p c) (hc : c.length = size) : Reps R size (ps ++ [p]) (cs ++ c) := by
  refine ⟨by rw [List.length_append, h.1, hc, List.length_append, List.length_singleton, Nat.add_mul, Nat.one_mul], fun j q hq => ?_⟩
  rcases Nat.lt_or_ge j ps.length with hj | hj
  · rw [List.getElem?_append_left hj] at hq
    have h1 : j * size + size ≤ cs.length := by rw [h.1, ← Nat.succ_mul]; exact Nat.mul_le_mul_right _ hj
    have h2 := h.2 j q hq
    rw [List.drop_append_of_le_length (by omega), List.take_append_of_le_length (by rw [List.length_drop]; omega)]
    exact h2
  · have hj' : j = ps.length := by
      have := (List.getElem?_eq_some_iff.1 hq).1
      rw [List.length_append, List.length_singleton] at this
      omega
    subst hj'
    have hq' : p = q := by simpa using hq
    subst hq'
    rw [← h.1, List.drop_left, ← hc, List.take_length]
    exact hp
theorem Reps.imp_ {α : Type} {R R' : α → List Value → Prop} {size : Nat} {ps : List α} {cs : List Value} (h : Reps R size ps cs) (hR : ∀ p c, R p c → R' p c) : Reps R' size ps cs := ⟨h.1, fun j p hj => hR _ _ (h.2 j p hj)⟩
def ReadsRow {α : Type} (R : α → List Value → Prop) (size : Nat) (w : World) (A : Option Addr) (n : Nat) (ps : List α) : Prop :=
  ps.length = n ∧ n ≤ 9223372036854775807 ∧ (0 < n → ∃ ad, A = some ad ∧ ∀ j p, ps[j]? = some p → ∃ c, c.length = size ∧ R p c ∧ ∀ i u, c[i]? = some u → w.cell? (ad.add (j * size + i)) = some u)
theorem ReadsRow.imp_ {α : Type} {R R' : α → List Value → Prop} {size : Nat} {w w1 : World} {A : Option Addr} {n : Nat} {ps : List α} (h : ReadsRow R size w A n ps) (hb : Below w.heap.size w w1) (hR : ∀ p c, R p c → R' p c) : ReadsRow R' size w1 A n ps :=
  ⟨h.1, h.2.1, fun hn => by
    obtain ⟨ad, e, hc⟩ := h.2.2 hn
    refine ⟨ad, e, fun j p hj => ?_⟩
    obtain ⟨c, hs, hr, hcell⟩ := hc j p hj
    exact ⟨c, hs, hR _ _ hr, fun i u hu => pw_cell_below hb (hcell i u hu)⟩⟩
theorem own_reads_row {α : Type} {R : α → List Value → Prop} {w : World} {base n size : Nat} {e : TypeId} {v : Value} {ps : List α} {cs : List Value} (h : w.ownsRow base e size v n cs) (hR : Reps R size ps cs) (hn : ps.length = n) :
    ∃ A c, v = .slice A n c ∧ ReadsRow R size w A n ps := by
  rcases Nat.eq_zero_or_pos n with h0 | h0
  · rcases h.2 with ⟨rfl, rfl⟩ | ⟨g, cap, cur, rfl, _⟩
    · exact ⟨none, 0, rfl, hn, by omega, fun hp => absurd hp (by omega)⟩
    · exact ⟨_, cap, rfl, hn, by omega, fun hp => absurd hp (by omega)⟩
  · obtain ⟨g, cap, rfl, _, _⟩ := h.form h0
    have hm : n ≤ 9223372036854775807 := by
      rcases h.2 with ⟨_, h1⟩ | ⟨g', cap', cur, he, _, _, h1, h2, _⟩
      · omega
      · simp only [maxLen] at h2
        omega
    refine ⟨_, cap, rfl, hn, hm, fun _ => ⟨_, rfl, fun j p hj => ⟨(cs.drop (j * size)).take size, ?_, hR.2 j p hj, fun i u hu => ?_⟩⟩⟩
    · have hjl := (List.getElem?_eq_some_iff.1 hj).1
      have h1 : j * size + size ≤ cs.length := by rw [hR.1, ← Nat.succ_mul]; exact Nat.mul_le_mul_right _ hjl
      rw [List.length_take, List.length_drop]
      omega
    · refine h.cells (g := g) rfl _ u ?_
      rw [List.getElem?_take] at hu
      split at hu
      · rw [List.getElem?_drop] at hu
        exact hu
      · cases hu
section
variable {P : Program} {ops : Array Oper} {rest : List Oper} {o : Oper} {a : Act} {Q : Exit → Act → World → Prop}
/-- append(v, x), x of several cells; behind 'at_builtin'; the goal's world is 'W.alloc' of the variadic's box. -/
theorem print_append_cells {w0 W : World} (base : Nat) (hgd : o.guard = none) (s x : Operand) (t e : TypeId) (z : Value) (size bytes : Nat)
    (ho : o.op = .call { callee := .builtin .append, args := #[s, x], argTypes := #[t, t] })
    (ht : P.underlying t = some (.slice e)) (hinfo : (P.info? e).map (fun i => (i.zero, i.size, i.bytes)) = some (some z, size, bytes)) (hz : z.cells.size = size) (hs0 : 0 < size) (hb0 : 0 < bytes)
    (v : Value) (n : Nat) (xs ys : List Value) (hs : a.eval s = v) (hx : a.eval x = .slice (some ⟨W.heap.size, 0, none⟩) 1 1) (hys : ys.length = size) (h1 : ∀ u ∈ ys, u.oneCell' = true)
    (HO : W.ownsRow base e size v n xs) (HB : Below base w0 W) (hbase : base ≤ W.heap.size) (hl : (n + 1) * bytes ≤ 140737488355328)
    (h : ∀ v1 w1, w1.ownsRow base e size v1 (n + 1) (xs ++ ys) → Below base w0 w1 → W.grownBy w1 v.ownBlock → (v1.ownBlock = v.ownBlock ∨ ∃ b, v1.ownBlock = some b ∧ W.heap.size ≤ b) → wpList P ops Q rest (a.put o.dst v1) w1) :
    wpList P ops Q (o :: rest) a (W.alloc (.cells ys.toArray e)) := by
  obtain ⟨i0, hi, hzz⟩ := Option.map_eq_some_iff.1 hinfo
  simp only [Prod.mk.injEq] at hzz
  obtain ⟨hz0, hz1, hz2⟩ := hzz
  have hlen : n + 1 ≤ 140737488355328 := Nat.le_trans (Nat.le_mul_of_pos_right _ hb0) hl
  refine wpList_append_own_at (W.alloc (.cells ys.toArray e)) hgd s x t ho base e i0 z size bytes ht hi hz0 hz1 hz2 hz hs0 v n xs hs (HO.alloc _) ⟨W.heap.size, 0, none⟩ 1 1 ys hx (by rw [hys]; simp)
    (by simpa using World.news_of_block (cs := ys.toArray) (t := e) (fr := (0, 0)) (heap_alloc_new W (.cells ys.toArray e))) h1 (by simp only [maxLen]; omega) hl (by simp; omega) ?_
  intro v1 w1 hown hg _ hat
  refine h v1 w1 hown ((HB.alloc hbase _).grown hg (by simp; omega) (own_base HO)) (World.grownBy.trans (World.grownBy_alloc W _ _) hg) ?_
  rcases hat with hat | hat
  · exact .inl hat
  · exact .inr ⟨_, hat, by simp⟩
end
theorem own_ne {w : World} {base : Nat} {e t : TypeId} {size n g : Nat} {v : Value} {xs : List Value} {cs : Array Value} (h : w.ownsRow base e size v n xs) (hg : w.heap[g]? = some (.cells cs t (0, 0))) (hne : e ≠ t) : some g ≠ v.ownBlock := by
  rcases h.2 with ⟨rfl, _⟩ | ⟨g', cap, cur, rfl, _, hh, _⟩
  · simp [Value.ownBlock]
  · intro he
    have : g = g' := by simpa [Value.ownBlock] using he
    subst this
    rw [hg] at hh
    injection hh with hh
    injection hh with _ ht
    exact hne ht.symm
theorem blk_set {w : World} {g : Nat} {t : TypeId} {cs : Array Value} (h : w.heap[g]? = some (.cells cs t (0, 0))) (i : Nat) (u : Value) : (w.setCell ⟨g, i, none⟩ u).heap[g]? = some (.cells (cs.setIfInBounds i u) t (0, 0)) := by
  simp [World.setCell, Array.getElem?_modify, h]
theorem blk_far {w : World} {g : Nat} {t : TypeId} {cs : Array Value} (h : w.heap[g]? = some (.cells cs t (0, 0))) {p : Addr} (hp : g ≠ p.block) (u : Value) : (w.setCell p u).heap[g]? = some (.cells cs t (0, 0)) := (Below.heap_setCell w p u g hp).trans h
theorem blk_lt {w : World} {g : Nat} {o : Obj} (h : w.heap[g]? = some o) : g < w.heap.size := (Array.getElem?_eq_some_iff.1 h).1
theorem blk_cell {w : World} {g : Nat} {t : TypeId} {cs : Array Value} (h : w.heap[g]? = some (.cells cs t (0, 0))) (i : Nat) : w.cell? ⟨g, i, none⟩ = cs[i]? := cell_of_row w g i cs t (0, 0) h
theorem blk_frozen {w : World} {g : Nat} {t : TypeId} {cs : Array Value} (h : w.heap[g]? = some (.cells cs t (0, 0))) (i : Nat) : w.frozen? ⟨g, i, none⟩ = false := by simp [World.frozen?, h]
theorem blk_grown {w w1 : World} {g : Nat} {o : Obj} {row : Option Nat} (h : w.heap[g]? = some o) (hg : w.grownBy w1 row) (hne : some g ≠ row) : w1.heap[g]? = some o := (hg.block g (blk_lt h) hne).trans h
def KeepBut (w w' : World) (g : Nat) (row : Option Nat) : Prop := w.heap.size ≤ w'.heap.size ∧ ∀ i, i < w.heap.size → i ≠ g → some i ≠ row → w'.heap[i]? = w.heap[i]?
theorem KeepBut.refl (w : World) (g : Nat) (row : Option Nat) : KeepBut w w g row := ⟨Nat.le_refl _, fun _ _ _ _ => rfl⟩
theorem KeepBut.of_below {w w1 : World} (h : Below w.heap.size w w1) (g : Nat) (row : Option Nat) : KeepBut w w1 g row := ⟨h.size, fun i hi _ _ => h.block i hi⟩
theorem KeepBut.trans {w w1 w2 : World} {g : Nat} {row row1 : Option Nat} (h : KeepBut w w1 g row) (k : KeepBut w1 w2 g row1) (hr : row1 = row ∨ ∃ b, row1 = some b ∧ w.heap.size ≤ b) : KeepBut w w2 g row :=
  ⟨Nat.le_trans h.1 k.1, fun i hi hg hn => by
    refine (k.2 i (Nat.lt_of_lt_of_le hi h.1) hg ?_).trans (h.2 i hi hg hn)
    rcases hr with rfl | ⟨b, rfl, hb⟩
    · exact hn
    · intro e
      injection e with e
      omega⟩
/-- Another block, another row: they live on. -/
theorem KeepBut.blk {w w1 : World} {g g' : Nat} {row : Option Nat} {o : Obj} (h : KeepBut w w1 g row) (hb : w.heap[g']? = some o) (hg : g' ≠ g) (hr : some g' ≠ row) : w1.heap[g']? = some o := (h.2 g' (blk_lt hb) hg hr).trans hb
theorem KeepBut.own {w w1 : World} {g : Nat} {row : Option Nat} {base : Nat} {e : TypeId} {size n : Nat} {v : Value} {xs : List Value} (h : KeepBut w w1 g row) (ho : w.ownsRow base e size v n xs) (hg : v.ownBlock ≠ some g) (hr : v.ownBlock = none ∨ v.ownBlock ≠ row) : w1.ownsRow base e size v n xs := by
  obtain ⟨h1, h2⟩ := ho
  refine ⟨h1, ?_⟩
  rcases h2 with h2 | ⟨b, cap, cur, rfl, hb, hh, r⟩
  · exact .inl h2
  · refine .inr ⟨b, cap, cur, rfl, hb, h.blk hh ?_ ?_, r⟩
    · intro e
      exact hg (by rw [← e]; rfl)
    · rcases hr with hr | hr
      · simp [Value.ownBlock] at hr
      · exact hr
def Ev {α : Type} (g : Nat → Option α) (r : α) : Prop := ∃ K, ∀ k, K ≤ k → g k = some r
theorem Ev.bind {α β : Type} {g : Nat → Option α} {f : Nat → α → Option β} {a : α} {r : β} (h : Ev g a) (k : Ev (fun n => f n a) r) : Ev (fun n => (g n).bind (f n)) r := by
  obtain ⟨K, h⟩ := h
  obtain ⟨K', k⟩ := k
  refine ⟨max K K', fun n hn => ?_⟩
  have h1 := h n (by omega)
  have h2 := k n (by omega)
  simp only [h1, Option.bind_some]
  exact h2
/-- One round of a loop. -/
theorem Ev.step {α : Type} {g f : Nat → Option α} {r : α} (h : ∀ k, g (k + 1) = f k) (k : Ev f r) : Ev g r := by
  obtain ⟨K, k⟩ := k
  refine ⟨K + 1, fun n hn => ?_⟩
  obtain ⟨m, rfl⟩ : ∃ m, n = m + 1 := ⟨n - 1, by omega⟩
  rw [h]
  exact k m (by omega)
theorem Ev.congr {α : Type} {g f : Nat → Option α} {r : α} (h : ∀ k, g k = f k) (k : Ev f r) : Ev g r := by
  obtain ⟨K, k⟩ := k
  exact ⟨K, fun n hn => (h n).trans (k n hn)⟩
theorem own_weaken {w : World} {base base' : Nat} {e : TypeId} {size n : Nat} {v : Value} {xs : List Value} (h : w.ownsRow base e size v n xs) (hb : base' ≤ base) : w.ownsRow base' e size v n xs := by
  obtain ⟨h1, h2⟩ := h
  refine ⟨h1, ?_⟩
  rcases h2 with h2 | ⟨g, cap, cur, rfl, hg, r⟩
  · exact .inl h2
  · exact .inr ⟨g, cap, cur, rfl, Nat.le_trans hb hg, r⟩
section
variable {α : Type} {enc : α → Value} {d : α}
def encs (enc : α → Value) (xs : List α) : List Value := xs.map enc
def rdOf (d : α) (xs : List α) (i : Int) : α := xs.getD i.toNat d
theorem encs_length (xs : List α) : (encs enc xs).length = xs.length := by simp [encs]
def ReadsOf (enc : α → Value) (d : α) (w : World) (A : Option Addr) (n : Nat) (xs : List α) : Prop :=
  xs.length = n ∧ n ≤ 9223372036854775807 ∧ (0 < n → ∃ ad, A = some ad ∧ ∀ j, j < n → w.cell? (ad.add j) = some (enc (xs.getD j d)))
theorem ReadsOf.at_ {w : World} {A : Option Addr} {n : Nat} {xs : List α} (h : ReadsOf enc d w A n xs) (i : Int) (h0 : 0 ≤ i) (h1 : i < n) : ∃ ad, A = some ad ∧ w.cell? (ad.add i.toNat) = some (enc (rdOf d xs i)) := by
  obtain ⟨ad, e, hc⟩ := h.2.2 (by omega)
  exact ⟨ad, e, hc _ (by omega)⟩
theorem ReadsOf.below {w w1 : World} {A : Option Addr} {n : Nat} {xs : List α} (h : ReadsOf enc d w A n xs) (hb : Below w.heap.size w w1) : ReadsOf enc d w1 A n xs :=
  ⟨h.1, h.2.1, fun hn => by
    obtain ⟨ad, e, hc⟩ := h.2.2 hn
    exact ⟨ad, e, fun j hj => pw_cell_below hb (hc j hj)⟩⟩
theorem ReadsOf.take_ {w : World} {A : Option Addr} {n : Nat} {xs : List α} (h : ReadsOf enc d w A n xs) (i : Nat) (hi : i ≤ n) : ReadsOf enc d w A i (xs.take i) := by
  refine ⟨by rw [List.length_take, h.1]; omega, by have := h.2.1; omega, fun hp => ?_⟩
  obtain ⟨ad, e, hc⟩ := h.2.2 (by omega)
  refine ⟨ad, e, fun j hj => ?_⟩
  rw [hc j (by omega)]
  simp [List.getD_eq_getElem?_getD, hj]
end
theorem blk_alloc {w : World} {g : Nat} {o : Obj} (h : w.heap[g]? = some o) (o' : Obj) : (w.alloc o').heap[g]? = some o := (Below.heap_alloc w o' g (blk_lt h)).trans h
theorem blk_drew {w : World} {g : Nat} {o : Obj} (h : w.heap[g]? = some o) : w.drew.heap[g]? = some o := h
theorem blk_drewN {w : World} {g : Nat} {o : Obj} (h : w.heap[g]? = some o) (n : Nat) : (w.drewN n).heap[g]? = some o := h
theorem blk_below {w w1 : World} {g : Nat} {o : Obj} (h : w.heap[g]? = some o) (hb : Below w.heap.size w w1) : w1.heap[g]? = some o := (hb.block g (blk_lt h)).trans h
theorem blk_new (w : World) (o : Obj) : (w.alloc o).heap[w.heap.size]? = some o := heap_alloc_new w o
section
variable {P : Program}
theorem results_ct {fn : Func} {p u : Tmp} {ty : TypeId} (h : fn.results = #[.cell p ty, .tmp u]) (tmps : Array Value) (w : World) (g : Nat) (t : TypeId) (cs : Array Value) (fr : Nat × Nat) (d : TypeDesc)
    (hp : tmps.getD p undef = .pointer (some ⟨g, 0, none⟩)) (hg : w.heap[g]? = some (.cells cs t fr))
    (hu : P.underlying ty = some d) (hd : (match d with | .struct _ | .array _ _ => true | _ => false) = true) (hi : (P.info? ty).map (·.size) = some cs.size) :
    (results fn tmps).run P w = .ok (.tuple #[.agg cs, tmps.getD u undef]) w := by
  have hp' : tmps[p]?.getD undef = .pointer (some ⟨g, 0, none⟩) := by simpa using hp
  simp [results, h, hp', asAddr, run_loadVar_row w g t ty cs fr d hg hu hd hi]
end
theorem own_le {w : World} {base n m c size : Nat} {e : TypeId} {A : Option Addr} {xs : List Value} (h : w.ownsRow base e size (.slice A m c) n xs) : m ≤ c := by
  rcases h.2 with ⟨he, _⟩ | ⟨g, cap, cur, he, _, _, hnc, _⟩
  · injection he with _ h2 h3
    omega
  · injection he with _ h2 h3
    omega
def OwnRow {α : Type} (R : α → List Value → Prop) (e : TypeId) (size : Nat) (w : World) (base : Nat) (v : Value) (ps : List α) : Prop :=
  ∃ inner, w.ownsRow base e size v ps.length inner ∧ Reps R size ps inner
section
variable {α : Type} {R R' : α → List Value → Prop} {e : TypeId} {size : Nat} {w w1 : World} {base : Nat} {v : Value} {ps : List α}
theorem OwnRow.imp_ (h : OwnRow R e size w base v ps) (hR : ∀ p c, R p c → R' p c) : OwnRow R' e size w base v ps := by
  obtain ⟨inner, ho, hr⟩ := h
  exact ⟨inner, ho, hr.imp_ hR⟩
theorem OwnRow.below (h : OwnRow R e size w base v ps) (hb : Below w.heap.size w w1) : OwnRow R e size w1 base v ps := by
  obtain ⟨inner, ho, hr⟩ := h
  exact ⟨inner, pw_own_below ho hb, hr⟩
theorem OwnRow.reads (h : OwnRow R e size w base v ps) : ∃ A c, v = .slice A ps.length c ∧ ps.length ≤ c ∧ ReadsRow R size w A ps.length ps := by
  obtain ⟨inner, ho, hr⟩ := h
  obtain ⟨A, c, rfl, hrow⟩ := own_reads_row ho hr rfl
  exact ⟨A, c, rfl, own_le ho, hrow⟩
theorem OwnRow.ne_block (h : OwnRow R e size w base v ps) {g : Nat} {t : TypeId} {cells : Array Value} (hb : w.heap[g]? = some (.cells cells t (0, 0))) (ht : e ≠ t) : some g ≠ v.ownBlock := by
  obtain ⟨inner, ho, hr⟩ := h
  exact own_ne ho hb ht
/-- A literal: the elements' cells one behind the other. -/
theorem OwnRow.lit (W : World) (base : Nat) {inner : List Value} (hr : Reps R size ps inner) (hb : base ≤ W.heap.size) (hm : ps.length ≤ 9223372036854775807) :
    OwnRow R e size (W.alloc (.cells inner.toArray e)) base (.slice (some ⟨W.heap.size, 0, none⟩) ps.length ps.length) ps := by
  have h := World.ownsRow_lit (base := base) (e := e) (size := size) W inner.toArray ps.length hb (by simpa [maxLen] using hm) (by simpa using hr.1)
  exact ⟨inner, by simpa using h, hr⟩
end
section
variable {P : Program} {ops : Array Oper} {rest : List Oper} {o : Oper} {a : Act} {Q : Exit → Act → World → Prop} {α : Type} {R : α → List Value → Prop}
/-- append(v, x): x's cells are cs. R is that of the world AHEAD; move it over hg ('OwnRow.imp_'). -/
theorem OwnRow.append {w0 W : World} (base : Nat) (hgd : o.guard = none) (s x : Operand) (t e : TypeId) (z : Value) (size bytes : Nat)
    (ho : o.op = .call { callee := .builtin .append, args := #[s, x], argTypes := #[t, t] })
    (ht : P.underlying t = some (.slice e)) (hinfo : (P.info? e).map (fun i => (i.zero, i.size, i.bytes)) = some (some z, size, bytes)) (hz : z.cells.size = size) (hs0 : 0 < size) (hb0 : 0 < bytes)
    (v : Value) (ps : List α) (p : α) (cs : List Value) (hs : a.eval s = v) (hx : a.eval x = .slice (some ⟨W.heap.size, 0, none⟩) 1 1) (hp : R p cs) (hcs : cs.length = size) (h1 : ∀ u ∈ cs, u.oneCell' = true)
    (HO : OwnRow R e size W base v ps) (HB : Below base w0 W) (hbase : base ≤ W.heap.size) (hl : (ps.length + 1) * bytes ≤ 140737488355328)
    (h : ∀ v1 w1, OwnRow R e size w1 base v1 (ps ++ [p]) → Below base w0 w1 → W.grownBy w1 v.ownBlock → (v1.ownBlock = v.ownBlock ∨ ∃ b, v1.ownBlock = some b ∧ W.heap.size ≤ b) → wpList P ops Q rest (a.put o.dst v1) w1) :
    wpList P ops Q (o :: rest) a (W.alloc (.cells cs.toArray e)) := by
  obtain ⟨inner, hown, hr⟩ := HO
  refine print_append_cells base hgd s x t e z size bytes ho ht hinfo hz hs0 hb0 v ps.length inner cs hs hx hcs h1 hown HB hbase hl ?_
  intro v1 w1 hown1 hb1 hg1 hat1
  exact h v1 w1 ⟨inner ++ cs, by rw [List.length_append, List.length_singleton]; exact hown1, hr.snoc hp hcs⟩ hb1 hg1 hat1
end
/-- ok: which blocks the rows inside may be ('not the row that is being written'). -/
structure Kd (α : Type) where
  sz : Nat
  E : List Nat
  K : World → α → List Value → Prop
  M : World → Nat → (Nat → Prop) → α → List Value → Prop
  K_len : ∀ {w x cs}, K w x cs → cs.length = sz
  K_one : ∀ {w x cs}, K w x cs → ∀ u ∈ cs, u.oneCell' = true
  K_below : ∀ {w w1 : World} {x cs}, Below w.heap.size w w1 → K w x cs → K w1 x cs
  K_of_M : ∀ {w base ok x cs}, M w base ok x cs → K w x cs
  M_mono : ∀ {w base ok ok' x cs}, (∀ k, ok k → ok' k) → M w base ok x cs → M w base ok' x cs
  M_bound : ∀ {w : World} {base ok x cs}, M w base ok x cs → M w base (fun k => ok k ∧ base ≤ k ∧ k < w.heap.size ∧ ∃ q, q ∈ E ∧ ∃ cells, w.heap[k]? = some (.cells cells q (0, 0))) x cs
  M_move : ∀ {w w1 : World} {base ok x cs}, (∀ k, ok k → w1.heap[k]? = w.heap[k]?) → M w base ok x cs → M w1 base ok x cs
  M_lower : ∀ {w base base' ok x cs}, base' ≤ base → M w base ok x cs → M w base' ok x cs
theorem own_move {w w1 : World} {base : Nat} {e : TypeId} {size n : Nat} {v : Value} {xs : List Value} (h : w.ownsRow base e size v n xs) (hm : ∀ k, v.ownBlock = some k → w1.heap[k]? = w.heap[k]?) : w1.ownsRow base e size v n xs := by
  obtain ⟨h1, h2⟩ := h
  refine ⟨h1, ?_⟩
  rcases h2 with h2 | ⟨g, cap, cur, rfl, hg, hh, r⟩
  · exact .inl h2
  · exact .inr ⟨g, cap, cur, rfl, hg, (hm g (by simp [Value.ownBlock])).trans hh, r⟩
theorem own_typed {w : World} {base : Nat} {e : TypeId} {size n : Nat} {v : Value} {xs : List Value} (h : w.ownsRow base e size v n xs) (k : Nat) (hk : v.ownBlock = some k) : ∃ cells, w.heap[k]? = some (.cells cells e (0, 0)) := by
  rcases h.2 with ⟨rfl, _⟩ | ⟨g, cap, cur, rfl, hg, hh, r⟩
  · simp [Value.ownBlock] at hk
  · have : g = k := by simpa [Value.ownBlock] using hk
    subst this
    exact ⟨cur, hh⟩
namespace Kd
/-- A row of elements that is read. -/
def C {α : Type} (d : Kd α) (w : World) (A : Option Addr) (n : Nat) (xs : List α) : Prop := ReadsRow (d.K w) d.sz w A n xs
/-- A row of elements (type e) of the call's own; the elements' rows are not this one. -/
def R {α : Type} (d : Kd α) (e : Nat) (w : World) (base : Nat) (ok : Nat → Prop) (v : Value) (xs : List α) : Prop :=
  (∀ k, v.ownBlock = some k → ok k) ∧ OwnRow (d.M w base (fun k => ok k ∧ some k ≠ v.ownBlock)) e d.sz w base v xs
section
variable {α : Type} {d : Kd α} {e : Nat} {w w1 : World} {base : Nat} {ok ok' : Nat → Prop} {v : Value} {xs : List α}
theorem C_below {A : Option Addr} {n : Nat} (h : d.C w A n xs) (hb : Below w.heap.size w w1) : d.C w1 A n xs := ReadsRow.imp_ h hb (fun _ _ hp => d.K_below hb hp)
theorem R_mono (h : d.R e w base ok v xs) (hok : ∀ k, ok k → ok' k) : d.R e w base ok' v xs := ⟨fun k hk => hok k (h.1 k hk), h.2.imp_ (fun _ _ hp => d.M_mono (fun k hk => ⟨hok k hk.1, hk.2⟩) hp)⟩
theorem R_bound (h : d.R e w base ok v xs) : d.R e w base (fun k => ok k ∧ base ≤ k ∧ k < w.heap.size ∧ ∃ q, q ∈ e :: d.E ∧ ∃ cells, w.heap[k]? = some (.cells cells q (0, 0))) v xs := by
  obtain ⟨h0, inner, ho, hr⟩ := h
  refine ⟨fun k hk => ?_, inner, ho, hr.imp_ (fun _ _ hp => d.M_mono (fun k hk => ?_) (d.M_bound hp))⟩
  · obtain ⟨cells, hc⟩ := own_typed ho k hk
    exact ⟨h0 k hk, own_base ho k hk, own_lt ho k hk, e, List.mem_cons_self, cells, hc⟩
  · obtain ⟨⟨h1, h2⟩, h3, h4, q, hq, hc⟩ := hk
    exact ⟨⟨h1, h3, h4, q, List.mem_cons_of_mem _ hq, hc⟩, h2⟩
theorem R_move (h : d.R e w base ok v xs) (hm : ∀ k, ok k → w1.heap[k]? = w.heap[k]?) : d.R e w1 base ok v xs := by
  obtain ⟨h0, inner, ho, hr⟩ := h
  exact ⟨h0, inner, own_move ho (fun k hk => hm k (h0 k hk)), hr.imp_ (fun _ _ hp => d.M_move (fun k hk => hm k hk.1) hp)⟩
theorem R_lower {base' : Nat} (h : d.R e w base ok v xs) (hb : base' ≤ base) : d.R e w base' ok v xs := by
  obtain ⟨h0, inner, ho, hr⟩ := h
  exact ⟨h0, inner, own_weaken ho hb, hr.imp_ (fun _ _ hp => d.M_lower hb hp)⟩
/-- Any mover: what is ok, and a block of w's, stays. -/
theorem R_step (h : d.R e w base ok v xs) (hm : ∀ k, ok k → k < w.heap.size → w1.heap[k]? = w.heap[k]?) : d.R e w1 base ok v xs :=
  R_mono (R_move (R_bound h) (fun k hk => hm k hk.1 hk.2.2.1)) (fun _ hk => hk.1)
theorem M_step {x : α} {cs : List Value} (h : d.M w base ok x cs) (hm : ∀ k, ok k → k < w.heap.size → w1.heap[k]? = w.heap[k]?) : d.M w1 base ok x cs :=
  d.M_mono (fun _ hk => hk.1) (d.M_move (fun k hk => hm k hk.1 hk.2.2.1) (d.M_bound h))
theorem R_below (h : d.R e w base ok v xs) (hb : Below w.heap.size w w1) : d.R e w1 base ok v xs := R_step h (fun k _ hk => hb.block k hk)
theorem M_below {x : α} {cs : List Value} (h : d.M w base ok x cs) (hb : Below w.heap.size w w1) : d.M w1 base ok x cs := M_step h (fun k _ hk => hb.block k hk)
/-- A store into another block. -/
theorem R_far (h : d.R e w base ok v xs) {p : Addr} (hok : ∀ k, ok k → k ≠ p.block) (u : Value) : d.R e (w.setCell p u) base ok v xs := R_step h (fun k ho _ => Below.heap_setCell w p u k (hok k ho))
/-- By types alone: the rows inside are none of a block of type t. -/
theorem R_types (h : d.R e w base ok v xs) {g t : Nat} {cells : Array Value} (hb : w.heap[g]? = some (.cells cells t (0, 0))) (ht : ∀ q, q ∈ e :: d.E → q ≠ t) : d.R e w base (fun k => ok k ∧ k ≠ g) v xs :=
  R_mono (R_bound h) (fun k hk => ⟨hk.1, by
    obtain ⟨_, _, _, q, hq, cells', hc⟩ := hk
    rintro rfl
    rw [hc] at hb
    injection hb with hb
    injection hb with _ hb
    exact ht q hq hb⟩)
theorem R_reads (h : d.R e w base ok v xs) : ∃ A c, v = .slice A xs.length c ∧ xs.length ≤ c ∧ d.C w A xs.length xs := by
  obtain ⟨A, c, he, hl, hr⟩ := OwnRow.reads h.2
  exact ⟨A, c, he, hl, hr.imp_ (Below.refl _ _) (fun _ _ hp => d.K_of_M hp)⟩
theorem R_slice (h : d.R e w base ok v xs) : ∃ A c, v = .slice A xs.length c := by
  obtain ⟨A, c, he, _⟩ := R_reads h
  exact ⟨A, c, he⟩
theorem R_own (h : d.R e w base ok v xs) : ∃ inner, w.ownsRow base e d.sz v xs.length inner := by
  obtain ⟨_, inner, ho, _⟩ := h
  exact ⟨inner, ho⟩
theorem R_ne (h : d.R e w base ok v xs) {g t : Nat} {cells : Array Value} (hb : w.heap[g]? = some (.cells cells t (0, 0))) (ht : e ≠ t) : some g ≠ v.ownBlock := OwnRow.ne_block h.2 hb ht
end
def scalar {α : Type} (enc : α → Value) (h1 : ∀ x, (enc x).oneCell' = true) : Kd α where
  sz := 1
  E := []
  K := fun _ x cs => cs = [enc x]
  M := fun _ _ _ x cs => cs = [enc x]
  K_len := fun h => by rw [h]; rfl
  K_one := fun h u hu => by
    rw [h] at hu
    rw [List.mem_singleton.1 hu]
    exact h1 _
  K_below := fun _ h => h
  K_of_M := fun h => h
  M_mono := fun _ h => h
  M_bound := fun h => h
  M_move := fun _ h => h
  M_lower := fun _ h => h
def int (k : IntKind) : Kd Int := scalar (Value.int k) (fun _ => rfl)
def bool : Kd Bool := scalar Value.bool (fun _ => rfl)
def string : Kd ByteArray := scalar Value.string (fun _ => rfl)
def slice {α : Type} (e : Nat) (d : Kd α) : Kd (List α) where
  sz := 1
  E := e :: d.E
  K := fun w xs cs => ∃ A c, cs = [.slice A xs.length c] ∧ xs.length ≤ c ∧ d.C w A xs.length xs
  M := fun w base ok xs cs => ∃ v, cs = [v] ∧ d.R e w base ok v xs
  K_len := by
    rintro w x cs ⟨A, c, rfl, _⟩
    rfl
  K_one := by
    rintro w x cs ⟨A, c, rfl, _⟩ u hu
    rw [List.mem_singleton.1 hu]
    rfl
  K_below := by
    rintro w w1 x cs hb ⟨A, c, rfl, hl, hr⟩
    exact ⟨A, c, rfl, hl, C_below hr hb⟩
  K_of_M := by
    rintro w base ok x cs ⟨v, rfl, h⟩
    obtain ⟨A, c, rfl, hl, hr⟩ := R_reads h
    exact ⟨A, c, rfl, hl, hr⟩
  M_mono := by
    rintro w base ok ok' x cs hok ⟨v, rfl, h⟩
    exact ⟨v, rfl, R_mono h hok⟩
  M_bound := by
    rintro w base ok x cs ⟨v, rfl, h⟩
    exact ⟨v, rfl, R_bound h⟩
  M_move := by
    rintro w w1 base ok x cs hm ⟨v, rfl, h⟩
    exact ⟨v, rfl, R_move h hm⟩
  M_lower := by
    rintro w base base' ok x cs hb ⟨v, rfl, h⟩
    exact ⟨v, rfl, R_lower h hb⟩
/-- What an append leaves: the old elements' rows and the new one's are not the new row's block. -/
theorem R_appended {α : Type} {d : Kd α} {e base : Nat} {ok okp : Nat → Prop} {W w1 : World} {v v1 : Value} {xs : List α} {p : α} {inner cs : List Value} (h0 : ∀ k, v.ownBlock = some k → ok k) (hr : Reps (d.M W base (fun k => ok k ∧ some k ≠ v.ownBlock)) d.sz xs inner) (hp : d.M W base okp p cs) (hokp : ∀ k, okp k → ok k ∧ some k ≠ v.ownBlock) (hfresh : ∀ k, W.heap.size ≤ k → ok k)
    (hown : w1.ownsRow base e d.sz v1 (xs.length + 1) (inner ++ cs)) (hg : W.grownBy w1 v.ownBlock) (hat : v1.ownBlock = v.ownBlock ∨ ∃ b, v1.ownBlock = some b ∧ W.heap.size ≤ b) : d.R e w1 base ok v1 (xs ++ [p]) := by
  have hne : ∀ k, some k ≠ v.ownBlock → k < W.heap.size → some k ≠ v1.ownBlock := by
    intro k hk hlt
    rcases hat with hat | ⟨b, hb, hle⟩
    · rw [hat]; exact hk
    · rw [hb]
      intro he
      injection he with he
      omega
  have step : ∀ {q : α} {c : List Value} {o : Nat → Prop}, d.M W base o q c → (∀ k, o k → ok k ∧ some k ≠ v.ownBlock) → d.M w1 base (fun k => ok k ∧ some k ≠ v1.ownBlock) q c := by
    intro q c o hq ho
    have h1 := d.M_move (w1 := w1) (fun k hk => hg.block k hk.2.2.1 (ho k hk.1).2) (d.M_bound hq)
    exact d.M_mono (fun k hk => ⟨(ho k hk.1).1, hne k (ho k hk.1).2 hk.2.2.1⟩) h1
  refine ⟨fun k hk => ?_, inner ++ cs, by rw [List.length_append, List.length_singleton]; exact hown, ?_⟩
  · rcases hat with hat | ⟨b, hb, hle⟩
    · exact h0 k (hat ▸ hk)
    · rw [hb] at hk
      injection hk with hk
      exact hfresh k (by omega)
  · exact (hr.imp_ (fun _ _ hq => step hq (fun _ hk => hk))).snoc (step hp hokp) (d.K_len (d.K_of_M hp))
section
variable {P : Program} {ops : Array Oper} {rest : List Oper} {o : Oper} {a : Act} {Q : Exit → Act → World → Prop} {α : Type}
/-- append(v, x), behind 'at_builtin'; the goal's world is 'W.alloc' of the variadic's box; x's cells are cs, made (its rows satisfy okp). hfresh: a block that is new at W is ok. -/
theorem R_append (d : Kd α) {w0 W : World} (base : Nat) (hgd : o.guard = none) (s x : Operand) (t e : TypeId) (z : Value) (bytes : Nat)
    (ho : o.op = .call { callee := .builtin .append, args := #[s, x], argTypes := #[t, t] })
    (ht : P.underlying t = some (.slice e)) (hinfo : (P.info? e).map (fun i => (i.zero, i.size, i.bytes)) = some (some z, d.sz, bytes)) (hz : z.cells.size = d.sz) (hs0 : 0 < d.sz) (hb0 : 0 < bytes)
    (v : Value) (xs : List α) (p : α) (cs : List Value) (ok okp : Nat → Prop) (hs : a.eval s = v) (hx : a.eval x = .slice (some ⟨W.heap.size, 0, none⟩) 1 1) (hp : d.M W base okp p cs) (hokp : ∀ k, okp k → ok k ∧ some k ≠ v.ownBlock) (hfresh : ∀ k, W.heap.size ≤ k → ok k)
    (HO : d.R e W base ok v xs) (HB : Below base w0 W) (hbase : base ≤ W.heap.size) (hl : (xs.length + 1) * bytes ≤ 140737488355328)
    (h : ∀ v1 w1, d.R e w1 base ok v1 (xs ++ [p]) → Below base w0 w1 → W.grownBy w1 v.ownBlock → (v1.ownBlock = v.ownBlock ∨ ∃ b, v1.ownBlock = some b ∧ W.heap.size ≤ b) → wpList P ops Q rest (a.put o.dst v1) w1) :
    wpList P ops Q (o :: rest) a (W.alloc (.cells cs.toArray e)) := by
  obtain ⟨h0, inner, hown, hr⟩ := HO
  refine print_append_cells base hgd s x t e z d.sz bytes ho ht hinfo hz hs0 hb0 v xs.length inner cs hs hx (d.K_len (d.K_of_M hp)) (d.K_one (d.K_of_M hp)) hown HB hbase hl ?_
  intro v1 w1 hown1 hb1 hg1 hat1
  exact h v1 w1 (R_appended h0 hr hp hokp hfresh hown1 hg1 hat1) hb1 hg1 hat1
end
/-- A row of scalars is the elder form. -/
theorem reps_scalar {α : Type} {enc : α → Value} (xs : List α) : Reps (fun (x : α) (cs : List Value) => cs = [enc x]) 1 xs (encs enc xs) := by
  refine ⟨by simp [encs], fun j p hj => ?_⟩
  obtain ⟨hl, hp⟩ := List.getElem?_eq_some_iff.1 hj
  have hl' : j < (encs enc xs).length := by rw [encs_length]; exact hl
  rw [Nat.mul_one, List.drop_eq_getElem_cons hl']
  simp [encs, hp]
theorem R_of_own {α : Type} {enc : α → Value} {h1 : ∀ x, (enc x).oneCell' = true} {e : Nat} {w : World} {base : Nat} {ok : Nat → Prop} {v : Value} {xs : List α} (ho : w.ownsRow base e 1 v xs.length (encs enc xs)) (hok : ∀ k, v.ownBlock = some k → ok k) : (scalar enc h1).R e w base ok v xs := ⟨hok, encs enc xs, ho, reps_scalar xs⟩
theorem reads_of_C {α : Type} {enc : α → Value} {d : α} {h1 : ∀ x, (enc x).oneCell' = true} {w : World} {A : Option Addr} {n : Nat} {xs : List α} (h : (scalar enc h1).C w A n xs) : ReadsOf enc d w A n xs := by
  refine ⟨h.1, h.2.1, fun hn => ?_⟩
  obtain ⟨ad, e, hc⟩ := h.2.2 hn
  refine ⟨ad, e, fun j hj => ?_⟩
  have hl : j < xs.length := by have := h.1; omega
  obtain ⟨c, _, hK, hcell⟩ := hc j _ (List.getElem?_eq_getElem hl)
  have hK' : c = [enc xs[j]] := hK
  subst hK'
  have := hcell 0 _ rfl
  simpa [scalar, List.getD_eq_getElem?_getD, List.getElem?_eq_getElem hl] using this
end Kd
namespace Kd
section
variable {α β : Type} {d : Kd α} {d' : Kd β} {e e' : Nat} {w w1 W : World} {base b b' : Nat} {ok ok' okv oku : Nat → Prop} {v u : Value} {xs : List α} {ys : List β}
theorem R_alloc (h : d.R e w base ok v xs) (o : Obj) : d.R e (w.alloc o) base ok v xs := R_below h (below_alloc (Below.refl _ _) o)
theorem R_drew (h : d.R e w base ok v xs) : d.R e w.drew base ok v xs := R_below h (below_drew (Below.refl _ _))
theorem R_drewN (h : d.R e w base ok v xs) (m : Nat) : d.R e (w.drewN m) base ok v xs := R_below h (pw_below_drewN (Below.refl _ _) m)
theorem C_alloc {A : Option Addr} {n : Nat} (h : d.C w A n xs) (o : Obj) : d.C (w.alloc o) A n xs := C_below h (below_alloc (Below.refl _ _) o)
theorem C_drew {A : Option Addr} {n : Nat} (h : d.C w A n xs) : d.C w.drew A n xs := C_below h (below_drew (Below.refl _ _))
theorem C_drewN {A : Option Addr} {n : Nat} (h : d.C w A n xs) (m : Nat) : d.C (w.drewN m) A n xs := C_below h (pw_below_drewN (Below.refl _ _) m)
theorem R_reads' {A : Option Addr} {n c : Nat} (h : d.R e w base ok (.slice A n c) xs) : n = xs.length ∧ n ≤ c ∧ d.C w A xs.length xs := by
  obtain ⟨A', c', he, hl, hr⟩ := R_reads h
  injection he with h1 h2 h3
  subst h1
  exact ⟨h2, by omega, hr⟩
theorem R_lt (h : d.R e w base ok v xs) : ∀ k, v.ownBlock = some k → k < w.heap.size := by
  obtain ⟨inner, ho⟩ := R_own h
  exact own_lt ho
theorem R_base (h : d.R e w base ok v xs) : ∀ k, v.ownBlock = some k → base ≤ k := by
  obtain ⟨inner, ho⟩ := R_own h
  exact own_base ho
end
section
variable {w W : World} {A : Option Addr} {n : Nat}
theorem at_string {xs : List ByteArray} (h : Kd.string.C w A n xs) (i : Int) (h0 : 0 ≤ i) (h1 : i < n) : ∃ ad, A = some ad ∧ w.cell? (ad.add i.toNat) = some (.string (rdOf ByteArray.empty xs i)) :=
  ReadsOf.at_ (reads_of_C (enc := Value.string) (d := ByteArray.empty) (h1 := fun _ => rfl) h) i h0 h1
end
section
variable {P : Program} {ops : Array Oper} {rest : List Oper} {o : Oper} {a : Act} {Q : Exit → Act → World → Prop}
theorem event_run {W w1 : World} {v : Value} (hgd : o.guard = none) (hrun : (execOp a.eval o).run P W = .ok (.value v) w1) (h : wpList P ops Q rest (a.put o.dst v) w1) : wpList P ops Q (o :: rest) a W := by
  refine wpList_plain hgd fun K hK => ?_
  unfold Oper.wp
  rw [hrun]
  exact hK _ _ h
variable {α : Type}
/-- A literal '[]T{..}': inner its cells. 'hd' picks the operation; 'hrun' by '(by go_simp; rfl)'. -/
theorem R_lit (d : Kd α) {w0 W : World} (base e : Nat) (hgd : o.guard = none) {N : Tmp} (_hd : o.dst = some N) {xs : List α} {inner : List Value} {ok okp : Nat → Prop}
    (hrun : (execOp a.eval o).run P W = .ok (.value (.slice (some ⟨W.heap.size, 0, none⟩) xs.length xs.length)) (W.alloc (.cells inner.toArray e)))
    (hrep : Reps (d.M W base okp) d.sz xs inner) (hok : ∀ k, okp k → ok k) (hfresh : ok W.heap.size) (HB : Below base w0 W) (hbase : base ≤ W.heap.size) (hm : xs.length ≤ 9223372036854775807)
    (h : ∀ v1 w1, d.R e w1 base ok v1 xs → Below base w0 w1 → W.grownBy w1 none → (∃ b, v1.ownBlock = some b ∧ W.heap.size ≤ b) → wpList P ops Q rest (a.put o.dst v1) w1) : wpList P ops Q (o :: rest) a W := by
  refine event_run hgd hrun (h _ _ ⟨fun k hk => ?_, inner, ?_, ?_⟩ (HB.alloc hbase _) (World.grownBy_alloc W _ none) ⟨W.heap.size, by simp [Value.ownBlock], Nat.le_refl _⟩)
  · have : W.heap.size = k := by simpa [Value.ownBlock] using hk
    subst this
    exact hfresh
  · have h2 := World.ownsRow_lit (base := base) (e := e) (size := d.sz) W inner.toArray xs.length hbase (by simpa [maxLen] using hm) (by simpa using hrep.1)
    simpa using h2
  · refine hrep.imp_ (fun p c hp => d.M_mono (fun k hk => ⟨hok k hk.1, fun he => ?_⟩) (M_below (d.M_bound hp) (below_alloc (Below.refl _ _) _)))
    have h3 : k = W.heap.size := by simpa [Value.ownBlock] using he
    have := hk.2.2.1
    omega
end
end Kd
/-- A row of one's own that may begin inside its block. -/
def QRow (w : World) (base : Nat) (e : TypeId) (size : Nat) (v : Value) (n : Nat) (xs : List Value) : Prop :=
  xs.length = n * size ∧
  ((n = 0 ∧ ∃ A, v = .slice A 0 0 ∧ ∀ a, A = some a → base ≤ a.block ∧ ∃ cur, w.heap[a.block]? = some (.cells cur e (0, 0))) ∨
   ∃ g off cap cur, v = .slice (some ⟨g, off * size, none⟩) n cap ∧ base ≤ g ∧ w.heap[g]? = some (.cells cur e (0, 0)) ∧ n ≤ cap ∧ off + cap ≤ maxLen ∧ cur.size = (off + cap) * size ∧ (cur.toList.drop (off * size)).take (n * size) = xs)
namespace Kd
def Q {α : Type} (d : Kd α) (e : Nat) (w : World) (base : Nat) (ok : Nat → Prop) (v : Value) (xs : List α) : Prop :=
  (∀ k, v.ownBlock = some k → ok k) ∧ ∃ inner, QRow w base e d.sz v xs.length inner ∧ Reps (d.M w base (fun k => ok k ∧ some k ≠ v.ownBlock)) d.sz xs inner
end Kd
namespace Kd
section
variable {α : Type} {d : Kd α} {e e' : Nat} {w w1 W : World} {base : Nat} {ok : Nat → Prop} {u v : Value} {xs : List α}
theorem R_elder' (hu : d.R e W base ok u xs) (hbase : ∀ k, v.ownBlock = some k → W.heap.size ≤ k) (hb : Below W.heap.size W w1) : d.R e w1 base (fun k => ok k ∧ some k ≠ v.ownBlock) u xs :=
  R_mono (R_move (R_bound hu) (fun k hk => hb.block k hk.2.2.1)) (fun k hk => ⟨hk.1, fun he => by have := hbase k he.symm; have := hk.2.2.1; omega⟩)
theorem R_new' (h : d.R e w1 W.heap.size ok v xs) (hlt : ∀ k, u.ownBlock = some k → k < W.heap.size) : d.R e w1 W.heap.size (fun k => ok k ∧ some k ≠ u.ownBlock) v xs :=
  R_mono (R_bound h) (fun k hk => ⟨hk.1, fun he => by have := hlt k he.symm; have := hk.2.1; omega⟩)
end
end Kd
theorem below_size {w W : World} (h : Below w.heap.size w W) : w.heap.size ≤ W.heap.size := h.size
theorem below_step {w W w2 : World} (h : Below w.heap.size w W) (k : Below W.heap.size W w2) : Below w.heap.size w w2 := below_then h h.size k
theorem ReadsInt.nil (W : World) (k : IntKind) : ReadsInt W k none ([] : List Int).length [] := ⟨rfl, by simp, fun h => absurd h (Nat.lt_irrefl 0)⟩
theorem ReadsInt.drewN {W : World} {k : IntKind} {A : Option Addr} {n : Nat} {xs : List Int} (h : ReadsInt W k A n xs) (m : Nat) : ReadsInt (W.drewN m) k A n xs := h
theorem below_set {w W : World} {g j : Nat} {v : Value} (h : Below w.heap.size w W) (hg : w.heap.size ≤ g) : Below w.heap.size w (W.setCell ⟨g, j, none⟩ v) := h.setCell hg _
theorem add_block (a : Addr) (i : Nat) : (a.add i).block = a.block := by unfold Addr.add; split <;> rfl
theorem ReadsOf.nil {α : Type} (enc : α → Value) (d : α) (W : World) : ReadsOf enc d W none ([] : List α).length [] := ⟨rfl, by simp, fun h => absurd h (Nat.lt_irrefl 0)⟩
theorem ReadsOf.drewN {α : Type} {enc : α → Value} {d : α} {W : World} {A : Option Addr} {n : Nat} {xs : List α} (h : ReadsOf enc d W A n xs) (m : Nat) : ReadsOf enc d (W.drewN m) A n xs := h
theorem cell_far {W : World} {p a : Addr} (h : a.block ≠ p.block) (u : Value) : (W.setCell p u).cell? a = W.cell? a := by
  have := Below.heap_setCell W p u a.block h
  simp [World.cell?, this]
theorem own_blk {W : World} {base n c : Nat} {e : TypeId} {size g : Nat} {ad : Addr} {xs : List Value} (_ : W.ownsRow base e size (.slice (some ad) n c) n xs) (hne : some g ≠ (Value.slice (some ad) n c).ownBlock) : ad.block ≠ g := by
  rintro rfl
  exact hne (by simp [Value.ownBlock])
theorem below_drew1 {base : Nat} {w W : World} (h : Below base w W) : Below base w W.drew := h.drew
namespace Kd
section
variable {α β : Type} {d : Kd α} {d' : Kd β} {e e' base base' n : Nat} {ok ok' : Nat → Prop} {w W w1 W1 : World} {v u : Value} {xs : List α} {ys : List β} {A : Option Addr} {c : Nat}
theorem own_blk {ad : Addr} {g : Nat} (hne : some g ≠ (Value.slice (some ad) n c).ownBlock) : ad.block ≠ g := by
  rintro rfl
  exact hne (by simp [Value.ownBlock])
end
end Kd
namespace Kd
section
variable {α : Type} {d : Kd α} {e base g : Nat} {ok : Nat → Prop} {w w1 : World} {v : Value} {xs : List α} {o : Obj}
theorem freshB (hb : w.heap[g]? = some o) : ∀ k, w.heap.size ≤ k → k ≠ g := fun k hk => by have := blk_lt hb; omega
end
end Kd
section
variable {P : Program} {ops : Array Oper} {rest : List Oper} {o : Oper} {a : Act} {Q : Exit → Act → World → Prop}
theorem box_event {W : World} (hgd : o.guard = none) {N : Tmp} (_hd : o.dst = some N) {cs : Array Value} {t : TypeId}
    (hrun : (execOp a.eval o).run P W = .ok (.value (.pointer (some ⟨W.heap.size, 0, none⟩))) (W.alloc (.cells cs t (0, 0))))
    (h : ∀ g, g = W.heap.size → ∀ w1, w1.heap[g]? = some (.cells cs t (0, 0)) → Below W.heap.size W w1 → wpList P ops Q rest (a.put o.dst (.pointer (some ⟨g, 0, none⟩))) w1) : wpList P ops Q (o :: rest) a W :=
  Kd.event_run hgd hrun (h _ rfl _ (blk_new W _) (below_alloc (Below.refl _ _) _))
end
section
variable {P : Program} {ops : Array Oper} {rest : List Oper} {o : Oper} {a : Act} {Q : Exit → Act → World → Prop} {W : World}
theorem gate_dst {N : Tmp} (_hN : o.dst = some N) (h : wpList P ops Q (o :: rest) a W) : wpList P ops Q (o :: rest) a W := h
end
end Go.Proofs.YtioocldcdonlpaaDoorW.PrintWords
end

section
namespace Go.Proofs.YtioocldcdonlpaaDoorW.PrintLast
section
variable {P : Program} {ops : Array Oper} {Q : Exit → Act → World → Prop} {md : Region.Mode} {S : World → Prop} {ds : List Nat}
/-- Operation d waits for operation i, by a chain of at most 'fuel' edges. -/
def Region.reachB (md : Region.Mode) (ops : Array Oper) (i : Nat) : Nat → Nat → Bool
  | 0, _ => false
  | fuel + 1, d => match ops[d]? with
    | some o => o.after.any fun e => Region.binds md e && (e.on == i || Region.reachB md ops i fuel e.on)
    | none => false
/-- What is listed is closed under the edges. -/
def Region.closedB (md : Region.Mode) (ops : Array Oper) (listed : Array Bool) : Bool :=
  (List.range ops.size).all fun j => !listed.getD j false || match ops[j]? with
    | some o => o.after.all fun e => !Region.binds md e || listed.getD e.on false
    | none => true
/-- Each of ds that has not come up yet waits for number i. -/
def Region.lastB (md : Region.Mode) (ops : Array Oper) (listed : Array Bool) (ds : List Nat) (i : Nat) : Bool :=
  ds.all fun d => listed.getD d true || Region.reachB md ops i ops.size d
def ListedClosed (md : Region.Mode) (ops : Array Oper) (listed : Array Bool) : Prop :=
  ∀ j oj, ops[j]? = some oj → listed.getD j false = true → ∀ e ∈ oj.after, Region.binds md e = true → listed.getD e.on false = true
theorem Region.closedB_spec {listed : Array Bool} (h : Region.closedB md ops listed = true) : ListedClosed md ops listed := by
  intro j oj hj hl e he hb
  have hlt : j < ops.size := (Array.getElem?_eq_some_iff.1 hj).1
  have h1 := List.all_eq_true.1 h j (List.mem_range.2 hlt)
  simp only [hl, hj, Bool.not_true, Bool.false_or] at h1
  have h2 := Array.all_eq_true_iff_forall_mem.1 h1 e he
  simpa [hb] using h2
theorem ListedClosed.set {listed : Array Bool} {i : Nat} (h : ListedClosed md ops listed) (hi : i ∈ Region.ready md ops listed) : ListedClosed md ops (listed.setIfInBounds i true) := by
  obtain ⟨_, oi, hoi, hall⟩ := mem_ready.1 hi
  intro j oj hj hl e he hb
  by_cases hij : i = j
  · subst hij
    have : oj = oi := Option.some.inj (hj.symm.trans hoi)
    subst this
    exact getD_set_true (hall e he hb)
  · rw [getD_set_ne false hij] at hl
    exact getD_set_true (h j oj hj hl e he hb)
theorem Region.reach_listed {listed : Array Bool} {i : Nat} (hc : ListedClosed md ops listed) : ∀ (fuel d : Nat), Region.reachB md ops i fuel d = true → listed.getD d false = true → listed.getD i false = true
  | 0, _, h, _ => by simp [Region.reachB] at h
  | fuel + 1, d, h, hl => by
    unfold Region.reachB at h
    cases ho : ops[d]? with
    | none => rw [ho] at h; simp at h
    | some o =>
      rw [ho] at h
      obtain ⟨e, he, h1⟩ := Array.any_eq_true'.1 h
      simp only [Bool.and_eq_true, Bool.or_eq_true, beq_iff_eq] at h1
      have hle := hc d o ho hl e he h1.1
      rcases h1.2 with h2 | h2
      · rw [← h2]; exact hle
      · exact Region.reach_listed hc fuel e.on h2 hle
/-- What waits for i cannot come up before i is listed. -/
theorem Region.reach_not_ready {listed : Array Bool} {i d fuel : Nat} (hc : ListedClosed md ops listed) (hr : Region.reachB md ops i fuel d = true) (hun : listed.getD i true = false) : d ∉ Region.ready md ops listed := by
  intro hd
  obtain ⟨_, o, ho, hall⟩ := mem_ready.1 hd
  have hi : listed.getD i false = true := by
    cases fuel with
    | zero => simp [Region.reachB] at hr
    | succ n =>
      unfold Region.reachB at hr
      rw [ho] at hr
      obtain ⟨e, he, h1⟩ := Array.any_eq_true'.1 hr
      simp only [Bool.and_eq_true, Bool.or_eq_true, beq_iff_eq] at h1
      have hle := hall e he h1.1
      rcases h1.2 with h2 | h2
      · rw [← h2]; exact hle
      · exact Region.reach_listed hc n e.on h2 hle
  rcases Nat.lt_or_ge i listed.size with h' | h'
  · simp [h'] at hun hi
    rw [hun] at hi
    cases hi
  · simp [Array.getElem?_eq_none h'] at hun
/-- Whatever order is picked from here on, AND 'S' HOLDS BEHIND EVERY OPERATION THAT IS CARRIED OUT, those of ds apart. -/
def wpAnyLast (P : Program) (md : Region.Mode) (ops : Array Oper) (Q : Exit → Act → World → Prop) (S : World → Prop) (ds : List Nat) : Nat → Array Bool → Act → World → Prop
  | 0, listed, a, w => Region.ready md ops listed = [] ∧ Q .normal a w
  | fuel + 1, listed, a, w =>
    (Region.ready md ops listed = [] → Q .normal a w) ∧
    ∀ i ∈ Region.ready md ops listed, wpOp P ops Q i (fun a' w' => (i ∉ ds → S w → S w') ∧ wpAnyLast P md ops Q S ds fuel (listed.setIfInBounds i true) a' w') a w
theorem wpAny_of_last : ∀ (fuel : Nat) (listed : Array Bool) (a : Act) (w : World), wpAnyLast P md ops Q S ds fuel listed a w → wpAny P md ops Q fuel listed a w
  | 0, _, _, _, h => h
  | fuel + 1, _, _, _, h => ⟨h.1, fun i hi => wpOp_mono (fun a' w' h' => wpAny_of_last fuel _ a' w' h'.2) (h.2 i hi)⟩
theorem wpAnyLast_first {i : Nat} {oi : Oper} {v : Value} (hi : ops[i]? = some oi) (hsel : ∀ (j : Nat) (o : Oper) cs b, ops[j]? = some o → o.op ≠ .select cs b)
    (hQ : ∀ c a w, Q (.panic c) (a.put oi.dst v) w → Q (.panic c) a w) (n : Nat) :
    ∀ (fuel : Nat) (listed : Array Bool) (a : Act) (w : World),
      (∀ j oj, ops[j]? = some oj → j ≠ i → listed.getD j true = false → (∀ e ∈ oj.after, Region.binds md e = true → e.on ≠ i) → oi.apart ops oj = true) →
      ListedClosed md ops listed → (∀ d ∈ ds, listed.getD d true = false → Region.reachB md ops i n d = true) →
      i ∈ Region.ready md ops listed → YieldsIf P ops S oi v a → S w →
      wpAnyLast P md ops Q S ds fuel (listed.setIfInBounds i true) (a.put oi.dst v) w → wpAnyLast P md ops Q S ds (fuel + 1) listed a w := by
  intro fuel
  induction fuel with
  | zero =>
    intro listed a w _ _ _ hr hy hS H
    refine ⟨fun h => (by rw [h] at hr; cases hr), fun j hj => ?_⟩
    by_cases hji : j = i
    · subst hji; exact hy.wpOp hi hS ⟨fun _ h => h, H⟩
    · have := ready_mono hj hji
      rw [H.1] at this
      cases this
  | succ fuel ih =>
    intro listed a w hfree hc hd hr hy hS H
    refine ⟨fun h => (by rw [h] at hr; cases hr), fun j hj => ?_⟩
    by_cases hji : j = i
    · subst hji; exact hy.wpOp hi hS ⟨fun _ h => h, H⟩
    · have h1 := H.2 j (ready_mono hj hji)
      obtain ⟨hjun, oj, hoj, hall⟩ := mem_ready.1 hj
      have hiun := (mem_ready.1 hr).1
      have hnot : ∀ e ∈ oj.after, Region.binds md e = true → e.on ≠ i := fun e he hb heq => by
        have h1 := hall e he hb
        rw [heq] at h1
        rcases Nat.lt_or_ge i listed.size with h' | h'
        · simp [h'] at hiun h1; rw [hiun] at h1; cases h1
        · simp [Array.getElem?_eq_none h'] at h1
      have hjd : j ∉ ds := fun hm => Region.reach_not_ready hc (hd j hm hjun) hiun hj
      have h2 := wpOp_putIf hoj (hfree j oj hoj hji hjun hnot) (fun cs b => hsel i oi cs b hi) (fun cs b => hsel j oj cs b hoj) hQ hy h1
      have hfree' : ∀ k ok, ops[k]? = some ok → k ≠ i → (listed.setIfInBounds j true).getD k true = false →
          (∀ e ∈ ok.after, Region.binds md e = true → e.on ≠ i) → oi.apart ops ok = true := fun k ok hk hki hun hno => by
        refine hfree k ok hk hki ?_ hno
        by_cases hjk : j = k
        · subst hjk; exact hjun
        · rw [getD_set_ne true hjk] at hun; exact hun
      have hd' : ∀ d ∈ ds, (listed.setIfInBounds j true).getD d true = false → Region.reachB md ops i n d = true := fun d hm hun => by
        refine hd d hm ?_
        by_cases hjk : j = d
        · subst hjk; exact hjun
        · rw [getD_set_ne true hjk] at hun; exact hun
      refine wpOp_mono (fun a' w' h3 => ⟨h3.2.1, ih (listed.setIfInBounds j true) a' w' hfree' (hc.set hj) hd' (ready_mono hr (Ne.symm hji)) h3.1 (h3.2.1 hjd hS) ?_⟩) h2
      rw [Array.setIfInBounds_comm _ _ hji]
      exact h3.2.2
/-- Take number 'i' first, which yields whatever the world: no S is asked for, nor that anything waits for it. -/
theorem wpAnyLast_any {i : Nat} {oi : Oper} {v : Value} (hi : ops[i]? = some oi) (hsel : ∀ (j : Nat) (o : Oper) cs b, ops[j]? = some o → o.op ≠ .select cs b)
    (hQ : ∀ c a w, Q (.panic c) (a.put oi.dst v) w → Q (.panic c) a w) :
    ∀ (fuel : Nat) (listed : Array Bool) (a : Act) (w : World),
      (∀ j oj, ops[j]? = some oj → j ≠ i → listed.getD j true = false → (∀ e ∈ oj.after, Region.binds md e = true → e.on ≠ i) → oi.apart ops oj = true) →
      i ∈ Region.ready md ops listed → Yields P ops oi v a →
      wpAnyLast P md ops Q S ds fuel (listed.setIfInBounds i true) (a.put oi.dst v) w → wpAnyLast P md ops Q S ds (fuel + 1) listed a w := by
  intro fuel
  induction fuel with
  | zero =>
    intro listed a w _ hr hy H
    refine ⟨fun h => (by rw [h] at hr; cases hr), fun j hj => ?_⟩
    by_cases hji : j = i
    · subst hji; exact (hy.yieldsIf (S := fun _ => True)).wpOp hi trivial ⟨fun _ h => h, H⟩
    · have := ready_mono hj hji
      rw [H.1] at this
      cases this
  | succ fuel ih =>
    intro listed a w hfree hr hy H
    refine ⟨fun h => (by rw [h] at hr; cases hr), fun j hj => ?_⟩
    by_cases hji : j = i
    · subst hji; exact (hy.yieldsIf (S := fun _ => True)).wpOp hi trivial ⟨fun _ h => h, H⟩
    · have h1 := H.2 j (ready_mono hj hji)
      obtain ⟨hjun, oj, hoj, hall⟩ := mem_ready.1 hj
      have hiun := (mem_ready.1 hr).1
      have hnot : ∀ e ∈ oj.after, Region.binds md e = true → e.on ≠ i := fun e he hb heq => by
        have h1 := hall e he hb
        rw [heq] at h1
        rcases Nat.lt_or_ge i listed.size with h' | h'
        · simp [h'] at hiun h1; rw [hiun] at h1; cases h1
        · simp [Array.getElem?_eq_none h'] at h1
      have h2 := wpOp_put hoj (hfree j oj hoj hji hjun hnot) (fun cs b => hsel i oi cs b hi) (fun cs b => hsel j oj cs b hoj) hQ hy h1
      have hfree' : ∀ k ok, ops[k]? = some ok → k ≠ i → (listed.setIfInBounds j true).getD k true = false →
          (∀ e ∈ ok.after, Region.binds md e = true → e.on ≠ i) → oi.apart ops ok = true := fun k ok hk hki hun hno => by
        refine hfree k ok hk hki ?_ hno
        by_cases hjk : j = k
        · subst hjk; exact hjun
        · rw [getD_set_ne true hjk] at hun; exact hun
      refine wpOp_mono (fun a' w' h3 => ⟨h3.2.1, ih (listed.setIfInBounds j true) a' w' hfree' (ready_mono hr (Ne.symm hji)) h3.1 ?_⟩) h2
      rw [Array.setIfInBounds_comm _ _ hji]
      exact h3.2.2
/-- Take number 'i' first. -/
theorem wpAnyLast_take {i : Nat} {oi : Oper} {v : Value} {fuel : Nat} {listed : Array Bool} {a : Act} {w : World} (hi : ops[i]? = some oi)
    (hs : Region.noSelect ops = true) (hf : Region.free md ops listed i = true) (hr : (Region.ready md ops listed).contains i = true)
    (hc : Region.closedB md ops listed = true) (hl : Region.lastB md ops listed ds i = true)
    (hQ : ∀ c a w, Q (.panic c) (a.put oi.dst v) w → Q (.panic c) a w) (hy : YieldsIf P ops S oi v a) (hS : S w)
    (h : wpAnyLast P md ops Q S ds fuel (listed.setIfInBounds i true) (a.put oi.dst v) w) : wpAnyLast P md ops Q S ds (fuel + 1) listed a w :=
  wpAnyLast_first hi (Region.noSelect_spec hs) hQ ops.size fuel listed a w (Region.free_spec hi hf) (Region.closedB_spec hc)
    (fun d hm hun => by have := List.all_eq_true.1 hl d hm; rw [hun] at this; simpa using this) (by simpa using hr) hy hS h
theorem wpAnyLast_all {rs : List Nat} {fuel : Nat} {listed : Array Bool} {a : Act} {w : World} (hr : Region.ready md ops listed = rs) (hne : rs ≠ [])
    (h : ∀ i ∈ rs, wpOp P ops Q i (fun a' w' => (i ∉ ds → S w → S w') ∧ wpAnyLast P md ops Q S ds fuel (listed.setIfInBounds i true) a' w') a w) : wpAnyLast P md ops Q S ds (fuel + 1) listed a w :=
  ⟨fun h0 => absurd (hr ▸ h0) hne, hr ▸ h⟩
theorem wpAnyLast_done {listed : Array Bool} {a : Act} {w : World} (hr : Region.ready md ops listed = []) (h : Q .normal a w) :
    ∀ fuel, wpAnyLast P md ops Q S ds fuel listed a w
  | 0 => ⟨hr, h⟩
  | _ + 1 => ⟨fun _ => h, by rw [hr]; simp⟩
theorem wp_region_last {id : Nat} {a : Act} {w : World} (hm : P.follows .mixedOrders = true)
    (h : wpAnyLast P .any ops Q S ds ops.size (Array.replicate ops.size false) a { w with drawn := w.drawn + 1 }) : (Code.region id ops true).wp P Q a w :=
  wp_region_any hm (wpAny_of_last _ _ _ _ h)
end
section
variable {P : Program} {ops : Array Oper} {Q : Exit → Act → World → Prop} {md : Region.Mode} {S : World → Prop} {ds : List Nat}
def AllReadyL (P : Program) (md : Region.Mode) (ops : Array Oper) (Q : Exit → Act → World → Prop) (S : World → Prop) (ds : List Nat) (fuel : Nat) (listed : Array Bool) (a : Act) (w : World) (rs : List Nat) : Prop :=
  ∀ i ∈ rs, wpOp P ops Q i (fun a' w' => (i ∉ ds → S w → S w') ∧ wpAnyLast P md ops Q S ds fuel (listed.setIfInBounds i true) a' w') a w
theorem AllReadyL.nil {fuel : Nat} {listed : Array Bool} {a : Act} {w : World} : AllReadyL P md ops Q S ds fuel listed a w [] := fun _ h => by cases h
theorem AllReadyL.cons {fuel : Nat} {listed : Array Bool} {a : Act} {w : World} {i : Nat} {o : Oper} {rs : List Nat} (ho : ops[i]? = some o) (hd : i ∉ ds)
    (h : ∀ K' : Act → World → Prop, Shut (∀ a w, S w → (S w → wpAnyLast P md ops Q S ds fuel (listed.setIfInBounds i true) a w) → K' a w) → if Region.wanted o (yielded ops a.tmps) = true then Oper.wp P o a w K' Q else K' (a.put o.dst undef) w)
    (hs : AllReadyL P md ops Q S ds fuel listed a w rs) : AllReadyL P md ops Q S ds fuel listed a w (i :: rs) := fun j hj => by
  rcases List.mem_cons.1 hj with rfl | hj
  · exact wpOp_step ho (fun K' hK => h K' (fun a w hS hW => hK a w ⟨fun _ _ => hS, hW hS⟩))
  · exact hs j hj
theorem wpAnyLast_ready {rs : List Nat} {fuel : Nat} {listed : Array Bool} {a : Act} {w : World} (hr : Region.ready md ops listed = rs) (hne : rs ≠ [])
    (h : AllReadyL P md ops Q S ds fuel listed a w rs) : wpAnyLast P md ops Q S ds (fuel + 1) listed a w := wpAnyLast_all hr hne h
/-- THE SAME STEPS WITH WHAT HAS COME UP WRITTEN OUT (a literal array of Bools) and one check a step: quicker, and what is printed stays short. -/
theorem start_ {id n : Nat} {a : Act} {w : World} (l : Array Bool) (hm : P.follows .mixedOrders = true) (hn : ops.size = n) (hl : Array.replicate n false = l) (hS : S w.drew)
    (h : S w.drew → wpAnyLast P .any ops Q S ds n l a w.drew) : (Code.region id ops true).wp P Q a w := by
  subst hn
  subst hl
  exact wp_region_last hm (h hS)
def takeB (md : Region.Mode) (ops : Array Oper) (ds : List Nat) (l l' : Array Bool) (i : Nat) : Bool :=
  Region.noSelect ops && Region.free md ops l i && (Region.ready md ops l).contains i && Region.closedB md ops l && Region.lastB md ops l ds i && (l.setIfInBounds i true == l')
theorem take_ {i : Nat} {N : Option Tmp} {oi : Oper} {v : Value} {fuel : Nat} {l : Array Bool} {a : Act} {w : World} (l' : Array Bool) (hi : ops[i]? = some oi) (hN : oi.dst = N) (hc : takeB md ops ds l l' i = true)
    (hQ : ∀ c a w, Q (.panic c) (a.put oi.dst v) w → Q (.panic c) a w) (hy : YieldsIf P ops S oi v a) (hS : S w) {a' : Act} (ha : a.put N v = a')
    (h : wpAnyLast P md ops Q S ds fuel l' a' w) : wpAnyLast P md ops Q S ds (fuel + 1) l a w := by
  subst ha
  subst hN
  simp only [takeB, Bool.and_eq_true, beq_iff_eq] at hc
  obtain ⟨⟨⟨⟨⟨h1, h2⟩, h3⟩, h4⟩, h5⟩, h6⟩ := hc
  subst h6
  exact wpAnyLast_take hi h1 h2 h3 h4 h5 hQ hy hS h
def anyB (md : Region.Mode) (ops : Array Oper) (l l' : Array Bool) (i : Nat) : Bool :=
  Region.noSelect ops && Region.free md ops l i && (Region.ready md ops l).contains i && (l.setIfInBounds i true == l')
/-- An operation that yields in every world (a move, a number, an address): taken first wherever it may come up, behind a store too. -/
theorem pure_ {i : Nat} {N : Option Tmp} {oi : Oper} {v : Value} {fuel : Nat} {l : Array Bool} {a : Act} {w : World} (l' : Array Bool) (hi : ops[i]? = some oi) (hN : oi.dst = N) (hc : anyB md ops l l' i = true)
    (hQ : ∀ c a w, Q (.panic c) (a.put oi.dst v) w → Q (.panic c) a w) (hy : Yields P ops oi v a) {a' : Act} (ha : a.put N v = a')
    (h : wpAnyLast P md ops Q S ds fuel l' a' w) : wpAnyLast P md ops Q S ds (fuel + 1) l a w := by
  subst ha
  subst hN
  simp only [anyB, Bool.and_eq_true, beq_iff_eq] at hc
  obtain ⟨⟨⟨h1, h2⟩, h3⟩, h6⟩ := hc
  subst h6
  exact wpAnyLast_any hi (Region.noSelect_spec h1) hQ fuel l a w (Region.free_spec hi h2) (by simpa using h3) hy h
def readyB (md : Region.Mode) (ops : Array Oper) (l l' : Array Bool) (i : Nat) : Bool := (Region.ready md ops l == [i]) && (l.setIfInBounds i true == l')
/-- One operation alone may come up now (a call, a build, an append ..): it is run, S is shown behind it. -/
theorem one_ {i : Nat} {N : Option Tmp} {oi : Oper} {fuel : Nat} {l : Array Bool} {a : Act} {w : World} (l' : Array Bool) (hi : ops[i]? = some oi) (hN : oi.dst = N) (hc : readyB md ops l l' i = true) (hd : i ∉ ds)
    (h : ∀ K : Act → World → Prop, Shut (∀ a' w', S w' → (S w' → wpAnyLast P md ops Q S ds fuel l' a' w') → K a' w') → if Region.wanted oi (yielded ops a.tmps) = true then Oper.wp P oi a w K Q else K (a.put N undef) w) :
    wpAnyLast P md ops Q S ds (fuel + 1) l a w := by
  subst hN
  simp only [readyB, Bool.and_eq_true, beq_iff_eq] at hc
  obtain ⟨h1, h2⟩ := hc
  subst h2
  exact wpAnyLast_ready h1 (by simp) (AllReadyL.cons hi hd (fun K hK => h K hK) AllReadyL.nil)
theorem done_ {l : Array Bool} {a : Act} {w : World} {n : Nat} (hr : (Region.ready md ops l == []) = true) (h : Q .normal a w) : wpAnyLast P md ops Q S ds n l a w := wpAnyLast_done (by simpa using hr) h n
/-- The act written out. -/
theorem norm_ {fuel : Nat} {l : Array Bool} {a a' : Act} {w : World} (ha : a = a') (h : wpAnyLast P md ops Q S ds fuel l a' w) : wpAnyLast P md ops Q S ds fuel l a w := by
  subst ha
  exact h
/-- A call of a Go function, by its contract. -/
theorem call_ {oi : Oper} {N : Option Tmp} {a : Act} {w : World} {K : Act → World → Prop} (f : FuncId) (args : Array Value) (hw : Region.wanted oi (yielded ops a.tmps) = true) (hN : oi.dst = N) (hrun : (execOp a.eval oi).run P w = .ok (.enter f args) w)
    (h : Calls P f args w fun e w' => ∃ v, e = .returned v ∧ K (a.put N v) w') : if Region.wanted oi (yielded ops a.tmps) = true then Oper.wp P oi a w K Q else K (a.put N undef) w := by
  rw [if_pos hw]
  subst hN
  unfold Oper.wp
  rw [hrun, Oper.upon_enter]
  refine h.mono fun e w'' hh => ?_
  obtain ⟨v, rfl, hk⟩ := hh
  exact hk
theorem enters_ {f : FuncId} {fn : Func} (hf : P.funcs[f]? = some fn) (hname : (fn.name == "runtime.NumGoroutine") = false) (hb : fn.body.isSome = true) (args : Array Value) (w : World) : (callFunc f args).run P w = .ok (.enter f args) w := by
  have h1 : fn.name ≠ "runtime.NumGoroutine" := by simpa using hname
  obtain ⟨c, hc⟩ := Option.isSome_iff_exists.1 hb
  simp [callFunc, hf, h1, hc]
/-- The same, the operation's run shown here: 'goes_ A.func3 (by kernel_rfl) rfl #[..] (by rfl) rfl rfl (by rfl) ?_'. -/
theorem goes_ {oi : Oper} {N : Option Tmp} {a : Act} {w : World} {K : Act → World → Prop} {f : FuncId} {fn : Func} {as_ : Array Operand} {ts : Array TypeId} (hf : P.funcs[f]? = some fn) (hname : (fn.name == "runtime.NumGoroutine") = false) (hb : fn.body.isSome = true) (args : Array Value)
    (hw : Region.wanted oi (yielded ops a.tmps) = true) (hN : oi.dst = N) (hop : oi.op = .call { callee := .value (.func f), args := as_, argTypes := ts }) (hargs : as_.map a.eval = args)
    (h : Calls P f args w fun e w' => ∃ v, e = .returned v ∧ K (a.put N v) w') : if Region.wanted oi (yielded ops a.tmps) = true then Oper.wp P oi a w K Q else K (a.put N undef) w := by
  refine call_ f args hw hN ?_ h
  have he := enters_ hf hname hb args w
  unfold execOp
  simp [hop, resolve, Deferred.ofValue, invoke, Act.eval, hargs, he]
/-- A call in a plain region, as_ an arm of go_wp2_with ('hd' first: it fails at once at another operation). -/
theorem goesL_ {rest : List Oper} {oi : Oper} {a : Act} {w : World} (N : Option Tmp) (hd : oi.dst = N) (hg : oi.guard = none) {f : FuncId} {fn : Func} {as_ : Array Operand} {ts : Array TypeId} (hf : P.funcs[f]? = some fn) (hname : (fn.name == "runtime.NumGoroutine") = false) (hb : fn.body.isSome = true) (args : Array Value)
    (hop : oi.op = .call { callee := .value (.func f), args := as_, argTypes := ts }) (hargs : as_.map a.eval = args)
    (h : Calls P f args w fun e w' => ∃ v, e = .returned v ∧ wpList P ops Q rest (a.put N v) w') : wpList P ops Q (oi :: rest) a w := by
  refine wpList_plain hg fun K hK => ?_
  have he := enters_ hf hname hb args w
  have hrun : (execOp a.eval oi).run P w = .ok (.enter f args) w := by
    unfold execOp
    simp [hop, resolve, Deferred.ofValue, invoke, Act.eval, hargs, he]
  unfold Oper.wp
  rw [hrun, Oper.upon_enter]
  refine h.mono fun e w'' hh => ?_
  obtain ⟨v, rfl, hk⟩ := hh
  subst hd
  exact hK _ _ hk
theorem i64_w (n : Int) : IntKind.i64.wrap n = Go.RowKit.wrap64 n := by unfold Go.RowKit.wrap64; exact IntKind.wrap_i64 n
theorem i32_w (n : Int) : IntKind.i32.wrap n = Go.RowKit.wrap32 n := by unfold Go.RowKit.wrap32; exact IntKind.wrap_i32 n
end
end Go.Proofs.YtioocldcdonlpaaDoorW.PrintLast
end

section
namespace Go.Proofs.YtioocldcdonlpaaDoorW.PrintLast
open Go.Proofs.YtioocldcdonlpaaDoorW.PrintWords (Aside0)
def needsOf (md : Region.Mode) (o : Oper) : List Nat := (o.after.toList.filter (fun e => Region.binds md e)).map (fun e => e.on)
def clashOf (md : Region.Mode) (ops : Array Oper) (i : Nat) (oi : Oper) : List Nat := (List.range ops.size).filter fun j => !(j == i) && match ops[j]? with
  | some oj => !(oj.after.any (fun e => Region.binds md e && e.on == i) || oi.apart ops oj)
  | none => false
/-- No select in it; for each operation: what must have come up before it, and what may not come up behind it if it is taken first. -/
def rtab (md : Region.Mode) (ops : Array Oper) : Bool × List (List Nat × List Nat) := (Region.noSelect ops, (List.range ops.size).map fun i => match ops[i]? with
  | some o => (needsOf md o, clashOf md ops i o)
  | none => ([], []))
def readyAt (T : List (List Nat × List Nat)) (l : List Bool) (i : Nat) : Bool := !l.getD i true && match T[i]? with
  | some r => r.1.all (fun j => l.getD j false)
  | none => false
def readyT (T : List (List Nat × List Nat)) (l : List Bool) : List Nat := (List.range T.length).filter (readyAt T l)
def freeT (T : List (List Nat × List Nat)) (l : List Bool) (i : Nat) : Bool := match T[i]? with
  | some r => r.2.all (fun j => l.getD j true)
  | none => false
def closedT (T : List (List Nat × List Nat)) (l : List Bool) : Bool := (List.range T.length).all fun j => !l.getD j false || match T[j]? with
  | some r => r.1.all (fun k => l.getD k false)
  | none => true
def reachT (T : List (List Nat × List Nat)) (i : Nat) : Nat → Nat → Bool
  | 0, _ => false
  | fuel + 1, d => match T[d]? with
    | some r => r.1.any fun j => j == i || reachT T i fuel j
    | none => false
def lastT (T : List (List Nat × List Nat)) (l : List Bool) (ds : List Nat) (i : Nat) : Bool := ds.all fun d => l.getD d true || reachT T i T.length d
section
variable {md : Region.Mode} {ops : Array Oper} {T : Bool × List (List Nat × List Nat)} {l l' li lj lk : Array Bool} {ds : List Nat} {i j k : Nat}
theorem gd (l : Array Bool) (j : Nat) (b : Bool) : l.getD j b = l.toList.getD j b := by simp [Array.getD_eq_getD_getElem?, List.getD_eq_getElem?_getD]
theorem needs_all (o : Oper) (p : Nat → Bool) : o.after.all (fun e => !Region.binds md e || p e.on) = (needsOf md o).all p := by
  unfold needsOf
  rw [← Array.all_toList]
  induction o.after.toList with
  | nil => rfl
  | cons e r ih =>
    rw [List.all_cons, ih, List.filter_cons]
    cases h : Region.binds md e <;> simp
theorem needs_any (o : Oper) (p : Nat → Bool) : o.after.any (fun e => Region.binds md e && p e.on) = (needsOf md o).any p := by
  unfold needsOf
  rw [← Array.any_toList]
  induction o.after.toList with
  | nil => rfl
  | cons e r ih =>
    rw [List.any_cons, ih, List.filter_cons]
    cases h : Region.binds md e <;> simp
theorem rtab_length : (rtab md ops).2.length = ops.size := by simp [rtab]
theorem rtab_some {o : Oper} (h : ops[i]? = some o) : (rtab md ops).2[i]? = some (needsOf md o, clashOf md ops i o) := by
  have hi := (Array.getElem?_eq_some_iff.1 h).1
  unfold rtab
  rw [List.getElem?_map, List.getElem?_range hi, Option.map_some, h]
theorem rtab_none (h : ops[i]? = none) : (rtab md ops).2[i]? = none := by
  have hi : ops.size ≤ i := Array.getElem?_eq_none_iff.1 h
  exact List.getElem?_eq_none (by rw [rtab_length]; exact hi)
theorem readyAt_eq : readyAt (rtab md ops).2 l.toList i = (!l.getD i true && ((ops[i]?).map (·.after.all fun e => !Region.binds md e || l.getD e.on false)).getD false) := by
  unfold readyAt
  rw [gd]
  cases h : ops[i]? with
  | none => rw [rtab_none h]; rfl
  | some o =>
    rw [rtab_some h]
    simp only [Option.map_some, Option.getD_some]
    rw [← needs_all]
    simp only [gd]
theorem ready_eq : Region.ready md ops l = readyT (rtab md ops).2 l.toList := by
  unfold Region.ready readyT
  rw [rtab_length]
  refine List.filter_congr (fun i _ => ?_)
  rw [readyAt_eq]
theorem free_eq : Region.free md ops l i = freeT (rtab md ops).2 l.toList i := by
  unfold Region.free freeT
  cases h : ops[i]? with
  | none => rw [rtab_none h]
  | some oi =>
    rw [rtab_some h]
    simp only [clashOf]
    rw [List.all_filter]
    congr 1
    funext j
    rw [gd]
    cases hj : ops[j]? with
    | none => cases (j == i) <;> cases (l.toList.getD j true) <;> simp
    | some oj =>
      cases (j == i) <;> cases (l.toList.getD j true) <;> cases (oj.after.any (fun e => Region.binds md e && e.on == i) || oi.apart ops oj) <;> simp_all
theorem closed_eq : Region.closedB md ops l = closedT (rtab md ops).2 l.toList := by
  unfold Region.closedB closedT
  rw [rtab_length]
  congr 1
  funext j
  rw [gd]
  cases h : ops[j]? with
  | none => rw [rtab_none h]
  | some o =>
    rw [rtab_some h]
    simp only
    rw [← needs_all]
    simp only [gd]
theorem reach_eq : ∀ (fuel d : Nat), Region.reachB md ops i fuel d = reachT (rtab md ops).2 i fuel d
  | 0, _ => rfl
  | fuel + 1, d => by
    unfold Region.reachB reachT
    cases h : ops[d]? with
    | none => rw [rtab_none h]
    | some o =>
      rw [rtab_some h]
      simp only
      rw [← needs_any]
      congr 1
      funext e
      rw [reach_eq fuel]
theorem last_eq : Region.lastB md ops l ds i = lastT (rtab md ops).2 l.toList ds i := by
  unfold Region.lastB lastT
  rw [rtab_length]
  congr 1
  funext d
  rw [gd, reach_eq]
theorem readyAt_mem (h : readyAt T.2 l.toList i = true) (hT : rtab md ops = T) : (Region.ready md ops l).contains i = true := by
  subst hT
  rw [ready_eq]
  unfold readyT
  rw [List.contains_iff_mem, List.mem_filter, List.mem_range]
  refine ⟨?_, h⟩
  unfold readyAt at h
  rw [Bool.and_eq_true] at h
  cases hq : (rtab md ops).2[i]? with
  | none => rw [hq] at h; simp at h
  | some r => exact (List.getElem?_eq_some_iff.1 hq).1
theorem set_of (h : (l.toList.set i true == l'.toList) = true) : (l.setIfInBounds i true == l') = true := by
  rw [beq_iff_eq] at h ⊢
  apply Array.ext'
  rw [Array.toList_setIfInBounds]
  exact h
def anyT (T : Bool × List (List Nat × List Nat)) (l l' : List Bool) (i : Nat) : Bool := T.1 && freeT T.2 l i && readyAt T.2 l i && (l.set i true == l')
/-- pure_'s condition out of the table. -/
theorem any_of (hT : rtab md ops = T) (h : anyT T l.toList l'.toList i = true) : anyB md ops l l' i = true := by
  simp only [anyT, Bool.and_eq_true] at h
  obtain ⟨⟨⟨h1, h2⟩, h3⟩, h4⟩ := h
  have h5 := readyAt_mem h3 hT
  have h6 := set_of h4
  subst hT
  simp only [anyB, Bool.and_eq_true]
  exact ⟨⟨⟨h1, by rw [free_eq]; exact h2⟩, h5⟩, h6⟩
def takeT (T : Bool × List (List Nat × List Nat)) (ds : List Nat) (l l' : List Bool) (i : Nat) : Bool := T.1 && freeT T.2 l i && readyAt T.2 l i && closedT T.2 l && lastT T.2 l ds i && (l.set i true == l')
/-- take_'s. -/
theorem take_of (hT : rtab md ops = T) (h : takeT T ds l.toList l'.toList i = true) : takeB md ops ds l l' i = true := by
  simp only [takeT, Bool.and_eq_true] at h
  obtain ⟨⟨⟨⟨⟨h1, h2⟩, h3⟩, h4⟩, h5⟩, h6⟩ := h
  have h7 := readyAt_mem h3 hT
  have h8 := set_of h6
  subst hT
  simp only [takeB, Bool.and_eq_true]
  exact ⟨⟨⟨⟨⟨h1, by rw [free_eq]; exact h2⟩, h7⟩, by rw [closed_eq]; exact h4⟩, by rw [last_eq]; exact h5⟩, h8⟩
/-- one_'s and last_'s. -/
theorem one_of (hT : rtab md ops = T) (h : (readyT T.2 l.toList == [i] && l.toList.set i true == l'.toList) = true) : readyB md ops l l' i = true := by
  simp only [Bool.and_eq_true] at h
  obtain ⟨h1, h2⟩ := h
  subst hT
  simp only [readyB, Bool.and_eq_true]
  exact ⟨by rw [ready_eq]; exact h1, set_of h2⟩
/-- done_'s. -/
theorem done_of (hT : rtab md ops = T) (h : (readyT T.2 l.toList == []) = true) : (Region.ready md ops l == []) = true := by
  subst hT
  rw [ready_eq]
  exact h
/-- What d waits for, as_ bits: told in the table (B), checked in one pass: each bit is a need of d, or a bit of an earlier need's. -/
def upM (B : List Nat) (d : Nat) : List Nat → Nat
  | [] => 0
  | n :: r => (2 ^ n ||| (if n < d then B.getD n 0 else 0)) ||| upM B d r
def waitsOk (T : List (List Nat × List Nat)) (B : List Nat) : Bool := (List.range T.length).all fun d => match T[d]? with
  | some r => (B.getD d 0 ||| upM B d r.1) == upM B d r.1
  | none => false
theorem upM_bit {B : List Nat} {d i : Nat} : ∀ {ns : List Nat}, (upM B d ns).testBit i = true → ∃ n ∈ ns, n = i ∨ (n < d ∧ (B.getD n 0).testBit i = true)
  | [], h => by simp [upM] at h
  | n :: r, h => by
    unfold upM at h
    rw [Nat.testBit_or, Nat.testBit_or, Bool.or_eq_true, Bool.or_eq_true] at h
    rcases h with (h | h) | h
    · rw [Nat.testBit_two_pow] at h
      exact ⟨n, List.mem_cons_self, .inl (by simpa using h)⟩
    · by_cases hn : n < d
      · rw [if_pos hn] at h
        exact ⟨n, List.mem_cons_self, .inr ⟨hn, h⟩⟩
      · rw [if_neg hn] at h
        simp at h
    · obtain ⟨m, hm, h2⟩ := upM_bit h
      exact ⟨m, List.mem_cons_of_mem _ hm, h2⟩
theorem reach_bit {T : List (List Nat × List Nat)} {B : List Nat} (hB : waitsOk T B = true) : ∀ (fuel d : Nat), d < fuel → d < T.length → (B.getD d 0).testBit i = true → reachT T i fuel d = true
  | 0, d, h, _, _ => by omega
  | fuel + 1, d, h, hd, hb => by
    have h1 := List.all_eq_true.1 hB d (List.mem_range.2 hd)
    cases hr : T[d]? with
    | none => rw [hr] at h1; simp at h1
    | some r =>
      rw [hr] at h1
      simp only [beq_iff_eq] at h1
      have h2 : (upM B d r.1).testBit i = true := by rw [← h1, Nat.testBit_or, hb, Bool.true_or]
      obtain ⟨n, hn, h3⟩ := upM_bit h2
      unfold reachT
      rw [hr]
      simp only
      rw [List.any_eq_true]
      refine ⟨n, hn, ?_⟩
      rcases h3 with rfl | ⟨h4, h5⟩
      · simp
      · rw [reach_bit hB fuel n (by omega) (by omega) h5, Bool.or_true]
def lastW (T : List (List Nat × List Nat)) (B : List Nat) (l : List Bool) (ds : List Nat) (i : Nat) : Bool := ds.all fun d => l.getD d true || (decide (d < T.length) && (B.getD d 0).testBit i)
def takeW (T : Bool × List (List Nat × List Nat)) (B : List Nat) (ds : List Nat) (l l' : List Bool) (i : Nat) : Bool := T.1 && freeT T.2 l i && readyAt T.2 l i && closedT T.2 l && lastW T.2 B l ds i && (l.set i true == l')
/-- take_'s, by the bits. -/
theorem take_ofW {B : List Nat} (hT : rtab md ops = T) (hB : waitsOk T.2 B = true) (h : takeW T B ds l.toList l'.toList i = true) : takeB md ops ds l l' i = true := by
  refine take_of hT ?_
  simp only [takeW, takeT, Bool.and_eq_true] at h ⊢
  obtain ⟨⟨⟨⟨⟨h1, h2⟩, h3⟩, h4⟩, h5⟩, h6⟩ := h
  refine ⟨⟨⟨⟨⟨h1, h2⟩, h3⟩, h4⟩, ?_⟩, h6⟩
  unfold lastW at h5
  unfold lastT
  rw [List.all_eq_true] at h5 ⊢
  intro d hd
  have h7 := h5 d hd
  rw [Bool.or_eq_true, Bool.and_eq_true, decide_eq_true_eq] at h7
  rcases h7 with h7 | ⟨h8, h9⟩
  · rw [h7, Bool.true_or]
  · rw [reach_bit hB _ d h8 h8 h9, Bool.or_true]
theorem with_tabW {P : Program} {Q : Exit → Act → World → Prop} {S : World → Prop} {n : Nat} {a : Act} {w : World} {B : List Nat} (hT : rtab md ops = T) (hB : waitsOk T.2 B = true) (h : Aside0 (rtab md ops = T) → Aside0 (waitsOk T.2 B = true) → wpAnyLast P md ops Q S ds n l a w) : wpAnyLast P md ops Q S ds n l a w := h ⟨hT⟩ ⟨hB⟩
end
/-- The operations of a region, by its number. -/
def opsIn : Code → Nat → Option (Array Oper)
  | .region id ops _, k => if id == k then some ops else none
  | .seq a b, k => match opsIn a k with
    | some o => some o
    | none => opsIn b k
  | .cond _ a b, k => match opsIn a k with
    | some o => some o
    | none => opsIn b k
  | .block _ c, k => opsIn c k
  | .loop c, k => opsIn c k
  | .scope c, k => opsIn c k
  | .rangeFunc _ _ a b, k => match opsIn a k with
    | some o => some o
    | none => opsIn b k
  | _, _ => none
def opsOf (f : Func) (k : Nat) : Array Oper := ((f.body.bind fun c => opsIn c k)).getD #[]
end Go.Proofs.YtioocldcdonlpaaDoorW.PrintLast
end

section
namespace Go.Proofs.YtioocldcdonlpaaDoorW.PrintWords
open Go.RowKit
namespace Kd
/-- An element with its index: its blocks are those that f gives to it. -/
def tag {α : Type} (f : Nat → Nat) (d : Kd α) : Kd (α × Nat) where
  sz := d.sz
  E := d.E
  K := fun w x cs => d.K w x.1 cs
  M := fun w base ok x cs => d.M w base (fun k => ok k ∧ f k = x.2) x.1 cs
  K_len := fun h => d.K_len h
  K_one := fun h => d.K_one h
  K_below := fun hb h => d.K_below hb h
  K_of_M := fun h => d.K_of_M h
  M_mono := fun hok h => d.M_mono (fun k hk => ⟨hok k hk.1, hk.2⟩) h
  M_bound := fun h => d.M_mono (fun _ hk => ⟨⟨hk.1.1, hk.2⟩, hk.1.2⟩) (d.M_bound h)
  M_move := fun hm h => d.M_move (fun k hk => hm k hk.1) h
  M_lower := fun hb h => d.M_lower hb h
/-- The cells themselves. -/
def raw (sz : Nat) : Kd (List Value) where
  sz := sz
  E := []
  K := fun _ x cs => cs = x ∧ cs.length = sz ∧ ∀ u ∈ cs, u.oneCell' = true
  M := fun _ _ _ x cs => cs = x ∧ cs.length = sz ∧ ∀ u ∈ cs, u.oneCell' = true
  K_len := fun h => h.2.1
  K_one := fun h => h.2.2
  K_below := fun _ h => h
  K_of_M := fun h => h
  M_mono := fun _ h => h
  M_bound := fun h => h
  M_move := fun _ h => h
  M_lower := fun _ h => h
/-- A row of elements (type e) of the call's own, no two of which lead to one block. -/
def S {α : Type} (d : Kd α) (e : Nat) (w : World) (base : Nat) (ok : Nat → Prop) (v : Value) (xs : List α) : Prop := ∃ f, (tag f d).R e w base ok v xs.zipIdx
/-- Element i is these cells; the others are d's. -/
def gap {α : Type} (f : Nat → Nat) (d : Kd α) (i : Nat) (c : List Value) : Kd (α × Nat) where
  sz := d.sz
  E := d.E
  K := fun w x cs => (x.2 = i → cs = c ∧ cs.length = d.sz ∧ ∀ u ∈ cs, u.oneCell' = true) ∧ (x.2 ≠ i → d.K w x.1 cs)
  M := fun w base ok x cs => (x.2 = i → cs = c ∧ cs.length = d.sz ∧ ∀ u ∈ cs, u.oneCell' = true) ∧ (x.2 ≠ i → d.M w base (fun k => ok k ∧ f k = x.2) x.1 cs)
  K_len := fun {w x cs} h => by
    by_cases hx : x.2 = i
    · exact (h.1 hx).2.1
    · exact d.K_len (h.2 hx)
  K_one := fun {w x cs} h => by
    by_cases hx : x.2 = i
    · exact (h.1 hx).2.2
    · exact d.K_one (h.2 hx)
  K_below := fun hb h => ⟨h.1, fun hx => d.K_below hb (h.2 hx)⟩
  K_of_M := fun h => ⟨h.1, fun hx => d.K_of_M (h.2 hx)⟩
  M_mono := fun hok h => ⟨h.1, fun hx => d.M_mono (fun k hk => ⟨hok k hk.1, hk.2⟩) (h.2 hx)⟩
  M_bound := fun h => ⟨h.1, fun hx => d.M_mono (fun _ hk => ⟨⟨hk.1.1, hk.2⟩, hk.1.2⟩) (d.M_bound (h.2 hx))⟩
  M_move := fun hm h => ⟨h.1, fun hx => d.M_move (fun k hk => hm k hk.1) (h.2 hx)⟩
  M_lower := fun hb h => ⟨h.1, fun hx => d.M_lower hb (h.2 hx)⟩
def H {α : Type} (d : Kd α) (e : Nat) (w : World) (base : Nat) (ok : Nat → Prop) (v : Value) (xs : List α) (i : Int) (oki : Nat → Prop) (c : List Value) : Prop :=
  (∀ k, oki k → ok k) ∧ ∃ f, (gap f d i.toNat c).R e w base (fun k => ok k ∧ ¬ oki k) v xs.zipIdx
end Kd
end Go.Proofs.YtioocldcdonlpaaDoorW.PrintWords
end

section
namespace Go.Proofs.YtioocldcdonlpaaDoorW.PrintWords
open Go.RowKit
namespace Kd
/-- What a kind reads lies in the blocks: nothing else of the world is looked at. -/
structure Heap {α : Type} (d : Kd α) : Prop where
  K : ∀ {w w1 : World} {x : α} {cs : List Value}, (∀ k, k < w.heap.size → w1.heap[k]? = w.heap[k]?) → d.K w x cs → d.K w1 x cs
theorem cell_heap {w w1 : World} (hb : ∀ k, k < w.heap.size → w1.heap[k]? = w.heap[k]?) {a : Addr} {v : Value} (h : w.cell? a = some v) : w1.cell? a = some v := by
  have := hb a.block (World.block_lt_of_cell? w a h)
  simpa [World.cell?, this] using h
theorem Heap.C {α : Type} {d : Kd α} (hd : Heap d) {w w1 : World} {A : Option Addr} {n : Nat} {xs : List α} (hb : ∀ k, k < w.heap.size → w1.heap[k]? = w.heap[k]?) (h : d.C w A n xs) : d.C w1 A n xs :=
  ⟨h.1, h.2.1, fun hn => by
    obtain ⟨ad, e, hc⟩ := h.2.2 hn
    refine ⟨ad, e, fun j p hj => ?_⟩
    obtain ⟨c, hs, hr, hcell⟩ := hc j p hj
    exact ⟨c, hs, hd.K hb hr, fun i u hu => cell_heap hb (hcell i u hu)⟩⟩
end Kd
end Go.Proofs.YtioocldcdonlpaaDoorW.PrintWords
end

section
namespace Go.Proofs.YtioocldcdonlpaaDoorW.PrintWords
open Go.RowKit
def Kept (w W : World) (S : Nat → Prop) : Prop := w.heap.size ≤ W.heap.size ∧ ∀ i, i < w.heap.size → ¬ S i → W.heap[i]? = w.heap[i]?
section
variable {w W W2 : World} {S S2 S' : Nat → Prop}
theorem Kept.refl (w : World) (S : Nat → Prop) : Kept w w S := ⟨Nat.le_refl _, fun _ _ _ => rfl⟩
theorem Kept.of_below (h : Below w.heap.size w W) (S : Nat → Prop) : Kept w W S := ⟨h.size, fun i hi _ => h.block i hi⟩
theorem Kept.mono (h : Kept w W S) (hs : ∀ k, S k → S' k) : Kept w W S' := ⟨h.1, fun i hi hn => h.2 i hi (fun hk => hn (hs i hk))⟩
theorem Kept.then_ (h : Kept w W S) (k : Kept W W2 S2) (hs : ∀ k, S2 k → S k ∨ w.heap.size ≤ k) : Kept w W2 S :=
  ⟨Nat.le_trans h.1 k.1, fun i hi hn => (k.2 i (Nat.lt_of_lt_of_le hi h.1) (fun h2 => (hs i h2).elim hn (fun h3 => by omega))).trans (h.2 i hi hn)⟩
theorem Kept.below (h : Kept w W S) (hb : Below W.heap.size W W2) : Kept w W2 S := h.then_ (Kept.of_below hb (fun _ => False)) (fun _ hk => hk.elim)
theorem Kept.alloc (h : Kept w W S) (o : Obj) : Kept w (W.alloc o) S := h.below (below_alloc (Below.refl _ _) o)
theorem Kept.drew (h : Kept w W S) : Kept w W.drew S := h
theorem Kept.drewN (h : Kept w W S) (m : Nat) : Kept w (W.drewN m) S := h
theorem Kept.setCell (h : Kept w W S) {p : Addr} (hp : S p.block ∨ w.heap.size ≤ p.block) (u : Value) : Kept w (W.setCell p u) S :=
  h.then_ (S2 := fun k => k = p.block) ⟨by simp [World.setCell], fun i _ hn => Below.heap_setCell W p u i hn⟩ (fun k hk => by rw [hk]; exact hp)
theorem blk_kept {g : Nat} {o : Obj} (hb : W.heap[g]? = some o) (hk : Kept W W2 S) (hne : ¬ S g) : W2.heap[g]? = some o := (hk.2 g (blk_lt hb) hne).trans hb
end
end Go.Proofs.YtioocldcdonlpaaDoorW.PrintWords
end

section
namespace Go.Proofs.YtioocldcdonlpaaDoorW.PrintWords
open Go.RowKit
/-- P holds in W and in every world that has W's blocks of ok. -/
def Foot (P : World → Prop) (W : World) (ok : Nat → Prop) : Prop := ∀ W' : World, (∀ k, ok k → k < W.heap.size → W'.heap[k]? = W.heap[k]?) → P W'
theorem heap_lt {W W1 : World} {k : Nat} (h : W1.heap[k]? = W.heap[k]?) (hlt : k < W.heap.size) : k < W1.heap.size := by
  rw [Array.getElem?_eq_getElem hlt] at h
  exact (Array.getElem?_eq_some_iff.1 h).1
namespace Foot
variable {P Q : World → Prop} {W W1 : World} {ok ok' : Nat → Prop}
theorem mono (h : Foot P W ok) (hok : ∀ k, ok k → ok' k) : Foot P W ok' := fun W' hW => h W' (fun k hk hlt => hW k (hok k hk) hlt)
theorem step (h : Foot P W ok) (hm : ∀ k, ok k → k < W.heap.size → W1.heap[k]? = W.heap[k]?) : Foot P W1 ok := fun W' hW => h W' (fun k hk hlt => (hW k hk (heap_lt (hm k hk hlt) hlt)).trans (hm k hk hlt))
end Foot
namespace Kd
/-- A row that is only read: what it leads to lies in ok. -/
def F {α : Type} (d : Kd α) (W : World) (ok : Nat → Prop) (A : Option Addr) (n : Nat) (xs : List α) : Prop := Foot (fun W => d.C W A n xs) W ok
/-- An element's cells: what they lead to lies in ok. -/
def FK {α : Type} (d : Kd α) (W : World) (ok : Nat → Prop) (x : α) (c : List Value) : Prop := Foot (fun W => d.K W x c) W ok
end Kd
end Go.Proofs.YtioocldcdonlpaaDoorW.PrintWords
end

section
namespace Go.Proofs.YtioocldcdonlpaaDoorW.PrintWords
open Go.RowKit
namespace Kd
section
variable {α : Type} {d : Kd α} {e base n cc g : Nat} {ok ok' okp S : Nat → Prop} {w w1 W W1 : World} {A : Option Addr} {u v v1 : Value} {xs : List α} {x : α} {c : List Value}
/-- A row of elements (type e) of the call's own; what the elements lead to is only read, and is not this row. -/
def N {α : Type} (d : Kd α) (e : Nat) (w : World) (base : Nat) (ok : Nat → Prop) (v : Value) (xs : List α) : Prop :=
  (∀ k, v.ownBlock = some k → ok k) ∧ ∃ rows : List (List Value), rows.length = xs.length ∧ (raw d.sz).R e w base (fun k => some k = v.ownBlock) v rows ∧ ∀ (j : Nat) (x : α) (c : List Value), xs[j]? = some x → rows[j]? = some c → FK d w (fun k => ok k ∧ some k ≠ v.ownBlock) x c
end
end Kd
end Go.Proofs.YtioocldcdonlpaaDoorW.PrintWords
end

section
namespace Go.Proofs.YtioocldcdonlpaaDoorW.PrintWords
/-- One cell an element. -/
theorem Reps.one {α : Type} {R : α → List Value → Prop} {ps : List α} {cs : List Value} {p : α} {v : Value} (hp : R p [v]) (h : Reps R 1 ps cs) : Reps R 1 (p :: ps) (v :: cs) := by
  refine ⟨by simp [h.1], fun j q hq => ?_⟩
  cases j with
  | zero =>
    simp only [List.getElem?_cons_zero, Option.some.injEq] at hq
    subst hq
    simpa using hp
  | succ j =>
    simp only [List.getElem?_cons_succ] at hq
    have h1 := h.2 j q hq
    simpa [Nat.mul_one] using h1
/-- More cells an element: told apart by the cells' list. -/
theorem Reps.front {α : Type} {R : α → List Value → Prop} {size : Nat} {ps : List α} {cs c all : List Value} {p : α} (hp : R p c) (hc : c.length = size) (h : Reps R size ps cs) (ha : c ++ cs = all) : Reps R size (p :: ps) all := by
  subst ha
  refine ⟨by rw [List.length_append, hc, h.1, List.length_cons, Nat.succ_mul, Nat.add_comm], fun j q hq => ?_⟩
  cases j with
  | zero =>
    simp only [List.getElem?_cons_zero, Option.some.injEq] at hq
    subst hq
    rw [Nat.zero_mul, List.drop_zero, List.take_append_of_le_length (by omega), List.take_of_length_le (by omega)]
    exact hp
  | succ j =>
    simp only [List.getElem?_cons_succ] at hq
    have h1 := h.2 j q hq
    rw [Nat.succ_mul, List.drop_append, List.drop_of_length_le (by rw [hc]; exact Nat.le_add_left _ _), List.nil_append, hc, Nat.add_sub_cancel]
    exact h1
theorem Reps.c2 {α : Type} {R : α → List Value → Prop} {ps : List α} {cs : List Value} {p : α} {va vb : Value} (hp : R p [va, vb]) (h : Reps R 2 ps cs) : Reps R 2 (p :: ps) (va :: vb :: cs) := Reps.front hp rfl h rfl
theorem Reps.c3 {α : Type} {R : α → List Value → Prop} {ps : List α} {cs : List Value} {p : α} {va vb vc : Value} (hp : R p [va, vb, vc]) (h : Reps R 3 ps cs) : Reps R 3 (p :: ps) (va :: vb :: vc :: cs) := Reps.front hp rfl h rfl
theorem Reps.c4 {α : Type} {R : α → List Value → Prop} {ps : List α} {cs : List Value} {p : α} {va vb vc vd : Value} (hp : R p [va, vb, vc, vd]) (h : Reps R 4 ps cs) : Reps R 4 (p :: ps) (va :: vb :: vc :: vd :: cs) := Reps.front hp rfl h rfl
theorem Reps.c5 {α : Type} {R : α → List Value → Prop} {ps : List α} {cs : List Value} {p : α} {va vb vc vd ve : Value} (hp : R p [va, vb, vc, vd, ve]) (h : Reps R 5 ps cs) : Reps R 5 (p :: ps) (va :: vb :: vc :: vd :: ve :: cs) := Reps.front hp rfl h rfl
theorem Reps.c6 {α : Type} {R : α → List Value → Prop} {ps : List α} {cs : List Value} {p : α} {va vb vc vd ve vf : Value} (hp : R p [va, vb, vc, vd, ve, vf]) (h : Reps R 6 ps cs) : Reps R 6 (p :: ps) (va :: vb :: vc :: vd :: ve :: vf :: cs) := Reps.front hp rfl h rfl
theorem Reps.c7 {α : Type} {R : α → List Value → Prop} {ps : List α} {cs : List Value} {p : α} {va vb vc vd ve vf vg : Value} (hp : R p [va, vb, vc, vd, ve, vf, vg]) (h : Reps R 7 ps cs) : Reps R 7 (p :: ps) (va :: vb :: vc :: vd :: ve :: vf :: vg :: cs) := Reps.front hp rfl h rfl
theorem Reps.c8 {α : Type} {R : α → List Value → Prop} {ps : List α} {cs : List Value} {p : α} {va vb vc vd ve vf vg vh : Value} (hp : R p [va, vb, vc, vd, ve, vf, vg, vh]) (h : Reps R 8 ps cs) : Reps R 8 (p :: ps) (va :: vb :: vc :: vd :: ve :: vf :: vg :: vh :: cs) := Reps.front hp rfl h rfl
theorem Reps.c9 {α : Type} {R : α → List Value → Prop} {ps : List α} {cs : List Value} {p : α} {va vb vc vd ve vf vg vh vi : Value} (hp : R p [va, vb, vc, vd, ve, vf, vg, vh, vi]) (h : Reps R 9 ps cs) : Reps R 9 (p :: ps) (va :: vb :: vc :: vd :: ve :: vf :: vg :: vh :: vi :: cs) := Reps.front hp rfl h rfl
theorem Reps.c10 {α : Type} {R : α → List Value → Prop} {ps : List α} {cs : List Value} {p : α} {va vb vc vd ve vf vg vh vi vj : Value} (hp : R p [va, vb, vc, vd, ve, vf, vg, vh, vi, vj]) (h : Reps R 10 ps cs) : Reps R 10 (p :: ps) (va :: vb :: vc :: vd :: ve :: vf :: vg :: vh :: vi :: vj :: cs) := Reps.front hp rfl h rfl
end Go.Proofs.YtioocldcdonlpaaDoorW.PrintWords
end

section
namespace Go.Proofs.YtioocldcdonlpaaDoorW.PrintLast
/-- Number i is listed too. -/
def up (b : Nat → Bool) (i : Nat) : Nat → Bool := fun j => if j = i then true else b j
end Go.Proofs.YtioocldcdonlpaaDoorW.PrintLast
end

section
namespace Go.Proofs.YtioocldcdonlpaaDoorW.PrintMore
open Go.RowKit Go.Proofs.YtioocldcdonlpaaDoorW.PrintWords
/-- 'max' and 'min' of two whole numbers. -/
theorem max2_int (k k' : IntKind) (x y : Int) : Builtin.max2 (.int k x) (.int k' y) = pure (.int k (if x < y then y else x)) := by simp only [Builtin.max2, gt_iff_lt]
theorem min2_int (k k' : IntKind) (x y : Int) : Builtin.min2 (.int k x) (.int k' y) = pure (.int k (if y < x then y else x)) := by simp only [Builtin.min2]
theorem max_two (ats : Array TypeId) (ty : TypeId) (a b : Value) : Builtin.max_ ats ty #[a, b] = (Builtin.max2 a b >>= fun s => pure s) := by simp only [Builtin.max_, List.foldlM_cons, List.foldlM_nil]
theorem min_two (ats : Array TypeId) (ty : TypeId) (a b : Value) : Builtin.min_ ats ty #[a, b] = (Builtin.min2 a b >>= fun s => pure s) := by simp only [Builtin.min_, List.foldlM_cons, List.foldlM_nil]
theorem max_three (ats : Array TypeId) (ty : TypeId) (a b c : Value) : Builtin.max_ ats ty #[a, b, c] = (Builtin.max2 a b >>= fun s => Builtin.max2 s c >>= fun s => pure s) := by simp only [Builtin.max_, List.foldlM_cons, List.foldlM_nil]
theorem min_three (ats : Array TypeId) (ty : TypeId) (a b c : Value) : Builtin.min_ ats ty #[a, b, c] = (Builtin.min2 a b >>= fun s => Builtin.min2 s c >>= fun s => pure s) := by simp only [Builtin.min_, List.foldlM_cons, List.foldlM_nil]
theorem max_four (ats : Array TypeId) (ty : TypeId) (a b c d : Value) : Builtin.max_ ats ty #[a, b, c, d] = (Builtin.max2 a b >>= fun s => Builtin.max2 s c >>= fun s => Builtin.max2 s d >>= fun s => pure s) := by simp only [Builtin.max_, List.foldlM_cons, List.foldlM_nil]
theorem min_four (ats : Array TypeId) (ty : TypeId) (a b c d : Value) : Builtin.min_ ats ty #[a, b, c, d] = (Builtin.min2 a b >>= fun s => Builtin.min2 s c >>= fun s => Builtin.min2 s d >>= fun s => pure s) := by simp only [Builtin.min_, List.foldlM_cons, List.foldlM_nil]
end Go.Proofs.YtioocldcdonlpaaDoorW.PrintMore
namespace Go.Proofs.YtioocldcdonlpaaDoorW.PrintWords
open Go.RowKit
section
variable {P : Program} {ops : Array Oper} {rest : List Oper} {o : Oper} {a : Act} {Q : Exit → Act → World → Prop} {W : World}
/-- The operation is a call of this function (a cheap look ahead of a dear step). -/
theorem gate_callee {f : FuncId} {as_ : Array Operand} {ts : Array TypeId} (_ho : o.op = .call { callee := .value (.func f), args := as_, argTypes := ts }) (h : wpList P ops Q (o :: rest) a W) : wpList P ops Q (o :: rest) a W := h
/-- The operation is a builtin over these places. -/
theorem gate_builtin {b : Builtin} {xs : Array Operand} {ts : Array TypeId} (_ho : o.op = .call { callee := .builtin b, args := xs, argTypes := ts }) (h : wpList P ops Q (o :: rest) a W) : wpList P ops Q (o :: rest) a W := h
end
/-- It says x = x, and that is its use: 'rw [drewN_self w]' fails where the world was not drawn, and the row behind it is skipped. -/
theorem drewN_self (w : World) (n : Nat) : w.drewN n = w.drewN n := rfl
end Go.Proofs.YtioocldcdonlpaaDoorW.PrintWords
end

section
namespace Go.Proofs.YtioocldcdonlpaaDoorW.PrintWords
open Go.RowKit
theorem mp_beq_nil (l : List UInt8) : (l == []) = l.isEmpty := by cases l <;> rfl
theorem mp_bne_nil (l : List UInt8) : (l != []) = !l.isEmpty := by cases l <;> rfl
end Go.Proofs.YtioocldcdonlpaaDoorW.PrintWords
end

section
namespace Go.Proofs.YtioocldcdonlpaaDoorW.PrintMore
open Go.RowKit Go.Proofs.YtioocldcdonlpaaDoorW.PrintWords Go.Proofs.YtioocldcdonlpaaDoorW.PrintLast
section
variable {w W W1 : World} {g : Nat} {o : Obj}
/-- A block, moved over new blocks and draws. -/
theorem zk (b : Aside0 (w.heap[g]? = some o)) (m : w.heap[g]? = some o → W.heap[g]? = some o := by intro h_; (with_reducible repeat (first | refine blk_drewN ?_ _ | refine blk_drew ?_ | refine blk_alloc ?_ _)); exact h_) : W.heap[g]? = some o := m b.out
theorem zb (b : Aside0 (w.heap[g]? = some o)) (hb : Below W.heap.size W W1) (m : w.heap[g]? = some o → W.heap[g]? = some o := by intro h_; (with_reducible repeat (first | refine blk_drewN ?_ _ | refine blk_drew ?_ | refine blk_alloc ?_ _)); exact h_) : Aside0 (W1.heap[g]? = some o) := ⟨blk_below (m b.out) hb⟩
theorem zl {g' : Nat} (hg : g' = W.heap.size) (b : Aside0 (w.heap[g]? = some o)) (m : w.heap[g]? = some o → W.heap[g]? = some o := by intro h_; (with_reducible repeat (first | refine blk_drewN ?_ _ | refine blk_drew ?_ | refine blk_alloc ?_ _)); exact h_) : Aside0 (g ≠ g') := ⟨by rw [hg]; exact Nat.ne_of_lt (blk_lt (m b.out))⟩
theorem zg {g' : Nat} (hg : g' = W.heap.size) (b : Aside0 (w.heap[g]? = some o)) (m : w.heap[g]? = some o → W.heap[g]? = some o := by intro h_; (with_reducible repeat (first | refine blk_drewN ?_ _ | refine blk_drew ?_ | refine blk_alloc ?_ _)); exact h_) : Aside0 (g' ≠ g) := ⟨by rw [hg]; exact Nat.ne_of_gt (blk_lt (m b.out))⟩
/-- A block, moved over stores too: into others, into itself. -/
theorem zq {g t : Nat} {cs0 cs CS : Array Value} (b : Aside0 (w.heap[g]? = some (.cells cs0 t (0, 0)))) (m : W.heap[g]? = some (.cells cs t (0, 0)) := by repeat (with_reducible first | apply blk_drewN | apply blk_drew | apply blk_alloc | apply blk_set | (apply blk_far; case hp => exact Aside0.out (by with_reducible assumption)) | exact Aside0.out (by with_reducible assumption))) (e : cs = CS := by rfl) : W.heap[g]? = some (.cells CS t (0, 0)) := e ▸ m
end
section
variable {α : Type} {d : Kd α} {e : Nat} {w W W1 : World} {base : Nat} {ok : Nat → Prop} {v : Value} {xs : List α}
theorem zr (b : Aside0 (d.R e w base ok v xs)) (m : d.R e w base ok v xs → d.R e W base ok v xs := by intro h_; (with_reducible repeat (first | apply Kd.R_alloc | apply Kd.R_drewN | apply Kd.R_drew)); exact h_) : d.R e W base ok v xs := m b.out
theorem zrf (h : d.R e w base ok v xs) (m : d.R e w base ok v xs → d.R e W base ok v xs := by intro h_; repeat (first | (with_reducible first | exact h_ | apply Kd.R_alloc | apply Kd.R_drewN | apply Kd.R_drew) | refine Kd.R_far ?_ (fun _ hk => hk.2) _)) : d.R e W base ok v xs := m h
theorem zrb (b : Aside0 (d.R e w base ok v xs)) (hb : Below W.heap.size W W1) (m : d.R e w base ok v xs → d.R e W base ok v xs := by intro h_; (with_reducible repeat (first | apply Kd.R_alloc | apply Kd.R_drewN | apply Kd.R_drew)); exact h_) : Aside0 (d.R e W1 base ok v xs) := ⟨Kd.R_below (m b.out) hb⟩
end
section
variable {P : Program} {ops : Array Oper} {rest : List Oper} {o : Oper} {a : Act} {Q : Exit → Act → World → Prop}
theorem zbx {W : World} {N : Tmp} {cs : Array Value} {t : TypeId}
    (h : ∀ g, g = W.heap.size → ∀ w1, w1.heap[g]? = some (.cells cs t (0, 0)) → Below W.heap.size W w1 → wpList P ops Q rest (a.put o.dst (.pointer (some ⟨g, 0, none⟩))) w1)
    (hd : o.dst = some N := by rfl) (hgd : o.guard = none := by rfl)
    (hrun : (execOp a.eval o).run P W = .ok (.value (.pointer (some ⟨W.heap.size, 0, none⟩))) (W.alloc (.cells cs t (0, 0))) := by first | (go_simp; done) | (go_simp; rfl)) : wpList P ops Q (o :: rest) a W := box_event hgd hd hrun h
theorem zgl {oi : Oper} {a : Act} {w : World} (N : Option Tmp) {f : FuncId} {fn : Func} {as_ : Array Operand} {ts : Array TypeId} (hf : P.funcs[f]? = some fn) (args : Array Value)
    (h : Calls P f args w fun e w' => ∃ v, e = .returned v ∧ wpList P ops Q rest (a.put N v) w') (hd : oi.dst = N := by rfl) (hg : oi.guard = none := by rfl) (hname : (fn.name == "runtime.NumGoroutine") = false := by kernel_rfl) (hb : fn.body.isSome = true := by rfl)
    (hop : oi.op = .call { callee := .value (.func f), args := as_, argTypes := ts } := by rfl)
    (hargs : as_.map a.eval = args := by (try simp only [List.map_toArray, List.map_cons, List.map_nil]); first | done | rfl | (simp only [List.length_drop, List.length_take]; rfl)) : wpList P ops Q (oi :: rest) a w := goesL_ N hd hg hf hname hb args hop hargs h
end
section
variable {P : Program} {md : Region.Mode} {ops : Array Oper} {Q : Exit → Act → World → Prop} {S : World → Prop} {ds : List Nat}
theorem zpu {T : Bool × List (List Nat × List Nat)} (i : Nat) {N : Option Tmp} {oi : Oper} {v : Value} {fuel : Nat} {l : Array Bool} {a : Act} {w : World} {l' : Array Bool} (HT : Aside0 (rtab md ops = T)) {a' : Act}
    (h : wpAnyLast P md ops Q S ds fuel l' a' w) (hl : l.setIfInBounds i true = l' := by simp only [List.setIfInBounds_toArray, List.set_cons_zero, List.set_cons_succ]; rfl) (hi : ops[i]? = some oi := by rfl) (hN : oi.dst = N := by rfl) (hc : anyT T l.toList l'.toList i = true := by kernel_rfl)
    (hQ : ∀ c a w, Q (.panic c) (a.put oi.dst v) w → Q (.panic c) a w := by exact fun _ _ _ h => h)
    (hy : Yields P ops oi v a := by refine Or.inl ⟨by rfl, ?_⟩; intro w'; go_simp; with_reducible rfl)
    (ha : a.put N v = a' := by simp only [Act.put, List.setIfInBounds_toArray, List.set_cons_zero, List.set_cons_succ, i64_w, i32_w]; rfl) : wpAnyLast P md ops Q S ds (fuel + 1) l a w := pure_ l' hi hN (any_of HT.out hc) hQ hy ha h
theorem ztk {T : Bool × List (List Nat × List Nat)} {B : List Nat} (i : Nat) {N : Option Tmp} {oi : Oper} {v : Value} {fuel : Nat} {l : Array Bool} {a : Act} {w : World} {l' : Array Bool} (HT : Aside0 (rtab md ops = T)) (HW : Aside0 (waitsOk T.2 B = true)) (hS : S w) {a' : Act}
    (h : wpAnyLast P md ops Q S ds fuel l' a' w) (hl : l.setIfInBounds i true = l' := by simp only [List.setIfInBounds_toArray, List.set_cons_zero, List.set_cons_succ]; rfl) (hi : ops[i]? = some oi := by rfl) (hN : oi.dst = N := by rfl) (hc : takeW T B ds l.toList l'.toList i = true := by kernel_rfl)
    (hQ : ∀ c a w, Q (.panic c) (a.put oi.dst v) w → Q (.panic c) a w := by exact fun _ _ _ h => h)
    (hy : YieldsIf P ops S oi v a := by refine Or.inl ⟨by rfl, ?_⟩; intro w' hS_; repeat (obtain ⟨s_, hS_⟩ := hS_); go_simp; with_reducible rfl)
    (ha : a.put N v = a' := by simp only [Act.put, List.setIfInBounds_toArray, List.set_cons_zero, List.set_cons_succ, i64_w, i32_w]; rfl) : wpAnyLast P md ops Q S ds (fuel + 1) l a w := take_ l' hi hN (take_ofW HT.out HW.out hc) hQ hy hS ha h
theorem zon {T : Bool × List (List Nat × List Nat)} (i : Nat) {N : Option Tmp} {oi : Oper} {fuel : Nat} {l l' : Array Bool} {a : Act} {w : World} (HT : Aside0 (rtab md ops = T))
    (h : ∀ K : Act → World → Prop, Shut (∀ a' w', S w' → (S w' → wpAnyLast P md ops Q S ds fuel l' a' w') → K a' w') → if Region.wanted oi (yielded ops a.tmps) = true then Oper.wp P oi a w K Q else K (a.put N undef) w)
    (hl : l.setIfInBounds i true = l' := by simp only [List.setIfInBounds_toArray, List.set_cons_zero, List.set_cons_succ]; rfl) (hi : ops[i]? = some oi := by rfl) (hN : oi.dst = N := by rfl) (hc : (readyT T.2 l.toList == [i] && l.toList.set i true == l'.toList) = true := by kernel_rfl) (hd : i ∉ ds := by decide) : wpAnyLast P md ops Q S ds (fuel + 1) l a w := one_ l' hi hN (one_of HT.out hc) hd h
theorem zgo {oi : Oper} {N : Option Tmp} {a : Act} {w : World} {K : Act → World → Prop} {f : FuncId} {fn : Func} {as_ : Array Operand} {ts : Array TypeId} (hf : P.funcs[f]? = some fn) (args : Array Value)
    (h : Calls P f args w fun e w' => ∃ v, e = .returned v ∧ K (a.put N v) w') (hname : (fn.name == "runtime.NumGoroutine") = false := by kernel_rfl) (hb : fn.body.isSome = true := by rfl) (hw : Region.wanted oi (yielded ops a.tmps) = true := by rfl) (hN : oi.dst = N := by rfl)
    (hop : oi.op = .call { callee := .value (.func f), args := as_, argTypes := ts } := by rfl) (hargs : as_.map a.eval = args := by (try simp only [List.map_toArray, List.map_cons, List.map_nil]); first | done | rfl | (simp only [List.length_drop, List.length_take]; rfl)) : if Region.wanted oi (yielded ops a.tmps) = true then Oper.wp P oi a w K Q else K (a.put N undef) w := goes_ hf hname hb args hw hN hop hargs h
end
theorem zo_ {p : Prop} [Decidable p] (h : decide p = true := by first | (with_reducible assumption) | assumption) : p := of_decide_eq_true h
end Go.Proofs.YtioocldcdonlpaaDoorW.PrintMore
end

section
namespace Go.Proofs.YtioocldcdonlpaaDoorW.PrintWords
/-- A number's decimal text, as the library's own words have it. -/
abbrev itoaL (n : Int) : List UInt8 := Go.Lib.itoa n
/-- What a growing family of answers comes to. -/
noncomputable def lim {α : Type} (g : Nat → Option α) : Option α := open Classical in if h : ∃ k r, g k = some r then g h.choose else none
/-- g grows, and o is what it comes to. -/
structure LimIs {α : Type} (g : Nat → Option α) (o : Option α) : Prop where
  mono : ∀ k, LeO (g k) (g (k + 1))
  up : ∀ k, LeO (g k) o
  at_ : ∀ r, o = some r → ∃ k, g k = some r
theorem lim_is {α : Type} {g : Nat → Option α} (h : ∀ k, LeO (g k) (g (k + 1))) : LimIs g (lim g) := by
  refine ⟨h, fun k r hr => ?_, fun r hr => ?_⟩
  · have hex : ∃ k r, g k = some r := ⟨k, r, hr⟩
    unfold lim
    rw [dif_pos hex]
    obtain ⟨r', hr'⟩ := hex.choose_spec
    have h1 := at_rounds h (Nat.le_max_left hex.choose k) hr'
    have h2 := at_rounds h (Nat.le_max_right hex.choose k) hr
    rw [h1] at h2
    rw [hr', h2]
  · unfold lim at hr
    split at hr
    · exact ⟨_, hr⟩
    · cases hr
theorem LimIs.eq {α : Type} {g : Nat → Option α} {o o' : Option α} (h : LimIs g o) (h' : LimIs g o') : o = o' := by
  cases o with
  | some r =>
    obtain ⟨k, hk⟩ := h.at_ r rfl
    exact (h'.up k r hk).symm
  | none =>
    cases o' with
    | none => rfl
    | some r =>
      obtain ⟨k, hk⟩ := h'.at_ r rfl
      exact h.up k r hk
theorem LimIs.const {α : Type} (o : Option α) : LimIs (fun _ => o) o := ⟨fun _ => LeO.refl _, fun _ => LeO.refl _, fun r h => ⟨0, h⟩⟩
theorem LimIs.ite {α : Type} {c : Prop} [Decidable c] {g f : Nat → Option α} {x y : Option α} (h : LimIs g x) (k : LimIs f y) : LimIs (fun n => if c then g n else f n) (if c then x else y) := by
  by_cases hc : c
  · simpa only [if_pos hc] using h
  · simpa only [if_neg hc] using k
theorem LimIs.bind {α β : Type} {g : Nat → Option α} {f : Nat → α → Option β} {x : Option α} {F : α → Option β} (h : LimIs g x) (k : ∀ a, LimIs (fun n => f n a) (F a)) : LimIs (fun n => (g n).bind (f n)) (x.bind F) := by
  refine ⟨fun n => LeO.bind (h.mono n) (fun a => (k a).mono n), fun n r hr => ?_, fun r hr => ?_⟩
  · obtain ⟨a, ha, hf⟩ := Option.bind_eq_some_iff.1 hr
    exact Option.bind_eq_some_iff.2 ⟨a, h.up n a ha, (k a).up n r hf⟩
  · obtain ⟨a, ha, hf⟩ := Option.bind_eq_some_iff.1 hr
    obtain ⟨n1, h1⟩ := h.at_ a ha
    obtain ⟨n2, h2⟩ := (k a).at_ r hf
    refine ⟨max n1 n2, Option.bind_eq_some_iff.2 ⟨a, at_rounds h.mono (Nat.le_max_left _ _) h1, at_rounds (k a).mono (Nat.le_max_right _ _) h2⟩⟩
theorem LimIs.step {α : Type} {g : Nat → Option α} {o : Option α} (hm : ∀ k, LeO (g k) (g (k + 1))) (h : LimIs (fun n => g (n + 1)) o) : LimIs g o :=
  ⟨hm, fun k r hr => h.up k r (hm k r hr), fun r hr => by obtain ⟨k, hk⟩ := h.at_ r hr; exact ⟨k + 1, hk⟩⟩
theorem lim_at {α : Type} {g : Nat → Option α} (h : ∀ k, LeO (g k) (g (k + 1))) {r : α} (hr : lim g = some r) : ∃ k, g k = some r := (lim_is h).at_ r hr
def gb64 (x : Int) : Prop := -9223372036854775808 ≤ x ∧ x ≤ 9223372036854775807
instance (x : Int) : Decidable (gb64 x) := by unfold gb64; exact inferInstance
end Go.Proofs.YtioocldcdonlpaaDoorW.PrintWords
end

section
namespace Go.Proofs.YtioocldcdonlpaaDoor.A
open Go.RowKit Go.Proofs.YtioocldcdonlpaaDoorW.PrintWords Go.Proofs.YtioocldcdonlpaaDoorW.PrintLast Go.Proofs.YtioocldcdonlpaaDoorW.PrintMore
attribute [local go_sem] max2_int min2_int max_two min_two max_three min_three max_four min_four
end Go.Proofs.YtioocldcdonlpaaDoor.A
end

section
namespace Go.Proofs.YtioocldcdonlpaaDoor.A
open Go.RowKit Go.Proofs.YtioocldcdonlpaaDoorW.PrintWords Go.Proofs.YtioocldcdonlpaaDoorW.PrintLast Go.Proofs.YtioocldcdonlpaaDoorW.PrintMore
attribute [local go_sem] max2_int min2_int max_two min_two max_three min_three max_four min_four
def spec_l00Cut.l0 : Nat → ByteArray → Int → List ByteArray → Int → Int → Option (List ByteArray)
  | 0, _, _, _, _, _ => none
  | k + 1, x0, x1, x5, x6, x7 => if x7 < (x0.size : Int) then (if 0 ≤ x7 then (if (bt x0 x7) = x1 then (if 0 ≤ x6 then (if x6 ≤ x7 then (if x7 ≤ (x0.size : Int) then (if x5.length < 8796093022208 then (spec_l00Cut.l0 k x0 x1 (x5 ++ [x0.extract (x6 : Int).toNat (x7 : Int).toNat]) (wrap64 (x7 + 1)) (wrap64 (x7 + 1))) else (none)) else (none)) else (none)) else (none)) else (spec_l00Cut.l0 k x0 x1 x5 x6 (wrap64 (x7 + 1)))) else (none)) else (if 0 ≤ x6 then (if x6 ≤ (x0.size : Int) then (if x5.length < 8796093022208 then (some (x5 ++ [x0.extract (x6 : Int).toNat x0.size])) else (none)) else (none)) else (none))
def spec_l00Cut.f (k : Nat) (a0 : ByteArray) (a1 : Int) : Option (List ByteArray) := spec_l00Cut.l0 k a0 a1 (([] : List ByteArray)) 0 0
theorem spec_l00Cut.mono_l : ∀ k, (∀ y0 y1 y2 y3 y4, LeO (spec_l00Cut.l0 k y0 y1 y2 y3 y4) (spec_l00Cut.l0 (k + 1) y0 y1 y2 y3 y4))
  | 0 => fun _ _ _ _ _ r h => by simp [spec_l00Cut.l0] at h
  | k + 1 => by
    have ih0 := spec_l00Cut.mono_l k
    · intro y0 y1 y2 y3 y4
      unfold spec_l00Cut.l0
      repeat' first
      | (with_reducible exact ih0 _ _ _ _ _)
      | (with_reducible exact LeO.refl _)
      | (with_reducible exact LeO.none _)
      | (with_reducible refine LeO.ite ?_ ?_)
      | (with_reducible refine LeO.bind ?_ (fun _ => ?_))
      | exact ih0 _ _ _ _ _
      | exact LeO.none _
      | refine LeO.ite ?_ ?_
      | refine LeO.bind ?_ (fun _ => ?_)
theorem spec_l00Cut.mono : ∀ a0 a1 k, LeO (spec_l00Cut.f k a0 a1) (spec_l00Cut.f (k + 1) a0 a1) := by
  intro a0 a1 k
  have ih0 := spec_l00Cut.mono_l k
  unfold spec_l00Cut.f
  repeat' first
      | (with_reducible exact ih0 _ _ _ _ _)
      | (with_reducible exact LeO.refl _)
      | (with_reducible exact LeO.none _)
      | (with_reducible refine LeO.ite ?_ ?_)
      | (with_reducible refine LeO.bind ?_ (fun _ => ?_))
      | exact ih0 _ _ _ _ _
      | exact LeO.none _
      | refine LeO.ite ?_ ?_
      | refine LeO.bind ?_ (fun _ => ?_)
noncomputable def spec_l00Cut.lv0 (x0 : ByteArray) (x1 : Int) (x5 : List ByteArray) (x6 : Int) (x7 : Int) : Option (List ByteArray) := lim (fun k_ => spec_l00Cut.l0 k_ x0 x1 x5 x6 x7)
noncomputable def spec_l00Cut.v (a0 : ByteArray) (a1 : Int) : Option (List ByteArray) := lim (fun k_ => spec_l00Cut.f k_ a0 a1)
theorem spec_l00Cut.lv0_lim (x0 : ByteArray) (x1 : Int) (x5 : List ByteArray) (x6 : Int) (x7 : Int) : LimIs (fun k_ => spec_l00Cut.l0 k_ x0 x1 x5 x6 x7) (spec_l00Cut.lv0 x0 x1 x5 x6 x7) := lim_is (fun k_ => (spec_l00Cut.mono_l k_) x0 x1 x5 x6 x7)
theorem spec_l00Cut.v_lim (a0 : ByteArray) (a1 : Int) : LimIs (fun k_ => spec_l00Cut.f k_ a0 a1) (spec_l00Cut.v a0 a1) := lim_is (fun k_ => spec_l00Cut.mono a0 a1 k_)
theorem spec_l00Cut.lv0_eq (x0 : ByteArray) (x1 : Int) (x5 : List ByteArray) (x6 : Int) (x7 : Int) : spec_l00Cut.lv0 x0 x1 x5 x6 x7 = (if x7 < (x0.size : Int) then (if 0 ≤ x7 then (if (bt x0 x7) = x1 then (if 0 ≤ x6 then (if x6 ≤ x7 then (if x7 ≤ (x0.size : Int) then (if x5.length < 8796093022208 then (spec_l00Cut.lv0 x0 x1 (x5 ++ [x0.extract (x6 : Int).toNat (x7 : Int).toNat]) (wrap64 (x7 + 1)) (wrap64 (x7 + 1))) else (none)) else (none)) else (none)) else (none)) else (spec_l00Cut.lv0 x0 x1 x5 x6 (wrap64 (x7 + 1)))) else (none)) else (if 0 ≤ x6 then (if x6 ≤ (x0.size : Int) then (if x5.length < 8796093022208 then (some (x5 ++ [x0.extract (x6 : Int).toNat x0.size])) else (none)) else (none)) else (none)) : Option (List ByteArray)) := by
  refine LimIs.eq (spec_l00Cut.lv0_lim x0 x1 x5 x6 x7) ?_
  refine LimIs.step (fun k_ => (spec_l00Cut.mono_l k_) x0 x1 x5 x6 x7) ?_
  simp only [spec_l00Cut.l0]
  repeat' (with_reducible first | exact spec_l00Cut.lv0_lim _ _ _ _ _ | exact LimIs.const _ | refine LimIs.ite ?_ ?_ | refine LimIs.bind ?_ (fun _ => ?_))
theorem spec_l00Cut.v_eq (a0 : ByteArray) (a1 : Int) : spec_l00Cut.v a0 a1 = (spec_l00Cut.lv0 a0 a1 (([] : List ByteArray)) 0 0 : Option (List ByteArray)) := by
  refine LimIs.eq (spec_l00Cut.v_lim a0 a1) ?_
  simp only [spec_l00Cut.f]
  repeat' (with_reducible first | exact spec_l00Cut.lv0_lim _ _ _ _ _ | exact LimIs.const _ | refine LimIs.ite ?_ ?_ | refine LimIs.bind ?_ (fun _ => ?_))
mutual
def spec_l00Number.j0 : Nat → ByteArray → Int → Bool → Option (Int × Bool)
  | 0, _, _, _ => none
  | k + 1, x0, x4, x14 => if x14 = true then (if 1 ≤ (x0.size : Int) then (spec_l00Number.j1 k (x0.extract 1 x0.size) (-1)) else (none)) else (spec_l00Number.j1 k x0 x4)
def spec_l00Number.j1 : Nat → ByteArray → Int → Option (Int × Bool)
  | 0, _, _ => none
  | k + 1, x0, x4 => if (x0.size : Int) = 0 then (spec_l00Number.j2 k x0 x4 true) else (if (x0.size : Int) > 18 then (spec_l00Number.j2 k x0 x4 true) else (if 0 < (x0.size : Int) then (if (bt x0 0) = 48 then (if (x0.size : Int) > 1 then (spec_l00Number.j2 k x0 x4 true) else (spec_l00Number.j2 k x0 x4 (decide (x4 < 0)))) else (spec_l00Number.j2 k x0 x4 false)) else (none)))
def spec_l00Number.j2 : Nat → ByteArray → Int → Bool → Option (Int × Bool)
  | 0, _, _, _ => none
  | k + 1, x0, x4, x38 => if x38 = true then (some (0, false)) else (spec_l00Number.l0 k x0 x4 0 0)
def spec_l00Number.l0 : Nat → ByteArray → Int → Int → Int → Option (Int × Bool)
  | 0, _, _, _, _ => none
  | k + 1, x0, x4, x5, x6 => if x6 < (x0.size : Int) then (if 0 ≤ x6 then (if (bt x0 x6) < 48 then (some (0, false)) else (if (bt x0 x6) > 57 then (some (0, false)) else (spec_l00Number.l0 k x0 x4 (wrap64 ((wrap64 ((wrap64 (x5 * 10)) + (wrap64 (bt x0 x6)))) - 48)) (wrap64 (x6 + 1))))) else (none)) else (some (wrap64 (x4 * x5), true))
end
def spec_l00Number.f (k : Nat) (a0 : ByteArray) : Option (Int × Bool) := if (a0.size : Int) > 0 then (if 0 < (a0.size : Int) then (spec_l00Number.j0 k a0 1 ((bt a0 0) == 45)) else (none)) else (spec_l00Number.j0 k a0 1 false)
theorem spec_l00Number.mono_l : ∀ k, (∀ y0 y1 y2, LeO (spec_l00Number.j0 k y0 y1 y2) (spec_l00Number.j0 (k + 1) y0 y1 y2)) ∧ (∀ y0 y1, LeO (spec_l00Number.j1 k y0 y1) (spec_l00Number.j1 (k + 1) y0 y1)) ∧ (∀ y0 y1 y2, LeO (spec_l00Number.j2 k y0 y1 y2) (spec_l00Number.j2 (k + 1) y0 y1 y2)) ∧ (∀ y0 y1 y2 y3, LeO (spec_l00Number.l0 k y0 y1 y2 y3) (spec_l00Number.l0 (k + 1) y0 y1 y2 y3))
  | 0 => ⟨fun _ _ _ r h => by simp [spec_l00Number.j0] at h, fun _ _ r h => by simp [spec_l00Number.j1] at h, fun _ _ _ r h => by simp [spec_l00Number.j2] at h, fun _ _ _ _ r h => by simp [spec_l00Number.l0] at h⟩
  | k + 1 => by
    obtain ⟨ih0, ih1, ih2, ih3⟩ := spec_l00Number.mono_l k
    refine ⟨?_, ?_, ?_, ?_⟩
    · intro y0 y1 y2
      unfold spec_l00Number.j0
      repeat' first
      | (with_reducible exact ih0 _ _ _)
      | (with_reducible exact ih1 _ _)
      | (with_reducible exact ih2 _ _ _)
      | (with_reducible exact ih3 _ _ _ _)
      | (with_reducible exact LeO.refl _)
      | (with_reducible exact LeO.none _)
      | (with_reducible refine LeO.ite ?_ ?_)
      | (with_reducible refine LeO.bind ?_ (fun _ => ?_))
      | exact ih0 _ _ _
      | exact ih1 _ _
      | exact ih2 _ _ _
      | exact ih3 _ _ _ _
      | exact LeO.none _
      | refine LeO.ite ?_ ?_
      | refine LeO.bind ?_ (fun _ => ?_)
    · intro y0 y1
      unfold spec_l00Number.j1
      repeat' first
      | (with_reducible exact ih0 _ _ _)
      | (with_reducible exact ih1 _ _)
      | (with_reducible exact ih2 _ _ _)
      | (with_reducible exact ih3 _ _ _ _)
      | (with_reducible exact LeO.refl _)
      | (with_reducible exact LeO.none _)
      | (with_reducible refine LeO.ite ?_ ?_)
      | (with_reducible refine LeO.bind ?_ (fun _ => ?_))
      | exact ih0 _ _ _
      | exact ih1 _ _
      | exact ih2 _ _ _
      | exact ih3 _ _ _ _
      | exact LeO.none _
      | refine LeO.ite ?_ ?_
      | refine LeO.bind ?_ (fun _ => ?_)
    · intro y0 y1 y2
      unfold spec_l00Number.j2
      repeat' first
      | (with_reducible exact ih0 _ _ _)
      | (with_reducible exact ih1 _ _)
      | (with_reducible exact ih2 _ _ _)
      | (with_reducible exact ih3 _ _ _ _)
      | (with_reducible exact LeO.refl _)
      | (with_reducible exact LeO.none _)
      | (with_reducible refine LeO.ite ?_ ?_)
      | (with_reducible refine LeO.bind ?_ (fun _ => ?_))
      | exact ih0 _ _ _
      | exact ih1 _ _
      | exact ih2 _ _ _
      | exact ih3 _ _ _ _
      | exact LeO.none _
      | refine LeO.ite ?_ ?_
      | refine LeO.bind ?_ (fun _ => ?_)
    · intro y0 y1 y2 y3
      unfold spec_l00Number.l0
      repeat' first
      | (with_reducible exact ih0 _ _ _)
      | (with_reducible exact ih1 _ _)
      | (with_reducible exact ih2 _ _ _)
      | (with_reducible exact ih3 _ _ _ _)
      | (with_reducible exact LeO.refl _)
      | (with_reducible exact LeO.none _)
      | (with_reducible refine LeO.ite ?_ ?_)
      | (with_reducible refine LeO.bind ?_ (fun _ => ?_))
      | exact ih0 _ _ _
      | exact ih1 _ _
      | exact ih2 _ _ _
      | exact ih3 _ _ _ _
      | exact LeO.none _
      | refine LeO.ite ?_ ?_
      | refine LeO.bind ?_ (fun _ => ?_)
theorem spec_l00Number.mono : ∀ a0 k, LeO (spec_l00Number.f k a0) (spec_l00Number.f (k + 1) a0) := by
  intro a0 k
  obtain ⟨ih0, ih1, ih2, ih3⟩ := spec_l00Number.mono_l k
  unfold spec_l00Number.f
  repeat' first
      | (with_reducible exact ih0 _ _ _)
      | (with_reducible exact ih1 _ _)
      | (with_reducible exact ih2 _ _ _)
      | (with_reducible exact ih3 _ _ _ _)
      | (with_reducible exact LeO.refl _)
      | (with_reducible exact LeO.none _)
      | (with_reducible refine LeO.ite ?_ ?_)
      | (with_reducible refine LeO.bind ?_ (fun _ => ?_))
      | exact ih0 _ _ _
      | exact ih1 _ _
      | exact ih2 _ _ _
      | exact ih3 _ _ _ _
      | exact LeO.none _
      | refine LeO.ite ?_ ?_
      | refine LeO.bind ?_ (fun _ => ?_)
noncomputable def spec_l00Number.jv0 (x0 : ByteArray) (x4 : Int) (x14 : Bool) : Option (Int × Bool) := lim (fun k_ => spec_l00Number.j0 k_ x0 x4 x14)
noncomputable def spec_l00Number.jv1 (x0 : ByteArray) (x4 : Int) : Option (Int × Bool) := lim (fun k_ => spec_l00Number.j1 k_ x0 x4)
noncomputable def spec_l00Number.jv2 (x0 : ByteArray) (x4 : Int) (x38 : Bool) : Option (Int × Bool) := lim (fun k_ => spec_l00Number.j2 k_ x0 x4 x38)
noncomputable def spec_l00Number.lv0 (x0 : ByteArray) (x4 : Int) (x5 : Int) (x6 : Int) : Option (Int × Bool) := lim (fun k_ => spec_l00Number.l0 k_ x0 x4 x5 x6)
noncomputable def spec_l00Number.v (a0 : ByteArray) : Option (Int × Bool) := lim (fun k_ => spec_l00Number.f k_ a0)
theorem spec_l00Number.jv0_lim (x0 : ByteArray) (x4 : Int) (x14 : Bool) : LimIs (fun k_ => spec_l00Number.j0 k_ x0 x4 x14) (spec_l00Number.jv0 x0 x4 x14) := lim_is (fun k_ => (spec_l00Number.mono_l k_).1 x0 x4 x14)
theorem spec_l00Number.jv1_lim (x0 : ByteArray) (x4 : Int) : LimIs (fun k_ => spec_l00Number.j1 k_ x0 x4) (spec_l00Number.jv1 x0 x4) := lim_is (fun k_ => (spec_l00Number.mono_l k_).2.1 x0 x4)
theorem spec_l00Number.jv2_lim (x0 : ByteArray) (x4 : Int) (x38 : Bool) : LimIs (fun k_ => spec_l00Number.j2 k_ x0 x4 x38) (spec_l00Number.jv2 x0 x4 x38) := lim_is (fun k_ => (spec_l00Number.mono_l k_).2.2.1 x0 x4 x38)
theorem spec_l00Number.lv0_lim (x0 : ByteArray) (x4 : Int) (x5 : Int) (x6 : Int) : LimIs (fun k_ => spec_l00Number.l0 k_ x0 x4 x5 x6) (spec_l00Number.lv0 x0 x4 x5 x6) := lim_is (fun k_ => (spec_l00Number.mono_l k_).2.2.2 x0 x4 x5 x6)
theorem spec_l00Number.v_lim (a0 : ByteArray) : LimIs (fun k_ => spec_l00Number.f k_ a0) (spec_l00Number.v a0) := lim_is (fun k_ => spec_l00Number.mono a0 k_)
theorem spec_l00Number.jv0_eq (x0 : ByteArray) (x4 : Int) (x14 : Bool) : spec_l00Number.jv0 x0 x4 x14 = (if x14 = true then (if 1 ≤ (x0.size : Int) then (spec_l00Number.jv1 (x0.extract 1 x0.size) (-1)) else (none)) else (spec_l00Number.jv1 x0 x4) : Option (Int × Bool)) := by
  refine LimIs.eq (spec_l00Number.jv0_lim x0 x4 x14) ?_
  refine LimIs.step (fun k_ => (spec_l00Number.mono_l k_).1 x0 x4 x14) ?_
  simp only [spec_l00Number.j0]
  repeat' (with_reducible first | exact spec_l00Number.jv1_lim _ _ | exact LimIs.const _ | refine LimIs.ite ?_ ?_ | refine LimIs.bind ?_ (fun _ => ?_))
theorem spec_l00Number.jv1_eq (x0 : ByteArray) (x4 : Int) : spec_l00Number.jv1 x0 x4 = (if (x0.size : Int) = 0 then (spec_l00Number.jv2 x0 x4 true) else (if (x0.size : Int) > 18 then (spec_l00Number.jv2 x0 x4 true) else (if 0 < (x0.size : Int) then (if (bt x0 0) = 48 then (if (x0.size : Int) > 1 then (spec_l00Number.jv2 x0 x4 true) else (spec_l00Number.jv2 x0 x4 (decide (x4 < 0)))) else (spec_l00Number.jv2 x0 x4 false)) else (none))) : Option (Int × Bool)) := by
  refine LimIs.eq (spec_l00Number.jv1_lim x0 x4) ?_
  refine LimIs.step (fun k_ => (spec_l00Number.mono_l k_).2.1 x0 x4) ?_
  simp only [spec_l00Number.j1]
  repeat' (with_reducible first | exact spec_l00Number.jv2_lim _ _ _ | exact LimIs.const _ | refine LimIs.ite ?_ ?_ | refine LimIs.bind ?_ (fun _ => ?_))
theorem spec_l00Number.jv2_eq (x0 : ByteArray) (x4 : Int) (x38 : Bool) : spec_l00Number.jv2 x0 x4 x38 = (if x38 = true then (some (0, false)) else (spec_l00Number.lv0 x0 x4 0 0) : Option (Int × Bool)) := by
  refine LimIs.eq (spec_l00Number.jv2_lim x0 x4 x38) ?_
  refine LimIs.step (fun k_ => (spec_l00Number.mono_l k_).2.2.1 x0 x4 x38) ?_
  simp only [spec_l00Number.j2]
  repeat' (with_reducible first | exact spec_l00Number.lv0_lim _ _ _ _ | exact LimIs.const _ | refine LimIs.ite ?_ ?_ | refine LimIs.bind ?_ (fun _ => ?_))
theorem spec_l00Number.lv0_eq (x0 : ByteArray) (x4 : Int) (x5 : Int) (x6 : Int) : spec_l00Number.lv0 x0 x4 x5 x6 = (if x6 < (x0.size : Int) then (if 0 ≤ x6 then (if (bt x0 x6) < 48 then (some (0, false)) else (if (bt x0 x6) > 57 then (some (0, false)) else (spec_l00Number.lv0 x0 x4 (wrap64 ((wrap64 ((wrap64 (x5 * 10)) + (wrap64 (bt x0 x6)))) - 48)) (wrap64 (x6 + 1))))) else (none)) else (some (wrap64 (x4 * x5), true)) : Option (Int × Bool)) := by
  refine LimIs.eq (spec_l00Number.lv0_lim x0 x4 x5 x6) ?_
  refine LimIs.step (fun k_ => (spec_l00Number.mono_l k_).2.2.2 x0 x4 x5 x6) ?_
  simp only [spec_l00Number.l0]
  repeat' (with_reducible first | exact spec_l00Number.lv0_lim _ _ _ _ | exact LimIs.const _ | refine LimIs.ite ?_ ?_ | refine LimIs.bind ?_ (fun _ => ?_))
theorem spec_l00Number.v_eq (a0 : ByteArray) : spec_l00Number.v a0 = (if (a0.size : Int) > 0 then (if 0 < (a0.size : Int) then (spec_l00Number.jv0 a0 1 ((bt a0 0) == 45)) else (none)) else (spec_l00Number.jv0 a0 1 false) : Option (Int × Bool)) := by
  refine LimIs.eq (spec_l00Number.v_lim a0) ?_
  simp only [spec_l00Number.f]
  repeat' (with_reducible first | exact spec_l00Number.jv0_lim _ _ _ | exact LimIs.const _ | refine LimIs.ite ?_ ?_ | refine LimIs.bind ?_ (fun _ => ?_))
def spec_l01In.f (a0 : Int) (a1 : Int) (a2 : Int) : Option (Bool) := if a0 ≥ a1 then (some (decide (a0 ≤ a2))) else (some false)
def spec_l01In.v (a0 : Int) (a1 : Int) (a2 : Int) : Option (Bool) := spec_l01In.f a0 a1 a2
theorem spec_l01In.v_lim (a0 : Int) (a1 : Int) (a2 : Int) : LimIs (fun _ => spec_l01In.f a0 a1 a2) (spec_l01In.v a0 a1 a2) := LimIs.const _
theorem spec_l01In.v_eq (a0 : Int) (a1 : Int) (a2 : Int) : spec_l01In.v a0 a1 a2 = (if a0 ≥ a1 then (some (decide (a0 ≤ a2))) else (some false) : Option (Bool)) := rfl
def spec_l00Letter.f (a0 : Int) : Option (Bool) := if a0 ≥ 97 then (if a0 ≤ 122 then (some true) else (if a0 ≥ 65 then (if a0 ≤ 90 then (some true) else (some (a0 == 95))) else (some (a0 == 95)))) else (if a0 ≥ 65 then (if a0 ≤ 90 then (some true) else (some (a0 == 95))) else (some (a0 == 95)))
def spec_l00Letter.v (a0 : Int) : Option (Bool) := spec_l00Letter.f a0
theorem spec_l00Letter.v_lim (a0 : Int) : LimIs (fun _ => spec_l00Letter.f a0) (spec_l00Letter.v a0) := LimIs.const _
theorem spec_l00Letter.v_eq (a0 : Int) : spec_l00Letter.v a0 = (if a0 ≥ 97 then (if a0 ≤ 122 then (some true) else (if a0 ≥ 65 then (if a0 ≤ 90 then (some true) else (some (a0 == 95))) else (some (a0 == 95)))) else (if a0 ≥ 65 then (if a0 ≤ 90 then (some true) else (some (a0 == 95))) else (some (a0 == 95))) : Option (Bool)) := rfl
def spec_l00Digit.f (a0 : Int) : Option (Bool) := if a0 ≥ 48 then (some (decide (a0 ≤ 57))) else (some false)
def spec_l00Digit.v (a0 : Int) : Option (Bool) := spec_l00Digit.f a0
theorem spec_l00Digit.v_lim (a0 : Int) : LimIs (fun _ => spec_l00Digit.f a0) (spec_l00Digit.v a0) := LimIs.const _
theorem spec_l00Digit.v_eq (a0 : Int) : spec_l00Digit.v a0 = (if a0 ≥ 48 then (some (decide (a0 ≤ 57))) else (some false) : Option (Bool)) := rfl
mutual
def spec_l00Word.j0 : Nat → ByteArray → Bool → Option (Bool)
  | 0, _, _ => none
  | k + 1, x0, x17 => if x17 = true then (some false) else (spec_l00Word.l0 k x0 1)
def spec_l00Word.l0 : Nat → ByteArray → Int → Option (Bool)
  | 0, _, _ => none
  | k + 1, x0, x3 => if x3 < (x0.size : Int) then (if 0 ≤ x3 then ((spec_l00Letter.f (bt x0 x3)).bind fun t111 => (if t111 = true then (spec_l00Word.l0 k x0 (wrap64 (x3 + 1))) else ((spec_l00Digit.f (bt x0 x3)).bind fun t112 => (if t112 = true then (spec_l00Word.l0 k x0 (wrap64 (x3 + 1))) else (some false))))) else (none)) else (some true)
end
def spec_l00Word.f (k : Nat) (a0 : ByteArray) : Option (Bool) := if (a0.size : Int) < 1 then (spec_l00Word.j0 k a0 true) else (if (a0.size : Int) > 40 then (spec_l00Word.j0 k a0 true) else (if 0 < (a0.size : Int) then ((spec_l00Letter.f (bt a0 0)).bind fun t110 => (spec_l00Word.j0 k a0 (!t110))) else (none)))
theorem spec_l00Word.mono_l : ∀ k, (∀ y0 y1, LeO (spec_l00Word.j0 k y0 y1) (spec_l00Word.j0 (k + 1) y0 y1)) ∧ (∀ y0 y1, LeO (spec_l00Word.l0 k y0 y1) (spec_l00Word.l0 (k + 1) y0 y1))
  | 0 => ⟨fun _ _ r h => by simp [spec_l00Word.j0] at h, fun _ _ r h => by simp [spec_l00Word.l0] at h⟩
  | k + 1 => by
    obtain ⟨ih0, ih1⟩ := spec_l00Word.mono_l k
    refine ⟨?_, ?_⟩
    · intro y0 y1
      unfold spec_l00Word.j0
      repeat' first
      | (with_reducible exact ih0 _ _)
      | (with_reducible exact ih1 _ _)
      | (with_reducible exact LeO.refl _)
      | (with_reducible exact LeO.none _)
      | (with_reducible refine LeO.ite ?_ ?_)
      | (with_reducible refine LeO.bind ?_ (fun _ => ?_))
      | exact ih0 _ _
      | exact ih1 _ _
      | exact LeO.none _
      | refine LeO.ite ?_ ?_
      | refine LeO.bind ?_ (fun _ => ?_)
    · intro y0 y1
      unfold spec_l00Word.l0
      repeat' first
      | (with_reducible exact ih0 _ _)
      | (with_reducible exact ih1 _ _)
      | (with_reducible exact LeO.refl _)
      | (with_reducible exact LeO.none _)
      | (with_reducible refine LeO.ite ?_ ?_)
      | (with_reducible refine LeO.bind ?_ (fun _ => ?_))
      | exact ih0 _ _
      | exact ih1 _ _
      | exact LeO.none _
      | refine LeO.ite ?_ ?_
      | refine LeO.bind ?_ (fun _ => ?_)
theorem spec_l00Word.mono : ∀ a0 k, LeO (spec_l00Word.f k a0) (spec_l00Word.f (k + 1) a0) := by
  intro a0 k
  obtain ⟨ih0, ih1⟩ := spec_l00Word.mono_l k
  unfold spec_l00Word.f
  repeat' first
      | (with_reducible exact ih0 _ _)
      | (with_reducible exact ih1 _ _)
      | (with_reducible exact LeO.refl _)
      | (with_reducible exact LeO.none _)
      | (with_reducible refine LeO.ite ?_ ?_)
      | (with_reducible refine LeO.bind ?_ (fun _ => ?_))
      | exact ih0 _ _
      | exact ih1 _ _
      | exact LeO.none _
      | refine LeO.ite ?_ ?_
      | refine LeO.bind ?_ (fun _ => ?_)
noncomputable def spec_l00Word.jv0 (x0 : ByteArray) (x17 : Bool) : Option (Bool) := lim (fun k_ => spec_l00Word.j0 k_ x0 x17)
noncomputable def spec_l00Word.lv0 (x0 : ByteArray) (x3 : Int) : Option (Bool) := lim (fun k_ => spec_l00Word.l0 k_ x0 x3)
noncomputable def spec_l00Word.v (a0 : ByteArray) : Option (Bool) := lim (fun k_ => spec_l00Word.f k_ a0)
theorem spec_l00Word.jv0_lim (x0 : ByteArray) (x17 : Bool) : LimIs (fun k_ => spec_l00Word.j0 k_ x0 x17) (spec_l00Word.jv0 x0 x17) := lim_is (fun k_ => (spec_l00Word.mono_l k_).1 x0 x17)
theorem spec_l00Word.lv0_lim (x0 : ByteArray) (x3 : Int) : LimIs (fun k_ => spec_l00Word.l0 k_ x0 x3) (spec_l00Word.lv0 x0 x3) := lim_is (fun k_ => (spec_l00Word.mono_l k_).2 x0 x3)
theorem spec_l00Word.v_lim (a0 : ByteArray) : LimIs (fun k_ => spec_l00Word.f k_ a0) (spec_l00Word.v a0) := lim_is (fun k_ => spec_l00Word.mono a0 k_)
theorem spec_l00Word.jv0_eq (x0 : ByteArray) (x17 : Bool) : spec_l00Word.jv0 x0 x17 = (if x17 = true then (some false) else (spec_l00Word.lv0 x0 1) : Option (Bool)) := by
  refine LimIs.eq (spec_l00Word.jv0_lim x0 x17) ?_
  refine LimIs.step (fun k_ => (spec_l00Word.mono_l k_).1 x0 x17) ?_
  simp only [spec_l00Word.j0]
  repeat' (with_reducible first | exact spec_l00Word.lv0_lim _ _ | exact LimIs.const _ | refine LimIs.ite ?_ ?_ | refine LimIs.bind ?_ (fun _ => ?_))
theorem spec_l00Word.lv0_eq (x0 : ByteArray) (x3 : Int) : spec_l00Word.lv0 x0 x3 = (if x3 < (x0.size : Int) then (if 0 ≤ x3 then ((spec_l00Letter.v (bt x0 x3)).bind fun t111 => (if t111 = true then (spec_l00Word.lv0 x0 (wrap64 (x3 + 1))) else ((spec_l00Digit.v (bt x0 x3)).bind fun t112 => (if t112 = true then (spec_l00Word.lv0 x0 (wrap64 (x3 + 1))) else (some false))))) else (none)) else (some true) : Option (Bool)) := by
  refine LimIs.eq (spec_l00Word.lv0_lim x0 x3) ?_
  refine LimIs.step (fun k_ => (spec_l00Word.mono_l k_).2 x0 x3) ?_
  simp only [spec_l00Word.l0]
  repeat' (with_reducible first | exact spec_l00Digit.v_lim _ | exact spec_l00Letter.v_lim _ | exact spec_l00Word.lv0_lim _ _ | exact LimIs.const _ | refine LimIs.ite ?_ ?_ | refine LimIs.bind ?_ (fun _ => ?_))
theorem spec_l00Word.v_eq (a0 : ByteArray) : spec_l00Word.v a0 = (if (a0.size : Int) < 1 then (spec_l00Word.jv0 a0 true) else (if (a0.size : Int) > 40 then (spec_l00Word.jv0 a0 true) else (if 0 < (a0.size : Int) then ((spec_l00Letter.v (bt a0 0)).bind fun t110 => (spec_l00Word.jv0 a0 (!t110))) else (none))) : Option (Bool)) := by
  refine LimIs.eq (spec_l00Word.v_lim a0) ?_
  simp only [spec_l00Word.f]
  repeat' (with_reducible first | exact spec_l00Letter.v_lim _ | exact spec_l00Word.jv0_lim _ _ | exact LimIs.const _ | refine LimIs.ite ?_ ?_ | refine LimIs.bind ?_ (fun _ => ?_))
def spec_NameOK.f (k : Nat) (a0 : ByteArray) : Option (Bool) := (spec_l00Word.f k a0).bind fun t113 => (some t113)
theorem spec_NameOK.mono : ∀ a0 k, LeO (spec_NameOK.f k a0) (spec_NameOK.f (k + 1) a0) := by
  intro a0 k
  unfold spec_NameOK.f
  repeat' first
      | (with_reducible exact spec_l00Word.mono _ _)
      | (with_reducible exact LeO.refl _)
      | (with_reducible exact LeO.none _)
      | (with_reducible refine LeO.ite ?_ ?_)
      | (with_reducible refine LeO.bind ?_ (fun _ => ?_))
      | exact spec_l00Word.mono _ _
      | exact LeO.none _
      | refine LeO.ite ?_ ?_
      | refine LeO.bind ?_ (fun _ => ?_)
noncomputable def spec_NameOK.v (a0 : ByteArray) : Option (Bool) := lim (fun k_ => spec_NameOK.f k_ a0)
theorem spec_NameOK.v_lim (a0 : ByteArray) : LimIs (fun k_ => spec_NameOK.f k_ a0) (spec_NameOK.v a0) := lim_is (fun k_ => spec_NameOK.mono a0 k_)
theorem spec_NameOK.v_eq (a0 : ByteArray) : spec_NameOK.v a0 = ((spec_l00Word.v a0).bind fun t113 => (some t113) : Option (Bool)) := by
  refine LimIs.eq (spec_NameOK.v_lim a0) ?_
  simp only [spec_NameOK.f]
  repeat' (with_reducible first | exact spec_l00Word.v_lim _ | exact LimIs.const _ | refine LimIs.ite ?_ ?_ | refine LimIs.bind ?_ (fun _ => ?_))
def spec_l02Text.f (k : Nat) (a0 : ByteArray) (a1 : Int) : Option (Bool) := (spec_l01In.f (a0.size : Int) 1 a1).bind fun t114 => (if t114 = true then ((spec_NameOK.f k a0).bind fun t115 => (some t115)) else (some false))
theorem spec_l02Text.mono : ∀ a0 a1 k, LeO (spec_l02Text.f k a0 a1) (spec_l02Text.f (k + 1) a0 a1) := by
  intro a0 a1 k
  unfold spec_l02Text.f
  repeat' first
      | (with_reducible exact spec_NameOK.mono _ _)
      | (with_reducible exact LeO.refl _)
      | (with_reducible exact LeO.none _)
      | (with_reducible refine LeO.ite ?_ ?_)
      | (with_reducible refine LeO.bind ?_ (fun _ => ?_))
      | exact spec_NameOK.mono _ _
      | exact LeO.none _
      | refine LeO.ite ?_ ?_
      | refine LeO.bind ?_ (fun _ => ?_)
noncomputable def spec_l02Text.v (a0 : ByteArray) (a1 : Int) : Option (Bool) := lim (fun k_ => spec_l02Text.f k_ a0 a1)
theorem spec_l02Text.v_lim (a0 : ByteArray) (a1 : Int) : LimIs (fun k_ => spec_l02Text.f k_ a0 a1) (spec_l02Text.v a0 a1) := lim_is (fun k_ => spec_l02Text.mono a0 a1 k_)
theorem spec_l02Text.v_eq (a0 : ByteArray) (a1 : Int) : spec_l02Text.v a0 a1 = ((spec_l01In.v (a0.size : Int) 1 a1).bind fun t114 => (if t114 = true then ((spec_NameOK.v a0).bind fun t115 => (some t115)) else (some false)) : Option (Bool)) := by
  refine LimIs.eq (spec_l02Text.v_lim a0 a1) ?_
  simp only [spec_l02Text.f]
  repeat' (with_reducible first | exact spec_NameOK.v_lim _ | exact spec_l01In.v_lim _ _ _ | exact LimIs.const _ | refine LimIs.ite ?_ ?_ | refine LimIs.bind ?_ (fun _ => ?_))
def spec_GrantOK.f (k : Nat) (a0_0 : ByteArray) (a0_1 : Int) (a0_2 : Int) (a0_3 : Int) : Option (Bool) := (spec_l02Text.f k a0_0 12).bind fun t117 => (if t117 = true then ((spec_l01In.f a0_1 0 255).bind fun t118 => (if t118 = true then ((spec_l01In.f a0_2 1 1000000).bind fun t119 => (if t119 = true then ((spec_l01In.f a0_3 0 2000000000).bind fun t120 => (some t120)) else (some false))) else (some false))) else (some false))
theorem spec_GrantOK.mono : ∀ a0 a1 a2 a3 k, LeO (spec_GrantOK.f k a0 a1 a2 a3) (spec_GrantOK.f (k + 1) a0 a1 a2 a3) := by
  intro a0 a1 a2 a3 k
  unfold spec_GrantOK.f
  repeat' first
      | (with_reducible exact spec_l02Text.mono _ _ _)
      | (with_reducible exact LeO.refl _)
      | (with_reducible exact LeO.none _)
      | (with_reducible refine LeO.ite ?_ ?_)
      | (with_reducible refine LeO.bind ?_ (fun _ => ?_))
      | exact spec_l02Text.mono _ _ _
      | exact LeO.none _
      | refine LeO.ite ?_ ?_
      | refine LeO.bind ?_ (fun _ => ?_)
noncomputable def spec_GrantOK.v (a0_0 : ByteArray) (a0_1 : Int) (a0_2 : Int) (a0_3 : Int) : Option (Bool) := lim (fun k_ => spec_GrantOK.f k_ a0_0 a0_1 a0_2 a0_3)
theorem spec_GrantOK.v_lim (a0_0 : ByteArray) (a0_1 : Int) (a0_2 : Int) (a0_3 : Int) : LimIs (fun k_ => spec_GrantOK.f k_ a0_0 a0_1 a0_2 a0_3) (spec_GrantOK.v a0_0 a0_1 a0_2 a0_3) := lim_is (fun k_ => spec_GrantOK.mono a0_0 a0_1 a0_2 a0_3 k_)
theorem spec_GrantOK.v_eq (a0_0 : ByteArray) (a0_1 : Int) (a0_2 : Int) (a0_3 : Int) : spec_GrantOK.v a0_0 a0_1 a0_2 a0_3 = ((spec_l02Text.v a0_0 12).bind fun t117 => (if t117 = true then ((spec_l01In.v a0_1 0 255).bind fun t118 => (if t118 = true then ((spec_l01In.v a0_2 1 1000000).bind fun t119 => (if t119 = true then ((spec_l01In.v a0_3 0 2000000000).bind fun t120 => (some t120)) else (some false))) else (some false))) else (some false)) : Option (Bool)) := by
  refine LimIs.eq (spec_GrantOK.v_lim a0_0 a0_1 a0_2 a0_3) ?_
  simp only [spec_GrantOK.f]
  repeat' (with_reducible first | exact spec_l01In.v_lim _ _ _ | exact spec_l02Text.v_lim _ _ | exact LimIs.const _ | refine LimIs.ite ?_ ?_ | refine LimIs.bind ?_ (fun _ => ?_))
def spec_ReadGrant.j0 : Nat → List ByteArray → Bool → Option (ByteArray × Int × Int × Int × Int)
  | 0, _, _ => none
  | k + 1, x4, x26 => if x26 = true then (some ((⟨#[]⟩ : ByteArray), 0, 0, 0, 3)) else (if 1 < (x4.length : Int) then (if 2 < (x4.length : Int) then ((spec_l00Number.f k (rdOf ByteArray.empty x4 2)).bind fun bt129 => (if 3 < (x4.length : Int) then ((spec_l00Number.f k (rdOf ByteArray.empty x4 3)).bind fun bt132 => (if 4 < (x4.length : Int) then ((spec_l00Number.f k (rdOf ByteArray.empty x4 4)).bind fun bt135 => (if bt129.2 = true then (if bt132.2 = true then (if bt135.2 = true then ((spec_GrantOK.f k (rdOf ByteArray.empty x4 1) bt129.1 bt132.1 bt135.1).bind fun t137 => (if t137 = true then (some (rdOf ByteArray.empty x4 1, bt129.1, bt132.1, bt135.1, 0)) else (some ((⟨#[]⟩ : ByteArray), 0, 0, 0, 3)))) else (some ((⟨#[]⟩ : ByteArray), 0, 0, 0, 3))) else (some ((⟨#[]⟩ : ByteArray), 0, 0, 0, 3))) else (some ((⟨#[]⟩ : ByteArray), 0, 0, 0, 3)))) else (none))) else (none))) else (none)) else (none))
def spec_ReadGrant.f (k : Nat) (a0 : ByteArray) : Option (ByteArray × Int × Int × Int × Int) := if (a0.size : Int) > 65536 then (some ((⟨#[]⟩ : ByteArray), 0, 0, 0, 2)) else ((spec_l00Cut.f k a0 32).bind fun t122 => (if (t122.length : Int) = 5 then (if 0 < (t122.length : Int) then (spec_ReadGrant.j0 k t122 ((rdOf ByteArray.empty t122 0).toList != ([103, 114, 97, 110, 116] : List UInt8))) else (none)) else (spec_ReadGrant.j0 k t122 true)))
theorem spec_ReadGrant.mono_l : ∀ k, (∀ y0 y1, LeO (spec_ReadGrant.j0 k y0 y1) (spec_ReadGrant.j0 (k + 1) y0 y1))
  | 0 => fun _ _ r h => by simp [spec_ReadGrant.j0] at h
  | k + 1 => by
    have ih0 := spec_ReadGrant.mono_l k
    · intro y0 y1
      unfold spec_ReadGrant.j0
      repeat' first
      | (with_reducible exact ih0 _ _)
      | (with_reducible exact spec_GrantOK.mono _ _ _ _ _)
      | (with_reducible exact spec_l00Cut.mono _ _ _)
      | (with_reducible exact spec_l00Number.mono _ _)
      | (with_reducible exact LeO.refl _)
      | (with_reducible exact LeO.none _)
      | (with_reducible refine LeO.ite ?_ ?_)
      | (with_reducible refine LeO.bind ?_ (fun _ => ?_))
      | exact ih0 _ _
      | exact spec_GrantOK.mono _ _ _ _ _
      | exact spec_l00Cut.mono _ _ _
      | exact spec_l00Number.mono _ _
      | exact LeO.none _
      | refine LeO.ite ?_ ?_
      | refine LeO.bind ?_ (fun _ => ?_)
theorem spec_ReadGrant.mono : ∀ a0 k, LeO (spec_ReadGrant.f k a0) (spec_ReadGrant.f (k + 1) a0) := by
  intro a0 k
  have ih0 := spec_ReadGrant.mono_l k
  unfold spec_ReadGrant.f
  repeat' first
      | (with_reducible exact ih0 _ _)
      | (with_reducible exact spec_GrantOK.mono _ _ _ _ _)
      | (with_reducible exact spec_l00Cut.mono _ _ _)
      | (with_reducible exact spec_l00Number.mono _ _)
      | (with_reducible exact LeO.refl _)
      | (with_reducible exact LeO.none _)
      | (with_reducible refine LeO.ite ?_ ?_)
      | (with_reducible refine LeO.bind ?_ (fun _ => ?_))
      | exact ih0 _ _
      | exact spec_GrantOK.mono _ _ _ _ _
      | exact spec_l00Cut.mono _ _ _
      | exact spec_l00Number.mono _ _
      | exact LeO.none _
      | refine LeO.ite ?_ ?_
      | refine LeO.bind ?_ (fun _ => ?_)
noncomputable def spec_ReadGrant.jv0 (x4 : List ByteArray) (x26 : Bool) : Option (ByteArray × Int × Int × Int × Int) := lim (fun k_ => spec_ReadGrant.j0 k_ x4 x26)
noncomputable def spec_ReadGrant.v (a0 : ByteArray) : Option (ByteArray × Int × Int × Int × Int) := lim (fun k_ => spec_ReadGrant.f k_ a0)
theorem spec_ReadGrant.jv0_lim (x4 : List ByteArray) (x26 : Bool) : LimIs (fun k_ => spec_ReadGrant.j0 k_ x4 x26) (spec_ReadGrant.jv0 x4 x26) := lim_is (fun k_ => (spec_ReadGrant.mono_l k_) x4 x26)
theorem spec_ReadGrant.v_lim (a0 : ByteArray) : LimIs (fun k_ => spec_ReadGrant.f k_ a0) (spec_ReadGrant.v a0) := lim_is (fun k_ => spec_ReadGrant.mono a0 k_)
theorem spec_ReadGrant.jv0_eq (x4 : List ByteArray) (x26 : Bool) : spec_ReadGrant.jv0 x4 x26 = (if x26 = true then (some ((⟨#[]⟩ : ByteArray), 0, 0, 0, 3)) else (if 1 < (x4.length : Int) then (if 2 < (x4.length : Int) then ((spec_l00Number.v (rdOf ByteArray.empty x4 2)).bind fun bt129 => (if 3 < (x4.length : Int) then ((spec_l00Number.v (rdOf ByteArray.empty x4 3)).bind fun bt132 => (if 4 < (x4.length : Int) then ((spec_l00Number.v (rdOf ByteArray.empty x4 4)).bind fun bt135 => (if bt129.2 = true then (if bt132.2 = true then (if bt135.2 = true then ((spec_GrantOK.v (rdOf ByteArray.empty x4 1) bt129.1 bt132.1 bt135.1).bind fun t137 => (if t137 = true then (some (rdOf ByteArray.empty x4 1, bt129.1, bt132.1, bt135.1, 0)) else (some ((⟨#[]⟩ : ByteArray), 0, 0, 0, 3)))) else (some ((⟨#[]⟩ : ByteArray), 0, 0, 0, 3))) else (some ((⟨#[]⟩ : ByteArray), 0, 0, 0, 3))) else (some ((⟨#[]⟩ : ByteArray), 0, 0, 0, 3)))) else (none))) else (none))) else (none)) else (none)) : Option (ByteArray × Int × Int × Int × Int)) := by
  refine LimIs.eq (spec_ReadGrant.jv0_lim x4 x26) ?_
  refine LimIs.step (fun k_ => (spec_ReadGrant.mono_l k_) x4 x26) ?_
  simp only [spec_ReadGrant.j0]
  repeat' (with_reducible first | exact spec_GrantOK.v_lim _ _ _ _ | exact spec_l00Number.v_lim _ | exact LimIs.const _ | refine LimIs.ite ?_ ?_ | refine LimIs.bind ?_ (fun _ => ?_))
theorem spec_ReadGrant.v_eq (a0 : ByteArray) : spec_ReadGrant.v a0 = (if (a0.size : Int) > 65536 then (some ((⟨#[]⟩ : ByteArray), 0, 0, 0, 2)) else ((spec_l00Cut.v a0 32).bind fun t122 => (if (t122.length : Int) = 5 then (if 0 < (t122.length : Int) then (spec_ReadGrant.jv0 t122 ((rdOf ByteArray.empty t122 0).toList != ([103, 114, 97, 110, 116] : List UInt8))) else (none)) else (spec_ReadGrant.jv0 t122 true))) : Option (ByteArray × Int × Int × Int × Int)) := by
  refine LimIs.eq (spec_ReadGrant.v_lim a0) ?_
  simp only [spec_ReadGrant.f]
  repeat' (with_reducible first | exact spec_ReadGrant.jv0_lim _ _ | exact spec_l00Cut.v_lim _ _ | exact LimIs.const _ | refine LimIs.ite ?_ ?_ | refine LimIs.bind ?_ (fun _ => ?_))
def impl_isLetter.f (a0 : Int) : Option (Bool) := if a0 ≥ 97 then (if a0 ≤ 122 then (some true) else (if a0 ≥ 65 then (if a0 ≤ 90 then (some true) else (some (a0 == 95))) else (some (a0 == 95)))) else (if a0 ≥ 65 then (if a0 ≤ 90 then (some true) else (some (a0 == 95))) else (some (a0 == 95)))
def impl_isLetter.v (a0 : Int) : Option (Bool) := impl_isLetter.f a0
theorem impl_isLetter.v_lim (a0 : Int) : LimIs (fun _ => impl_isLetter.f a0) (impl_isLetter.v a0) := LimIs.const _
theorem impl_isLetter.v_eq (a0 : Int) : impl_isLetter.v a0 = (if a0 ≥ 97 then (if a0 ≤ 122 then (some true) else (if a0 ≥ 65 then (if a0 ≤ 90 then (some true) else (some (a0 == 95))) else (some (a0 == 95)))) else (if a0 ≥ 65 then (if a0 ≤ 90 then (some true) else (some (a0 == 95))) else (some (a0 == 95))) : Option (Bool)) := rfl
mutual
def impl_NameOK.j0 : Nat → ByteArray → Bool → Option (Bool)
  | 0, _, _ => none
  | k + 1, x0, x17 => if x17 = true then (some false) else (impl_NameOK.l0 k x0 (x0.size : Int) 0)
def impl_NameOK.l0 : Nat → ByteArray → Int → Int → Option (Bool)
  | 0, _, _, _ => none
  | k + 1, x0, x19, x20 => if x20 < x19 then (if 0 ≤ x20 then (if x20 < (x0.size : Int) then ((impl_isLetter.f (bt x0 x20)).bind fun t139 => (if t139 = true then (impl_NameOK.l0 k x0 x19 (wrap64 (x20 + 1))) else (if (bt x0 x20) < 48 then (some false) else (if (bt x0 x20) > 57 then (some false) else (impl_NameOK.l0 k x0 x19 (wrap64 (x20 + 1))))))) else (none)) else (none)) else (some true)
end
def impl_NameOK.f (k : Nat) (a0 : ByteArray) : Option (Bool) := if (a0.size : Int) < 1 then (impl_NameOK.j0 k a0 true) else (if (a0.size : Int) > 40 then (impl_NameOK.j0 k a0 true) else (if 0 < (a0.size : Int) then ((impl_isLetter.f (bt a0 0)).bind fun t138 => (impl_NameOK.j0 k a0 (!t138))) else (none)))
theorem impl_NameOK.mono_l : ∀ k, (∀ y0 y1, LeO (impl_NameOK.j0 k y0 y1) (impl_NameOK.j0 (k + 1) y0 y1)) ∧ (∀ y0 y1 y2, LeO (impl_NameOK.l0 k y0 y1 y2) (impl_NameOK.l0 (k + 1) y0 y1 y2))
  | 0 => ⟨fun _ _ r h => by simp [impl_NameOK.j0] at h, fun _ _ _ r h => by simp [impl_NameOK.l0] at h⟩
  | k + 1 => by
    obtain ⟨ih0, ih1⟩ := impl_NameOK.mono_l k
    refine ⟨?_, ?_⟩
    · intro y0 y1
      unfold impl_NameOK.j0
      repeat' first
      | (with_reducible exact ih0 _ _)
      | (with_reducible exact ih1 _ _ _)
      | (with_reducible exact LeO.refl _)
      | (with_reducible exact LeO.none _)
      | (with_reducible refine LeO.ite ?_ ?_)
      | (with_reducible refine LeO.bind ?_ (fun _ => ?_))
      | exact ih0 _ _
      | exact ih1 _ _ _
      | exact LeO.none _
      | refine LeO.ite ?_ ?_
      | refine LeO.bind ?_ (fun _ => ?_)
    · intro y0 y1 y2
      unfold impl_NameOK.l0
      repeat' first
      | (with_reducible exact ih0 _ _)
      | (with_reducible exact ih1 _ _ _)
      | (with_reducible exact LeO.refl _)
      | (with_reducible exact LeO.none _)
      | (with_reducible refine LeO.ite ?_ ?_)
      | (with_reducible refine LeO.bind ?_ (fun _ => ?_))
      | exact ih0 _ _
      | exact ih1 _ _ _
      | exact LeO.none _
      | refine LeO.ite ?_ ?_
      | refine LeO.bind ?_ (fun _ => ?_)
theorem impl_NameOK.mono : ∀ a0 k, LeO (impl_NameOK.f k a0) (impl_NameOK.f (k + 1) a0) := by
  intro a0 k
  obtain ⟨ih0, ih1⟩ := impl_NameOK.mono_l k
  unfold impl_NameOK.f
  repeat' first
      | (with_reducible exact ih0 _ _)
      | (with_reducible exact ih1 _ _ _)
      | (with_reducible exact LeO.refl _)
      | (with_reducible exact LeO.none _)
      | (with_reducible refine LeO.ite ?_ ?_)
      | (with_reducible refine LeO.bind ?_ (fun _ => ?_))
      | exact ih0 _ _
      | exact ih1 _ _ _
      | exact LeO.none _
      | refine LeO.ite ?_ ?_
      | refine LeO.bind ?_ (fun _ => ?_)
noncomputable def impl_NameOK.jv0 (x0 : ByteArray) (x17 : Bool) : Option (Bool) := lim (fun k_ => impl_NameOK.j0 k_ x0 x17)
noncomputable def impl_NameOK.lv0 (x0 : ByteArray) (x19 : Int) (x20 : Int) : Option (Bool) := lim (fun k_ => impl_NameOK.l0 k_ x0 x19 x20)
noncomputable def impl_NameOK.v (a0 : ByteArray) : Option (Bool) := lim (fun k_ => impl_NameOK.f k_ a0)
theorem impl_NameOK.jv0_lim (x0 : ByteArray) (x17 : Bool) : LimIs (fun k_ => impl_NameOK.j0 k_ x0 x17) (impl_NameOK.jv0 x0 x17) := lim_is (fun k_ => (impl_NameOK.mono_l k_).1 x0 x17)
theorem impl_NameOK.lv0_lim (x0 : ByteArray) (x19 : Int) (x20 : Int) : LimIs (fun k_ => impl_NameOK.l0 k_ x0 x19 x20) (impl_NameOK.lv0 x0 x19 x20) := lim_is (fun k_ => (impl_NameOK.mono_l k_).2 x0 x19 x20)
theorem impl_NameOK.v_lim (a0 : ByteArray) : LimIs (fun k_ => impl_NameOK.f k_ a0) (impl_NameOK.v a0) := lim_is (fun k_ => impl_NameOK.mono a0 k_)
theorem impl_NameOK.jv0_eq (x0 : ByteArray) (x17 : Bool) : impl_NameOK.jv0 x0 x17 = (if x17 = true then (some false) else (impl_NameOK.lv0 x0 (x0.size : Int) 0) : Option (Bool)) := by
  refine LimIs.eq (impl_NameOK.jv0_lim x0 x17) ?_
  refine LimIs.step (fun k_ => (impl_NameOK.mono_l k_).1 x0 x17) ?_
  simp only [impl_NameOK.j0]
  repeat' (with_reducible first | exact impl_NameOK.lv0_lim _ _ _ | exact LimIs.const _ | refine LimIs.ite ?_ ?_ | refine LimIs.bind ?_ (fun _ => ?_))
theorem impl_NameOK.lv0_eq (x0 : ByteArray) (x19 : Int) (x20 : Int) : impl_NameOK.lv0 x0 x19 x20 = (if x20 < x19 then (if 0 ≤ x20 then (if x20 < (x0.size : Int) then ((impl_isLetter.v (bt x0 x20)).bind fun t139 => (if t139 = true then (impl_NameOK.lv0 x0 x19 (wrap64 (x20 + 1))) else (if (bt x0 x20) < 48 then (some false) else (if (bt x0 x20) > 57 then (some false) else (impl_NameOK.lv0 x0 x19 (wrap64 (x20 + 1))))))) else (none)) else (none)) else (some true) : Option (Bool)) := by
  refine LimIs.eq (impl_NameOK.lv0_lim x0 x19 x20) ?_
  refine LimIs.step (fun k_ => (impl_NameOK.mono_l k_).2 x0 x19 x20) ?_
  simp only [impl_NameOK.l0]
  repeat' (with_reducible first | exact impl_NameOK.lv0_lim _ _ _ | exact impl_isLetter.v_lim _ | exact LimIs.const _ | refine LimIs.ite ?_ ?_ | refine LimIs.bind ?_ (fun _ => ?_))
theorem impl_NameOK.v_eq (a0 : ByteArray) : impl_NameOK.v a0 = (if (a0.size : Int) < 1 then (impl_NameOK.jv0 a0 true) else (if (a0.size : Int) > 40 then (impl_NameOK.jv0 a0 true) else (if 0 < (a0.size : Int) then ((impl_isLetter.v (bt a0 0)).bind fun t138 => (impl_NameOK.jv0 a0 (!t138))) else (none))) : Option (Bool)) := by
  refine LimIs.eq (impl_NameOK.v_lim a0) ?_
  simp only [impl_NameOK.f]
  repeat' (with_reducible first | exact impl_NameOK.jv0_lim _ _ | exact impl_isLetter.v_lim _ | exact LimIs.const _ | refine LimIs.ite ?_ ?_ | refine LimIs.bind ?_ (fun _ => ?_))
def impl_isOpName.f (k : Nat) (a0 : ByteArray) : Option (Bool) := if (a0.size : Int) ≤ 12 then ((impl_NameOK.f k a0).bind fun t140 => (some t140)) else (some false)
theorem impl_isOpName.mono : ∀ a0 k, LeO (impl_isOpName.f k a0) (impl_isOpName.f (k + 1) a0) := by
  intro a0 k
  unfold impl_isOpName.f
  repeat' first
      | (with_reducible exact impl_NameOK.mono _ _)
      | (with_reducible exact LeO.refl _)
      | (with_reducible exact LeO.none _)
      | (with_reducible refine LeO.ite ?_ ?_)
      | (with_reducible refine LeO.bind ?_ (fun _ => ?_))
      | exact impl_NameOK.mono _ _
      | exact LeO.none _
      | refine LeO.ite ?_ ?_
      | refine LeO.bind ?_ (fun _ => ?_)
noncomputable def impl_isOpName.v (a0 : ByteArray) : Option (Bool) := lim (fun k_ => impl_isOpName.f k_ a0)
theorem impl_isOpName.v_lim (a0 : ByteArray) : LimIs (fun k_ => impl_isOpName.f k_ a0) (impl_isOpName.v a0) := lim_is (fun k_ => impl_isOpName.mono a0 k_)
theorem impl_isOpName.v_eq (a0 : ByteArray) : impl_isOpName.v a0 = (if (a0.size : Int) ≤ 12 then ((impl_NameOK.v a0).bind fun t140 => (some t140)) else (some false) : Option (Bool)) := by
  refine LimIs.eq (impl_isOpName.v_lim a0) ?_
  simp only [impl_isOpName.f]
  repeat' (with_reducible first | exact impl_NameOK.v_lim _ | exact LimIs.const _ | refine LimIs.ite ?_ ?_ | refine LimIs.bind ?_ (fun _ => ?_))
def impl_within.f (a0 : Int) (a1 : Int) (a2 : Int) : Option (Bool) := if a0 ≥ a1 then (some (decide (a0 ≤ a2))) else (some false)
def impl_within.v (a0 : Int) (a1 : Int) (a2 : Int) : Option (Bool) := impl_within.f a0 a1 a2
theorem impl_within.v_lim (a0 : Int) (a1 : Int) (a2 : Int) : LimIs (fun _ => impl_within.f a0 a1 a2) (impl_within.v a0 a1 a2) := LimIs.const _
theorem impl_within.v_eq (a0 : Int) (a1 : Int) (a2 : Int) : impl_within.v a0 a1 a2 = (if a0 ≥ a1 then (some (decide (a0 ≤ a2))) else (some false) : Option (Bool)) := rfl
def impl_GrantOK.f (k : Nat) (a0_0 : ByteArray) (a0_1 : Int) (a0_2 : Int) (a0_3 : Int) : Option (Bool) := (impl_isOpName.f k a0_0).bind fun t142 => (if t142 = true then ((impl_within.f a0_1 0 255).bind fun t143 => (if t143 = true then ((impl_within.f a0_2 1 1000000).bind fun t144 => (if t144 = true then ((impl_within.f a0_3 0 2000000000).bind fun t145 => (some t145)) else (some false))) else (some false))) else (some false))
theorem impl_GrantOK.mono : ∀ a0 a1 a2 a3 k, LeO (impl_GrantOK.f k a0 a1 a2 a3) (impl_GrantOK.f (k + 1) a0 a1 a2 a3) := by
  intro a0 a1 a2 a3 k
  unfold impl_GrantOK.f
  repeat' first
      | (with_reducible exact impl_isOpName.mono _ _)
      | (with_reducible exact LeO.refl _)
      | (with_reducible exact LeO.none _)
      | (with_reducible refine LeO.ite ?_ ?_)
      | (with_reducible refine LeO.bind ?_ (fun _ => ?_))
      | exact impl_isOpName.mono _ _
      | exact LeO.none _
      | refine LeO.ite ?_ ?_
      | refine LeO.bind ?_ (fun _ => ?_)
noncomputable def impl_GrantOK.v (a0_0 : ByteArray) (a0_1 : Int) (a0_2 : Int) (a0_3 : Int) : Option (Bool) := lim (fun k_ => impl_GrantOK.f k_ a0_0 a0_1 a0_2 a0_3)
theorem impl_GrantOK.v_lim (a0_0 : ByteArray) (a0_1 : Int) (a0_2 : Int) (a0_3 : Int) : LimIs (fun k_ => impl_GrantOK.f k_ a0_0 a0_1 a0_2 a0_3) (impl_GrantOK.v a0_0 a0_1 a0_2 a0_3) := lim_is (fun k_ => impl_GrantOK.mono a0_0 a0_1 a0_2 a0_3 k_)
theorem impl_GrantOK.v_eq (a0_0 : ByteArray) (a0_1 : Int) (a0_2 : Int) (a0_3 : Int) : impl_GrantOK.v a0_0 a0_1 a0_2 a0_3 = ((impl_isOpName.v a0_0).bind fun t142 => (if t142 = true then ((impl_within.v a0_1 0 255).bind fun t143 => (if t143 = true then ((impl_within.v a0_2 1 1000000).bind fun t144 => (if t144 = true then ((impl_within.v a0_3 0 2000000000).bind fun t145 => (some t145)) else (some false))) else (some false))) else (some false)) : Option (Bool)) := by
  refine LimIs.eq (impl_GrantOK.v_lim a0_0 a0_1 a0_2 a0_3) ?_
  simp only [impl_GrantOK.f]
  repeat' (with_reducible first | exact impl_isOpName.v_lim _ | exact impl_within.v_lim _ _ _ | exact LimIs.const _ | refine LimIs.ite ?_ ?_ | refine LimIs.bind ?_ (fun _ => ?_))
def impl_areLong_1.f (a0 : ByteArray) : Option (Bool) := some (decide ((a0.size : Int) > 65536))
def impl_areLong_1.v (a0 : ByteArray) : Option (Bool) := impl_areLong_1.f a0
theorem impl_areLong_1.v_eq (a0 : ByteArray) : impl_areLong_1.v a0 = (some (decide ((a0.size : Int) > 65536)) : Option (Bool)) := rfl
def contains_impl_areLong_1.f (l0 : List ByteArray) : Option (Bool) := some (l0.any fun s => (impl_areLong_1.f s).getD false)
def contains_impl_areLong_1.v (l0 : List ByteArray) : Option (Bool) := contains_impl_areLong_1.f l0
theorem contains_impl_areLong_1.v_eq (l0 : List ByteArray) : contains_impl_areLong_1.v l0 = (some (l0.any fun s => (impl_areLong_1.v s).getD false) : Option (Bool)) := rfl
def impl_areLong.f (l0 : List ByteArray) : Option (Bool) := (contains_impl_areLong_1.f l0).bind fun t146 => (some t146)
def impl_areLong.v (l0 : List ByteArray) : Option (Bool) := impl_areLong.f l0
theorem impl_areLong.v_lim (l0 : List ByteArray) : LimIs (fun _ => impl_areLong.f l0) (impl_areLong.v l0) := LimIs.const _
theorem impl_areLong.v_eq (l0 : List ByteArray) : impl_areLong.v l0 = ((contains_impl_areLong_1.v l0).bind fun t146 => (some t146) : Option (Bool)) := rfl
def strings_Split.f (a0 : ByteArray) (a1 : ByteArray) : Option (List ByteArray) := if a0.size < 4294967281 ∧ 1 ≤ a1.size then (some (Lib.splitB a1 0 (Lib.countB a0 a1) a0)) else (none)
def strings_Split.v (a0 : ByteArray) (a1 : ByteArray) : Option (List ByteArray) := strings_Split.f a0 a1
theorem strings_Split.v_lim (a0 : ByteArray) (a1 : ByteArray) : LimIs (fun _ => strings_Split.f a0 a1) (strings_Split.v a0 a1) := LimIs.const _
theorem strings_Split.v_eq (a0 : ByteArray) (a1 : ByteArray) : strings_Split.v a0 a1 = (if a0.size < 4294967281 ∧ 1 ≤ a1.size then (some (Lib.splitB a1 0 (Lib.countB a0 a1) a0)) else (none) : Option (List ByteArray)) := rfl
def strconv_Itoa.f (a0 : Int) : Option (ByteArray) := if -9223372036854775808 ≤ a0 ∧ a0 ≤ 9223372036854775807 then (some (⟨(itoaL a0).toArray⟩ : ByteArray)) else (none)
def strconv_Itoa.v (a0 : Int) : Option (ByteArray) := strconv_Itoa.f a0
theorem strconv_Itoa.v_eq (a0 : Int) : strconv_Itoa.v a0 = (if -9223372036854775808 ≤ a0 ∧ a0 ≤ 9223372036854775807 then (some (⟨(itoaL a0).toArray⟩ : ByteArray)) else (none) : Option (ByteArray)) := rfl
def impl_readNumber.f (a0 : ByteArray) : Option (Int × Bool) := if a0.size ≤ 281474976710656 then (some (match Lib.atoiAll a0.data.toList with | .ok v => (v, decide ((Lib.trimPrefix a0.data.toList [45]).length ≤ 18) && ((⟨(itoaL v).toArray⟩ : ByteArray).toList == a0.toList)) | .syntax => (0, false) | .range => (Lib.atoiSat a0.data.toList, false))) else (none)
def impl_readNumber.v (a0 : ByteArray) : Option (Int × Bool) := impl_readNumber.f a0
theorem impl_readNumber.v_lim (a0 : ByteArray) : LimIs (fun _ => impl_readNumber.f a0) (impl_readNumber.v a0) := LimIs.const _
theorem impl_readNumber.v_eq (a0 : ByteArray) : impl_readNumber.v a0 = (if a0.size ≤ 281474976710656 then (some (match Lib.atoiAll a0.data.toList with | .ok v => (v, decide ((Lib.trimPrefix a0.data.toList [45]).length ≤ 18) && ((⟨(itoaL v).toArray⟩ : ByteArray).toList == a0.toList)) | .syntax => (0, false) | .range => (Lib.atoiSat a0.data.toList, false))) else (none) : Option (Int × Bool)) := rfl
def impl_grantText.f (a0_0 : ByteArray) (a0_1 : Int) (a0_2 : Int) (a0_3 : Int) : Option (ByteArray) := if 6 + a0_0.size ≤ 9223372036854775807 then (if ((⟨#[103, 114, 97, 110, 116, 32]⟩ : ByteArray) ++ a0_0).size + 1 ≤ 9223372036854775807 then ((strconv_Itoa.f a0_1).bind fun t148 => (if (((⟨#[103, 114, 97, 110, 116, 32]⟩ : ByteArray) ++ a0_0) ++ (⟨#[32]⟩ : ByteArray)).size + t148.size ≤ 9223372036854775807 then (if ((((⟨#[103, 114, 97, 110, 116, 32]⟩ : ByteArray) ++ a0_0) ++ (⟨#[32]⟩ : ByteArray)) ++ t148).size + 1 ≤ 9223372036854775807 then ((strconv_Itoa.f a0_2).bind fun t149 => (if (((((⟨#[103, 114, 97, 110, 116, 32]⟩ : ByteArray) ++ a0_0) ++ (⟨#[32]⟩ : ByteArray)) ++ t148) ++ (⟨#[32]⟩ : ByteArray)).size + t149.size ≤ 9223372036854775807 then (if ((((((⟨#[103, 114, 97, 110, 116, 32]⟩ : ByteArray) ++ a0_0) ++ (⟨#[32]⟩ : ByteArray)) ++ t148) ++ (⟨#[32]⟩ : ByteArray)) ++ t149).size + 1 ≤ 9223372036854775807 then ((strconv_Itoa.f a0_3).bind fun t150 => (if (((((((⟨#[103, 114, 97, 110, 116, 32]⟩ : ByteArray) ++ a0_0) ++ (⟨#[32]⟩ : ByteArray)) ++ t148) ++ (⟨#[32]⟩ : ByteArray)) ++ t149) ++ (⟨#[32]⟩ : ByteArray)).size + t150.size ≤ 9223372036854775807 then (some ((((((((⟨#[103, 114, 97, 110, 116, 32]⟩ : ByteArray) ++ a0_0) ++ (⟨#[32]⟩ : ByteArray)) ++ t148) ++ (⟨#[32]⟩ : ByteArray)) ++ t149) ++ (⟨#[32]⟩ : ByteArray)) ++ t150)) else (none))) else (none)) else (none))) else (none)) else (none))) else (none)) else (none)
def impl_grantText.v (a0_0 : ByteArray) (a0_1 : Int) (a0_2 : Int) (a0_3 : Int) : Option (ByteArray) := impl_grantText.f a0_0 a0_1 a0_2 a0_3
theorem impl_grantText.v_lim (a0_0 : ByteArray) (a0_1 : Int) (a0_2 : Int) (a0_3 : Int) : LimIs (fun _ => impl_grantText.f a0_0 a0_1 a0_2 a0_3) (impl_grantText.v a0_0 a0_1 a0_2 a0_3) := LimIs.const _
theorem impl_grantText.v_eq (a0_0 : ByteArray) (a0_1 : Int) (a0_2 : Int) (a0_3 : Int) : impl_grantText.v a0_0 a0_1 a0_2 a0_3 = (if 6 + a0_0.size ≤ 9223372036854775807 then (if ((⟨#[103, 114, 97, 110, 116, 32]⟩ : ByteArray) ++ a0_0).size + 1 ≤ 9223372036854775807 then ((strconv_Itoa.v a0_1).bind fun t148 => (if (((⟨#[103, 114, 97, 110, 116, 32]⟩ : ByteArray) ++ a0_0) ++ (⟨#[32]⟩ : ByteArray)).size + t148.size ≤ 9223372036854775807 then (if ((((⟨#[103, 114, 97, 110, 116, 32]⟩ : ByteArray) ++ a0_0) ++ (⟨#[32]⟩ : ByteArray)) ++ t148).size + 1 ≤ 9223372036854775807 then ((strconv_Itoa.v a0_2).bind fun t149 => (if (((((⟨#[103, 114, 97, 110, 116, 32]⟩ : ByteArray) ++ a0_0) ++ (⟨#[32]⟩ : ByteArray)) ++ t148) ++ (⟨#[32]⟩ : ByteArray)).size + t149.size ≤ 9223372036854775807 then (if ((((((⟨#[103, 114, 97, 110, 116, 32]⟩ : ByteArray) ++ a0_0) ++ (⟨#[32]⟩ : ByteArray)) ++ t148) ++ (⟨#[32]⟩ : ByteArray)) ++ t149).size + 1 ≤ 9223372036854775807 then ((strconv_Itoa.v a0_3).bind fun t150 => (if (((((((⟨#[103, 114, 97, 110, 116, 32]⟩ : ByteArray) ++ a0_0) ++ (⟨#[32]⟩ : ByteArray)) ++ t148) ++ (⟨#[32]⟩ : ByteArray)) ++ t149) ++ (⟨#[32]⟩ : ByteArray)).size + t150.size ≤ 9223372036854775807 then (some ((((((((⟨#[103, 114, 97, 110, 116, 32]⟩ : ByteArray) ++ a0_0) ++ (⟨#[32]⟩ : ByteArray)) ++ t148) ++ (⟨#[32]⟩ : ByteArray)) ++ t149) ++ (⟨#[32]⟩ : ByteArray)) ++ t150)) else (none))) else (none)) else (none))) else (none)) else (none))) else (none)) else (none) : Option (ByteArray)) := rfl
def impl_ReadGrant.f (k : Nat) (a0 : ByteArray) : Option (ByteArray × Int × Int × Int × Int) := (impl_areLong.f (([a0] : List ByteArray))).bind fun t155 => (if t155 = true then (some ((⟨#[]⟩ : ByteArray), 0, 0, 0, 2)) else ((strings_Split.f a0 (⟨#[32]⟩ : ByteArray)).bind fun t156 => (if (t156.length : Int) = 5 then (if 1 < (t156.length : Int) then (if 2 < (t156.length : Int) then ((impl_readNumber.f (rdOf ByteArray.empty t156 2)).bind fun bt162 => (if bt162.2 = true then (if 3 < (t156.length : Int) then ((impl_readNumber.f (rdOf ByteArray.empty t156 3)).bind fun bt165 => (if bt165.2 = true then (if 4 < (t156.length : Int) then ((impl_readNumber.f (rdOf ByteArray.empty t156 4)).bind fun bt168 => (if bt168.2 = true then ((impl_GrantOK.f k (rdOf ByteArray.empty t156 1) bt162.1 bt165.1 bt168.1).bind fun t170 => (if t170 = true then ((impl_grantText.f (rdOf ByteArray.empty t156 1) bt162.1 bt165.1 bt168.1).bind fun t171 => (if t171.toList = a0.toList then (some (rdOf ByteArray.empty t156 1, bt162.1, bt165.1, bt168.1, 0)) else (some ((⟨#[]⟩ : ByteArray), 0, 0, 0, 3)))) else (some ((⟨#[]⟩ : ByteArray), 0, 0, 0, 3)))) else (some ((⟨#[]⟩ : ByteArray), 0, 0, 0, 3)))) else (none)) else (some ((⟨#[]⟩ : ByteArray), 0, 0, 0, 3)))) else (none)) else (some ((⟨#[]⟩ : ByteArray), 0, 0, 0, 3)))) else (none)) else (none)) else (some ((⟨#[]⟩ : ByteArray), 0, 0, 0, 3)))))
theorem impl_ReadGrant.mono : ∀ a0 k, LeO (impl_ReadGrant.f k a0) (impl_ReadGrant.f (k + 1) a0) := by
  intro a0 k
  unfold impl_ReadGrant.f
  repeat' first
      | (with_reducible exact impl_GrantOK.mono _ _ _ _ _)
      | (with_reducible exact LeO.refl _)
      | (with_reducible exact LeO.none _)
      | (with_reducible refine LeO.ite ?_ ?_)
      | (with_reducible refine LeO.bind ?_ (fun _ => ?_))
      | exact impl_GrantOK.mono _ _ _ _ _
      | exact LeO.none _
      | refine LeO.ite ?_ ?_
      | refine LeO.bind ?_ (fun _ => ?_)
noncomputable def impl_ReadGrant.v (a0 : ByteArray) : Option (ByteArray × Int × Int × Int × Int) := lim (fun k_ => impl_ReadGrant.f k_ a0)
theorem impl_ReadGrant.v_lim (a0 : ByteArray) : LimIs (fun k_ => impl_ReadGrant.f k_ a0) (impl_ReadGrant.v a0) := lim_is (fun k_ => impl_ReadGrant.mono a0 k_)
theorem impl_ReadGrant.v_eq (a0 : ByteArray) : impl_ReadGrant.v a0 = ((impl_areLong.v (([a0] : List ByteArray))).bind fun t155 => (if t155 = true then (some ((⟨#[]⟩ : ByteArray), 0, 0, 0, 2)) else ((strings_Split.v a0 (⟨#[32]⟩ : ByteArray)).bind fun t156 => (if (t156.length : Int) = 5 then (if 1 < (t156.length : Int) then (if 2 < (t156.length : Int) then ((impl_readNumber.v (rdOf ByteArray.empty t156 2)).bind fun bt162 => (if bt162.2 = true then (if 3 < (t156.length : Int) then ((impl_readNumber.v (rdOf ByteArray.empty t156 3)).bind fun bt165 => (if bt165.2 = true then (if 4 < (t156.length : Int) then ((impl_readNumber.v (rdOf ByteArray.empty t156 4)).bind fun bt168 => (if bt168.2 = true then ((impl_GrantOK.v (rdOf ByteArray.empty t156 1) bt162.1 bt165.1 bt168.1).bind fun t170 => (if t170 = true then ((impl_grantText.v (rdOf ByteArray.empty t156 1) bt162.1 bt165.1 bt168.1).bind fun t171 => (if t171.toList = a0.toList then (some (rdOf ByteArray.empty t156 1, bt162.1, bt165.1, bt168.1, 0)) else (some ((⟨#[]⟩ : ByteArray), 0, 0, 0, 3)))) else (some ((⟨#[]⟩ : ByteArray), 0, 0, 0, 3)))) else (some ((⟨#[]⟩ : ByteArray), 0, 0, 0, 3)))) else (none)) else (some ((⟨#[]⟩ : ByteArray), 0, 0, 0, 3)))) else (none)) else (some ((⟨#[]⟩ : ByteArray), 0, 0, 0, 3)))) else (none)) else (none)) else (some ((⟨#[]⟩ : ByteArray), 0, 0, 0, 3))))) : Option (ByteArray × Int × Int × Int × Int)) := by
  refine LimIs.eq (impl_ReadGrant.v_lim a0) ?_
  simp only [impl_ReadGrant.f]
  repeat' (with_reducible first | exact impl_GrantOK.v_lim _ _ _ _ | exact impl_areLong.v_lim _ | exact impl_grantText.v_lim _ _ _ _ | exact impl_readNumber.v_lim _ | exact strings_Split.v_lim _ _ | exact LimIs.const _ | refine LimIs.ite ?_ ?_ | refine LimIs.bind ?_ (fun _ => ?_))
def laws_eqGrant.f (a0_0 : ByteArray) (a0_1 : Int) (a0_2 : Int) (a0_3 : Int) (a1_0 : ByteArray) (a1_1 : Int) (a1_2 : Int) (a1_3 : Int) : Option (Bool) := if a0_0.toList = a1_0.toList then (if a0_1 = a1_1 then (if a0_2 = a1_2 then (if a0_3 = a1_3 then (some true) else (some false)) else (some false)) else (some false)) else (some false)
def laws_eqGrant.v (a0_0 : ByteArray) (a0_1 : Int) (a0_2 : Int) (a0_3 : Int) (a1_0 : ByteArray) (a1_1 : Int) (a1_2 : Int) (a1_3 : Int) : Option (Bool) := laws_eqGrant.f a0_0 a0_1 a0_2 a0_3 a1_0 a1_1 a1_2 a1_3
theorem laws_eqGrant.v_lim (a0_0 : ByteArray) (a0_1 : Int) (a0_2 : Int) (a0_3 : Int) (a1_0 : ByteArray) (a1_1 : Int) (a1_2 : Int) (a1_3 : Int) : LimIs (fun _ => laws_eqGrant.f a0_0 a0_1 a0_2 a0_3 a1_0 a1_1 a1_2 a1_3) (laws_eqGrant.v a0_0 a0_1 a0_2 a0_3 a1_0 a1_1 a1_2 a1_3) := LimIs.const _
theorem laws_eqGrant.v_eq (a0_0 : ByteArray) (a0_1 : Int) (a0_2 : Int) (a0_3 : Int) (a1_0 : ByteArray) (a1_1 : Int) (a1_2 : Int) (a1_3 : Int) : laws_eqGrant.v a0_0 a0_1 a0_2 a0_3 a1_0 a1_1 a1_2 a1_3 = (if a0_0.toList = a1_0.toList then (if a0_1 = a1_1 then (if a0_2 = a1_2 then (if a0_3 = a1_3 then (some true) else (some false)) else (some false)) else (some false)) else (some false) : Option (Bool)) := rfl
def laws_FnExactReadGrant.f (k : Nat) (a0 : ByteArray) : Option (Bool) := if (a0.size : Int) > 1048576 then (some true) else ((spec_ReadGrant.f k a0).bind fun bt174 => ((impl_ReadGrant.f k a0).bind fun bt180 => ((laws_eqGrant.f bt180.1 bt180.2.1 bt180.2.2.1 bt180.2.2.2.1 bt174.1 bt174.2.1 bt174.2.2.1 bt174.2.2.2.1).bind fun t186 => (if t186 = true then (if bt180.2.2.2.2 = bt174.2.2.2.2 then (some true) else (some false)) else (some false)))))
theorem laws_FnExactReadGrant.mono : ∀ a0 k, LeO (laws_FnExactReadGrant.f k a0) (laws_FnExactReadGrant.f (k + 1) a0) := by
  intro a0 k
  unfold laws_FnExactReadGrant.f
  repeat' first
      | (with_reducible exact impl_ReadGrant.mono _ _)
      | (with_reducible exact spec_ReadGrant.mono _ _)
      | (with_reducible exact LeO.refl _)
      | (with_reducible exact LeO.none _)
      | (with_reducible refine LeO.ite ?_ ?_)
      | (with_reducible refine LeO.bind ?_ (fun _ => ?_))
      | exact impl_ReadGrant.mono _ _
      | exact spec_ReadGrant.mono _ _
      | exact LeO.none _
      | refine LeO.ite ?_ ?_
      | refine LeO.bind ?_ (fun _ => ?_)
noncomputable def laws_FnExactReadGrant.v (a0 : ByteArray) : Option (Bool) := lim (fun k_ => laws_FnExactReadGrant.f k_ a0)
theorem laws_FnExactReadGrant.v_lim (a0 : ByteArray) : LimIs (fun k_ => laws_FnExactReadGrant.f k_ a0) (laws_FnExactReadGrant.v a0) := lim_is (fun k_ => laws_FnExactReadGrant.mono a0 k_)
theorem laws_FnExactReadGrant.v_eq (a0 : ByteArray) : laws_FnExactReadGrant.v a0 = (if (a0.size : Int) > 1048576 then (some true) else ((spec_ReadGrant.v a0).bind fun bt174 => ((impl_ReadGrant.v a0).bind fun bt180 => ((laws_eqGrant.v bt180.1 bt180.2.1 bt180.2.2.1 bt180.2.2.2.1 bt174.1 bt174.2.1 bt174.2.2.1 bt174.2.2.2.1).bind fun t186 => (if t186 = true then (if bt180.2.2.2.2 = bt174.2.2.2.2 then (some true) else (some false)) else (some false))))) : Option (Bool)) := by
  refine LimIs.eq (laws_FnExactReadGrant.v_lim a0) ?_
  simp only [laws_FnExactReadGrant.f]
  repeat' (with_reducible first | exact impl_ReadGrant.v_lim _ | exact laws_eqGrant.v_lim _ _ _ _ _ _ _ _ | exact spec_ReadGrant.v_lim _ | exact LimIs.const _ | refine LimIs.ite ?_ ?_ | refine LimIs.bind ?_ (fun _ => ?_))
end Go.Proofs.YtioocldcdonlpaaDoor.A
end

section
namespace Go.Proofs.YtioocldcdonlpaaDoor.A
open Go.RowKit Go.Proofs.YtioocldcdonlpaaDoorW.PrintWords Go.Proofs.YtioocldcdonlpaaDoorW.PrintLast Go.Proofs.YtioocldcdonlpaaDoorW.PrintMore
attribute [local go_sem] max2_int min2_int max_two min_two max_three min_three max_four min_four
end Go.Proofs.YtioocldcdonlpaaDoor.A
end

section
namespace Go.Proofs.YtioocldcdonlpaaDoorW.PrintWords
open Go.RowKit
theorem wrap_id {x : Int} (h0 : -9223372036854775808 ≤ x) (h1 : x ≤ 9223372036854775807) : wrap64 x = x := by unfold wrap64; omega
/-- p at d places from i on. -/
def allB (p : Int → Bool) : Nat → Int → Bool
  | 0, _ => true
  | d + 1, i => p i && allB p d (i + 1)
def allI (p : Int → Bool) (i n : Int) : Bool := allB p (n - i).toNat i
theorem allI_step {p : Int → Bool} {i n : Int} (h : i < n) : allI p i n = (p i && allI p (i + 1) n) := by
  unfold allI
  obtain ⟨d, hd⟩ : ∃ d : Nat, (n - i).toNat = d + 1 := ⟨(n - i).toNat - 1, by omega⟩
  rw [hd, show (n - (i + 1)).toNat = d by omega]
  rfl
theorem allI_end {p : Int → Bool} {i n : Int} (h : n ≤ i) : allI p i n = true := by
  unfold allI
  rw [show (n - i).toNat = 0 by omega]
  rfl
/-- A loop that asks p at each place. -/
theorem loop_all {L : Int → Option Bool} (p : Int → Bool) (n : Int) (hn : n ≤ 9223372036854775807) (hL : ∀ i, 0 ≤ i → i < n → L i = if p i = true then L (wrap64 (i + 1)) else some false) (hE : ∀ i, 0 ≤ i → n ≤ i → L i = some true) :
    ∀ (d : Nat) (i : Int), (n - i).toNat = d → 0 ≤ i → L i = some (allI p i n)
  | 0, i, h, h0 => by rw [hE i h0 (by omega), allI_end (by omega)]
  | d + 1, i, h, h0 => by
    rw [hL i h0 (by omega), allI_step (by omega), wrap_id (by omega) (by omega), loop_all p n hn hL hE d (i + 1) (by omega) (by omega)]
    cases p i <;> simp
def letterB (c : Int) : Bool := decide ((97 ≤ c ∧ c ≤ 122) ∨ (65 ≤ c ∧ c ≤ 90) ∨ c = 95)
def digitB (c : Int) : Bool := decide (48 ≤ c ∧ c ≤ 57)
def inB (n low high : Int) : Bool := decide (low ≤ n ∧ n ≤ high)
def nameB (s : ByteArray) : Bool := decide (1 ≤ s.size ∧ s.size ≤ 40) && (letterB (bt s 0) && allI (fun j => letterB (bt s j) || digitB (bt s j)) 1 s.size)
theorem ba_toList (a : ByteArray) : a.toList = a.data.toList := ByteArray.toList_eq a
theorem ba_inj {a b : ByteArray} : a.toList = b.toList ↔ a = b := by
  rw [ba_toList, ba_toList]
  refine ⟨fun h => ?_, fun h => by rw [h]⟩
  cases a; cases b
  simp only [ByteArray.mk.injEq]
  exact Array.toList_inj.1 h
end Go.Proofs.YtioocldcdonlpaaDoorW.PrintWords
end

section
namespace Go.Proofs.YtioocldcdonlpaaDoor.A
open Go.Lib
def dgt (c : UInt8) : Bool := decide (48 ≤ c.toNat ∧ c.toNat ≤ 57)
def dval : Nat → List UInt8 → Nat
  | acc, [] => acc
  | acc, c :: r => dval (acc * 10 + (c.toNat - 48)) r
theorem dval_app (d : UInt8) : ∀ (l : List UInt8) (acc : Nat), dval acc (l ++ [d]) = dval acc l * 10 + (d.toNat - 48)
  | [], _ => rfl
  | _ :: r, _ => dval_app d r _
theorem dval_ge : ∀ (l : List UInt8) (acc : Nat), acc ≤ dval acc l
  | [], _ => Nat.le_refl _
  | c :: r, acc => by
    have := dval_ge r (acc * 10 + (c.toNat - 48))
    show acc ≤ dval (acc * 10 + (c.toNat - 48)) r
    omega
theorem dval_lt : ∀ (l : List UInt8) (acc : Nat), l.all dgt = true → dval acc l < (acc + 1) * 10 ^ l.length
  | [], acc, _ => by show acc < (acc + 1) * 1; omega
  | c :: r, acc, h => by
    rw [List.all_cons, Bool.and_eq_true] at h
    have hc := of_decide_eq_true h.1
    have ih := dval_lt r (acc * 10 + (c.toNat - 48)) h.2
    show dval (acc * 10 + (c.toNat - 48)) r < (acc + 1) * 10 ^ (r.length + 1)
    have h1 : (acc * 10 + (c.toNat - 48) + 1) * 10 ^ r.length ≤ (acc * 10 + 10) * 10 ^ r.length := Nat.mul_le_mul_right _ (by omega)
    have h2 : (acc + 1) * 10 ^ (r.length + 1) = (acc * 10 + 10) * 10 ^ r.length := by
      rw [Nat.pow_succ, Nat.mul_comm (10 ^ r.length) 10, ← Nat.mul_assoc, Nat.add_mul, Nat.one_mul]
    omega
theorem parse_ok : ∀ (l : List UInt8) (acc : Nat), l.all dgt = true → dval acc l < 1000000000000000000 → parseUint10 acc l = .ok (dval acc l)
  | [], _, _, _ => rfl
  | c :: r, acc, h, hv => by
    rw [List.all_cons, Bool.and_eq_true] at h
    have hc := of_decide_eq_true h.1
    have hv' : dval (acc * 10 + (c.toNat - 48)) r < 1000000000000000000 := hv
    have hg := dval_ge r (acc * 10 + (c.toNat - 48))
    unfold parseUint10
    rw [if_pos hc, if_neg (by omega), if_neg (by omega)]
    exact parse_ok r _ h.2 hv'
theorem dgt_of (k : Nat) (h : k < 10) : (UInt8.ofNat (48 + k)).toNat = 48 + k := by
  rw [UInt8.toNat_ofNat']
  omega
theorem dec_all : ∀ (N n : Nat), n ≤ N → (decDigits n).all dgt = true
  | 0, n, h => by
    rw [decDigits, dif_pos (by omega)]
    have := dgt_of n (by omega)
    simp [dgt, this]
    omega
  | N + 1, n, h => by
    rw [decDigits]
    split
    · rename_i h1
      have := dgt_of n h1
      simp [dgt, this]
      omega
    · have := dgt_of (n % 10) (by omega)
      rw [List.all_append, dec_all N (n / 10) (by omega)]
      simp [dgt, this]
      omega
theorem dec_val : ∀ (N n : Nat), n ≤ N → dval 0 (decDigits n) = n
  | 0, n, h => by
    rw [decDigits, dif_pos (by omega)]
    have := dgt_of n (by omega)
    show 0 * 10 + ((UInt8.ofNat (48 + n)).toNat - 48) = n
    omega
  | N + 1, n, h => by
    rw [decDigits]
    split
    · rename_i h1
      have := dgt_of n h1
      show 0 * 10 + ((UInt8.ofNat (48 + n)).toNat - 48) = n
      omega
    · have := dgt_of (n % 10) (by omega)
      rw [dval_app, dec_val N (n / 10) (by omega)]
      omega
theorem dec_ne (n : Nat) : decDigits n ≠ [] := by
  rw [decDigits]
  split <;> simp
theorem dec_head : ∀ (N n : Nat), n ≤ N → 1 ≤ n → ∃ c r, decDigits n = c :: r ∧ 49 ≤ c.toNat ∧ c.toNat ≤ 57
  | 0, n, h, h1 => by omega
  | N + 1, n, h, h1 => by
    rw [decDigits]
    split
    · rename_i h2
      have := dgt_of n h2
      exact ⟨_, [], rfl, by omega, by omega⟩
    · obtain ⟨c, r, e, hc⟩ := dec_head N (n / 10) (by omega) (by omega)
      rw [e]
      exact ⟨c, r ++ [UInt8.ofNat (48 + n % 10)], rfl, hc⟩
theorem dval_pos (c : UInt8) (r : List UInt8) (h : 49 ≤ c.toNat) : 1 ≤ dval 0 (c :: r) := by
  have := dval_ge r (0 * 10 + (c.toNat - 48))
  show 1 ≤ dval (0 * 10 + (c.toNat - 48)) r
  omega
theorem u8_eq {a b : UInt8} (h : a.toNat = b.toNat) : a = b := UInt8.toNat_inj.1 h
theorem dec_back : ∀ (N : Nat) (ds : List UInt8), ds.length ≤ N → ds.all dgt = true → ds ≠ [] → (ds.length = 1 ∨ ∃ c r, ds = c :: r ∧ 49 ≤ c.toNat) → decDigits (dval 0 ds) = ds
  | 0, ds, h, _, h1, _ => absurd (List.length_eq_zero_iff.1 (Nat.le_zero.1 h)) h1
  | N + 1, ds, h, ha, h1, h2 => by
    have e := List.dropLast_concat_getLast h1
    generalize ds.getLast h1 = d at e
    generalize ds.dropLast = l at e
    subst e
    rw [List.all_append, Bool.and_eq_true] at ha
    have hd := ha.2
    rw [List.all_cons, Bool.and_eq_true] at hd
    have hd := of_decide_eq_true hd.1
    rw [dval_app]
    have hof := dgt_of (d.toNat - 48) (by omega)
    have hdd : UInt8.ofNat (48 + (d.toNat - 48)) = d := u8_eq (by rw [hof]; omega)
    cases l with
    | nil =>
      show decDigits (0 * 10 + (d.toNat - 48)) = [d]
      rw [decDigits, dif_pos (by omega), Nat.zero_mul, Nat.zero_add, hdd]
    | cons c r =>
      have hc : 49 ≤ c.toNat := by
        rcases h2 with h2 | ⟨c', r', h2, h3⟩
        · rw [List.length_append, List.length_cons, List.length_singleton] at h2
          omega
        · rw [List.cons_append] at h2
          injection h2 with h2
          rw [h2]
          exact h3
      have hp := dval_pos c r hc
      have ih := dec_back N (c :: r) (by rw [List.length_append, List.length_singleton] at h; omega) ha.1 (by simp) (.inr ⟨c, r, rfl, hc⟩)
      generalize dval 0 (c :: r) = v at ih hp
      rw [decDigits, dif_neg (by omega), show (v * 10 + (d.toNat - 48)) / 10 = v by omega, ih, show (v * 10 + (d.toNat - 48)) % 10 = d.toNat - 48 by omega, hdd]
/-- A numeral that the library writes: read again. -/
theorem atoi_back (v : Int) (h0 : -1000000000000000000 < v) (h1 : v < 1000000000000000000) : atoiAll (itoa v) = .ok v := by
  by_cases c : v < 0
  · obtain ⟨m, rfl, hm⟩ : ∃ m : Nat, v = -(m : Int) ∧ 1 ≤ m := ⟨v.natAbs, by omega, by omega⟩
    have hv := dec_val m m (Nat.le_refl _)
    rw [itoa_neg m hm, atoiAll_minus]
    unfold parseMag
    rw [if_neg (dec_ne m), parse_ok _ 0 (dec_all m m (Nat.le_refl _)) (by omega), hv]
    show (if 9223372036854775808 < m then _ else _) = _
    rw [if_neg (by omega)]
  · obtain ⟨m, rfl⟩ : ∃ m : Nat, v = (m : Int) := ⟨v.toNat, by omega⟩
    have hv := dec_val m m (Nat.le_refl _)
    have ha := dec_all m m (Nat.le_refl _)
    have hp := parse_ok _ 0 ha (by rw [hv]; omega)
    rw [hv] at hp
    rw [itoa_nonneg m]
    have hne := dec_ne m
    generalize decDigits m = l at ha hp hne
    cases l with
    | nil => exact absurd rfl hne
    | cons c r =>
      rw [List.all_cons, Bool.and_eq_true] at ha
      have hc := of_decide_eq_true ha.1
      rw [atoiAll_plain c r (by omega) (by omega)]
      unfold parseMag
      rw [if_neg hne, hp]
      show (if 9223372036854775808 ≤ m then _ else _) = _
      rw [if_neg (by omega)]
def cutS : List UInt8 → List (List UInt8)
  | [] => [[]]
  | c :: r => if c = 32 then [] :: cutS r else (match cutS r with | x :: xs => (c :: x) :: xs | [] => [[c]])
theorem cutS_ne : ∀ l, cutS l ≠ []
  | [] => by simp [cutS]
  | c :: r => by
    unfold cutS
    split
    · simp
    · split <;> simp
theorem cutS_sp (r : List UInt8) : cutS (32 :: r) = [] :: cutS r := by rw [cutS, if_pos rfl]
theorem cutS_no (c : UInt8) (r : List UInt8) (h : c ≠ 32) (x : List UInt8) (xs : List (List UInt8)) (e : cutS r = x :: xs) : cutS (c :: r) = (c :: x) :: xs := by rw [cutS, if_neg h, e]
theorem splitK_cut : ∀ l : List UInt8, splitK [32] 0 (count l [32]) l = cutS l
  | [] => by
    have : count [] [32] = 0 := rfl
    rw [this]
    rfl
  | c :: r => by
    have ih := splitK_cut r
    by_cases h : c = 32
    · subst h
      rw [count_cons_eq, Nat.add_comm, splitK, cutS_sp, ← ih]
      have : index (32 :: r) [32] = 0 := by simp [index]
      rw [if_neg (by rw [this]; decide), this]
      rfl
    · rw [count_cons_ne c 32 r h]
      cases hk : count r [32] with
      | zero =>
        rw [hk] at ih
        have : cutS r = [r] := ih.symm
        rw [cutS_no c r h r [] this]
        rfl
      | succ k =>
        rw [hk] at ih
        have hm : index r [32] ≠ -1 := fun e => by rw [count_miss e] at hk; cases hk
        have hi : index (c :: r) [32] = index r [32] + 1 := by
          have h1 : ([32] : List UInt8).isPrefixOf (c :: r) = false := by
            rw [List.isPrefixOf_cons_cons]
            simp [Ne.symm h]
          rw [index, h1]
          simp [hm]
        have hg := index_ge r [32]
        rw [splitK, if_neg (by simpa using hm)] at ih
        rw [splitK, hi, if_neg (by simp; omega)]
        rw [cutS_no c r h _ _ ih.symm]
        have e1 : (index r [32] + 1).toNat = (index r [32]).toNat + 1 := by omega
        rw [e1]
        rfl
def joinS : List (List UInt8) → List UInt8
  | [] => []
  | [x] => x
  | x :: y :: r => x ++ 32 :: joinS (y :: r)
theorem joinS_cons (c : UInt8) (x : List UInt8) : ∀ xs, joinS ((c :: x) :: xs) = c :: joinS (x :: xs)
  | [] => rfl
  | _ :: _ => rfl
theorem join_cut : ∀ l, joinS (cutS l) = l
  | [] => rfl
  | c :: r => by
    have ih := join_cut r
    have hn := cutS_ne r
    by_cases h : c = 32
    · subst h
      rw [cutS_sp]
      cases hr : cutS r with
      | nil => exact absurd hr hn
      | cons y ys =>
        rw [hr] at ih
        show [] ++ 32 :: joinS (y :: ys) = _
        rw [ih]
        rfl
    · cases hr : cutS r with
      | nil => exact absurd hr hn
      | cons y ys =>
        rw [cutS_no c r h y ys hr, joinS_cons, ← hr, ih]
theorem cut_le : ∀ (l x : List UInt8), x ∈ cutS l → x.length ≤ l.length
  | [], x, h => by
    simp [cutS] at h
    subst h
    exact Nat.le_refl _
  | c :: r, x, h => by
    have hn := cutS_ne r
    by_cases hc : c = 32
    · subst hc
      rw [cutS_sp] at h
      rcases List.mem_cons.1 h with rfl | h
      · exact Nat.zero_le _
      · have := cut_le r x h
        rw [List.length_cons]
        omega
    · cases hr : cutS r with
      | nil => exact absurd hr hn
      | cons y ys =>
        rw [cutS_no c r hc y ys hr] at h
        rcases List.mem_cons.1 h with rfl | h
        · have := cut_le r y (by rw [hr]; exact List.mem_cons_self)
          rw [List.length_cons, List.length_cons]
          omega
        · have := cut_le r x (by rw [hr]; exact List.mem_cons_of_mem _ h)
          rw [List.length_cons]
          omega
end Go.Proofs.YtioocldcdonlpaaDoor.A
end

section
namespace Go.Proofs.YtioocldcdonlpaaDoor.A
open Go.RowKit Go.Proofs.YtioocldcdonlpaaDoorW.PrintWords
theorem bt_list (s : ByteArray) (i : Nat) (h : i < s.size) : ∃ c : UInt8, s.data.toList.drop i = c :: s.data.toList.drop (i + 1) ∧ bt s (i : Int) = (c.toNat : Int) := by
  have h1 : i < s.data.toList.length := by rw [← Go.Lib.size_eq]; exact h
  refine ⟨s.data.toList[i], List.drop_eq_getElem_cons h1, ?_⟩
  unfold bt
  rw [dif_pos (by simpa using h)]
  rfl
theorem num_loop (s : ByteArray) (sg : Int) (hs : s.size ≤ 18) : ∀ (d i acc : Nat), s.size = i + d → acc < 10 ^ i →
    spec_l00Number.lv0 s sg (acc : Int) (i : Int) = if (s.data.toList.drop i).all dgt = true then some (wrap64 (sg * (dval acc (s.data.toList.drop i) : Nat)), true) else some (0, false)
  | 0, i, acc, h, ha => by
    have hn : s.data.toList.drop i = [] := List.drop_eq_nil_of_le (by rw [← Go.Lib.size_eq]; omega)
    rw [spec_l00Number.lv0_eq, if_neg (by omega), hn]
    rfl
  | d + 1, i, acc, h, ha => by
    obtain ⟨c, hc, hb⟩ := bt_list s i (by omega)
    have hp : 10 ^ i ≤ 10 ^ 17 := Nat.pow_le_pow_right (by omega) (by omega)
    have hp' : (10 : Nat) ^ 17 = 100000000000000000 := by decide
    have hcl : c.toNat < 256 := c.toNat_lt
    have ha' : acc < 100000000000000000 := by rw [hp'] at hp; exact Nat.lt_of_lt_of_le ha hp
    have hn' : acc * 10 + (c.toNat - 48) < 10 ^ (i + 1) ∨ c.toNat > 57 := by rw [Nat.pow_succ]; omega
    clear hp hp' ha
    have b1 : -9223372036854775808 ≤ (acc : Int) * 10 + (c.toNat : Int) - 48 ∧ (acc : Int) * 10 + (c.toNat : Int) ≤ 9223372036854775807 ∧ -9223372036854775808 ≤ (acc : Int) * 10 + (c.toNat : Int) ∧ (acc : Int) * 10 + (c.toNat : Int) - 48 ≤ 9223372036854775807 ∧ -9223372036854775808 ≤ (acc : Int) * 10 ∧ (acc : Int) * 10 ≤ 9223372036854775807 ∧ -9223372036854775808 ≤ (c.toNat : Int) ∧ (c.toNat : Int) ≤ 9223372036854775807 ∧ -9223372036854775808 ≤ (i : Int) + 1 ∧ (i : Int) + 1 ≤ 9223372036854775807 ∧ (i : Int) < (s.size : Int) ∧ (0 : Int) ≤ (i : Int) := by omega
    obtain ⟨b1, b2, b3, b4, b5, b6, b7, b8, b9, b10, b11, b12⟩ := b1
    rw [spec_l00Number.lv0_eq, if_pos b11, if_pos b12, hb, wrap_id b5 b6, wrap_id b7 b8, wrap_id b3 b2, wrap_id b1 b4, wrap_id b9 b10, hc, List.all_cons]
    by_cases h1 : (c.toNat : Int) < 48
    · rw [if_pos h1, if_neg (by simp [dgt]; omega)]
    · rw [if_neg h1]
      by_cases h2 : (c.toNat : Int) > 57
      · rw [if_pos h2, if_neg (by simp [dgt]; omega)]
      · rw [if_neg h2]
        have hd : dgt c = true := decide_eq_true (by omega)
        have e : (acc : Int) * 10 + (c.toNat : Int) - 48 = ((acc * 10 + (c.toNat - 48) : Nat) : Int) := by omega
        rw [e, show (i : Int) + 1 = ((i + 1 : Nat) : Int) from rfl, num_loop s sg hs d (i + 1) (acc * 10 + (c.toNat - 48)) (by omega) (by omega), hd, Bool.true_and]
        rfl
def okN (sg : Int) (l : List UInt8) : Bool := decide (1 ≤ l.length) && (decide (l.length ≤ 18) && (!(l.head? == some 48 && (decide (1 < l.length) || decide (sg < 0))) && l.all dgt))
theorem jv1_v (x : ByteArray) (sg : Int) (hsg : sg = 1 ∨ sg = -1) : spec_l00Number.jv1 x sg = some (if okN sg x.data.toList = true then (sg * (dval 0 x.data.toList : Nat), true) else (0, false)) := by
  have hl := Go.Lib.size_eq x
  have hT : spec_l00Number.jv2 x sg true = some (0, false) := by rw [spec_l00Number.jv2_eq, if_pos rfl]
  rw [spec_l00Number.jv1_eq]
  by_cases h0 : (x.size : Int) = 0
  · rw [if_pos h0, hT, if_neg (by simp [okN]; omega)]
  rw [if_neg h0]
  by_cases h18 : (x.size : Int) > 18
  · rw [if_pos h18, hT, if_neg (by simp [okN]; omega)]
  rw [if_neg h18, if_pos (by omega)]
  have hF : spec_l00Number.jv2 x sg false = some (if x.data.toList.all dgt = true then (sg * (dval 0 x.data.toList : Nat), true) else (0, false)) := by
    rw [spec_l00Number.jv2_eq, if_neg (by decide)]
    have := num_loop x sg (by omega) x.size 0 0 (by omega) (by decide)
    rw [List.drop_zero] at this
    rw [show (0 : Int) = ((0 : Nat) : Int) from rfl, this]
    by_cases ha : x.data.toList.all dgt = true
    · have hv := dval_lt x.data.toList 0 ha
      have hp : 10 ^ x.data.toList.length ≤ 10 ^ 18 := Nat.pow_le_pow_right (by omega) (by omega)
      have hp' : (10 : Nat) ^ 18 = 1000000000000000000 := by decide
      rw [if_pos ha, if_pos ha, wrap_id (by rcases hsg with rfl | rfl <;> omega) (by rcases hsg with rfl | rfl <;> omega)]
    · rw [if_neg ha, if_neg ha]
      rfl
  obtain ⟨c, hc, hb⟩ := bt_list x 0 (by omega)
  rw [List.drop_zero] at hc
  rw [show (0 : Int) = ((0 : Nat) : Int) from rfl, hb]
  have hh : x.data.toList.head? = some c := by rw [hc]; rfl
  have h48 : ((c.toNat : Int) = 48) ↔ c = 48 := ⟨fun e => u8_eq (by have : (48 : UInt8).toNat = 48 := rfl; omega), fun e => by rw [e]; rfl⟩
  have ok1 : okN sg x.data.toList = (!(c == 48 && (decide (1 < x.data.toList.length) || decide (sg < 0))) && x.data.toList.all dgt) := by
    unfold okN
    rw [hh, decide_eq_true (show 1 ≤ x.data.toList.length by omega), decide_eq_true (show x.data.toList.length ≤ 18 by omega), Bool.true_and, Bool.true_and]
    rfl
  rw [ok1]
  by_cases h1 : c = 48
  · rw [if_pos (h48.2 h1)]
    by_cases h2 : (x.size : Int) > 1
    · rw [if_pos h2, hT, if_neg (by simp [h1]; omega)]
      rfl
    · rw [if_neg h2]
      rcases hsg with rfl | rfl
      · rw [show decide ((1 : Int) < ((0 : Nat) : Int)) = false from rfl, hF, decide_eq_false (show ¬ 1 < x.data.toList.length by omega), h1]
        rfl
      · rw [show decide ((-1 : Int) < ((0 : Nat) : Int)) = true from rfl, hT, if_neg (by simp [h1])]
        rfl
  · rw [if_neg (fun e => h1 (h48.1 e)), hF]
    have : (c == 48) = false := beq_eq_false_iff_ne.2 h1
    rw [this]
    rfl
def sgnOf (l : List UInt8) : Int := if l.head? = some 45 then -1 else 1
def bodyOf (l : List UInt8) : List UInt8 := if l.head? = some 45 then l.tail else l
theorem number_v (t : ByteArray) : spec_l00Number.v t = some (if okN (sgnOf t.data.toList) (bodyOf t.data.toList) = true then (sgnOf t.data.toList * (dval 0 (bodyOf t.data.toList) : Nat), true) else (0, false)) := by
  have hl := Go.Lib.size_eq t
  rw [spec_l00Number.v_eq]
  by_cases h0 : (t.size : Int) > 0
  · rw [if_pos h0, if_pos h0]
    obtain ⟨c, hc, hb⟩ := bt_list t 0 (by omega)
    rw [List.drop_zero] at hc
    rw [show bt t 0 = (c.toNat : Int) from hb, spec_l00Number.jv0_eq]
    by_cases h45 : c = 45
    · have hx : (t.extract 1 t.size).data.toList = t.data.toList.tail := by
        rw [Go.Lib.extract_data, List.drop_one]
        exact List.take_of_length_le (by rw [List.length_tail]; omega)
      have hh : t.data.toList.head? = some 45 := by rw [hc, h45]; rfl
      have hb2 : ((c.toNat : Int) == 45) = true := by rw [h45]; rfl
      rw [hb2, if_pos rfl, if_pos (by omega), jv1_v _ (-1) (.inr rfl), hx]
      unfold sgnOf bodyOf
      rw [if_pos hh, if_pos hh]
    · have hh : ¬ t.data.toList.head? = some 45 := by rw [hc]; simpa using h45
      have hb2 : ((c.toNat : Int) == 45) = false := beq_eq_false_iff_ne.2 (fun e => h45 (u8_eq (by have : (45 : UInt8).toNat = 45 := rfl; omega)))
      rw [hb2, if_neg (by decide), jv1_v _ 1 (.inl rfl)]
      unfold sgnOf bodyOf
      rw [if_neg hh, if_neg hh]
  · have hn : t.data.toList = [] := List.length_eq_zero_iff.1 (by omega)
    rw [if_neg h0, spec_l00Number.jv0_eq, if_neg (by decide), jv1_v _ 1 (.inl rfl), hn]
    rfl
theorem trim_body (l : List UInt8) : Go.Lib.trimPrefix l [45] = bodyOf l := by
  unfold Go.Lib.trimPrefix Go.Lib.hasPrefix bodyOf
  cases l with
  | nil => rfl
  | cons c r =>
    by_cases h : c = 45
    · subst h
      simp
    · have h1 : ([45] : List UInt8).isPrefixOf (c :: r) = false := by
        rw [List.isPrefixOf_cons_cons]
        simp [Ne.symm h]
      rw [h1, if_neg (by decide), if_neg (by simpa using h)]
/-- What the reference takes is what the library writes. -/
theorem okN_itoa (l : List UInt8) (h : okN (sgnOf l) (bodyOf l) = true) : Go.Lib.itoa (sgnOf l * (dval 0 (bodyOf l) : Nat)) = l ∧ (bodyOf l).length ≤ 18 ∧ dval 0 (bodyOf l) < 1000000000000000000 := by
  unfold okN at h
  simp only [Bool.and_eq_true, decide_eq_true_eq] at h
  obtain ⟨h1, h2, h3, h4⟩ := h
  have hv := dval_lt (bodyOf l) 0 h4
  have hp : 10 ^ (bodyOf l).length ≤ 10 ^ 18 := Nat.pow_le_pow_right (by omega) h2
  have hp' : (10 : Nat) ^ 18 = 1000000000000000000 := by decide
  refine ⟨?_, h2, by omega⟩
  clear hv hp hp'
  unfold sgnOf bodyOf at *
  cases l with
  | nil => simp at h1
  | cons c r =>
    by_cases hc : c = 45
    · subst hc
      simp only [List.head?_cons, if_true, List.tail_cons] at h1 h2 h3 h4 ⊢
      cases r with
      | nil => simp at h1
      | cons d q =>
        have hd : d ≠ 48 := fun e => by subst e; simp at h3
        have hdg := h4
        rw [List.all_cons, Bool.and_eq_true] at hdg
        have hdg := of_decide_eq_true hdg.1
        have hd9 : 49 ≤ d.toNat := by
          have : d.toNat ≠ 48 := fun e => hd (u8_eq e)
          omega
        have hpos := dval_pos d q hd9
        have hb := dec_back (d :: q).length (d :: q) (Nat.le_refl _) h4 (by simp) (.inr ⟨d, q, rfl, hd9⟩)
        rw [Int.neg_mul, Int.one_mul, Go.Lib.itoa_neg _ hpos, hb]
    · have hh : ¬ (c :: r).head? = some 45 := by simpa using hc
      simp only [hh, if_false] at h1 h2 h3 h4 ⊢
      have hb := dec_back (c :: r).length (c :: r) (Nat.le_refl _) h4 (by simp) (by
        by_cases h48 : c = 48
        · subst h48
          left
          simp at h3
          simpa using h3
        · right
          have hdg := h4
          rw [List.all_cons, Bool.and_eq_true] at hdg
          have hdg := of_decide_eq_true hdg.1
          refine ⟨c, r, rfl, ?_⟩
          have : c.toNat ≠ 48 := fun e => h48 (u8_eq e)
          omega)
      rw [Int.one_mul, Go.Lib.itoa_nonneg, hb]
theorem itoa_okN (v : Int) (h : (bodyOf (Go.Lib.itoa v)).length ≤ 18) : okN (sgnOf (Go.Lib.itoa v)) (bodyOf (Go.Lib.itoa v)) = true := by
  by_cases c : v < 0
  · obtain ⟨m, rfl, hm⟩ : ∃ m : Nat, v = -(m : Int) ∧ 1 ≤ m := ⟨v.natAbs, by omega, by omega⟩
    rw [Go.Lib.itoa_neg m hm] at h ⊢
    obtain ⟨d, q, e, hd, _⟩ := dec_head m m (Nat.le_refl _) hm
    have ha := dec_all m m (Nat.le_refl _)
    rw [e] at h ha ⊢
    have e1 : bodyOf (45 :: d :: q) = d :: q := rfl
    rw [e1] at h ⊢
    have h48 : (d == 48) = false := beq_eq_false_iff_ne.2 (fun e => by subst e; revert hd; decide)
    unfold okN
    rw [ha]
    simp [h48]
    simpa using h
  · obtain ⟨m, rfl⟩ : ∃ m : Nat, v = (m : Int) := ⟨v.toNat, by omega⟩
    rw [Go.Lib.itoa_nonneg m] at h ⊢
    have ha := dec_all m m (Nat.le_refl _)
    by_cases h0 : m = 0
    · subst h0
      have : Go.Lib.decDigits 0 = [48] := by rw [Go.Lib.decDigits, dif_pos (by omega)]; rfl
      rw [this]
      rfl
    · obtain ⟨d, q, e, hd, hd'⟩ := dec_head m m (Nat.le_refl _) (by omega)
      rw [e] at h ha ⊢
      have h45 : d ≠ 45 := fun e => by subst e; revert hd; decide
      have hh : ¬ (d :: q).head? = some 45 := by simpa using h45
      have e1 : bodyOf (d :: q) = d :: q := by unfold bodyOf; rw [if_neg hh]
      rw [e1] at h ⊢
      have h48 : (d == 48) = false := beq_eq_false_iff_ne.2 (fun e => by subst e; revert hd; decide)
      unfold okN
      rw [ha]
      simp [h48]
      simpa using h
theorem num_one (t : ByteArray) (ht : t.size ≤ 281474976710656) : ∃ n m b, spec_l00Number.v t = some (n, b) ∧ impl_readNumber.v t = some (m, b) ∧ (b = true → m = n ∧ t.data.toList = Go.Lib.itoa n ∧ -1000000000000000000 < n ∧ n < 1000000000000000000) := by
  rw [number_v, impl_readNumber.v_eq, if_pos ht]
  by_cases h : okN (sgnOf t.data.toList) (bodyOf t.data.toList) = true
  · obtain ⟨h1, h2, h3⟩ := okN_itoa _ h
    rw [if_pos h]
    generalize hn : sgnOf t.data.toList * (dval 0 (bodyOf t.data.toList) : Nat) = n at h1
    have hb : -1000000000000000000 < n ∧ n < 1000000000000000000 := by
      rw [← hn]
      unfold sgnOf
      split <;> omega
    have ha := atoi_back n hb.1 hb.2
    rw [h1] at ha
    rw [ha, trim_body]
    refine ⟨n, n, true, rfl, ?_, fun _ => ⟨rfl, h1.symm, hb⟩⟩
    have e : ((⟨(itoaL n).toArray⟩ : ByteArray).toList == t.toList) = true := by
      rw [ba_toList, ba_toList]
      show ((Go.Lib.itoa n).toArray.toList == t.data.toList) = true
      rw [List.toList_toArray, h1]
      exact beq_self_eq_true _
    show some (n, decide ((bodyOf t.data.toList).length ≤ 18) && ((⟨(itoaL n).toArray⟩ : ByteArray).toList == t.toList)) = some (n, true)
    rw [e, decide_eq_true h2]
    rfl
  · rw [if_neg h, trim_body]
    cases ha : Go.Lib.atoiAll t.data.toList with
    | ok v =>
      refine ⟨0, v, false, rfl, ?_, fun e => by cases e⟩
      show some (v, decide ((bodyOf t.data.toList).length ≤ 18) && ((⟨(itoaL v).toArray⟩ : ByteArray).toList == t.toList)) = some (v, false)
      cases hx : (decide ((bodyOf t.data.toList).length ≤ 18) && ((⟨(itoaL v).toArray⟩ : ByteArray).toList == t.toList)) with
      | false => rfl
      | true =>
        rw [Bool.and_eq_true, beq_iff_eq, ba_inj] at hx
        have e : t.data.toList = Go.Lib.itoa v := by rw [← hx.2]
        have hl := of_decide_eq_true hx.1
        rw [e] at h hl
        exact absurd (itoa_okN v hl) h
    | «syntax» => exact ⟨0, 0, false, rfl, rfl, fun e => by cases e⟩
    | range => exact ⟨0, _, false, rfl, rfl, fun e => by cases e⟩
end Go.Proofs.YtioocldcdonlpaaDoor.A
end

section
namespace Go.Proofs.YtioocldcdonlpaaDoor.A
open Go.RowKit Go.Proofs.YtioocldcdonlpaaDoorW.PrintWords
def glueS (p : List UInt8) : List (List UInt8) → List (List UInt8)
  | [] => []
  | x :: xs => (p ++ x) :: xs
theorem glue_nil (X : List (List UInt8)) : glueS [] X = X := by cases X <;> rfl
theorem cutLoop (s : ByteArray) (hs : s.size ≤ 65536) : ∀ (d i fr : Nat) (out : List ByteArray), s.size = i + d → fr ≤ i → out.length ≤ i →
    ∃ r, spec_l00Cut.lv0 s 32 out (fr : Int) (i : Int) = some r ∧ r.map (fun x => x.data.toList) = out.map (fun x => x.data.toList) ++ glueS ((s.data.toList.drop fr).take (i - fr)) (cutS (s.data.toList.drop i))
  | 0, i, fr, out, h, hf, ho => by
    have hn : s.data.toList.drop i = [] := List.drop_eq_nil_of_le (by rw [← Go.Lib.size_eq]; omega)
    refine ⟨out ++ [s.extract fr s.size], ?_, ?_⟩
    · rw [spec_l00Cut.lv0_eq, if_neg (by omega), if_pos (by omega), if_pos (by omega), if_pos (by omega), Int.toNat_natCast]
    · rw [hn, List.map_append, List.map_cons, Go.Lib.extract_data]
      show _ ++ [_] = _ ++ [_ ++ []]
      rw [List.append_nil, h, Nat.add_zero]
  | d + 1, i, fr, out, h, hf, ho => by
    obtain ⟨c, hc, hb⟩ := bt_list s i (by omega)
    have hi : wrap64 ((i : Int) + 1) = ((i + 1 : Nat) : Int) := by rw [wrap_id (by omega) (by omega)]; rfl
    have e : spec_l00Cut.lv0 s 32 out (fr : Int) (i : Int) = if (c.toNat : Int) = 32 then spec_l00Cut.lv0 s 32 (out ++ [s.extract fr i]) ((i + 1 : Nat) : Int) ((i + 1 : Nat) : Int) else spec_l00Cut.lv0 s 32 out (fr : Int) ((i + 1 : Nat) : Int) := by
      rw [spec_l00Cut.lv0_eq, hb, hi]
      clear hi
      rw [if_pos (by omega), if_pos (by omega)]
      by_cases h32 : (c.toNat : Int) = 32
      · rw [if_pos h32, if_pos h32, if_pos (by omega), if_pos (by omega), if_pos (by omega), if_pos (by omega), Int.toNat_natCast, Int.toNat_natCast]
      · rw [if_neg h32, if_neg h32]
    clear hi
    rw [e]
    by_cases h32 : c = 32
    · have h2 : (c.toNat : Int) = 32 := by rw [h32]; rfl
      obtain ⟨r, hr, hm⟩ := cutLoop s hs d (i + 1) (i + 1) (out ++ [s.extract fr i]) (by omega) (Nat.le_refl _) (by rw [List.length_append, List.length_singleton]; omega)
      refine ⟨r, by rw [if_pos h2, hr], ?_⟩
      rw [hm, hc, h32, cutS_sp, Nat.sub_self, List.take_zero, glue_nil, List.map_append, List.map_cons, Go.Lib.extract_data, List.append_assoc]
      show _ ++ ([_] ++ _) = _ ++ ((_ ++ []) :: _)
      rw [List.append_nil]
      rfl
    · have h2 : ¬ (c.toNat : Int) = 32 := fun e => h32 (u8_eq (by have : (32 : UInt8).toNat = 32 := rfl; omega))
      obtain ⟨r, hr, hm⟩ := cutLoop s hs d (i + 1) fr out (by omega) (by omega) (by omega)
      refine ⟨r, by rw [if_neg h2, hr], ?_⟩
      rw [hm, hc]
      cases hx : cutS (s.data.toList.drop (i + 1)) with
      | nil => exact absurd hx (cutS_ne _)
      | cons x xs =>
        rw [cutS_no c _ h32 x xs hx]
        have ht : (s.data.toList.drop fr).take (i + 1 - fr) = (s.data.toList.drop fr).take (i - fr) ++ [c] := by
          rw [show i + 1 - fr = (i - fr) + 1 by omega, List.take_add_one, List.getElem?_drop, show fr + (i - fr) = i by omega]
          have : s.data.toList[i]? = some c := by
            have := congrArg List.head? hc
            rw [List.head?_drop] at this
            exact this
          rw [this]
          rfl
        rw [ht]
        show _ ++ ((_ ++ [c]) ++ x) :: xs = _ ++ (_ ++ c :: x) :: xs
        rw [List.append_assoc]
        rfl
theorem ba_map_inj {a b : List ByteArray} (h : a.map (fun x => x.data.toList) = b.map (fun x => x.data.toList)) : a = b :=
  (List.map_inj_right (fun x y e => ba_inj.1 (by rw [ba_toList, ba_toList]; exact e))).1 h
theorem words_one (s : ByteArray) (hs : s.size ≤ 65536) : ∃ ws, spec_l00Cut.v s 32 = some ws ∧ strings_Split.v s ⟨#[32]⟩ = some ws ∧ ws.map (fun x => x.data.toList) = cutS s.data.toList := by
  obtain ⟨r, hr, hm⟩ := cutLoop s hs s.size 0 0 [] (by omega) (Nat.le_refl _) (Nat.zero_le _)
  have hm' : r.map (fun x => x.data.toList) = cutS s.data.toList := by
    rw [hm]
    show [] ++ glueS [] _ = _
    rw [List.nil_append, glue_nil]
    rfl
  refine ⟨r, by rw [spec_l00Cut.v_eq]; exact hr, ?_, hm'⟩
  rw [strings_Split.v_eq, if_pos ⟨by omega, by decide⟩]
  refine congrArg some (ba_map_inj ?_)
  rw [hm', Go.Lib.splitB_data]
  exact splitK_cut s.data.toList
end Go.Proofs.YtioocldcdonlpaaDoor.A
end

section
namespace Go.Proofs.YtioocldcdonlpaaDoor.A
open Go.RowKit Go.Proofs.YtioocldcdonlpaaDoorW.PrintWords
theorem spec_l01In_v (n low high : Int) : spec_l01In.v n low high = some (inB n low high) := by
  rw [spec_l01In.v_eq]; unfold inB; split <;> simp <;> omega
theorem impl_within_v (n low high : Int) : impl_within.v n low high = some (inB n low high) := by
  rw [impl_within.v_eq]; unfold inB; split <;> simp <;> omega
end Go.Proofs.YtioocldcdonlpaaDoor.A
end

section
namespace Go.Proofs.YtioocldcdonlpaaDoor.A
open Go.RowKit Go.Proofs.YtioocldcdonlpaaDoorW.PrintWords
theorem spec_l00Letter_v (c : Int) : spec_l00Letter.v c = some (letterB c) := by
  rw [spec_l00Letter.v_eq]; unfold letterB; repeat' split
  all_goals (congr 1; rw [Bool.eq_iff_iff]; simp <;> omega)
theorem impl_isLetter_v (c : Int) : impl_isLetter.v c = some (letterB c) := by
  rw [impl_isLetter.v_eq]; unfold letterB; repeat' split
  all_goals (congr 1; rw [Bool.eq_iff_iff]; simp <;> omega)
theorem spec_l00Digit_v (c : Int) : spec_l00Digit.v c = some (digitB c) := by
  rw [spec_l00Digit.v_eq]; unfold digitB; split <;> simp <;> omega
theorem spec_l00Word_l (s : ByteArray) (hs : s.size ≤ 9223372036854775807) (i : Int) (h : 0 ≤ i) : spec_l00Word.lv0 s i = some (allI (fun j => letterB (bt s j) || digitB (bt s j)) i s.size) := by
  refine loop_all _ s.size (by omega) (fun i h0 h1 => ?_) (fun i h0 h1 => ?_) _ i rfl h
  · rw [spec_l00Word.lv0_eq, if_pos h1, if_pos h0, spec_l00Letter_v, spec_l00Digit_v]
    simp only [Option.bind_some]
    cases letterB (bt s i) <;> cases digitB (bt s i) <;> simp
  · rw [spec_l00Word.lv0_eq, if_neg (by omega)]
theorem impl_NameOK_l (s : ByteArray) (hs : s.size ≤ 9223372036854775807) (i : Int) (h : 0 ≤ i) : impl_NameOK.lv0 s s.size i = some (allI (fun j => letterB (bt s j) || digitB (bt s j)) i s.size) := by
  refine loop_all (L := fun i => impl_NameOK.lv0 s s.size i) _ s.size (by omega) (fun i h0 h1 => ?_) (fun i h0 h1 => ?_) _ i rfl h
  · rw [impl_NameOK.lv0_eq, if_pos h1, if_pos h0, if_pos h1, impl_isLetter_v]
    simp only [Option.bind_some]
    cases letterB (bt s i) <;> simp [digitB]
    by_cases h2 : bt s i < 48
    · simp [h2, show ¬ 48 ≤ bt s i by omega]
    · by_cases h3 : 57 < bt s i
      · simp [h2, h3, show ¬ bt s i ≤ 57 by omega]
      · simp [h2, h3, show 48 ≤ bt s i by omega, show bt s i ≤ 57 by omega]
  · rw [impl_NameOK.lv0_eq, if_neg (by omega)]
theorem spec_NameOK_v (s : ByteArray) (hs : s.size ≤ 9223372036854775807) : spec_NameOK.v s = some (nameB s) := by
  rw [spec_NameOK.v_eq, spec_l00Word.v_eq]
  simp only [spec_l00Letter_v, spec_l00Word.jv0_eq, spec_l00Word_l s hs 1 (by omega), Option.bind_some, nameB]
  by_cases h1 : (s.size : Int) < 1
  · simp [h1]; omega
  · by_cases h2 : (s.size : Int) > 40
    · simp [h1, h2]; omega
    · simp only [if_neg h1, if_neg h2, if_pos (show 0 < (s.size : Int) by omega), Option.bind_some, show (1 ≤ s.size ∧ s.size ≤ 40) = True by simp; omega]
      cases letterB (bt s 0) <;> simp
theorem impl_NameOK_v (s : ByteArray) (hs : s.size ≤ 9223372036854775807) : impl_NameOK.v s = some (nameB s) := by
  rw [impl_NameOK.v_eq]
  simp only [impl_isLetter_v, impl_NameOK.jv0_eq, impl_NameOK_l s hs 0 (by omega), Option.bind_some, nameB]
  by_cases h1 : (s.size : Int) < 1
  · simp [h1]; omega
  · by_cases h2 : (s.size : Int) > 40
    · simp [h1, h2]; omega
    · simp only [if_neg h1, if_neg h2, if_pos (show 0 < (s.size : Int) by omega), Option.bind_some, show (1 ≤ s.size ∧ s.size ≤ 40) = True by simp; omega]
      rw [allI_step (i := 0) (by omega)]
      cases letterB (bt s 0) <;> simp
theorem spec_l02Text_v (s : ByteArray) (n : Int) (hs : s.size ≤ 9223372036854775807) : spec_l02Text.v s n = some (decide ((s.size : Int) ≤ n) && nameB s) := by
  rw [spec_l02Text.v_eq, spec_l01In_v, spec_NameOK_v s hs]
  simp only [Option.bind_some, inB]
  by_cases h : (1 : Int) ≤ s.size ∧ (s.size : Int) ≤ n
  · simp [h]
  · by_cases h2 : (s.size : Int) ≤ n
    · simp [h, h2, nameB, show ¬ (1 ≤ s.size) by omega]
    · simp [h, h2]
theorem impl_isOpName_v (s : ByteArray) (hs : s.size ≤ 9223372036854775807) : impl_isOpName.v s = some (decide ((s.size : Int) ≤ 12) && nameB s) := by
  rw [impl_isOpName.v_eq, impl_NameOK_v s hs]
  by_cases h : (s.size : Int) ≤ 12 <;> simp [h]
end Go.Proofs.YtioocldcdonlpaaDoor.A
end

section
namespace Go.Proofs.YtioocldcdonlpaaDoor.A
open Go.RowKit Go.Proofs.YtioocldcdonlpaaDoorW.PrintWords
theorem grantOK_v (a : ByteArray) (b c d : Int) (ha : a.size ≤ 9223372036854775807) : impl_GrantOK.v a b c d = some ((decide ((a.size : Int) ≤ 12) && nameB a) && (inB b 0 255 && (inB c 1 1000000 && inB d 0 2000000000))) := by
  rw [impl_GrantOK.v_eq, impl_isOpName_v a ha]
  simp only [impl_within_v, Option.bind_some]
  cases (decide ((a.size : Int) ≤ 12) && nameB a) <;> cases inB b 0 255 <;> cases inB c 1 1000000 <;> simp
theorem spec_grantOK_v (a : ByteArray) (b c d : Int) (ha : a.size ≤ 9223372036854775807) : spec_GrantOK.v a b c d = some ((decide ((a.size : Int) ≤ 12) && nameB a) && (inB b 0 255 && (inB c 1 1000000 && inB d 0 2000000000))) := by
  rw [spec_GrantOK.v_eq, spec_l02Text_v a 12 ha]
  simp only [spec_l01In_v, Option.bind_some]
  cases (decide ((a.size : Int) ≤ 12) && nameB a) <;> cases inB b 0 255 <;> cases inB c 1 1000000 <;> simp
end Go.Proofs.YtioocldcdonlpaaDoor.A
end

section
namespace Go.Proofs.YtioocldcdonlpaaDoor.A
open Go.RowKit Go.Proofs.YtioocldcdonlpaaDoorW.PrintWords
def grantB (a : ByteArray) (b c d : Int) : Bool := (decide ((a.size : Int) ≤ 12) && nameB a) && (inB b 0 255 && (inB c 1 1000000 && inB d 0 2000000000))
theorem grantB_facts {a : ByteArray} {b c d : Int} (h : grantB a b c d = true) : a.size ≤ 12 ∧ 0 ≤ b ∧ b ≤ 255 ∧ 1 ≤ c ∧ c ≤ 1000000 ∧ 0 ≤ d ∧ d ≤ 2000000000 := by
  unfold grantB inB at h
  simp only [Bool.and_eq_true, decide_eq_true_eq] at h
  omega
end Go.Proofs.YtioocldcdonlpaaDoor.A
end

section
namespace Go.Proofs.YtioocldcdonlpaaDoor.A
open Go.RowKit Go.Proofs.YtioocldcdonlpaaDoorW.PrintWords
theorem grantText_i (a : ByteArray) (b c d : Int) (h : grantB a b c d = true) : ∃ t, impl_grantText.v a b c d = some t ∧ t.data.toList = [103, 114, 97, 110, 116] ++ 32 :: (a.data.toList ++ 32 :: (Go.Lib.itoa b ++ 32 :: (Go.Lib.itoa c ++ 32 :: Go.Lib.itoa d))) := by
  obtain ⟨h0, h1, h2, h3, h4, h5, h6⟩ := grantB_facts h
  have I : ∀ n : Int, 0 ≤ n → n ≤ 2000000000 → ∃ t : ByteArray, strconv_Itoa.v n = some t ∧ t.data.toList = Go.Lib.itoa n ∧ t.size ≤ 21 := fun n n0 n1 => by
    have hl := Go.Lib.itoa_length_le n (by omega) (by omega)
    refine ⟨⟨(Go.Lib.itoa n).toArray⟩, by rw [strconv_Itoa.v_eq, if_pos (by omega)], rfl, ?_⟩
    rw [Go.Lib.size_eq]
    exact hl
  obtain ⟨x, x1, x2, x3⟩ := I b h1 (by omega)
  obtain ⟨y, y1, y2, y3⟩ := I c (by omega) (by omega)
  obtain ⟨z, z1, z2, z3⟩ := I d h5 (by omega)
  have k6 : (⟨#[103, 114, 97, 110, 116, 32]⟩ : ByteArray).size = 6 := rfl
  have k1 : (⟨#[32]⟩ : ByteArray).size = 1 := rfl
  rw [impl_grantText.v_eq, x1, y1, z1]
  simp only [Option.bind_some, ByteArray.size_append, k6, k1]
  rw [if_pos (by omega), if_pos (by omega), if_pos (by omega), if_pos (by omega), if_pos (by omega), if_pos (by omega), if_pos (by omega)]
  refine ⟨_, rfl, ?_⟩
  simp only [ByteArray.data_append, Array.toList_append, x2, y2, z2, List.append_assoc]
  rfl
theorem readGrant_one (a0 : ByteArray) (ha : a0.size ≤ 1048576) : ∃ r, spec_ReadGrant.v a0 = some r ∧ impl_ReadGrant.v a0 = some r := by
  rw [spec_ReadGrant.v_eq, impl_ReadGrant.v_eq]
  by_cases hL : (a0.size : Int) > 65536
  · rw [if_pos hL]
    refine ⟨_, rfl, ?_⟩
    have : impl_areLong.v [a0] = some true := by
      rw [impl_areLong.v_eq, contains_impl_areLong_1.v_eq]
      simp only [List.any_cons, List.any_nil, Bool.or_false, impl_areLong_1.v_eq, Option.getD_some, Option.bind_some]
      exact congrArg some (decide_eq_true hL)
    rw [this, Option.bind_some, if_pos rfl]
  · rw [if_neg hL]
    have : impl_areLong.v [a0] = some false := by
      rw [impl_areLong.v_eq, contains_impl_areLong_1.v_eq]
      simp only [List.any_cons, List.any_nil, Bool.or_false, impl_areLong_1.v_eq, Option.getD_some, Option.bind_some]
      exact congrArg some (decide_eq_false hL)
    rw [this, Option.bind_some, if_neg (by decide)]
    obtain ⟨ws, h1, h2, h3⟩ := words_one a0 (by omega)
    rw [h1, h2, Option.bind_some, Option.bind_some]
    by_cases h5 : (ws.length : Int) = 5
    · rw [if_pos h5, if_pos h5, if_pos (by omega), if_pos (by omega), if_pos (by omega), spec_ReadGrant.jv0_eq]
      have hle : ∀ x ∈ ws, x.size ≤ a0.size := fun x hx => by
        have := cut_le a0.data.toList x.data.toList (by rw [← h3]; exact List.mem_map_of_mem hx)
        rw [← Go.Lib.size_eq, ← Go.Lib.size_eq] at this
        exact this
      obtain ⟨w0, w1, w2, w3, w4, rfl⟩ : ∃ w0 w1 w2 w3 w4, ws = [w0, w1, w2, w3, w4] := by
        match ws, h5 with
        | [w0, w1, w2, w3, w4], _ => exact ⟨w0, w1, w2, w3, w4, rfl⟩
      have hj := join_cut a0.data.toList
      rw [← h3] at hj
      have hj : a0.data.toList = w0.data.toList ++ 32 :: (w1.data.toList ++ 32 :: (w2.data.toList ++ 32 :: (w3.data.toList ++ 32 :: w4.data.toList))) := hj.symm
      have s1 := hle w1 (by simp)
      have s2 := hle w2 (by simp)
      have s3 := hle w3 (by simp)
      have s4 := hle w4 (by simp)
      obtain ⟨n2, m2, b2, p2, q2, e2⟩ := num_one w2 (by omega)
      obtain ⟨n3, m3, b3, p3, q3, e3⟩ := num_one w3 (by omega)
      obtain ⟨n4, m4, b4, p4, q4, e4⟩ := num_one w4 (by omega)
      have r0 : rdOf ByteArray.empty [w0, w1, w2, w3, w4] 0 = w0 := rfl
      have r1 : rdOf ByteArray.empty [w0, w1, w2, w3, w4] 1 = w1 := rfl
      have r2 : rdOf ByteArray.empty [w0, w1, w2, w3, w4] 2 = w2 := rfl
      have r3 : rdOf ByteArray.empty [w0, w1, w2, w3, w4] 3 = w3 := rfl
      have r4 : rdOf ByteArray.empty [w0, w1, w2, w3, w4] 4 = w4 := rfl
      have l1 : (1 : Int) < (([w0, w1, w2, w3, w4] : List ByteArray).length : Int) := by show (1 : Int) < ((5 : Nat) : Int); decide
      have l2 : (2 : Int) < (([w0, w1, w2, w3, w4] : List ByteArray).length : Int) := by show (2 : Int) < ((5 : Nat) : Int); decide
      have l3 : (3 : Int) < (([w0, w1, w2, w3, w4] : List ByteArray).length : Int) := by show (3 : Int) < ((5 : Nat) : Int); decide
      have l4 : (4 : Int) < (([w0, w1, w2, w3, w4] : List ByteArray).length : Int) := by show (4 : Int) < ((5 : Nat) : Int); decide
      simp only [r0, r1, r2, r3, r4, p2, p3, p4, q2, q3, q4, Option.bind_some, if_pos l1, if_pos l2, if_pos l3, if_pos l4]
      clear r0 r1 r2 r3 r4 l1 l2 l3 l4 p2 p3 p4 q2 q3 q4 h1 h2 h3 h5 this
      by_cases hb : b2 = true ∧ b3 = true ∧ b4 = true
      · obtain ⟨rfl, rfl, rfl⟩ := hb
        obtain ⟨rfl, f2, -⟩ := e2 rfl
        obtain ⟨rfl, f3, -⟩ := e3 rfl
        obtain ⟨rfl, f4, -⟩ := e4 rfl
        simp only [if_true]
        rw [grantOK_v w1 m2 m3 m4 (by omega), spec_grantOK_v w1 m2 m3 m4 (by omega), Option.bind_some, Option.bind_some]
        have hg : ((decide ((w1.size : Int) ≤ 12) && nameB w1) && (inB m2 0 255 && (inB m3 1 1000000 && inB m4 0 2000000000))) = grantB w1 m2 m3 m4 := rfl
        rw [hg]
        cases hG : grantB w1 m2 m3 m4 with
        | false =>
          refine ⟨(⟨#[]⟩, 0, 0, 0, 3), ?_, rfl⟩
          split <;> rfl
        | true =>
          obtain ⟨t, t1, t2⟩ := grantText_i w1 m2 m3 m4 hG
          rw [t1, Option.bind_some]
          have hiff : t.toList = a0.toList ↔ w0.toList = [103, 114, 97, 110, 116] := by
            rw [ba_toList, ba_toList, ba_toList, t2, hj, f2, f3, f4, List.append_left_inj]
            exact eq_comm
          by_cases h0 : w0.toList = [103, 114, 97, 110, 116]
          · rw [if_pos (hiff.2 h0), if_neg (by simp [h0])]
            exact ⟨_, rfl, rfl⟩
          · rw [if_neg (fun e => h0 (hiff.1 e)), if_pos (show (w0.toList != [103, 114, 97, 110, 116]) = true by simpa using h0)]
            exact ⟨_, rfl, rfl⟩
      · refine ⟨(⟨#[]⟩, 0, 0, 0, 3), ?_, ?_⟩
        · cases b2 <;> cases b3 <;> cases b4 <;> simp_all
        · cases b2 <;> cases b3 <;> cases b4 <;> simp_all
    · rw [if_neg h5, if_neg h5, spec_ReadGrant.jv0_eq, if_pos rfl]
      exact ⟨_, rfl, rfl⟩
theorem FnExactReadGrant_pure (a0 : ByteArray) : a0.size ≤ 9223372036854775807 → laws_FnExactReadGrant.v a0 = some true := by
  intro _
  rw [laws_FnExactReadGrant.v_eq]
  by_cases hL : (a0.size : Int) > 1048576
  · rw [if_pos hL]
  · rw [if_neg hL]
    obtain ⟨r, h1, h2⟩ := readGrant_one a0 (by omega)
    rw [h1, h2, Option.bind_some, Option.bind_some, laws_eqGrant.v_eq]
    simp
end Go.Proofs.YtioocldcdonlpaaDoor.A
end
