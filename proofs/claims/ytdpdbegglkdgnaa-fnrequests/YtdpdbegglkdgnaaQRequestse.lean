/- A part of the proof that FnRequests returns true at every input: plain functions, contracts and lemmas. No conditions. -/
import Derived.Test.YtdpdbegglkdgnaaQRequestsd
set_option linter.unusedVariables false
set_option linter.unusedSimpArgs false
set_option linter.unusedSectionVars false
section
namespace Go.Proofs.Ytdpdbegglkdgnaa.A
open Go.RowKit Go.Proofs.YtdpdbegglkdgnaaW.PrintWords Go.Proofs.YtdpdbegglkdgnaaW.PrintLast Go.Proofs.YtdpdbegglkdgnaaW.PrintMore
/-- Block g holds the words l; they may be written. -/
structure Au (W : World) (g : Nat) (l : List Int) : Prop where
  cell : ∀ j, j < l.length → W.cell? ⟨g, j, none⟩ = some (.int .u32 (l.getD j 0))
  free : ∀ j, j < l.length → W.frozen? ⟨g, j, none⟩ = false
theorem Au.at {W W' : World} {g : Nat} {l : List Int} (h : Au W g l) (e : W'.heap[g]? = W.heap[g]?) : Au W' g l :=
  ⟨fun j hj => (World.cell?_of_block (a := ⟨g, j, none⟩) e).trans (h.cell j hj), fun j hj => (World.frozen?_of_block (a := ⟨g, j, none⟩) e).trans (h.free j hj)⟩
theorem Au.of_row {W : World} {g : Nat} (l : List Int) {e : Nat} (h : W.heap[g]? = some (.cells (l.map (Value.int .u32)).toArray e (0, 0))) : Au W g l := by
  refine ⟨fun j hj => ?_, fun j hj => ?_⟩
  · unfold World.cell?
    rw [h]
    simp [List.getD, List.getElem?_eq_getElem hj]
  · unfold World.frozen?
    rw [h]
    simp
theorem Au.set {W : World} {g : Nat} {l : List Int} (h : Au W g l) (j : Nat) (hj : j < l.length) (x : Int) : Au (W.setCell ⟨g, j, none⟩ (.int .u32 x)) g (l.set j x) := by
  refine ⟨fun i hi => ?_, fun i hi => ?_⟩
  · rw [List.length_set] at hi
    by_cases c : i = j
    · subst c
      rw [World.cell?_setCell_same _ _ _ (h.cell i hi)]
      simp [List.getD, hi]
    · rw [World.cell?_setCell_other _ _ _ _ (by simp <;> omega), h.cell i hi]
      simp [List.getD, List.getElem?_set, Ne.symm c]
  · rw [List.length_set] at hi
    rw [World.frozen?_setCell]
    exact h.free i hi
theorem setCell_old (W : World) (a : Addr) (v : Value) (k : Nat) (hk : k ≠ a.block) : (W.setCell a v).heap[k]? = W.heap[k]? := by
  simp [World.setCell, Array.getElem?_modify, Ne.symm hk]
theorem Au.far {W : World} {g g' : Nat} {l : List Int} (h : Au W g l) (hg : g ≠ g') (j : Nat) (v : Value) : Au (W.setCell ⟨g', j, none⟩ v) g l :=
  h.at (setCell_old W _ v g hg)
theorem Au.drew {W : World} {g : Nat} {l : List Int} (h : Au W g l) : Au W.drew g l := h.at rfl
theorem Au.drewN {W : World} {g : Nat} {l : List Int} (h : Au W g l) (n : Nat) : Au (W.drewN n) g l := h.at rfl
theorem Au.setCells {W : World} {g : Nat} {l : List Int} (h : Au W g l) (l' : List Int) (hl : l'.length = l.length) : Au (W.setCells g 0 (l'.map (Value.int .u32))) g l' := by
  refine ⟨fun j hj => ?_, fun j hj => ?_⟩
  · have := World.cell?_setCells_in g (l'.map (Value.int .u32)) 0 W (fun i hi => by rw [Nat.zero_add, h.cell i (by simpa [hl] using hi)]; rfl) j (by simpa using hj)
    rw [Nat.zero_add] at this
    rw [this]
    simp [List.getD, hj]
  · rw [World.frozen?_setCells]
    exact h.free j (by omega)
/-- What the block's walk keeps: its three arrays behind block n, and what was there. -/
structure Bk (w W : World) (n : Nat) (lh lr lw : List Int) : Prop where
  hh : Au W n lh
  hr : Au W (n + 1) lr
  hw : Au W (n + 2) lw
  below : Below n w W
  size : W.heap.size = n + 3
theorem w64id (x : Int) (h1 : -9223372036854775808 ≤ x) (h2 : x ≤ 9223372036854775807) : IntKind.i64.wrap x = x := by rw [IntKind.wrap_i64]; omega
theorem alloc_at (W : World) (o : Obj) (k : Nat) : (W.alloc o).heap[k]? = if k = W.heap.size then some o else W.heap[k]? := by
  simp [World.alloc, -World.alloc_eq, Array.getElem?_push]
theorem alloc_sz (W : World) (o : Obj) : (W.alloc o).heap.size = W.heap.size + 1 := by simp [World.alloc, -World.alloc_eq]
theorem below_drew_h {w W : World} {n : Nat} (h : Below n w W) : Below n w W.drew := ⟨h.os, h.tape, h.output, h.size, h.block⟩
theorem below_set_h {w W : World} {n g j : Nat} {v : Value} (h : Below n w W) (hg : n ≤ g) : Below n w (W.setCell ⟨g, j, none⟩ v) :=
  ⟨h.os, h.tape, h.output, by simpa [World.setCell] using h.size, fun k hk => (setCell_old W _ v k (by dsimp only; omega)).trans (h.block k hk)⟩
/-- A store into the words. -/
theorem Bk.word {w W : World} {n : Nat} {lh lr lw : List Int} (h : Bk w W n lh lr lw) (j : Nat) (hj : j < lw.length) (x : Int) : Bk w (W.setCell ⟨n + 2, j, none⟩ (.int .u32 x)) n lh lr (lw.set j x) :=
  ⟨h.hh.far (by omega) j _, h.hr.far (by omega) j _, h.hw.set j hj x, below_set_h h.below (by omega), by simpa [World.setCell] using h.size⟩
theorem Bk.drew {w W : World} {n : Nat} {lh lr lw : List Int} (h : Bk w W n lh lr lw) : Bk w W.drew n lh lr lw :=
  ⟨h.hh.drew, h.hr.drew, h.hw.drew, below_drew_h h.below, h.size⟩
theorem Bk.old {w W : World} {n : Nat} {lh lr lw : List Int} (h : Bk w W n lh lr lw) {g j : Nat} {v : Value} (hg : g < n) (hc : w.cell? ⟨g, j, none⟩ = some v) : W.cell? ⟨g, j, none⟩ = some v :=
  (World.cell?_of_block (a := ⟨g, j, none⟩) (h.below.block g hg)).trans hc
theorem Bk.drewN {w W : World} {n : Nat} {lh lr lw : List Int} (h : Bk w W n lh lr lw) (m : Nat) : Bk w (W.drewN m) n lh lr lw :=
  ⟨h.hh.drewN m, h.hr.drewN m, h.hw.drewN m, ⟨h.below.os, h.below.tape, h.below.output, h.below.size, h.below.block⟩, h.size⟩
/-- .. with the eight letters behind them. -/
structure Bk2 (w W : World) (n : Nat) (lh lr lw la : List Int) : Prop where
  hh : Au W n lh
  hr : Au W (n + 1) lr
  hw : Au W (n + 2) lw
  ha : Au W (n + 3) la
  below : Below n w W
theorem Bk2.drewN {w W : World} {n : Nat} {lh lr lw la : List Int} (h : Bk2 w W n lh lr lw la) (m : Nat) : Bk2 w (W.drewN m) n lh lr lw la :=
  ⟨h.hh.drewN m, h.hr.drewN m, h.hw.drewN m, h.ha.drewN m, ⟨h.below.os, h.below.tape, h.below.output, h.below.size, h.below.block⟩⟩
theorem Bk2.drew {w W : World} {n : Nat} {lh lr lw la : List Int} (h : Bk2 w W n lh lr lw la) : Bk2 w W.drew n lh lr lw la :=
  ⟨h.hh.drew, h.hr.drew, h.hw.drew, h.ha.drew, below_drew_h h.below⟩
theorem Bk2.set {w W : World} {n : Nat} {lh lr lw la : List Int} (h : Bk2 w W n lh lr lw la) (j : Nat) (hj : j < la.length) (x : Int) : Bk2 w (W.setCell ⟨n + 3, j, none⟩ (.int .u32 x)) n lh lr lw (la.set j x) :=
  ⟨h.hh.far (by omega) j _, h.hr.far (by omega) j _, h.hw.far (by omega) j _, h.ha.set j hj x, below_set_h h.below (by omega)⟩
theorem Bk2.out {w W : World} {n : Nat} {lh lr lw la : List Int} (h : Bk2 w W n lh lr lw la) (j : Nat) (hj : j < lr.length) (x : Int) : Bk2 w (W.setCell ⟨n + 1, j, none⟩ (.int .u32 x)) n lh (lr.set j x) lw la :=
  ⟨h.hh.far (by omega) j _, h.hr.set j hj x, h.hw.far (by omega) j _, h.ha.far (by omega) j _, below_set_h h.below (by omega)⟩
theorem Bk2.old {w W : World} {n : Nat} {lh lr lw la : List Int} (h : Bk2 w W n lh lr lw la) {g j : Nat} {v : Value} (hg : g < n) (hc : w.cell? ⟨g, j, none⟩ = some v) : W.cell? ⟨g, j, none⟩ = some v :=
  (World.cell?_of_block (a := ⟨g, j, none⟩) (h.below.block g hg)).trans hc
/-- Eight words, cell for cell. -/
theorem Au.eight {W : World} {g : Nat} {a0 a1 a2 a3 a4 a5 a6 a7 : Int} (h : Au W g [a0, a1, a2, a3, a4, a5, a6, a7]) :
    (W.cell? ⟨g, 0, none⟩ = some (.int .u32 a0) ∧ W.cell? ⟨g, 1, none⟩ = some (.int .u32 a1) ∧ W.cell? ⟨g, 2, none⟩ = some (.int .u32 a2) ∧ W.cell? ⟨g, 3, none⟩ = some (.int .u32 a3) ∧ W.cell? ⟨g, 4, none⟩ = some (.int .u32 a4) ∧ W.cell? ⟨g, 5, none⟩ = some (.int .u32 a5) ∧ W.cell? ⟨g, 6, none⟩ = some (.int .u32 a6) ∧ W.cell? ⟨g, 7, none⟩ = some (.int .u32 a7)) ∧
    (W.frozen? ⟨g, 0, none⟩ = false ∧ W.frozen? ⟨g, 1, none⟩ = false ∧ W.frozen? ⟨g, 2, none⟩ = false ∧ W.frozen? ⟨g, 3, none⟩ = false ∧ W.frozen? ⟨g, 4, none⟩ = false ∧ W.frozen? ⟨g, 5, none⟩ = false ∧ W.frozen? ⟨g, 6, none⟩ = false ∧ W.frozen? ⟨g, 7, none⟩ = false) :=
  ⟨⟨h.cell 0 (by simp), h.cell 1 (by simp), h.cell 2 (by simp), h.cell 3 (by simp), h.cell 4 (by simp), h.cell 5 (by simp), h.cell 6 (by simp), h.cell 7 (by simp)⟩,
   ⟨h.free 0 (by simp), h.free 1 (by simp), h.free 2 (by simp), h.free 3 (by simp), h.free 4 (by simp), h.free 5 (by simp), h.free 6 (by simp), h.free 7 (by simp)⟩⟩
theorem eight {l : List Int} (h : l.length = 8) : ∃ a0 a1 a2 a3 a4 a5 a6 a7, l = [a0, a1, a2, a3, a4, a5, a6, a7] := by
  match l, h with
  | [a0, a1, a2, a3, a4, a5, a6, a7], _ => exact ⟨a0, a1, a2, a3, a4, a5, a6, a7, rfl⟩
theorem u32w_h (x : Int) : IntKind.u32.wrap x = x % 4294967296 := by unfold IntKind.wrap; simp [IntKind.bits, IntKind.signed]
/-- What a turn answers. -/
def turnH (x n : Int) : Int := Go.bits .or .u32 (shr .u32 x n) (shl .u32 x (32 - n))
theorem sturn2 (x : Int) : spec_l01Turn.f x 2 = some (turnH x 2) := by
  unfold spec_l01Turn.f
  rw [if_pos (by decide), show IntKind.u64.wrap (32 - 2) = 30 from by kernel_rfl, if_pos (by decide)]
  rfl
theorem sturn6 (x : Int) : spec_l01Turn.f x 6 = some (turnH x 6) := by
  unfold spec_l01Turn.f
  rw [if_pos (by decide), show IntKind.u64.wrap (32 - 6) = 26 from by kernel_rfl, if_pos (by decide)]
  rfl
theorem sturn7 (x : Int) : spec_l01Turn.f x 7 = some (turnH x 7) := by
  unfold spec_l01Turn.f
  rw [if_pos (by decide), show IntKind.u64.wrap (32 - 7) = 25 from by kernel_rfl, if_pos (by decide)]
  rfl
theorem sturn11 (x : Int) : spec_l01Turn.f x 11 = some (turnH x 11) := by
  unfold spec_l01Turn.f
  rw [if_pos (by decide), show IntKind.u64.wrap (32 - 11) = 21 from by kernel_rfl, if_pos (by decide)]
  rfl
theorem sturn13 (x : Int) : spec_l01Turn.f x 13 = some (turnH x 13) := by
  unfold spec_l01Turn.f
  rw [if_pos (by decide), show IntKind.u64.wrap (32 - 13) = 19 from by kernel_rfl, if_pos (by decide)]
  rfl
theorem sturn17 (x : Int) : spec_l01Turn.f x 17 = some (turnH x 17) := by
  unfold spec_l01Turn.f
  rw [if_pos (by decide), show IntKind.u64.wrap (32 - 17) = 15 from by kernel_rfl, if_pos (by decide)]
  rfl
theorem sturn18 (x : Int) : spec_l01Turn.f x 18 = some (turnH x 18) := by
  unfold spec_l01Turn.f
  rw [if_pos (by decide), show IntKind.u64.wrap (32 - 18) = 14 from by kernel_rfl, if_pos (by decide)]
  rfl
theorem sturn19 (x : Int) : spec_l01Turn.f x 19 = some (turnH x 19) := by
  unfold spec_l01Turn.f
  rw [if_pos (by decide), show IntKind.u64.wrap (32 - 19) = 13 from by kernel_rfl, if_pos (by decide)]
  rfl
theorem sturn22 (x : Int) : spec_l01Turn.f x 22 = some (turnH x 22) := by
  unfold spec_l01Turn.f
  rw [if_pos (by decide), show IntKind.u64.wrap (32 - 22) = 10 from by kernel_rfl, if_pos (by decide)]
  rfl
theorem sturn25 (x : Int) : spec_l01Turn.f x 25 = some (turnH x 25) := by
  unfold spec_l01Turn.f
  rw [if_pos (by decide), show IntKind.u64.wrap (32 - 25) = 7 from by kernel_rfl, if_pos (by decide)]
  rfl
set_option maxHeartbeats 8000000 in
set_option maxRecDepth 100000 in
theorem sturn_same (a0 : Int) (a1 : Int) (r : Int) (w : World) (h : spec_l01Turn.f a0 a1 = some r) :
    Calls Try.prog 69 #[.int .u32 a0, .int .u64 a1] w fun e w' => e = .returned (.int .u32 r) ∧ w' = w := by
  have H : (if 0 ≤ a1 then (if 0 ≤ (IntKind.u64.wrap (32 - a1)) then (some (Go.bits .or .u32 (shr .u32 a0 a1) (shl .u32 a0 (IntKind.u64.wrap (32 - a1))))) else (none)) else (none)) = some r := h
  clear h
  by_cases c3 : 0 ≤ a1
  · rw [if_pos c3] at H
    have c3b0 := eq_true c3
    have c3b1 : decide (0 ≤ a1) = true := decide_eq_true c3
    clear c3
    obtain ⟨ji4, hji4⟩ : ∃ j_ : Int, (shr .u32 a0 a1) = j_ := ⟨_, rfl⟩
    replace H : (if 0 ≤ (IntKind.u64.wrap (32 - a1)) then (some (Go.bits .or .u32 (ji4) (shl .u32 a0 (IntKind.u64.wrap (32 - a1))))) else (none)) = some r := by first | (rw [hji4] at H; exact H) | (simp only [hji4] at H ⊢; exact H)
    have hji4_ : (a0 / 2 ^ min a1.toNat 32) = ji4 := hji4
    have hji4z : a1 ≤ 32 → (a0 / 2 ^ a1.toNat) = ji4 := shr_small hji4
    obtain ⟨ji5, hji5⟩ : ∃ j_ : Int, (IntKind.u64.wrap (32 - a1)) = j_ := ⟨_, rfl⟩
    replace H : (if 0 ≤ (ji5) then (some (Go.bits .or .u32 (ji4) (shl .u32 a0 (ji5)))) else (none)) = some r := by first | (rw [hji5] at H; exact H) | (simp only [hji5] at H ⊢; exact H)
    by_cases c6 : 0 ≤ (ji5)
    · rw [if_pos c6] at H
      have c6b0 := eq_true c6
      have c6b1 : decide (0 ≤ (ji5)) = true := decide_eq_true c6
      clear c6
      obtain ⟨ji7, hji7⟩ : ∃ j_ : Int, (shl .u32 a0 (ji5)) = j_ := ⟨_, rfl⟩
      replace H : (some (Go.bits .or .u32 (ji4) (ji7))) = some r := by first | (rw [hji7] at H; exact H) | (simp only [hji7] at H ⊢; exact H)
      have hji7_ : (IntKind.u32.wrap (a0 * 2 ^ min (ji5).toNat 32)) = ji7 := hji7
      have hji7z : (ji5) ≤ 32 → (IntKind.u32.wrap (a0 * 2 ^ (ji5).toNat)) = ji7 := shl_small hji7
      obtain rfl := Option.some.inj H
      go_enter Try.func69, Try.ntmps69
      go_wp2
      go_ret
      exact ⟨by first | rfl | (simp; done) | (simp only [← hji4, ← hji5, ← hji7] <;> (first | rfl | simp)) | (simp [*]; done), rfl⟩
    · rw [if_neg c6] at H
      exact absurd H (by simp)
  · rw [if_neg c3] at H
    exact absurd H (by simp)
theorem stn2 (x : Int) (w : World) : Calls Try.prog 69 #[.int .u32 x, .int .u64 2] w fun e w' => e = .returned (.int .u32 (turnH x 2)) ∧ w' = w := sturn_same x 2 _ w (sturn2 x)
theorem stn6 (x : Int) (w : World) : Calls Try.prog 69 #[.int .u32 x, .int .u64 6] w fun e w' => e = .returned (.int .u32 (turnH x 6)) ∧ w' = w := sturn_same x 6 _ w (sturn6 x)
theorem stn7 (x : Int) (w : World) : Calls Try.prog 69 #[.int .u32 x, .int .u64 7] w fun e w' => e = .returned (.int .u32 (turnH x 7)) ∧ w' = w := sturn_same x 7 _ w (sturn7 x)
theorem stn11 (x : Int) (w : World) : Calls Try.prog 69 #[.int .u32 x, .int .u64 11] w fun e w' => e = .returned (.int .u32 (turnH x 11)) ∧ w' = w := sturn_same x 11 _ w (sturn11 x)
theorem stn13 (x : Int) (w : World) : Calls Try.prog 69 #[.int .u32 x, .int .u64 13] w fun e w' => e = .returned (.int .u32 (turnH x 13)) ∧ w' = w := sturn_same x 13 _ w (sturn13 x)
theorem stn17 (x : Int) (w : World) : Calls Try.prog 69 #[.int .u32 x, .int .u64 17] w fun e w' => e = .returned (.int .u32 (turnH x 17)) ∧ w' = w := sturn_same x 17 _ w (sturn17 x)
theorem stn18 (x : Int) (w : World) : Calls Try.prog 69 #[.int .u32 x, .int .u64 18] w fun e w' => e = .returned (.int .u32 (turnH x 18)) ∧ w' = w := sturn_same x 18 _ w (sturn18 x)
theorem stn19 (x : Int) (w : World) : Calls Try.prog 69 #[.int .u32 x, .int .u64 19] w fun e w' => e = .returned (.int .u32 (turnH x 19)) ∧ w' = w := sturn_same x 19 _ w (sturn19 x)
theorem stn22 (x : Int) (w : World) : Calls Try.prog 69 #[.int .u32 x, .int .u64 22] w fun e w' => e = .returned (.int .u32 (turnH x 22)) ∧ w' = w := sturn_same x 22 _ w (sturn22 x)
theorem stn25 (x : Int) (w : World) : Calls Try.prog 69 #[.int .u32 x, .int .u64 25] w fun e w' => e = .returned (.int .u32 (turnH x 25)) ∧ w' = w := sturn_same x 25 _ w (sturn25 x)
theorem w64n (x : Int) (h1 : -9223372036854775808 ≤ x) (h2 : x ≤ 9223372036854775807) : wrap64 x = x := (i64_w x).symm.trans (w64id x h1 h2)
def word4 (x0 x1 x2 x3 : Int) : Int := Go.bits .or .u32 (Go.bits .or .u32 (Go.bits .or .u32 (IntKind.u32.wrap (IntKind.u32.wrap x0 * 16777216)) (IntKind.u32.wrap (IntKind.u32.wrap x1 * 65536))) (IntKind.u32.wrap (IntKind.u32.wrap x2 * 256))) (IntKind.u32.wrap x3)
theorem step0 (h bs ks ws : List Int) (i : Nat) (r : List Int) (hb : bs.length = 64) (hw : ws.length = 64) (hi : i < 16) (H : spec_l01Block.lv0 h bs ks ws i = some r) :
    spec_l01Block.lv0 h bs ks (ws.set i (word4 (bs.getD (4 * i) 0) (bs.getD (4 * i + 1) 0) (bs.getD (4 * i + 2) 0) (bs.getD (4 * i + 3) 0))) ((i + 1 : Nat) : Int) = some r := by
  have c1 : (i : Int) < 16 := by omega
  have c2 : (0 : Int) ≤ 4 * (i : Int) := by omega
  have c3 : 4 * (i : Int) < (bs.length : Int) := by omega
  have c4 : (0 : Int) ≤ 4 * (i : Int) + 1 := by omega
  have c5 : 4 * (i : Int) + 1 < (bs.length : Int) := by omega
  have c6 : (0 : Int) ≤ 4 * (i : Int) + 2 := by omega
  have c7 : 4 * (i : Int) + 2 < (bs.length : Int) := by omega
  have c8 : (0 : Int) ≤ 4 * (i : Int) + 3 := by omega
  have c9 : 4 * (i : Int) + 3 < (bs.length : Int) := by omega
  have d1 : (0 : Int) ≤ (i : Int) := by omega
  have d2 : (i : Int) < (ws.length : Int) := by omega
  have e0 : (4 * (i : Int)).toNat = 4 * i := by omega
  have e1 : (4 * (i : Int) + 1).toNat = 4 * i + 1 := by omega
  have e2 : (4 * (i : Int) + 2).toNat = 4 * i + 2 := by omega
  have e3 : (4 * (i : Int) + 3).toNat = 4 * i + 3 := by omega
  have w : wrap64 ((i : Int) + 1) = ((i + 1 : Nat) : Int) := by rw [w64n _ (by omega) (by omega)]; omega
  have w0 : wrap64 (4 * (i : Int)) = 4 * (i : Int) := w64n _ (by omega) (by omega)
  have w1 : wrap64 (4 * (i : Int) + 1) = 4 * (i : Int) + 1 := w64n _ (by omega) (by omega)
  have w2 : wrap64 (4 * (i : Int) + 2) = 4 * (i : Int) + 2 := w64n _ (by omega) (by omega)
  have w3 : wrap64 (4 * (i : Int) + 3) = 4 * (i : Int) + 3 := w64n _ (by omega) (by omega)
  rw [spec_l01Block.lv0_eq] at H
  simp only [w, w0, w1, w2, w3, if_pos c1, if_pos c2, if_pos c3, if_pos c4, if_pos c5, if_pos c6, if_pos c7, if_pos c8, if_pos c9, if_pos d1, if_pos d2, rd, e0, e1, e2, e3, Int.toNat_natCast] at H
  simpa only [word4, u32w_h] using H
theorem exit0 (h bs ks ws : List Int) (r : List Int) (i : Int) (hi : ¬ i < 16) (H : spec_l01Block.lv0 h bs ks ws i = some r) : spec_l01Block.lv1 h ks ws ((16 : Nat) : Int) = some r := by
  rw [spec_l01Block.lv0_eq, if_neg hi] at H
  rw [show ((16 : Nat) : Int) = 16 from rfl]
  exact H
def wordX (a b c d : Int) : Int := (a + b + c + d) % 4294967296
def sig (x p q s : Int) : Int := Go.bits .xor .u32 (Go.bits .xor .u32 (turnH x p) (turnH x q)) s
theorem sub_nat (i k : Nat) (h : k ≤ i) : ((i : Int) - (k : Int)).toNat = i - k := by omega
theorem wsub (i k : Nat) (hk : k ≤ i) (hi : i ≤ 64) : wrap64 ((i : Int) - (k : Int)) = (i : Int) - (k : Int) := w64n _ (by omega) (by omega)
theorem wadd (i : Nat) (hi : i ≤ 64) : wrap64 ((i : Int) + 1) = ((i + 1 : Nat) : Int) := by rw [w64n _ (by omega) (by omega)]; omega
theorem step1 (h ks ws : List Int) (i : Nat) (r : List Int) (hw : ws.length = 64) (h16 : 16 ≤ i) (hi : i < 64) (H : spec_l01Block.lv1 h ks ws i = some r) :
    spec_l01Block.lv1 h ks (ws.set i (wordX (ws.getD (i - 16) 0) (sig (ws.getD (i - 15) 0) 7 18 (ws.getD (i - 15) 0 / 8)) (ws.getD (i - 7) 0) (sig (ws.getD (i - 2) 0) 17 19 (ws.getD (i - 2) 0 / 1024)))) ((i + 1 : Nat) : Int) = some r := by
  have g1 : 15 ≤ i := by omega
  have g2 : 2 ≤ i := by omega
  have g3 : 7 ≤ i := by omega
  have g4 : i ≤ 64 := by omega
  have c1 : (i : Int) < 64 := by omega
  have c2 : (0 : Int) ≤ (i : Int) - 15 := by omega
  have c3 : (i : Int) - 15 < (ws.length : Int) := by omega
  have c4 : (0 : Int) ≤ (i : Int) - 2 := by omega
  have c5 : (i : Int) - 2 < (ws.length : Int) := by omega
  have c6 : (0 : Int) ≤ (i : Int) - 16 := by omega
  have c7 : (i : Int) - 16 < (ws.length : Int) := by omega
  have c8 : (0 : Int) ≤ (i : Int) - 7 := by omega
  have c9 : (i : Int) - 7 < (ws.length : Int) := by omega
  have d1 : (0 : Int) ≤ (i : Int) := by omega
  have d2 : (i : Int) < (ws.length : Int) := by omega
  have e0 : ((i : Int) - 15).toNat = i - 15 := sub_nat i 15 g1
  have e1 : ((i : Int) - 2).toNat = i - 2 := sub_nat i 2 g2
  have e2 : ((i : Int) - 16).toNat = i - 16 := sub_nat i 16 h16
  have e3 : ((i : Int) - 7).toNat = i - 7 := sub_nat i 7 g3
  have w : wrap64 ((i : Int) + 1) = ((i + 1 : Nat) : Int) := wadd i g4
  have w1 : wrap64 ((i : Int) - 15) = (i : Int) - 15 := wsub i 15 g1 g4
  have w2 : wrap64 ((i : Int) - 2) = (i : Int) - 2 := wsub i 2 g2 g4
  have w3 : wrap64 ((i : Int) - 16) = (i : Int) - 16 := wsub i 16 h16 g4
  have w4 : wrap64 ((i : Int) - 7) = (i : Int) - 7 := wsub i 7 g3 g4
  rw [spec_l01Block.lv1_eq] at H
  simp only [w, w1, w2, w3, w4, if_pos c1, if_pos c2, if_pos c3, if_pos c4, if_pos c5, if_pos c6, if_pos c7, if_pos c8, if_pos c9, if_pos d1, if_pos d2, spec_l01Turn.v, sturn7, sturn18, sturn17, sturn19, Option.bind_some, rd, e0, e1, e2, e3, Int.toNat_natCast] at H
  simpa only [wordX, sig, u32w_h, Int.emod_add_emod] using H
theorem exit1 (h ks ws : List Int) (r : List Int) (hh : h.length = 8) (i : Int) (hi : ¬ i < 64) (H : spec_l01Block.lv1 h ks ws i = some r) : spec_l01Block.lv2 h ks ws h ((0 : Nat) : Int) = some r := by
  rw [spec_l01Block.lv1_eq, if_neg hi, Option.bind_some, if_pos (by simp; omega), List.nil_append] at H
  rw [show ((0 : Nat) : Int) = 0 from rfl]
  exact H
theorem ch_bv (n : Nat) (o e f g : BitVec n) (ho : o = BitVec.allOnes n) : (e &&& f) ^^^ ((o ^^^ e) &&& g) = (e &&& f) ||| ((o ^^^ e) &&& g) := by
  subst ho
  apply BitVec.eq_of_getLsbD_eq
  intro j hj
  simp only [BitVec.getLsbD_xor, BitVec.getLsbD_and, BitVec.getLsbD_or, BitVec.getLsbD_allOnes, hj, decide_true]
  cases e.getLsbD j <;> cases f.getLsbD j <;> cases g.getLsbD j <;> rfl
theorem bits_of (b : BitVec IntKind.u32.bits) : BitVec.ofInt IntKind.u32.bits (IntKind.u32.wrap (b.toNat : Int)) = b := by
  have := b.isLt
  rw [show (2 ^ IntKind.u32.bits : Nat) = 4294967296 from rfl] at this
  rw [u32w_h, Int.emod_eq_of_lt (by omega) (by omega)]
  simp
theorem and_back (x y : Int) : BitVec.ofInt IntKind.u32.bits (Go.bits .and .u32 x y) = BitVec.ofInt IntKind.u32.bits x &&& BitVec.ofInt IntKind.u32.bits y := bits_of _
theorem xor_back (x y : Int) : BitVec.ofInt IntKind.u32.bits (Go.bits .xor .u32 x y) = BitVec.ofInt IntKind.u32.bits x ^^^ BitVec.ofInt IntKind.u32.bits y := bits_of _
theorem ch_eq (e f g : Int) : Go.bits .xor .u32 (Go.bits .and .u32 e f) (Go.bits .and .u32 (Go.bits .xor .u32 4294967295 e) g) = Go.bits .or .u32 (Go.bits .and .u32 e f) (Go.bits .and .u32 (Go.bits .xor .u32 4294967295 e) g) := by
  have h : ∀ x y : Int, BitVec.ofInt IntKind.u32.bits x ^^^ BitVec.ofInt IntKind.u32.bits y = BitVec.ofInt IntKind.u32.bits x ||| BitVec.ofInt IntKind.u32.bits y → Go.bits .xor .u32 x y = Go.bits .or .u32 x y := by
    intro x y h
    show IntKind.u32.wrap ((BitVec.ofInt IntKind.u32.bits x ^^^ BitVec.ofInt IntKind.u32.bits y).toNat : Int) = IntKind.u32.wrap ((BitVec.ofInt IntKind.u32.bits x ||| BitVec.ofInt IntKind.u32.bits y).toNat : Int)
    rw [h]
  apply h
  rw [and_back, and_back, xor_back]
  exact ch_bv _ _ _ _ _ (by decide)
def pF (a7 e f g k x : Int) : Int := (a7 + sig e 6 11 (turnH e 25) + Go.bits .or .u32 (Go.bits .and .u32 e f) (Go.bits .and .u32 (Go.bits .xor .u32 4294967295 e) g) + k + x)
def qF (a b c : Int) : Int := (sig a 2 13 (turnH a 22) + Go.bits .xor .u32 (Go.bits .xor .u32 (Go.bits .and .u32 a b) (Go.bits .and .u32 a c)) (Go.bits .and .u32 b c))
theorem step2 (h ks ws : List Int) (a0 a1 a2 a3 a4 a5 a6 a7 : Int) (i : Nat) (r : List Int) (hw : ws.length = 64) (hk : ks.length = 64) (hi : i < 64) (H : spec_l01Block.lv2 h ks ws [a0, a1, a2, a3, a4, a5, a6, a7] i = some r) :
    spec_l01Block.lv2 h ks ws [(pF a7 a4 a5 a6 (ks.getD i 0) (ws.getD i 0) + qF a0 a1 a2) % 4294967296, a0, a1, a2, (a3 + pF a7 a4 a5 a6 (ks.getD i 0) (ws.getD i 0)) % 4294967296, a4, a5, a6] ((i + 1 : Nat) : Int) = some r := by
  have c1 : (i : Int) < 64 := by omega
  have c7 : (0 : Int) ≤ (i : Int) := by omega
  have c8 : (i : Int) < (ks.length : Int) := by omega
  have c9 : (i : Int) < (ws.length : Int) := by omega
  have w : wrap64 ((i : Int) + 1) = ((i + 1 : Nat) : Int) := wadd i (by omega)
  have l : ([a0, a1, a2, a3, a4, a5, a6, a7] : List Int).length = 8 := rfl
  rw [spec_l01Block.lv2_eq] at H
  have k0 : (4 : Int) < ((8 : Nat) : Int) := by decide
  have k1 : (0 : Int) < ((8 : Nat) : Int) := by decide
  have k2 : (7 : Int) < ((8 : Nat) : Int) := by decide
  have k3 : (5 : Int) < ((8 : Nat) : Int) := by decide
  have k4 : (6 : Int) < ((8 : Nat) : Int) := by decide
  have k5 : (1 : Int) < ((8 : Nat) : Int) := by decide
  have k6 : (2 : Int) < ((8 : Nat) : Int) := by decide
  have k7 : (3 : Int) < ((8 : Nat) : Int) := by decide
  have r0 : rd [a0, a1, a2, a3, a4, a5, a6, a7] 0 = a0 := rfl
  have r1 : rd [a0, a1, a2, a3, a4, a5, a6, a7] 1 = a1 := rfl
  have r2 : rd [a0, a1, a2, a3, a4, a5, a6, a7] 2 = a2 := rfl
  have r3 : rd [a0, a1, a2, a3, a4, a5, a6, a7] 3 = a3 := rfl
  have r4 : rd [a0, a1, a2, a3, a4, a5, a6, a7] 4 = a4 := rfl
  have r5 : rd [a0, a1, a2, a3, a4, a5, a6, a7] 5 = a5 := rfl
  have r6 : rd [a0, a1, a2, a3, a4, a5, a6, a7] 6 = a6 := rfl
  have r7 : rd [a0, a1, a2, a3, a4, a5, a6, a7] 7 = a7 := rfl
  have rk : rd ks (i : Int) = ks.getD i 0 := by simp [rd]
  have rw_ : rd ws (i : Int) = ws.getD i 0 := by simp [rd]
  simp only [l, w, r0, r1, r2, r3, r4, r5, r6, r7, rk, rw_, if_pos c1, if_pos c7, if_pos c8, if_pos c9, if_pos k0, if_pos k1, if_pos k2, if_pos k3, if_pos k4, if_pos k5, if_pos k6, if_pos k7, spec_l01Turn.v, sturn6, sturn11, sturn25, sturn2, sturn13, sturn22, Option.bind_some, ch_eq] at H
  simpa only [pF, qF, sig, u32w_h, Int.emod_add_emod, Int.add_emod_emod] using H
theorem u32max_h : IntKind.u32.max = 4294967295 := by decide
def pW (a7 e f g k x : Int) : Int := IntKind.u32.wrap (IntKind.u32.wrap (IntKind.u32.wrap (IntKind.u32.wrap (a7 + sig e 6 11 (turnH e 25)) + Go.bits .or .u32 (Go.bits .and .u32 e f) (Go.bits .and .u32 (Go.bits .xor .u32 IntKind.u32.max e) g)) + k) + x)
def qW (a b c : Int) : Int := IntKind.u32.wrap (sig a 2 13 (turnH a 22) + Go.bits .xor .u32 (Go.bits .xor .u32 (Go.bits .and .u32 a b) (Go.bits .and .u32 a c)) (Go.bits .and .u32 b c))
theorem step2w (h ks ws : List Int) (a0 a1 a2 a3 a4 a5 a6 a7 : Int) (i : Nat) (r : List Int) (hw : ws.length = 64) (hk : ks.length = 64) (hi : i < 64) (xk xw xp xq : Int) (hxk : ks.getD i 0 = xk) (hxw : ws.getD i 0 = xw) (hp : pW a7 a4 a5 a6 xk xw = xp) (hq : qW a0 a1 a2 = xq) (H : spec_l01Block.lv2 h ks ws [a0, a1, a2, a3, a4, a5, a6, a7] i = some r) :
    spec_l01Block.lv2 h ks ws [(xp + xq) % 4294967296, a0, a1, a2, (a3 + xp) % 4294967296, a4, a5, a6] ((i + 1 : Nat) : Int) = some r := by
  have := step2 h ks ws a0 a1 a2 a3 a4 a5 a6 a7 i r hw hk hi H
  rw [hxk, hxw] at this
  rw [← this, ← hp, ← hq]
  simp only [pW, qW, pF, qF, u32w_h, u32max_h, Int.emod_add_emod, Int.add_emod_emod]
def pX (a7 e f g k x : Int) : Int := IntKind.u32.wrap (IntKind.u32.wrap (IntKind.u32.wrap (IntKind.u32.wrap (a7 + sig e 6 11 (turnH e 25)) + Go.bits .xor .u32 (Go.bits .and .u32 e f) (Go.bits .and .u32 (Go.bits .xor .u32 IntKind.u32.max e) g)) + k) + x)
theorem pX_eq (a7 e f g k x : Int) : pX a7 e f g k x = pW a7 e f g k x := by
  unfold pX pW
  rw [u32max_h, ch_eq]
theorem exit2 (h ks ws v : List Int) (r : List Int) (i : Int) (hi : ¬ i < 64) (H : spec_l01Block.lv2 h ks ws v i = some r) : spec_l01Block.lv3 h v ((0 : Nat) : Int) = some r := by
  rw [spec_l01Block.lv2_eq, if_neg hi] at H
  rw [show ((0 : Nat) : Int) = 0 from rfl]
  exact H
theorem step3 (h v : List Int) (i : Nat) (r : List Int) (hh : h.length = 8) (hv : v.length = 8) (hi : i < 8) (H : spec_l01Block.lv3 h v i = some r) :
    spec_l01Block.lv3 (h.set i (IntKind.u32.wrap (h.getD i 0 + v.getD i 0))) v ((i + 1 : Nat) : Int) = some r := by
  have g0 : (i : Int) < 8 := by omega
  have g1 : (0 : Int) ≤ i := by omega
  have g2 : (i : Int) < (h.length : Int) := by omega
  have g3 : (i : Int) < (v.length : Int) := by omega
  have w : wrap64 ((i : Int) + 1) = ((i + 1 : Nat) : Int) := wadd i (by omega)
  have r0 : rd h (i : Int) = h.getD i 0 := by simp [rd]
  have r1 : rd v (i : Int) = v.getD i 0 := by simp [rd]
  rw [spec_l01Block.lv3_eq, w, if_pos g0, if_pos g1, if_pos g2, if_pos g3, r0, r1] at H
  simpa only [u32w_h, Int.toNat_natCast] using H
theorem exit3 (h v : List Int) (r : List Int) (i : Int) (hi : ¬ i < 8) (H : spec_l01Block.lv3 h v i = some r) : h = r := by
  rw [spec_l01Block.lv3_eq, if_neg hi] at H
  exact Option.some.inj H
theorem start0 (h bs ks : List Int) (r : List Int) (H : spec_l01Block.v h bs ks = some r) : spec_l01Block.lv0 h bs ks (List.replicate 64 0) ((0 : Nat) : Int) = some r := by
  rw [spec_l01Block.v_eq] at H
  split at H
  · rw [if_pos (by omega)] at H
    rw [show ((0 : Nat) : Int) = 0 from rfl]
    exact H
  · cases H
theorem Au.of_R {W : World} {base g n cap e : Nat} {ok : Nat → Prop} {xs : List Int} (h : Kd.R (Kd.int .u32) e W base ok (.slice (some ⟨g, 0, none⟩) n cap) xs) : Au W g xs := by
  have hn := (Kd.R_reads' h).1
  refine ⟨fun j hj => ?_, fun j hj => ?_⟩
  · have := (Kd.R_celln 0 h (j : Int) (by omega) (by omega)).1
    simpa [rdOf] using this
  · have := (Kd.R_celln 0 h (j : Int) (by omega) (by omega)).2
    simpa using this
theorem C_cells {k : IntKind} {W : World} {A : Option Addr} {n : Nat} {xs : List Int} (h : Kd.C (Kd.int k) W A n xs) (hn : 0 < n) : ∃ ad, A = some ad ∧ ∀ j, j < n → W.cell? (ad.add j) = some (.int k (xs.getD j 0)) := by
  obtain ⟨ad, e, c⟩ := Kd.at_int h 0 (by decide) (by omega)
  refine ⟨ad, e, fun j hj => ?_⟩
  obtain ⟨ad2, e2, c2⟩ := Kd.at_int h (j : Int) (by omega) (by omega)
  obtain rfl : ad = ad2 := Option.some.inj (e.symm.trans e2)
  simpa [rd] using c2
structure Sk (w W : World) (n gw : Nat) (lw : List Int) : Prop where
  hw : Au W gw lw
  mine : n ≤ gw
  lt : gw < W.heap.size
  below : Below n w W
theorem Sk.drew {w W : World} {n gw : Nat} {lw : List Int} (h : Sk w W n gw lw) : Sk w W.drew n gw lw := ⟨h.hw.drew, h.mine, h.lt, below_drew_h h.below⟩
theorem Sk.word {w W : World} {n gw : Nat} {lw : List Int} (h : Sk w W n gw lw) (j : Nat) (hj : j < lw.length) (x : Int) : Sk w (W.setCell ⟨gw, j, none⟩ (.int .u32 x)) n gw (lw.set j x) :=
  ⟨h.hw.set j hj x, h.mine, by simpa [World.setCell] using h.lt, below_set_h h.below h.mine⟩
structure Sv (w W : World) (n gw gv : Nat) (lw la : List Int) : Prop where
  hw : Au W gw lw
  ha : Au W gv la
  mw : n ≤ gw
  mv : n ≤ gv
  tw : gw < W.heap.size
  tv : gv < W.heap.size
  below : Below n w W
theorem Sv.drew {w W : World} {n gw gv : Nat} {lw la : List Int} (h : Sv w W n gw gv lw la) : Sv w W.drew n gw gv lw la := ⟨h.hw.drew, h.ha.drew, h.mw, h.mv, h.tw, h.tv, below_drew_h h.below⟩
theorem Sv.lit {w W : World} {n gw gv : Nat} {lw la : List Int} (h : Sv w W n gw gv lw la) (l : List Int) (t : Nat) : Sv w (W.alloc (.cells (l.map (Value.int .u32)).toArray t)) n gw W.heap.size lw l := by
  have h1 := h.tw
  have h2 := h.mw
  have hs := alloc_sz W (.cells (l.map (Value.int .u32)).toArray t)
  have e : ∀ k, k < W.heap.size → (W.alloc (.cells (l.map (Value.int .u32)).toArray t)).heap[k]? = W.heap[k]? := fun k hk => by rw [alloc_at, if_neg (by omega)]
  refine ⟨h.hw.at (e _ h.tw), Au.of_row (e := t) _ ?_, h.mw, by omega, by omega, by omega, ⟨h.below.os, h.below.tape, h.below.output, by have := h.below.size; omega, fun k hk => (e k (by omega)).trans (h.below.block k hk)⟩⟩
  rw [alloc_at, if_pos rfl]
/-- The copy of the eight words. -/
theorem append8 {P : Program} {ops : Array Oper} {rest : List Oper} {o : Oper} {a : Act} {Q : Exit → Act → World → Prop} {w W : World} {n gw g g0 c0 : Nat} {lw l0 : List Int} (t e : TypeId) (hgd : o.guard = none) (s x : Operand)
    (ho : o.op = .call { callee := .builtin .append, args := #[s, x], argTypes := #[t, t] }) (ht : P.underlying t = some (.slice e)) (hinfo : (P.info? e).map (fun i => (i.zero, i.size, i.bytes)) = some (some (.int .u32 0), 1, 4))
    (hs : a.eval s = .slice (some ⟨g, 0, none⟩) 0 0) (hx : a.eval x = .slice (some ⟨g0, 0, none⟩) 8 c0) (hl0 : l0.length = 8) (hc : Au W g0 l0) (F : Sk w W n gw lw)
    (h : ∀ gv cv w1, Sv w w1 n gw gv lw l0 → wpList P ops Q rest (a.put o.dst (.slice (some ⟨gv, 0, none⟩) 8 cv)) w1) : wpList P ops Q (o :: rest) a W := by
  obtain ⟨i, hi, hzz⟩ := Option.map_eq_some_iff.1 hinfo
  simp only [Prod.mk.injEq] at hzz
  obtain ⟨hz, hs1, hb1⟩ := hzz
  have hnl : (l0.map (Value.int .u32)).length = 8 := by simp [hl0]
  have h48' : ¬ (281474976710656 < Builtin.nextslicecap 8 0 * i.bytes) := by rw [hb1]; decide
  have hf0 := run_firstCells_some (P := P) W.drew 1 0 ⟨g, 0, none⟩ 0 0 [] rfl (fun j v hj => by simp at hj)
  have hf8 := run_firstCells_some (P := P) W.drew 1 8 ⟨g0, 0, none⟩ 8 c0 (l0.map (Value.int .u32)) (by simp [hl0]) (fun j v hj => by
    rw [add_plain]
    have hjl : j < l0.length := by
      have := (List.getElem?_eq_some_iff.1 hj).1
      omega
    have := hc.cell j hjl
    simp only [List.getElem?_map, List.getElem?_eq_getElem hjl, Option.map_some, Option.some.injEq] at hj
    subst hj
    simpa [List.getD, hjl] using this)
  have hzc : (Value.int .u32 0).cells = #[.int .u32 0] := rfl
  have hr : (Builtin.append_ #[t, t] o.type #[.slice (some ⟨g, 0, none⟩) 0 0, .slice (some ⟨g0, 0, none⟩) 8 c0]).run P W = .ok (.slice (some ⟨W.heap.size, 0, none⟩) 8 (grownCap W 8 0 e))
      (W.drew.alloc (.cells ((l0.map (Value.int .u32)).toArray ++ Builtin.zeroCells #[.int .u32 0] (grownCap W 8 0 e - 8)) e)) := by
    rw [← hs1] at hf0 hf8
    simp [Builtin.append_, run_underlying ht, sizeOf, typeInfo, zeroValue, hi, hz, Builtin.lenOf, h48', Question.forced, hf0, hf8, newRow, grownCap, hzc]
  refine wpList_plain hgd fun K hK => ?_
  unfold Oper.wp execOp
  simp only [ho, resolve, invoke, builtin, Sem.run_bind, Sem.run_pure, Result.andThen_ok, List.map_toArray, List.map_cons, List.map_nil, hs, hx, hr]
  refine hK _ _ (h _ _ _ ?_)
  have h1 := F.lt
  have h2 := F.mine
  have hsz : (W.drew.alloc (.cells ((l0.map (Value.int .u32)).toArray ++ Builtin.zeroCells #[.int .u32 0] (grownCap W 8 0 e - 8)) e)).heap.size = W.heap.size + 1 := alloc_sz _ _
  have e2 : ∀ k, k < W.heap.size → (W.drew.alloc (.cells ((l0.map (Value.int .u32)).toArray ++ Builtin.zeroCells #[.int .u32 0] (grownCap W 8 0 e - 8)) e)).heap[k]? = W.heap[k]? := fun k hk => by
    rw [alloc_at, if_neg (by show ¬ k = W.heap.size; omega)]
    rfl
  have e3 : (W.drew.alloc (.cells ((l0.map (Value.int .u32)).toArray ++ Builtin.zeroCells #[.int .u32 0] (grownCap W 8 0 e - 8)) e)).heap[W.heap.size]? = some (.cells ((l0.map (Value.int .u32)).toArray ++ Builtin.zeroCells #[.int .u32 0] (grownCap W 8 0 e - 8)) e) := by
    rw [alloc_at, if_pos (by rfl)]
  refine ⟨F.hw.at (e2 _ F.lt), ⟨fun j hj => ?_, fun j hj => ?_⟩, F.mine, by omega, by omega, by omega, ⟨F.below.os, F.below.tape, F.below.output, by rw [hsz]; have := F.below.size; omega, fun k hk => (e2 k (by omega)).trans (F.below.block k hk)⟩⟩
  · unfold World.cell?
    rw [e3]
    have hj2 : j < (l0.map (Value.int .u32)).toArray.size := by simpa using hj
    simp only [Option.isSome_none, Bool.false_eq_true, if_false]
    rw [Array.getElem?_append_left hj2]
    simp [List.getD, hj]
  · unfold World.frozen?
    rw [e3]
    simp
/-- The last loop: the state that came in is written. -/
structure St (w0 w W : World) (S : Nat → Prop) (g0 c0 gv : Nat) (lh la : List Int) : Prop where
  hr : Kd.R (Kd.int .u32) 88 W w0.heap.size S (.slice (some ⟨g0, 0, none⟩) 8 c0) lh
  ha : Au W gv la
  ne : gv ≠ g0
  below : Below w0.heap.size w0 W
  kept : Kept w W S
theorem St.drew {w0 w W : World} {S : Nat → Prop} {g0 c0 gv : Nat} {lh la : List Int} (h : St w0 w W S g0 c0 gv lh la) : St w0 w W.drew S g0 c0 gv lh la :=
  ⟨Kd.R_drew h.hr, h.ha.drew, h.ne, below_drew_h h.below, h.kept.drew⟩
theorem St.set {w0 w W : World} {S : Nat → Prop} {g0 c0 gv : Nat} {lh la : List Int} (h : St w0 w W S g0 c0 gv lh la) (j : Nat) (x : Int) : St w0 w (W.setCell ⟨g0, j, none⟩ (.int .u32 x)) S g0 c0 gv (lh.set j x) la := by
  have hp := Kd.R_putn h.hr (j : Int) x
  rw [Int.toNat_natCast] at hp
  exact ⟨hp, h.ha.far h.ne j _, h.ne, below_set_h h.below (Kd.R_base h.hr _ rfl), h.kept.setCell (p := ⟨g0, j, none⟩) (.inl (h.hr.1 _ rfl)) _⟩
set_option maxHeartbeats 4000000 in
set_option maxRecDepth 100000 in
theorem sblock_walk (S : Nat → Prop) (g0 c0 : Nat) (l0 l1 l2 r : List Int) (ad1 ad2 : Addr) (c1 c2 : Nat) (w0 w : World) (hB : Below w0.heap.size w0 w) (ho0 : Kd.R (Kd.int .u32) 88 w w0.heap.size S (.slice (some ⟨g0, 0, none⟩) 8 c0) l0)
    (hr1 : ∀ W, Kept w W S → ∀ j, j < 64 → W.cell? (ad1.add j) = some (.int .u8 (l1.getD j 0))) (hr2 : ∀ W, Kept w W S → ∀ j, j < 64 → W.cell? (ad2.add j) = some (.int .u32 (l2.getD j 0)))
    (h0 : l0.length = 8) (h1 : l1.length = 64) (h2 : l2.length = 64) (hc1 : 64 ≤ c1) (hc2 : 64 ≤ c2) (H : spec_l01Block.v l0 l1 l2 = some r) :
    Calls Try.prog 66 #[.slice (some ⟨g0, 0, none⟩) 8 c0, .slice (some ad1) 64 c1, .slice (some ad2) 64 c2] w fun e w' => e = .returned (.tuple #[]) ∧ Kd.R (Kd.int .u32) 88 w' w0.heap.size S (.slice (some ⟨g0, 0, none⟩) 8 c0) r ∧ Below w0.heap.size w0 w' ∧ Kept w w' S := by
  have H0 := Aside0.mk (start0 _ _ _ _ H)
  have HR1 := Aside0.mk hr1
  have HR2 := Aside0.mk hr2
  have HO := Aside0.mk ho0
  have HB := Aside0.mk hB
  have HL := Aside0.mk (And.intro h0 (And.intro h1 h2))
  clear H hr1 hr2 ho0 hB h0 h1 h2
  go_enter Try.func66, Try.ntmps66
  go_wp2_with (first | ((with_reducible refine gate_dst (N := 18) rfl ?_); refine Kd.R_make (Kd.int .u32) _ 88 rfl (N := 18) rfl 89 _ _ rfl 64 rfl rfl Try.underlying89 (.int .u32 0) 4 info88 rfl (by decide) (by omega) 0 (ok := fun _ => True) (okp := fun _ => True) rfl (fun _ hk => hk) trivial (by omega) (by omega) (Below.refl _ _) (Nat.le_refl _) ?_; intro v1 w1 ho hb hg_ hnew_; clear hg_ hnew_; simp only [Int.reduceToNat] at ho; obtain ⟨gw, cw, rfl, hbase, hlt, -⟩ := Kd.R_form ho (by simp); rw [List.length_replicate] at ho ⊢; have hcw := (Kd.R_reads' ho).2.1; have F := Aside0.mk (Sk.mk (Au.of_R ho) hbase hlt hb); clear ho hb hbase hlt))
  obtain ⟨hl0, hl1, hl2⟩ := HL.out
  go_loopg [7] 16 (fun gg v7 wr => ∃ (i : Nat) (ws : List Int), i ≤ 16 ∧ gg + i = 16 ∧ v7 = .int .i64 (i : Int) ∧ ws.length = 64 ∧ Aside0 (spec_l01Block.lv0 l0 l1 l2 ws (i : Int) = some r) ∧ Aside0 (Sk w wr w.heap.size gw ws))
  case atStart => exact ⟨0, _, by omega, rfl, rfl, List.length_replicate, H0, F⟩
  case round =>
    clear F H0
    obtain ⟨i, ws, hi, hg, rfl, hws, H0, F⟩ := hrel
    by_cases hlt : i < 16
    · have c1 : ((i : Int) < 16) := by omega
      have hk := Kept.of_below F.out.below S
      obtain ⟨q0, hq0⟩ : ∃ q, q = 4 * i := ⟨_, rfl⟩
      obtain ⟨q1, hq1⟩ : ∃ q, q = 4 * i + 1 := ⟨_, rfl⟩
      obtain ⟨q2, hq2⟩ : ∃ q, q = 4 * i + 2 := ⟨_, rfl⟩
      obtain ⟨q3, hq3⟩ : ∃ q, q = 4 * i + 3 := ⟨_, rfl⟩
      have w0 : IntKind.i64.wrap (4 * (i : Int)) = (q0 : Int) := (w64id _ (by omega) (by omega)).trans (by omega)
      have w1 : IntKind.i64.wrap ((q0 : Int) + 1) = (q1 : Int) := by clear w0; exact (w64id _ (by omega) (by omega)).trans (by omega)
      have w2 : IntKind.i64.wrap ((q0 : Int) + 2) = (q2 : Int) := by clear w0 w1; exact (w64id _ (by omega) (by omega)).trans (by omega)
      have w3 : IntKind.i64.wrap ((q0 : Int) + 3) = (q3 : Int) := by clear w0 w1 w2; exact (w64id _ (by omega) (by omega)).trans (by omega)
      have b0 := HR1.out wr hk q0 (by clear w0 w1 w2 w3; omega)
      have b1 := HR1.out wr hk q1 (by clear w0 w1 w2 w3; omega)
      have b2 := HR1.out wr hk q2 (by clear w0 w1 w2 w3; omega)
      have b3 := HR1.out wr hk q3 (by clear w0 w1 w2 w3; omega)
      have e0 : (q0 : Int) < 64 := by clear w0 w1 w2 w3; omega
      have e1 : (q1 : Int) < 64 := by clear w0 w1 w2 w3; omega
      have e2 : (q2 : Int) < 64 := by clear w0 w1 w2 w3; omega
      have e3 : (q3 : Int) < 64 := by clear w0 w1 w2 w3; omega
      have ei : (i : Int) < 64 := by clear w0 w1 w2 w3; omega
      have g4 : i < ws.length := by clear w0 w1 w2 w3; omega
      have z0 := F.out.hw.cell i g4
      have z1 := F.out.hw.free i g4
      have H1 := Aside0.mk (step0 _ _ _ _ _ _ hl1 hws hlt H0.out)
      rw [← hq1, ← hq2, ← hq3, ← hq0] at H1
      generalize hx0 : l1.getD q0 0 = x0 at b0 H1
      generalize hx1 : l1.getD q1 0 = x1 at b1 H1
      generalize hx2 : l1.getD q2 0 = x2 at b2 H1
      generalize hx3 : l1.getD q3 0 = x3 at b3 H1
      generalize ws.getD i 0 = xi at z0
      clear hq0 hq1 hq2 hq3 hx0 hx1 hx2 hx3 hk H0
      go_wp2
      go_still_tail 36, (by kernel_rfl)
      change wpList _ _ _ _ _ wr.drew
      have z2 : wr.drew.cell? ⟨gw, i, none⟩ = some (.int .u32 xi) := z0
      have z3 : wr.drew.frozen? ⟨gw, i, none⟩ = false := z1
      have F2 := Aside0.mk (F.out.drew.word i g4 (word4 x0 x1 x2 x3))
      generalize wr.drew = w4 at z2 z3 F2 ⊢
      clear z0 z1 b0 b1 b2 b3 F
      go_wp2
      go_roundg (16 - (i + 1))
      case measure => omega
      case rel => exact ⟨i + 1, _, by omega, by omega, by go_num, by rw [List.length_set]; exact hws, H1, F2⟩
    · have hlt2 : ¬ ((i : Int) < 16) := by omega
      have H1 := Aside0.mk (exit0 _ _ _ _ _ _ hlt2 H0.out)
      clear H0
      go_wp2
      go_loopg [8] 48 (fun gg v8 wr => ∃ (i : Nat) (ws : List Int), i ≤ 64 ∧ 16 ≤ i ∧ gg + i = 64 ∧ v8 = .int .i64 (i : Int) ∧ ws.length = 64 ∧ Aside0 (spec_l01Block.lv1 l0 l2 ws (i : Int) = some r) ∧ Aside0 (Sk w wr w.heap.size gw ws))
      case atStart => exact ⟨16, ws, by omega, by omega, rfl, rfl, hws, H1, F⟩
      case round =>
        clear F H1 hlt2 hlt hi hws
        obtain ⟨i, ws, hi, h16, hg, rfl, hws, H0, F⟩ := hrel
        by_cases hlt : i < 64
        · have c1 : ((i : Int) < 64) := by omega
          obtain ⟨q0, hq0⟩ : ∃ q, q = i - 16 := ⟨_, rfl⟩
          obtain ⟨q1, hq1⟩ : ∃ q, q = i - 15 := ⟨_, rfl⟩
          obtain ⟨q2, hq2⟩ : ∃ q, q = i - 7 := ⟨_, rfl⟩
          obtain ⟨q3, hq3⟩ : ∃ q, q = i - 2 := ⟨_, rfl⟩
          have w0 : IntKind.i64.wrap ((i : Int) - 16) = (q0 : Int) := (w64id _ (by omega) (by omega)).trans (by omega)
          have w1 : IntKind.i64.wrap ((i : Int) - 15) = (q1 : Int) := by clear w0; exact (w64id _ (by omega) (by omega)).trans (by omega)
          have w2 : IntKind.i64.wrap ((i : Int) - 7) = (q2 : Int) := by clear w0 w1; exact (w64id _ (by omega) (by omega)).trans (by omega)
          have w3 : IntKind.i64.wrap ((i : Int) - 2) = (q3 : Int) := by clear w0 w1 w2; exact (w64id _ (by omega) (by omega)).trans (by omega)
          have g0 : q0 < ws.length := by clear w0 w1 w2 w3; omega
          have g1 : q1 < ws.length := by clear w0 w1 w2 w3; omega
          have g2 : q2 < ws.length := by clear w0 w1 w2 w3; omega
          have g3 : q3 < ws.length := by clear w0 w1 w2 w3; omega
          have g4 : i < ws.length := by clear w0 w1 w2 w3; omega
          have b0 := F.out.hw.cell q0 g0
          have b1 := F.out.hw.cell q1 g1
          have b2 := F.out.hw.cell q2 g2
          have b3 := F.out.hw.cell q3 g3
          have e0 : (q0 : Int) < 64 := by clear w0 w1 w2 w3; omega
          have e1 : (q1 : Int) < 64 := by clear w0 w1 w2 w3; omega
          have e2 : (q2 : Int) < 64 := by clear w0 w1 w2 w3; omega
          have e3 : (q3 : Int) < 64 := by clear w0 w1 w2 w3; omega
          have z0 := F.out.hw.cell i g4
          have z1 := F.out.hw.free i g4
          have H1 := Aside0.mk (step1 _ _ _ _ _ hws h16 hlt H0.out)
          rw [← hq0, ← hq1, ← hq2, ← hq3] at H1
          generalize hx0 : ws.getD q0 0 = x0 at b0 H1
          generalize hx1 : ws.getD q1 0 = x1 at b1 H1
          generalize hx2 : ws.getD q2 0 = x2 at b2 H1
          generalize hx3 : ws.getD q3 0 = x3 at b3 H1
          generalize ws.getD i 0 = xi at z0
          clear hq0 hq1 hq2 hq3 hx0 hx1 hx2 hx3 g0 g1 g2 g3 H0
          go_wp2
          refine wp_region_still_tail 32 (by kernel_rfl) (by kernel_rfl) ?_
          simp only [List.take_succ_cons, List.take_zero, List.drop_succ_cons, List.drop_zero]
          repeat still_step
          still_call (stn7 _ _)
          repeat still_step
          still_call (stn18 _ _)
          repeat still_step
          still_call (stn17 _ _)
          repeat still_step
          still_call (stn19 _ _)
          repeat still_step
          refine wpStill_nil ?_
          change wpList _ _ _ _ _ wr.drew
          have z2 : wr.drew.cell? ⟨gw, i, none⟩ = some (.int .u32 xi) := z0
          have z3 : wr.drew.frozen? ⟨gw, i, none⟩ = false := z1
          have F2 := Aside0.mk (F.out.drew.word i g4 (wordX x0 (sig x1 7 18 (x1 / 8)) x2 (sig x3 17 19 (x3 / 1024))))
          generalize wr.drew = w4 at z2 z3 F2 ⊢
          clear z0 z1 b0 b1 b2 b3 F w0 w1 w2 w3
          go_wp2
          go_roundg (64 - (i + 1))
          case measure => omega
          case rel => exact ⟨i + 1, _, by omega, by omega, by omega, by go_num, by rw [List.length_set]; exact hws, H1, F2⟩
        · have hlt2 : ¬ ((i : Int) < 64) := by omega
          have H1 := Aside0.mk (exit1 _ _ _ _ hl0 _ hlt2 H0.out)
          clear H0
          have hA0 : Aside0 (Au w g0 l0) := Aside0.mk (Au.of_R HO.out)
          have hg0 := Kd.R_lt HO.out g0 rfl
          have HG := Aside0.mk hg0
          clear hg0
          go_wp2_with (first | ((with_reducible refine gate_builtin (b := .append) (xs := #[.tmp 105, .tmp 106]) rfl ?_); at_builtin; refine append8 (l0 := l0) 89 88 rfl (.tmp 105) (.tmp 106) rfl Try.underlying89 info88 (by rfl) (by rfl) hl0 ((hA0.out.at (F.out.below.block g0 HG.out)).at (by first | rfl | (rw [alloc_at, if_neg (by have := HG.out; have := F.out.below.size; omega)]))) (w := w) (n := w.heap.size) (gw := gw) (lw := ws) (by first | exact F.out | exact ⟨F.out.hw.at (by rw [alloc_at, if_neg (by have := F.out.lt; omega)]), F.out.mine, by rw [alloc_sz]; have := F.out.lt; omega, ⟨F.out.below.os, F.out.below.tape, F.out.below.output, by rw [alloc_sz]; have := F.out.below.size; omega, fun k hk => by rw [alloc_at, if_neg (by have := F.out.below.size; omega)]; exact F.out.below.block k hk⟩⟩) ?_; clear F; intro gv cv w6 F0; have F := Aside0.mk F0; clear F0))
          obtain ⟨h0, h1, h2, h3, h4, h5, h6, h7, rfl⟩ := eight hl0
          go_loopg [11, 12] 64 (fun gg v11 v12 wr => ∃ (i gv cv : Nat) (a0 a1 a2 a3 a4 a5 a6 a7 : Int), i ≤ 64 ∧ gg + i = 64 ∧ v11 = .slice (some ⟨gv, 0, none⟩) 8 cv ∧ v12 = .int .i64 (i : Int) ∧ Aside0 (spec_l01Block.lv2 [h0, h1, h2, h3, h4, h5, h6, h7] l2 ws [a0, a1, a2, a3, a4, a5, a6, a7] (i : Int) = some r) ∧ Aside0 (Sv w wr w.heap.size gw gv ws [a0, a1, a2, a3, a4, a5, a6, a7]))
          case atStart => exact ⟨0, gv, cv, h0, h1, h2, h3, h4, h5, h6, h7, by omega, rfl, rfl, rfl, H1, F⟩
          case round =>
            clear F H1 hlt2 hlt hi h16
            obtain ⟨i, gv, cv, a0, a1, a2, a3, a4, a5, a6, a7, hi, hg, rfl, rfl, H0, F⟩ := hrel
            by_cases hlt : i < 64
            · have c1 : ((i : Int) < 64) := by omega
              have hk := Kept.of_below F.out.below S
              obtain ⟨⟨c0_, d1, d2, d3, d4, d5, d6, d7⟩, -⟩ := F.out.ha.eight
              have bk := HR2.out wr hk i hlt
              have bw := F.out.hw.cell i (by omega)
              clear hk
              obtain ⟨xk, hxk⟩ : ∃ x, l2.getD i 0 = x := ⟨_, rfl⟩
              obtain ⟨xw, hxw⟩ : ∃ x, ws.getD i 0 = x := ⟨_, rfl⟩
              rw [hxk] at bk
              rw [hxw] at bw
              have HX := Aside0.mk (And.intro hxk hxw)
              clear hxk hxw
              go_wp2
              refine wp_region_still_lit (by kernel_rfl) (by kernel_rfl) ?_
              repeat still_step
              still_call (stn6 _ _)
              repeat still_step
              still_call (stn11 _ _)
              repeat still_step
              still_call (stn25 _ _)
              repeat still_step
              refine wpStill_nil ?_
              have F3 := Aside0.mk F.out.drew
              have c0d : wr.drew.cell? _ = _ := c0_
              have d1_ : wr.drew.cell? _ = _ := d1
              have d2_ : wr.drew.cell? _ = _ := d2
              have d3_ : wr.drew.cell? _ = _ := d3
              have d4_ : wr.drew.cell? _ = _ := d4
              have d5_ : wr.drew.cell? _ = _ := d5
              have d6_ : wr.drew.cell? _ = _ := d6
              have d7_ : wr.drew.cell? _ = _ := d7
              clear c0_ d1 d2 d3 d4 d5 d6 d7 bk bw F
              generalize hxp : IntKind.u32.wrap (IntKind.u32.wrap (_ + xk) + xw) = xp
              have hp : pX a7 a4 a5 a6 xk xw = xp := hxp
              have HP := Aside0.mk ((pX_eq _ _ _ _ _ _).symm.trans hp)
              clear hxp hp
              rw [show ({ heap := wr.heap, tape := wr.tape, drawn := wr.drawn + 1, os := wr.os, output := wr.output } : World) = wr.drew from rfl]
              generalize wr.drew = w6 at c0d d1_ d2_ d3_ d4_ d5_ d6_ d7_ F3 ⊢
              go_wp2
              refine wp_region_still_lit (by kernel_rfl) (by kernel_rfl) ?_
              repeat still_step
              still_call (stn2 _ _)
              repeat still_step
              still_call (stn13 _ _)
              repeat still_step
              still_call (stn22 _ _)
              repeat still_step
              refine wpStill_nil ?_
              obtain ⟨⟨c0_, d1, d2, d3, d4, d5, d6, d7⟩, -⟩ := F3.out.drew.ha.eight
              have F4 := Aside0.mk F3.out.drew
              clear c0d d1_ d2_ d3_ d4_ d5_ d6_ d7_ F3
              generalize hxq : IntKind.u32.wrap (_ + Go.bits .xor .u32 _ (Go.bits .and .u32 a1 a2)) = xq
              have hq : qW a0 a1 a2 = xq := hxq
              have HQ := Aside0.mk hq
              clear hxq hq
              rw [show ({ heap := w6.heap, tape := w6.tape, drawn := w6.drawn + 1, os := w6.os, output := w6.output } : World) = w6.drew from rfl]
              generalize w6.drew = w7 at c0_ d1 d2 d3 d4 d5 d6 d7 F4 ⊢
              have H1 := Aside0.mk (step2w _ _ _ _ _ _ _ _ _ _ _ _ _ hws hl2 hlt xk xw xp xq HX.out.1 HX.out.2 HP.out HQ.out H0.out)
              clear H0
              go_wp2
              refine wp_region_still_tail 26 (by kernel_rfl) (by kernel_rfl) ?_
              simp only [List.take_succ_cons, List.take_zero, List.drop_succ_cons, List.drop_zero]
              repeat still_step
              refine wpStill_nil ?_
              change wpList _ _ _ _ _ w7.drew
              have F5 := Aside0.mk F4.out.drew
              clear c0_ d1 d2 d3 d4 d5 d6 d7 F4
              generalize w7.drew = w8 at F5 ⊢
              go_wp2
              go_roundg (64 - (i + 1))
              case measure => omega
              case rel => exact ⟨i + 1, w8.heap.size, 8, (xp + xq) % 4294967296, a0, a1, a2, (a3 + xp) % 4294967296, a4, a5, a6, by omega, by omega, rfl, by go_num, H1, ⟨F5.out.lit [(xp + xq) % 4294967296, a0, a1, a2, (a3 + xp) % 4294967296, a4, a5, a6] 88⟩⟩
            · have hlt2 : ¬ ((i : Int) < 64) := by omega
              have H1 := Aside0.mk (exit2 _ _ _ _ _ _ hlt2 H0.out)
              clear H0
              have F2 : Aside0 (St w0 w wr S g0 c0 gv [h0, h1, h2, h3, h4, h5, h6, h7] [a0, a1, a2, a3, a4, a5, a6, a7]) := Aside0.mk ⟨Kd.R_below HO.out F.out.below, F.out.ha, by have := F.out.mv; have := HG.out; omega, HB.out.trans (F.out.below.mono HB.out.size), Kept.of_below F.out.below S⟩
              clear F
              go_wp2
              go_loopg [17] 8 (fun gg v17 wr => ∃ (i : Nat) (lh : List Int), i ≤ 8 ∧ gg + i = 8 ∧ v17 = .int .i64 (i : Int) ∧ lh.length = 8 ∧ Aside0 (spec_l01Block.lv3 lh [a0, a1, a2, a3, a4, a5, a6, a7] (i : Int) = some r) ∧ Aside0 (St w0 w wr S g0 c0 gv lh [a0, a1, a2, a3, a4, a5, a6, a7]))
              case atStart => exact ⟨0, _, by omega, rfl, rfl, rfl, H1, F2⟩
              case round =>
                clear F2 H1 hlt2 hlt hi
                obtain ⟨i, lh, hi, hg, rfl, hlh, H0, F⟩ := hrel
                by_cases hlt : i < 8
                · have c1 : ((i : Int) < 8) := by omega
                  have H1 := Aside0.mk (step3 _ _ _ _ hlh rfl hlt H0.out)
                  obtain ⟨b0, z1⟩ := Kd.R_celln 0 F.out.hr (i : Int) (by omega) (by omega)
                  have b1 := F.out.ha.cell i (by simpa using hlt)
                  rw [Int.toNat_natCast] at b0 z1
                  have b0' : wr.cell? ⟨g0, i, none⟩ = some (.int .u32 (lh.getD i 0)) := by simpa [rdOf] using b0
                  clear H0 b0
                  obtain ⟨x0, hx0⟩ : ∃ x, lh.getD i 0 = x := ⟨_, rfl⟩
                  obtain ⟨x1, hx1⟩ : ∃ x, ([a0, a1, a2, a3, a4, a5, a6, a7] : List Int).getD i 0 = x := ⟨_, rfl⟩
                  rw [hx0] at b0' H1
                  rw [hx1] at b1 H1
                  rw [u32w_h] at H1
                  clear hx0 hx1
                  go_wp2
                  refine wp_region_still_tail 10 (by kernel_rfl) (by kernel_rfl) ?_
                  simp only [List.take_succ_cons, List.take_zero, List.drop_succ_cons, List.drop_zero]
                  repeat still_step
                  refine wpStill_nil ?_
                  change wpList _ _ _ _ _ wr.drew
                  have z2 : wr.drew.cell? ⟨g0, i, none⟩ = some (.int .u32 x0) := b0'
                  have z3 : wr.drew.frozen? ⟨g0, i, none⟩ = false := z1
                  have F2 := Aside0.mk (F.out.drew.set i ((x0 + x1) % 4294967296))
                  generalize wr.drew = w4 at z2 z3 F2 ⊢
                  clear z1 b0' b1 F
                  go_wp2
                  go_roundg (8 - (i + 1))
                  case measure => omega
                  case rel => exact ⟨i + 1, _, by omega, by omega, by go_num, by rw [List.length_set]; exact hlh, H1, F2⟩
                · have hlt2 : ¬ ((i : Int) < 8) := by omega
                  have e := exit3 _ _ _ _ hlt2 H0.out
                  subst e
                  clear H0
                  go_wp2
                  first | go_end0 | ((try simp only [Exit.inBlock, Exit.then]); refine bodyPost_ret (results_none rfl _ _ _) rfl ?_)
                  exact ⟨rfl, F.out.hr, F.out.below, F.out.kept⟩
end Go.Proofs.Ytdpdbegglkdgnaa.A
end

section
namespace Go.Proofs.Ytdpdbegglkdgnaa.A
open Go.RowKit Go.Proofs.YtdpdbegglkdgnaaW.PrintWords Go.Proofs.YtdpdbegglkdgnaaW.PrintLast Go.Proofs.YtdpdbegglkdgnaaW.PrintMore
attribute [local go_sem] max2_int min2_int max_two min_two max_three min_three max_four min_four
theorem spec_l01Block.calls (k : Nat) (P0_ : Nat → Prop) (u9000_ : Value) (l0 : List Int) (A1 : Option Addr) (c1 : Nat) (l1 : List Int) (A2 : Option Addr) (c2 : Nat) (l2 : List Int) (r : List Int) (w0 w : World) (hB : Below w0.heap.size w0 w) (ho0 : Kd.R (Kd.int .u32) 88 w w0.heap.size P0_ u9000_ l0) (hr1 : ∀ W_,Kept w W_ (fun k_ => P0_ k_) → Kd.C (Kd.int .u8) W_ A1 l1.length l1) (hc1 : l1.length ≤ c1) (hr2 : ∀ W_,Kept w W_ (fun k_ => P0_ k_) → Kd.C (Kd.int .u32) W_ A2 l2.length l2) (hc2 : l2.length ≤ c2) (h : spec_l01Block.f k l0 l1 l2 = some r) :
  Calls Try.prog 66 #[u9000_,.slice A1 l1.length c1,.slice A2 l2.length c2] w fun e w' => e = .returned (.tuple #[]) ∧ Kd.R (Kd.int .u32) 88 w' w0.heap.size (fun k_ => (P0_ k_ ∨ w.heap.size ≤ k_)) u9000_ r ∧ Below w0.heap.size w0 w' ∧ Kept w w' (fun k_ => P0_ k_) := by
 unfold spec_l01Block.f at h
 by_cases c : l0.length = 8 ∧ l1.length = 64 ∧ l2.length = 64
 ·have hv : spec_l01Block.v l0 l1 l2 = some r := (spec_l01Block.v_lim l0 l1 l2).up k r h
  obtain ⟨h0,h1,h2⟩ := c
  obtain ⟨g0,c0,rfl,-,-,-⟩ := Kd.R_form ho0 (by omega)
  obtain ⟨ad1,rfl,-⟩ := C_cells (hr1 w (Kept.refl w _)) (by omega)
  obtain ⟨ad2,rfl,-⟩ := C_cells (hr2 w (Kept.refl w _)) (by omega)
  have k1 : ∀ W,Kept w W P0_ → ∀ j,j < 64 → W.cell? (ad1.add j) = some (.int .u8 (l1.getD j 0)) := fun W hk j hj => by
   obtain ⟨ad,e,hc⟩ := C_cells (hr1 W hk) (by omega)
   injection e with e
   subst e
   exact hc j (by omega)
  have k2 : ∀ W,Kept w W P0_ → ∀ j,j < 64 → W.cell? (ad2.add j) = some (.int .u32 (l2.getD j 0)) := fun W hk j hj => by
   obtain ⟨ad,e,hc⟩ := C_cells (hr2 W hk) (by omega)
   injection e with e
   subst e
   exact hc j (by omega)
  rw [h0] at ho0 ⊢
  rw [h1] at hc1 ⊢
  rw [h2] at hc2 ⊢
  exact (sblock_walk P0_ g0 c0 l0 l1 l2 r ad1 ad2 c1 c2 w0 w hB ho0 k1 k2 h0 h1 h2 hc1 hc2 hv).mono fun e w' ⟨he,hr,hb,hk⟩ => ⟨he,Kd.R_mono hr (fun k_ hk_ => .inl hk_),hb,hk⟩
 ·rw [if_neg c] at h
  cases h
set_option maxHeartbeats 8000000 in
set_option maxRecDepth 100000 in
theorem spec_l01Consts.calls  (r : List Int) (w : World) (h : spec_l01Consts.f  = some r) :
  Calls Try.prog 65 #[] w fun e w' => ∃ v0_ : Value,e = .returned (v0_) ∧ Kd.R (Kd.int .u32) 88 w' w.heap.size (fun _ => True) v0_ r ∧ Below w.heap.size w w' := by
 have HB := am_ (Below.refl w.heap.size w)
 have H : (some (([1116352408,1899447441,3049323471,3921009573,961987163,1508970993,2453635748,2870763221,3624381080,310598401,607225278,1426881987,1925078388,2162078206,2614888103,3248222580,3835390401,4022224774,264347078,604807628,770255983,1249150122,1555081692,1996064986,2554220882,2821834349,2952996808,3210313671,3336571891,3584528711,113926993,338241895,666307205,773529912,1294757372,1396182291,1695183700,1986661051,2177026350,2456956037,2730485921,2820302411,3259730800,3345764771,3516065817,3600352804,4094571909,275423344,430227734,506948616,659060556,883997877,958139571,1322822218,1537002063,1747873779,1955562222,2024104815,2227730452,2361852424,2428436474,2756734187,3204031479,3329325298] : List Int))) = some r := h
 clear h
 obtain ⟨y143,hy143⟩ : ∃ y_ : List Int,y_ = (([1116352408,1899447441,3049323471,3921009573,961987163,1508970993,2453635748,2870763221,3624381080,310598401,607225278,1426881987,1925078388,2162078206,2614888103,3248222580,3835390401,4022224774,264347078,604807628,770255983,1249150122,1555081692,1996064986,2554220882,2821834349,2952996808,3210313671,3336571891,3584528711,113926993,338241895,666307205,773529912,1294757372,1396182291,1695183700,1986661051,2177026350,2456956037,2730485921,2820302411,3259730800,3345764771,3516065817,3600352804,4094571909,275423344,430227734,506948616,659060556,883997877,958139571,1322822218,1537002063,1747873779,1955562222,2024104815,2227730452,2361852424,2428436474,2756734187,3204031479,3329325298] : List Int)) := ⟨_,rfl⟩
 replace H : (some y143) = some r := by first | (rw [hy143];with_reducible exact H) | (have H2_ := (Option.bind_some _ _).symm.trans H;rw [hy143];with_reducible exact H2_) | (have H2_ := (Option.bind_some _ _).symm.trans H;with_reducible exact H2_) | with_reducible exact H | (rw [hy143];exact H) | exact H
 have Ny143 := am_ hy143
 clear hy143
 obtain rfl := Option.some.inj H
 go_enter Try.func65,Try.ntmps65
 go_wp2_with (first | ((with_reducible refine gate_dst (N := 1) rfl ?_);refine Kd.R_lit (Kd.int .u32) _ 88 ?hg (N := 1) ?hd (xs := ([1116352408,1899447441,3049323471,3921009573,961987163,1508970993,2453635748,2870763221,3624381080,310598401,607225278,1426881987,1925078388,2162078206,2614888103,3248222580,3835390401,4022224774,264347078,604807628,770255983,1249150122,1555081692,1996064986,2554220882,2821834349,2952996808,3210313671,3336571891,3584528711,113926993,338241895,666307205,773529912,1294757372,1396182291,1695183700,1986661051,2177026350,2456956037,2730485921,2820302411,3259730800,3345764771,3516065817,3600352804,4094571909,275423344,430227734,506948616,659060556,883997877,958139571,1322822218,1537002063,1747873779,1955562222,2024104815,2227730452,2361852424,2428436474,2756734187,3204031479,3329325298] : List Int)) (inner := [.int .u32 1116352408,.int .u32 1899447441,.int .u32 3049323471,.int .u32 3921009573,.int .u32 961987163,.int .u32 1508970993,.int .u32 2453635748,.int .u32 2870763221,.int .u32 3624381080,.int .u32 310598401,.int .u32 607225278,.int .u32 1426881987,.int .u32 1925078388,.int .u32 2162078206,.int .u32 2614888103,.int .u32 3248222580,.int .u32 3835390401,.int .u32 4022224774,.int .u32 264347078,.int .u32 604807628,.int .u32 770255983,.int .u32 1249150122,.int .u32 1555081692,.int .u32 1996064986,.int .u32 2554220882,.int .u32 2821834349,.int .u32 2952996808,.int .u32 3210313671,.int .u32 3336571891,.int .u32 3584528711,.int .u32 113926993,.int .u32 338241895,.int .u32 666307205,.int .u32 773529912,.int .u32 1294757372,.int .u32 1396182291,.int .u32 1695183700,.int .u32 1986661051,.int .u32 2177026350,.int .u32 2456956037,.int .u32 2730485921,.int .u32 2820302411,.int .u32 3259730800,.int .u32 3345764771,.int .u32 3516065817,.int .u32 3600352804,.int .u32 4094571909,.int .u32 275423344,.int .u32 430227734,.int .u32 506948616,.int .u32 659060556,.int .u32 883997877,.int .u32 958139571,.int .u32 1322822218,.int .u32 1537002063,.int .u32 1747873779,.int .u32 1955562222,.int .u32 2024104815,.int .u32 2227730452,.int .u32 2361852424,.int .u32 2428436474,.int .u32 2756734187,.int .u32 3204031479,.int .u32 3329325298]) (ok := fun _ => True) (okp := fun _ => True) ?hr ?hp (fun _ hk => hk) trivial (Below.refl _ _) (Nat.le_refl _) (by simp) ?_;(case hd => rfl);(case hg => rfl);(case hr => first | (go_simp;done) | (go_simp;rfl));(case hp => exact (Reps.one (show Kd.M (Kd.int .u32) _ _ _ 1116352408 [.int .u32 1116352408] from rfl) (Reps.one (show Kd.M (Kd.int .u32) _ _ _ 1899447441 [.int .u32 1899447441] from rfl) (Reps.one (show Kd.M (Kd.int .u32) _ _ _ 3049323471 [.int .u32 3049323471] from rfl) (Reps.one (show Kd.M (Kd.int .u32) _ _ _ 3921009573 [.int .u32 3921009573] from rfl) (Reps.one (show Kd.M (Kd.int .u32) _ _ _ 961987163 [.int .u32 961987163] from rfl) (Reps.one (show Kd.M (Kd.int .u32) _ _ _ 1508970993 [.int .u32 1508970993] from rfl) (Reps.one (show Kd.M (Kd.int .u32) _ _ _ 2453635748 [.int .u32 2453635748] from rfl) (Reps.one (show Kd.M (Kd.int .u32) _ _ _ 2870763221 [.int .u32 2870763221] from rfl) (Reps.one (show Kd.M (Kd.int .u32) _ _ _ 3624381080 [.int .u32 3624381080] from rfl) (Reps.one (show Kd.M (Kd.int .u32) _ _ _ 310598401 [.int .u32 310598401] from rfl) (Reps.one (show Kd.M (Kd.int .u32) _ _ _ 607225278 [.int .u32 607225278] from rfl) (Reps.one (show Kd.M (Kd.int .u32) _ _ _ 1426881987 [.int .u32 1426881987] from rfl) (Reps.one (show Kd.M (Kd.int .u32) _ _ _ 1925078388 [.int .u32 1925078388] from rfl) (Reps.one (show Kd.M (Kd.int .u32) _ _ _ 2162078206 [.int .u32 2162078206] from rfl) (Reps.one (show Kd.M (Kd.int .u32) _ _ _ 2614888103 [.int .u32 2614888103] from rfl) (Reps.one (show Kd.M (Kd.int .u32) _ _ _ 3248222580 [.int .u32 3248222580] from rfl) (Reps.one (show Kd.M (Kd.int .u32) _ _ _ 3835390401 [.int .u32 3835390401] from rfl) (Reps.one (show Kd.M (Kd.int .u32) _ _ _ 4022224774 [.int .u32 4022224774] from rfl) (Reps.one (show Kd.M (Kd.int .u32) _ _ _ 264347078 [.int .u32 264347078] from rfl) (Reps.one (show Kd.M (Kd.int .u32) _ _ _ 604807628 [.int .u32 604807628] from rfl) (Reps.one (show Kd.M (Kd.int .u32) _ _ _ 770255983 [.int .u32 770255983] from rfl) (Reps.one (show Kd.M (Kd.int .u32) _ _ _ 1249150122 [.int .u32 1249150122] from rfl) (Reps.one (show Kd.M (Kd.int .u32) _ _ _ 1555081692 [.int .u32 1555081692] from rfl) (Reps.one (show Kd.M (Kd.int .u32) _ _ _ 1996064986 [.int .u32 1996064986] from rfl) (Reps.one (show Kd.M (Kd.int .u32) _ _ _ 2554220882 [.int .u32 2554220882] from rfl) (Reps.one (show Kd.M (Kd.int .u32) _ _ _ 2821834349 [.int .u32 2821834349] from rfl) (Reps.one (show Kd.M (Kd.int .u32) _ _ _ 2952996808 [.int .u32 2952996808] from rfl) (Reps.one (show Kd.M (Kd.int .u32) _ _ _ 3210313671 [.int .u32 3210313671] from rfl) (Reps.one (show Kd.M (Kd.int .u32) _ _ _ 3336571891 [.int .u32 3336571891] from rfl) (Reps.one (show Kd.M (Kd.int .u32) _ _ _ 3584528711 [.int .u32 3584528711] from rfl) (Reps.one (show Kd.M (Kd.int .u32) _ _ _ 113926993 [.int .u32 113926993] from rfl) (Reps.one (show Kd.M (Kd.int .u32) _ _ _ 338241895 [.int .u32 338241895] from rfl) (Reps.one (show Kd.M (Kd.int .u32) _ _ _ 666307205 [.int .u32 666307205] from rfl) (Reps.one (show Kd.M (Kd.int .u32) _ _ _ 773529912 [.int .u32 773529912] from rfl) (Reps.one (show Kd.M (Kd.int .u32) _ _ _ 1294757372 [.int .u32 1294757372] from rfl) (Reps.one (show Kd.M (Kd.int .u32) _ _ _ 1396182291 [.int .u32 1396182291] from rfl) (Reps.one (show Kd.M (Kd.int .u32) _ _ _ 1695183700 [.int .u32 1695183700] from rfl) (Reps.one (show Kd.M (Kd.int .u32) _ _ _ 1986661051 [.int .u32 1986661051] from rfl) (Reps.one (show Kd.M (Kd.int .u32) _ _ _ 2177026350 [.int .u32 2177026350] from rfl) (Reps.one (show Kd.M (Kd.int .u32) _ _ _ 2456956037 [.int .u32 2456956037] from rfl) (Reps.one (show Kd.M (Kd.int .u32) _ _ _ 2730485921 [.int .u32 2730485921] from rfl) (Reps.one (show Kd.M (Kd.int .u32) _ _ _ 2820302411 [.int .u32 2820302411] from rfl) (Reps.one (show Kd.M (Kd.int .u32) _ _ _ 3259730800 [.int .u32 3259730800] from rfl) (Reps.one (show Kd.M (Kd.int .u32) _ _ _ 3345764771 [.int .u32 3345764771] from rfl) (Reps.one (show Kd.M (Kd.int .u32) _ _ _ 3516065817 [.int .u32 3516065817] from rfl) (Reps.one (show Kd.M (Kd.int .u32) _ _ _ 3600352804 [.int .u32 3600352804] from rfl) (Reps.one (show Kd.M (Kd.int .u32) _ _ _ 4094571909 [.int .u32 4094571909] from rfl) (Reps.one (show Kd.M (Kd.int .u32) _ _ _ 275423344 [.int .u32 275423344] from rfl) (Reps.one (show Kd.M (Kd.int .u32) _ _ _ 430227734 [.int .u32 430227734] from rfl) (Reps.one (show Kd.M (Kd.int .u32) _ _ _ 506948616 [.int .u32 506948616] from rfl) (Reps.one (show Kd.M (Kd.int .u32) _ _ _ 659060556 [.int .u32 659060556] from rfl) (Reps.one (show Kd.M (Kd.int .u32) _ _ _ 883997877 [.int .u32 883997877] from rfl) (Reps.one (show Kd.M (Kd.int .u32) _ _ _ 958139571 [.int .u32 958139571] from rfl) (Reps.one (show Kd.M (Kd.int .u32) _ _ _ 1322822218 [.int .u32 1322822218] from rfl) (Reps.one (show Kd.M (Kd.int .u32) _ _ _ 1537002063 [.int .u32 1537002063] from rfl) (Reps.one (show Kd.M (Kd.int .u32) _ _ _ 1747873779 [.int .u32 1747873779] from rfl) (Reps.one (show Kd.M (Kd.int .u32) _ _ _ 1955562222 [.int .u32 1955562222] from rfl) (Reps.one (show Kd.M (Kd.int .u32) _ _ _ 2024104815 [.int .u32 2024104815] from rfl) (Reps.one (show Kd.M (Kd.int .u32) _ _ _ 2227730452 [.int .u32 2227730452] from rfl) (Reps.one (show Kd.M (Kd.int .u32) _ _ _ 2361852424 [.int .u32 2361852424] from rfl) (Reps.one (show Kd.M (Kd.int .u32) _ _ _ 2428436474 [.int .u32 2428436474] from rfl) (Reps.one (show Kd.M (Kd.int .u32) _ _ _ 2756734187 [.int .u32 2756734187] from rfl) (Reps.one (show Kd.M (Kd.int .u32) _ _ _ 3204031479 [.int .u32 3204031479] from rfl) (Reps.one (show Kd.M (Kd.int .u32) _ _ _ 3329325298 [.int .u32 3329325298] from rfl) (Reps.none _ _))))))))))))))))))))))))))))))))))))))))))))))))))))))))))))))))));intro v144 w1 ho2 hb hg_ hnew_;clear hg_ hnew_;(first | rw [← Ny143.out] at ho2 | (simp only [Int.reduceToNat] at ho2;rw [← Ny143.out] at ho2));have HO145 := am_ (Kd.R_lower ho2 (below_size (zl_ HB)));replace HB := zs_ HB hb;clear hb ho2))
 go_ret
 exact ⟨_,zt_,by (with_reducible repeat (first | apply r1_ | apply r2_ | apply r3_));exact HO145.out,zl_ HB⟩
def spec_l01Hash.T18 : Bool × List (List Nat × List Nat) := (true,[([],[]),([],[]),([],[]),([1,2],[1,2]),([3],[3]),([4],[4]),([5],[5]),([],[]),([],[]),([7,8],[7,8]),([9],[9]),([10],[10]),([11],[11]),([],[]),([],[]),([13,14],[13,14]),([15],[15]),([16],[16]),([17],[17]),([],[]),([],[]),([19,20],[19,20]),([21],[21]),([22],[22]),([6,12,18,23],[6,12,18,23]),([0,24],[0,24]),([25,25,0,1,2,3,4,5,6,7,8,9,10,11,12,13,14,15,16,17,18,19,20,21,22,23,24,25],[0,25])])
def spec_l01Hash.B18 : List Nat := [0,0,0,6,14,30,62,0,0,384,896,1920,3968,0,0,24576,57344,122880,253952,0,0,1572864,3670016,7864320,16777214,33554431,67108863]
theorem spec_l01Hash.tab18 : rtab .any (opsOf Try.f46 18) = spec_l01Hash.T18 := by kernel_rfl
theorem spec_l01Hash.bits18 : waitsOk spec_l01Hash.T18.2 spec_l01Hash.B18 = true := by kernel_rfl
set_option maxHeartbeats 8000000 in
set_option maxRecDepth 100000 in
theorem spec_l01Hash.calls (k : Nat) (A0 : Option Addr) (c0 : Nat) (l0 : List Int) (r : ByteArray) (w : World) (hr0 : Kd.C (Kd.int .u8) w A0 l0.length l0) (hc0 : l0.length ≤ c0) (h : spec_l01Hash.f k l0 = some r) :
  Calls Try.prog 46 #[.slice A0 l0.length c0] w fun e w' => e = .returned (.string r) ∧ Below w.heap.size w w' := by
 have HR0 := am_ hr0
 have HC0 := am_ hc0
 clear hr0 hc0
 have HB := am_ (Below.refl w.heap.size w)
 have H : ((some (([] : List Int) : List Int)).bind fun y202 => (if y202.length + l0.length < 140737488355328 then ((some (y202 ++ l0 : List Int)).bind fun y205 => (if y205.length < 140737488355328 then (spec_l01Hash.l0 k l0 (([1779033703,3144134277,1013904242,2773480762,1359893119,2600822924,528734635,1541459225] : List Int)) (y205 ++ [128])) else (none))) else (none))) = some r := h
 clear h
 obtain ⟨y199,hy199⟩ : ∃ y_ : List Int,y_ = (([1779033703,3144134277,1013904242,2773480762,1359893119,2600822924,528734635,1541459225] : List Int)) := ⟨_,rfl⟩
 replace H : ((some (([] : List Int) : List Int)).bind fun y202 => (if y202.length + l0.length < 140737488355328 then ((some (y202 ++ l0 : List Int)).bind fun y205 => (if y205.length < 140737488355328 then (spec_l01Hash.l0 k l0 y199 (y205 ++ [128])) else (none))) else (none))) = some r := by first | (rw [hy199];with_reducible exact H) | (have H2_ := (Option.bind_some _ _).symm.trans H;rw [hy199];with_reducible exact H2_) | (have H2_ := (Option.bind_some _ _).symm.trans H;with_reducible exact H2_) | with_reducible exact H | (rw [hy199];exact H) | exact H
 have Ny199 := am_ hy199
 clear hy199
 obtain ⟨y202,hy202⟩ : ∃ y_ : List Int,y_ = (([] : List Int)) := ⟨_,rfl⟩
 replace H : (if y202.length + l0.length < 140737488355328 then ((some (y202 ++ l0 : List Int)).bind fun y205 => (if y205.length < 140737488355328 then (spec_l01Hash.l0 k l0 y199 (y205 ++ [128])) else (none))) else (none)) = some r := by first | (rw [hy202];with_reducible exact H) | (have H2_ := (Option.bind_some _ _).symm.trans H;rw [hy202];with_reducible exact H2_) | (have H2_ := (Option.bind_some _ _).symm.trans H;with_reducible exact H2_) | with_reducible exact H | (rw [hy202];exact H) | exact H
 have Ny202 := am_ hy202
 clear hy202
 by_cases c2 : y202.length + l0.length < 140737488355328
 ·rw [if_pos c2] at H
  have LMc2 := am_ c2
  clear c2
  obtain ⟨y205,hy205⟩ : ∃ y_ : List Int,y_ = (y202 ++ l0) := ⟨_,rfl⟩
  replace H : (if y205.length < 140737488355328 then (spec_l01Hash.l0 k l0 y199 (y205 ++ [128])) else (none)) = some r := by first | (rw [hy205];with_reducible exact H) | (have H2_ := (Option.bind_some _ _).symm.trans H;rw [hy205];with_reducible exact H2_) | (have H2_ := (Option.bind_some _ _).symm.trans H;with_reducible exact H2_) | with_reducible exact H | (rw [hy205];exact H) | exact H
  have Ny205 := am_ hy205
  clear hy205
  by_cases c3 : y205.length < 140737488355328
  ·rw [if_pos c3] at H
   have LMc3 := am_ c3
   clear c3
   obtain ⟨y208,hy208⟩ : ∃ y_ : List Int,y_ = (y205 ++ [128]) := ⟨_,rfl⟩
   replace H : (spec_l01Hash.l0 k l0 y199 y208) = some r := by first | (rw [hy208];with_reducible exact H) | (have H2_ := (Option.bind_some _ _).symm.trans H;rw [hy208];with_reducible exact H2_) | (have H2_ := (Option.bind_some _ _).symm.trans H;with_reducible exact H2_) | with_reducible exact H | (rw [hy208];exact H) | exact H
   have Ny208 := am_ hy208
   clear hy208
   have H' := am_ H
   clear H
   go_enter Try.func46,Try.ntmps46
   go_wp2_with (first | ((with_reducible refine gate_dst (N := 10) rfl ?_);refine Kd.R_lit (Kd.int .u32) _ 88 ?hg (N := 10) ?hd (xs := ([1779033703,3144134277,1013904242,2773480762,1359893119,2600822924,528734635,1541459225] : List Int)) (inner := [.int .u32 1779033703,.int .u32 3144134277,.int .u32 1013904242,.int .u32 2773480762,.int .u32 1359893119,.int .u32 2600822924,.int .u32 528734635,.int .u32 1541459225]) (ok := fun _ => True) (okp := fun _ => True) ?hr ?hp (fun _ hk => hk) trivial (Below.refl _ _) (Nat.le_refl _) (by simp) ?_;(case hd => rfl);(case hg => rfl);(case hr => first | (go_simp;done) | (go_simp;rfl));(case hp => exact (Reps.one (show Kd.M (Kd.int .u32) _ _ _ 1779033703 [.int .u32 1779033703] from rfl) (Reps.one (show Kd.M (Kd.int .u32) _ _ _ 3144134277 [.int .u32 3144134277] from rfl) (Reps.one (show Kd.M (Kd.int .u32) _ _ _ 1013904242 [.int .u32 1013904242] from rfl) (Reps.one (show Kd.M (Kd.int .u32) _ _ _ 2773480762 [.int .u32 2773480762] from rfl) (Reps.one (show Kd.M (Kd.int .u32) _ _ _ 1359893119 [.int .u32 1359893119] from rfl) (Reps.one (show Kd.M (Kd.int .u32) _ _ _ 2600822924 [.int .u32 2600822924] from rfl) (Reps.one (show Kd.M (Kd.int .u32) _ _ _ 528734635 [.int .u32 528734635] from rfl) (Reps.one (show Kd.M (Kd.int .u32) _ _ _ 1541459225 [.int .u32 1541459225] from rfl) (Reps.none _ _))))))))));intro v200 w4 ho5 hb hg_ hnew_;clear hg_ hnew_;(first | rw [← Ny199.out] at ho5 | (simp only [Int.reduceToNat] at ho5;rw [← Ny199.out] at ho5));have HO201 := am_ (Kd.R_lower ho5 (below_size (zl_ HB)));replace HB := zs_ HB hb;clear hb ho5) | ((with_reducible refine gate_dst (N := 11) rfl ?_);refine Kd.R_lit (Kd.int .u8) _ 5 ?hg (N := 11) ?hd (xs := ([] : List Int)) (inner := []) (ok := fun _ => True) (okp := fun _ => True) ?hr ?hp (fun _ hk => hk) trivial (Below.refl _ _) (Nat.le_refl _) (by simp) ?_;(case hd => rfl);(case hg => rfl);(case hr => first | (go_simp;done) | (go_simp;rfl));(case hp => exact (Reps.none _ _));intro v203 w6 ho7 hb hg_ hnew_;clear hg_ hnew_;(first | rw [← Ny202.out] at ho7 | (simp only [Int.reduceToNat] at ho7;rw [← Ny202.out] at ho7));replace HO201 := zrb HO201 hb;have HO204 := am_ (Kd.R_lower ho7 (below_size (zl_ HB)));replace HB := zs_ HB hb;clear hb ho7) | ((with_reducible refine gate_builtin (b := .append) (xs := #[.tmp 11,.tmp 12]) rfl ?_);at_builtin;refine Kd.R_append_rows (Kd.int .u8) (w0 := w) w.heap.size rfl (.tmp 11) (.tmp 12) 22 5 (.int .u8 0) 1 rfl Try.underlying22 info5 rfl (by decide) (by omega) v203 y202 l0 _ _ _ (fun _ => True) (fun _ => False) rfl rfl ?aO ?aR (fun _ _ h => h) (fun _ h => h.elim) ?aF ?aB ?aS ?aL ?_;(case aR => repeat (first | exact (Kd.C_below HR0.out HB.out) | (with_reducible refine Kd.C_alloc ?_ _) | (with_reducible refine Kd.C_drewN ?_ _) | (with_reducible refine Kd.C_drew ?_)));(case aB => exact (zl_ HB));(case aF => exact (fun _ _ => trivial));(case aO => exact (zr HO204));(case aS => exact (below_size (zl_ HB)));(case aL => have := LMc2.out;omega);intro v206 w8 ho hb hg hat;rw [← Ny205.out] at ho;replace HO201 := am_ (Kd.R_over' (zr HO201) (Kd.R_typed (zr HO204)) (by decide) hg);replace HB := am_ (hb);have HO207 := am_ (ho);clear HO204;clear ho hb hg hat) | ((with_reducible refine gate_builtin (b := .append) (xs := #[.tmp 13,.tmp 14]) rfl ?_);at_builtin;refine Kd.R_append (Kd.int .u8) (w0 := w) w.heap.size rfl (.tmp 13) (.tmp 14) 22 5 (.int .u8 0) 1 rfl Try.underlying22 info5 rfl (by decide) (by omega) v206 y205 128 [.int .u8 128] (fun _ => True) (fun _ => False) rfl rfl ?aP (fun _ hk => hk.elim) ?aF ?aO ?aB ?aS ?aL ?_;(case aP => exact rfl);(case aB => exact (zl_ HB));(case aF => exact (fun _ _ => trivial));(case aO => exact (zr HO207));(case aS => exact (below_size (zl_ HB)));(case aL => have := LMc3.out;omega);intro v209 w9 ho hb hg hat;rw [← Ny208.out] at ho;replace HO201 := am_ (Kd.R_over' (zr HO201) (Kd.R_typed (zr HO207)) (by decide) hg);replace HB := am_ (hb);have HO210 := am_ (ho);clear HO207;clear ho hb hg hat))
   go_loopg [4] k (fun kq v4 w' => ∃ (x4_1 : List Int),Aside0 (spec_l01Hash.l0 kq l0 y199 x4_1 = some r) ∧ Aside0 (kq ≤ k) ∧ Aside0 (Kd.R (Kd.int .u32) 88 w' w.heap.size (fun _ => True) v200 y199) ∧ Aside0 (Kd.R (Kd.int .u8) 5 w' w.heap.size (fun _ => True) v4 x4_1) ∧ Aside0 (Below w.heap.size w w'))
   case atStart => exact ⟨(y208),H',⟨Nat.le_refl _⟩,⟨by (with_reducible repeat (first | apply r1_ | apply r2_ | apply r3_));exact HO201.out⟩,⟨by (with_reducible repeat (first | apply r1_ | apply r2_ | apply r3_));exact HO210.out⟩,⟨zl_ HB⟩⟩
   case round =>
    clear H'
    try clear c2
    try clear p2
    try clear c3
    try clear c4
    obtain ⟨x4_1,HA,HK1,HO_3,HO_4,HB⟩ := hrel
    cases gk with
    | zero => exact absurd HA.out (by simp [spec_l01Hash.l0])
    | succ k1 =>
     have H := HA.out
     clear HA
     simp only [spec_l01Hash.l0] at H
     by_cases c10 : ((x4_1.length : Int) % 64) = 56
     ·rw [if_pos c10] at H
      have c10b0 : (((x4_1.length : Int) % 64) == 56) = true := beq_iff_eq.mpr c10
      have c10b1 : (((x4_1.length : Int) % 64) != 56) = false := bne_eq_false_iff_eq.mpr c10
      clear c10
      have H' := am_ H
      clear H
      obtain ⟨Ao11,co11,eo11⟩ := Kd.R_slice HO_4.out
      subst eo11
      go_wp2
      go_loopg [4,5] k1 (fun kq v4 v5 w' => ∃ (x4_2 : List Int) (x5_2 : Int),v5 = .int .i64 x5_2 ∧ Aside0 (spec_l01Hash.l1 kq l0 y199 x4_2 x5_2 = some r) ∧ Aside0 (kq ≤ k1) ∧ Aside0 (Kd.R (Kd.int .u32) 88 w' w.heap.size (fun _ => True) v200 y199) ∧ Aside0 (Kd.R (Kd.int .u8) 5 w' w.heap.size (fun _ => True) v4 x4_2) ∧ Aside0 (Below w.heap.size w w'))
      case atStart => exact ⟨(x4_1),(7),(by first | rfl | (simp;done) | (simp [*];done)),H',⟨Nat.le_refl _⟩,⟨by (with_reducible repeat (first | apply r1_ | apply r2_ | apply r3_));exact HO_3.out⟩,⟨by (with_reducible repeat (first | apply r1_ | apply r2_ | apply r3_));exact HO_4.out⟩,⟨zl_ HB⟩⟩
      case round =>
       clear H'
       try clear c1
       try clear c2
       try clear p2
       try clear c3
       try clear c4
       try clear c10
       try clear c10b0
       try clear c10b1
       try clear p2
       obtain ⟨x4_2,x5_2,rfl,HA,HK2,HO_3,HO_4,HB⟩ := hrel
       cases gk with
       | zero => exact absurd HA.out (by simp [spec_l01Hash.l1])
       | succ k2 =>
        have H := HA.out
        clear HA
        simp only [spec_l01Hash.l1] at H
        by_cases c12 : x5_2 ≥ 0
        ·rw [if_pos c12] at H
         have c12b0 : decide (0 ≤ x5_2) = true := decide_eq_true c12
         clear c12
         obtain ⟨ji13,hji13⟩ : ∃ j_ : Int,(IntKind.u64.wrap (wrap64 (8 * x5_2))) = j_ := ⟨_,rfl⟩
         replace H : (if 0 ≤ (ji13) then (if x4_2.length < 140737488355328 then (spec_l01Hash.l1 k2 l0 y199 (x4_2 ++ [(shr .i64 (wrap64 (8 * (l0.length : Int))) (ji13)) % 256]) (wrap64 (x5_2 - 1))) else (none)) else (none)) = some r := by first | (rw [hji13] at H;exact H) | (simp only [hji13] at H ⊢;exact H)
         by_cases c14 : 0 ≤ (ji13)
         ·rw [if_pos c14] at H
          have c14b0 := eq_true c14
          have c14b1 : decide (0 ≤ (ji13)) = true := decide_eq_true c14
          clear c14
          obtain ⟨ji15,hji15⟩ : ∃ j_ : Int,(shr .i64 (wrap64 (8 * (l0.length : Int))) (ji13)) = j_ := ⟨_,rfl⟩
          replace H : (if x4_2.length < 140737488355328 then (spec_l01Hash.l1 k2 l0 y199 (x4_2 ++ [(ji15) % 256]) (wrap64 (x5_2 - 1))) else (none)) = some r := by first | (rw [hji15] at H;exact H) | (simp only [hji15] at H ⊢;exact H)
          have hji15_ : ((wrap64 (8 * (l0.length : Int))) / 2 ^ min (ji13).toNat 64) = ji15 := hji15
          have hji15z : (ji13) ≤ 64 → ((wrap64 (8 * (l0.length : Int))) / 2 ^ (ji13).toNat) = ji15 := shr_small hji15
          by_cases c16 : x4_2.length < 140737488355328
          ·rw [if_pos c16] at H
           have LMc16 := am_ c16
           clear c16
           obtain ⟨y214,hy214⟩ : ∃ y_ : List Int,y_ = (x4_2 ++ [(ji15) % 256]) := ⟨_,rfl⟩
           replace H : (spec_l01Hash.l1 k2 l0 y199 y214 (wrap64 (x5_2 - 1))) = some r := by first | (rw [hy214];with_reducible exact H) | (have H2_ := (Option.bind_some _ _).symm.trans H;rw [hy214];with_reducible exact H2_) | (have H2_ := (Option.bind_some _ _).symm.trans H;with_reducible exact H2_) | with_reducible exact H | (rw [hy214];exact H) | exact H
           have Ny214 := am_ hy214
           clear hy214
           have H' := am_ H
           clear H
           go_wp2_with (first | ((with_reducible refine gate_builtin (b := .append) (xs := #[.tmp 27,.tmp 36]) rfl ?_);at_builtin;refine Kd.R_append (Kd.int .u8) (w0 := w) w.heap.size rfl (.tmp 27) (.tmp 36) 22 5 (.int .u8 0) 1 rfl Try.underlying22 info5 rfl (by decide) (by omega) u4 x4_2 ((ji15) % 256) [.int .u8 ((ji15) % 256)] (fun _ => True) (fun _ => False) rfl rfl ?aP (fun _ hk => hk.elim) ?aF ?aO ?aB ?aS ?aL ?_;(case aP => exact rfl);(case aB => exact (zl_ HB));(case aF => exact (fun _ _ => trivial));(case aO => exact (zr HO_4));(case aS => exact (below_size (zl_ HB)));(case aL => have := LMc16.out;omega);intro v215 w17 ho hb hg hat;rw [← Ny214.out] at ho;replace HO_3 := am_ (Kd.R_over' (zr HO_3) (Kd.R_typed (zr HO_4)) (by decide) hg);replace HB := am_ (hb);have HO216 := am_ (ho);clear HO_4;clear ho hb hg hat))
           go_roundg k2
           case measure => have := HK1.out;have := HK2.out;omega
           case rel => exact ⟨(y214),(wrap64 (x5_2 - 1)),(by first | rfl | (simp;done) | (simp [*];done)),H',⟨by have := HK1.out;have := HK2.out;omega⟩,⟨by (with_reducible repeat (first | apply r1_ | apply r2_ | apply r3_));exact HO_3.out⟩,⟨by (with_reducible repeat (first | apply r1_ | apply r2_ | apply r3_));exact HO216.out⟩,⟨zl_ HB⟩⟩
          ·rw [if_neg c16] at H
           exact absurd H (by simp)
         ·rw [if_neg c14] at H
          exact absurd H (by simp)
        ·rw [if_neg c12] at H
         have c12b0 : decide (0 ≤ x5_2) = false := decide_eq_false c12
         clear c12
         replace H := Option.bind_eq_some_iff.mp H
         obtain ⟨t217,A180,H⟩ := H
         try dsimp only at H
         have A18 := am_ A180
         clear A180
         have H' := am_ H
         clear H
         go_wp2_with (first | ((with_reducible refine gate_callee (f := 65) rfl ?_);refine zgl (some 38) Try.func65 #[] ?_;(with_reducible refine (spec_l01Consts.calls  t217 _ A18.out).mono ?_);rintro e w19 ⟨v218,rfl,ho0,hb⟩;refine ⟨_,rfl,?_⟩;replace HO_4 := zrb HO_4 hb;have HO219 := am_ (Kd.R_lower (Kd.R_new' ho0 (Kd.R_lt (zr HO_3))) (below_size (zl_ HB)));replace HO_3 := am_ (Kd.R_elder' (zr HO_3) (Kd.R_base ho0) hb);replace HB := zs_ HB hb;(try clear hb);(try clear hb2);(try clear hk);(try clear hi);(try clear ho0)))
         go_loopg [7] k2 (fun kq v7 w' => ∃ (x3_3 : List Int) (x7_3 : Int),v7 = .int .i64 x7_3 ∧ Aside0 (spec_l01Hash.l2 kq x3_3 x4_2 t217 x7_3 = some r) ∧ Aside0 (kq ≤ k2) ∧ Aside0 (Kd.R (Kd.int .u32) 88 w' w.heap.size (fun k_ => some k_ ≠ (v218 : Value).ownBlock) v200 x3_3) ∧ Aside0 (Kd.R (Kd.int .u8) 5 w' w.heap.size (fun _ => True) u4 x4_2) ∧ Aside0 (Kd.R (Kd.int .u32) 88 w' w.heap.size (fun k_ => some k_ ≠ (v200 : Value).ownBlock) v218 t217) ∧ Aside0 (Below w.heap.size w w'))
         case atStart => exact ⟨(y199),(0),(by first | rfl | (simp;done) | (simp [*];done)),H',⟨Nat.le_refl _⟩,⟨by (with_reducible repeat (first | apply r1_ | apply r2_ | apply r3_));exact Kd.R_mono HO_3.out (fun _ hk => hk.2)⟩,⟨by (with_reducible repeat (first | apply r1_ | apply r2_ | apply r3_));exact HO_4.out⟩,⟨by (with_reducible repeat (first | apply r1_ | apply r2_ | apply r3_));exact Kd.R_mono HO219.out (fun _ hk => hk.2)⟩,⟨zl_ HB⟩⟩
         case round =>
          clear H'
          try clear c1
          try clear c2
          try clear p2
          try clear c3
          try clear c4
          try clear c6
          try clear p6
          try clear c10
          try clear c10b0
          try clear c10b1
          try clear c12
          try clear c12b0
          try clear c14
          try clear c14b0
          try clear c14b1
          try clear c16
          try clear p2
          obtain ⟨x3_3,x7_3,rfl,HA,HK3,HO_3,HO_4,HO_6,HB⟩ := hrel
          cases gk with
          | zero => exact absurd HA.out (by simp [spec_l01Hash.l2])
          | succ k3 =>
           have H := HA.out
           clear HA
           simp only [spec_l01Hash.l2] at H
           by_cases c20 : x7_3 < (x4_2.length : Int)
           ·rw [if_pos c20] at H
            obtain ⟨je_,hje_⟩ : ∃ j_ : Int,(wrap64 (x7_3 + 64)) = j_ := ⟨_,rfl⟩
            rw [hje_] at H
            have hje_w : (IntKind.i64.wrap (x7_3 + 64)) = je_ := (i64_w _).trans hje_
            clear hje_
            have c20b0 : decide (x7_3 < (x4_2.length : Int)) = true := decide_eq_true c20
            clear c20
            by_cases c21 : 0 ≤ x7_3
            ·rw [if_pos c21] at H
             have c21b0 := eq_true c21
             have c21b1 : decide (0 ≤ x7_3) = true := decide_eq_true c21
             clear c21
             by_cases c22 : x7_3 ≤ (je_)
             ·rw [if_pos c22] at H
              have c22b0 := eq_true c22
              have c22b1 : decide (x7_3 ≤ (je_)) = true := decide_eq_true c22
              by_cases c23 : (je_) ≤ (x4_2.length : Int)
              ·rw [if_pos c23] at H
               have c23b0 := eq_true c23
               have c23b1 : decide ((je_) ≤ (x4_2.length : Int)) = true := decide_eq_true c23
               obtain ⟨y220,hy220⟩ : ∃ y_ : List Int,y_ = ((x4_2.take ((je_) : Int).toNat).drop (x7_3 : Int).toNat) := ⟨_,rfl⟩
               replace H : ((spec_l01Block.f k3 x3_3 y220 t217).bind fun t224 => (spec_l01Hash.l2 k3 t224 x4_2 t217 (je_))) = some r := by first | (rw [hy220];with_reducible exact H) | (have H2_ := (Option.bind_some _ _).symm.trans H;rw [hy220];with_reducible exact H2_) | (have H2_ := (Option.bind_some _ _).symm.trans H;with_reducible exact H2_) | with_reducible exact H | (rw [hy220];exact H) | exact H
               have Ny220 := am_ hy220
               clear hy220
               replace H := Option.bind_eq_some_iff.mp H
               obtain ⟨t224,A240,H⟩ := H
               try dsimp only at H
               have A24 := am_ A240
               clear A240
               have H' := am_ H
               clear H
               obtain ⟨Ao25,co25,eo25⟩ := Kd.R_slice HO_4.out
               subst eo25
               have q26 : ((je_) : Int) ≤ ((x4_2.length : Int) : Int) := o1_ (by first | (with_reducible assumption) | assumption)
               obtain ⟨i026,hi026,_,hsz26,_⟩ := info_parts info5
               have hroom26 : x4_2.length ≤ co25 := (Kd.R_reads' HO_4.out).2.1
               have hC26 : Kd.C (Kd.int .u8) _ Ao25 x4_2.length x4_2 := (Kd.R_reads' HO_4.out).2.2
               have ql26 : (x7_3 : Int) ≤ ((je_) : Int) := o1_ (by first | (with_reducible assumption) | assumption)
               have q026 : (0 : Int) ≤ (x7_3 : Int) := o1_ (by first | (with_reducible assumption) | assumption)
               have hcut26 := cut_mid (P := Try.prog) 22 5 .i64 .i64 Try.underlying22 hi026 1 hsz26 Ao25 x4_2.length co25 x7_3 (je_) q026 ql26 q26 hroom26
               have hr26 := Kd.C_mid (lo := (x7_3 : Int).toNat) (hi := ((je_) : Int).toNat) (c := co25) hC26 (by omega) (by omega) hroom26
               obtain ⟨A26,hA26⟩ : ∃ A1,A1 = (if co25 = (x7_3 : Int).toNat then Ao25 else (Ao25 : Option Addr).map (·.add ((x7_3 : Int).toNat * 1))) := ⟨_,rfl⟩
               obtain ⟨c26,hc26⟩ : ∃ c1,c1 = co25 - (x7_3 : Int).toNat := ⟨_,rfl⟩
               have hy26 : y220.length = ((je_) : Int).toNat - (x7_3 : Int).toNat := (by rw [Ny220.out,d1_,d2_] <;> omega)
               rw [show ((x4_2).take ((je_) : Int).toNat).drop (x7_3 : Int).toNat = y220 from Ny220.out.symm] at hr26
               replace hr26 : Kd.C (Kd.int .u8) _ A26 y220.length y220 := (by rw [hA26];exact hr26)
               rw [← hy26,← hA26,← hc26] at hcut26
               have HR223 := am_ hr26
               have HC223 := am_ (show y220.length ≤ c26 from by rw [hy26,hc26];exact Nat.sub_le_sub_right (Nat.le_trans (by omega) hroom26) _)
               clear hr26 hC26 hroom26 hi026 hsz26 hc26
               have KY26 := am_ hy26
               have KA26 := am_ hA26
               clear hy26 hA26
               have KL26 := am_ (show ((je_) : Int).toNat ≤ x4_2.length from by omega)
               have KM26 := am_ (show (x7_3 : Int).toNat ≤ ((je_) : Int).toNat from by omega)
               replace q26 := eq_true q26
               obtain ⟨Ao27,co27,eo27⟩ := Kd.R_slice HO_3.out
               subst eo27
               obtain ⟨Ao28,co28,eo28⟩ := Kd.R_slice HO_6.out
               subst eo28
               go_wp2_with (first | ((with_reducible refine gate_callee (f := 66) rfl ?_);refine zgl (some 52) Try.func66 #[.slice Ao27 x3_3.length co27,.slice A26 y220.length c26,.slice Ao28 t217.length co28] ?_;(with_reducible refine (spec_l01Block.calls k3 (fun k_ => some k_ = (.slice Ao27 x3_3.length co27 : Value).ownBlock) (.slice Ao27 x3_3.length co27) x3_3 _ _ y220 _ _ t217 t224 w _ ?side1 ?side2 ?side3 ?side4 ?side5 ?side6 A24.out).mono ?_);(case side1 => exact zl_ HB);(case side2 => exact Kd.R_tight rfl HO_3.out);(case side3 => exact fun W1_ hk1_ => (show Kd.C (Kd.int .u8) W1_ A26 y220.length y220 from by rw [Ny220.out,KA26.out];exact Kd.C_mid (lo := (x7_3 : Int).toNat) (hi := ((je_) : Int).toNat) (c := co25) (Kd.C_kept_own ((Kd.R_apart' HO_4.out (Kd.R_typed HO_3.out) (by decide))) (fun k_ hk_ hs_ => (hk_.2) hs_) W1_ hk1_) KM26.out KL26.out ((Kd.R_reads' HO_4.out).2.1)));(case side4 => exact HC223.out);(case side5 => exact Kd.C_kept_own (HO_6.out) (fun k_ hk_ hs_ => (hk_) hs_));(case side6 => exact (Kd.R_reads' HO_6.out).2.1);rintro e w29 ⟨rfl,hy0,hb,hkp⟩;refine ⟨_,rfl,?_⟩;replace HO_4 := am_ (Kd.R_mono (ok' := fun k_ => True) (Kd.R_keptB ((Kd.R_apart' HO_4.out (Kd.R_typed HO_3.out) (by decide))) hkp (fun k_ hk_ hs_ => (hk_.2) hs_)) (fun k_ hk_ => trivial));replace HO_3 := am_ (Kd.R_reok rfl hy0 (fun k_ e_ => HO_3.out.1 k_ e_));replace HO_6 := am_ (Kd.R_mono (ok' := fun k_ => some k_ ≠ (.slice Ao27 x3_3.length co27 : Value).ownBlock) (Kd.R_keptB (HO_6.out) hkp (fun k_ hk_ hs_ => (hk_) hs_)) (fun k_ hk_ => hk_.1));replace HB := am_ (hb);(try clear hb);(try clear hkp);(try clear hy0)))
               go_roundg k3
               case measure => have := HK1.out;have := HK2.out;have := HK3.out;omega
               case rel => exact ⟨(t224),(je_),(by first | rfl | (simp;done) | (simp [*];done)),H',⟨by have := HK1.out;have := HK2.out;have := HK3.out;omega⟩,⟨by (with_reducible repeat (first | apply r1_ | apply r2_ | apply r3_));exact HO_3.out⟩,⟨by (with_reducible repeat (first | apply r1_ | apply r2_ | apply r3_));exact HO_4.out⟩,⟨by (with_reducible repeat (first | apply r1_ | apply r2_ | apply r3_));exact HO_6.out⟩,⟨zl_ HB⟩⟩
              ·rw [if_neg c23] at H
               exact absurd H (by simp)
             ·rw [if_neg c22] at H
              exact absurd H (by simp)
            ·rw [if_neg c21] at H
             exact absurd H (by simp)
           ·rw [if_neg c20] at H
            have c20b0 : decide (x7_3 < (x4_2.length : Int)) = false := decide_eq_false c20
            clear c20
            obtain ⟨y225,hy225⟩ : ∃ y_ : List Int,y_ = (([] : List Int)) := ⟨_,rfl⟩
            replace H : (spec_l01Hash.l3 k3 x3_3 y225 0) = some r := by first | (rw [hy225];with_reducible exact H) | (have H2_ := (Option.bind_some _ _).symm.trans H;rw [hy225];with_reducible exact H2_) | (have H2_ := (Option.bind_some _ _).symm.trans H;with_reducible exact H2_) | with_reducible exact H | (rw [hy225];exact H) | exact H
            have Ny225 := am_ hy225
            clear hy225
            have H' := am_ H
            clear H
            obtain ⟨Ao30,co30,eo30⟩ := Kd.R_slice HO_4.out
            subst eo30
            go_wp2_with (first | ((with_reducible refine gate_dst (N := 53) rfl ?_);refine Kd.R_lit (Kd.int .u8) _ 5 ?hg (N := 53) ?hd (xs := ([] : List Int)) (inner := []) (ok := fun _ => True) (okp := fun _ => True) ?hr ?hp (fun _ hk => hk) trivial (Below.refl _ _) (Nat.le_refl _) (by simp) ?_;(case hd => rfl);(case hg => rfl);(case hr => first | (go_simp;done) | (go_simp;rfl));(case hp => exact (Reps.none _ _));intro v226 w31 ho32 hb hg_ hnew_;clear hg_ hnew_;(first | rw [← Ny225.out] at ho32 | (simp only [Int.reduceToNat] at ho32;rw [← Ny225.out] at ho32));replace HO_3 := zrb HO_3 hb;have HO227 := am_ (Kd.R_lower (Kd.R_new' ho32 (Kd.R_lt (zr HO_4))) (below_size (zl_ HB)));replace HB := zs_ HB hb;clear hb ho32))
            go_loopg [8,9] k3 (fun kq v8 v9 w' => ∃ (x8_4 : List Int) (x9_4 : Int),v9 = .int .i64 x9_4 ∧ Aside0 (spec_l01Hash.l3 kq x3_3 x8_4 x9_4 = some r) ∧ Aside0 (kq ≤ k3) ∧ Aside0 (Kd.R (Kd.int .u32) 88 w' w.heap.size (fun _ => True) v200 x3_3) ∧ Aside0 (Kd.R (Kd.int .u8) 5 w' w.heap.size (fun _ => True) v8 x8_4) ∧ Aside0 (Below w.heap.size w w'))
            case atStart => exact ⟨(y225),(0),(by first | rfl | (simp;done) | (simp [*];done)),H',⟨Nat.le_refl _⟩,⟨by (with_reducible repeat (first | apply r1_ | apply r2_ | apply r3_));exact Kd.R_mono HO_3.out (fun _ hk => trivial)⟩,⟨by (with_reducible repeat (first | apply r1_ | apply r2_ | apply r3_));exact Kd.R_mono HO227.out (fun _ hk => trivial)⟩,⟨zl_ HB⟩⟩
            case round =>
             clear H'
             try clear c1
             try clear c2
             try clear p2
             try clear q2
             try clear c3
             try clear c4
             try clear c6
             try clear p6
             try clear c10
             try clear c10b0
             try clear c10b1
             try clear c12
             try clear c12b0
             try clear c14
             try clear c14b0
             try clear c14b1
             try clear c16
             try clear c20
             try clear c20b0
             try clear c21
             try clear c21b0
             try clear c21b1
             try clear c22
             try clear c22b0
             try clear c22b1
             try clear c23
             try clear c23b0
             try clear c23b1
             try clear c26
             try clear q26
             try clear p2
             try clear p6
             try clear q026
             try clear q26
             obtain ⟨x8_4,x9_4,rfl,HA,HK4,HO_3,HO_8,HB⟩ := hrel
             cases gk with
             | zero => exact absurd HA.out (by simp [spec_l01Hash.l3])
             | succ k4 =>
              have H := HA.out
              clear HA
              simp only [spec_l01Hash.l3] at H
              by_cases c33 : x9_4 < 8
              ·rw [if_pos c33] at H
               have c33b0 : decide (x9_4 < 8) = true := decide_eq_true c33
               clear c33
               by_cases c34 : 0 ≤ x9_4
               ·rw [if_pos c34] at H
                have c34b0 : decide (0 ≤ x9_4) = true := decide_eq_true c34
                clear c34
                by_cases c35 : x9_4 < (x3_3.length : Int)
                ·rw [if_pos c35] at H
                 have c35b0 : decide (x9_4 < (x3_3.length : Int)) = true := decide_eq_true c35
                 clear c35
                 obtain ⟨y232,hy232⟩ : ∃ y_ : List Int,y_ = (([((rd x3_3 x9_4) / 16777216) % 256,((rd x3_3 x9_4) / 65536) % 256,((rd x3_3 x9_4) / 256) % 256,(rd x3_3 x9_4) % 256] : List Int)) := ⟨_,rfl⟩
                 replace H : (if x8_4.length + y232.length < 140737488355328 then (spec_l01Hash.l3 k4 x3_3 (x8_4 ++ y232) (wrap64 (x9_4 + 1))) else (none)) = some r := by first | (rw [hy232];with_reducible exact H) | (have H2_ := (Option.bind_some _ _).symm.trans H;rw [hy232];with_reducible exact H2_) | (have H2_ := (Option.bind_some _ _).symm.trans H;with_reducible exact H2_) | with_reducible exact H | (rw [hy232];exact H) | exact H
                 have Ny232 := am_ hy232
                 clear hy232
                 by_cases c36 : x8_4.length + y232.length < 140737488355328
                 ·rw [if_pos c36] at H
                  have LMc36 := am_ c36
                  clear c36
                  obtain ⟨y235,hy235⟩ : ∃ y_ : List Int,y_ = (x8_4 ++ y232) := ⟨_,rfl⟩
                  replace H : (spec_l01Hash.l3 k4 x3_3 y235 (wrap64 (x9_4 + 1))) = some r := by first | (rw [hy235];with_reducible exact H) | (have H2_ := (Option.bind_some _ _).symm.trans H;rw [hy235];with_reducible exact H2_) | (have H2_ := (Option.bind_some _ _).symm.trans H;with_reducible exact H2_) | with_reducible exact H | (rw [hy235];exact H) | exact H
                  have Ny235 := am_ hy235
                  clear hy235
                  have H' := am_ H
                  clear H
                  try go_wp2
                  replace HO_3 := am_ (Kd.R_drew HO_3.out)
                  replace HO_8 := am_ (Kd.R_drew HO_8.out)
                  replace HB := am_ (below_drew1 HB.out)
                  obtain ⟨Ao38,co38,eo38⟩ := Kd.R_slice HO_3.out
                  (first | subst eo38 | (injection eo38 with f1_ f2_ f3_;have f4_ := f1_.symm;have f5_ := f3_.symm;clear f1_ f2_ f3_;subst f4_;subst f5_))
                  have p228 : 0 ≤ (x9_4 : Int) := o1_ (by first | (with_reducible assumption) | assumption)
                  have q228 : x9_4 < (x3_3.length : Int) := o1_ (by first | (with_reducible assumption) | assumption)
                  obtain ⟨ad228,e228,hx228_0⟩ := Kd.at_int (Kd.R_reads' HO_3.out).2.2 x9_4 p228 q228
                  cases e228
                  replace p228 := eq_true p228
                  replace q228 := eq_true q228
                  have p229 : 0 ≤ (x9_4 : Int) := o1_ (by first | (with_reducible assumption) | assumption)
                  have q229 : x9_4 < (x3_3.length : Int) := o1_ (by first | (with_reducible assumption) | assumption)
                  obtain ⟨ad229,e229,hx229_0⟩ := Kd.at_int (Kd.R_reads' HO_3.out).2.2 x9_4 p229 q229
                  obtain rfl : ad228 = ad229 := (by injection e229)
                  replace p229 := eq_true p229
                  replace q229 := eq_true q229
                  have p230 : 0 ≤ (x9_4 : Int) := o1_ (by first | (with_reducible assumption) | assumption)
                  have q230 : x9_4 < (x3_3.length : Int) := o1_ (by first | (with_reducible assumption) | assumption)
                  obtain ⟨ad230,e230,hx230_0⟩ := Kd.at_int (Kd.R_reads' HO_3.out).2.2 x9_4 p230 q230
                  obtain rfl : ad228 = ad230 := (by injection e230)
                  replace p230 := eq_true p230
                  replace q230 := eq_true q230
                  have p231 : 0 ≤ (x9_4 : Int) := o1_ (by first | (with_reducible assumption) | assumption)
                  have q231 : x9_4 < (x3_3.length : Int) := o1_ (by first | (with_reducible assumption) | assumption)
                  obtain ⟨ad231,e231,hx231_0⟩ := Kd.at_int (Kd.R_reads' HO_3.out).2.2 x9_4 p231 q231
                  obtain rfl : ad228 = ad231 := (by injection e231)
                  replace p231 := eq_true p231
                  replace q231 := eq_true q231
                  refine start_ (n := 27) (S := fun w' => w'.cell? (ad228.add (x9_4).toNat) = some (.int .u32 (rd x3_3 x9_4)) ∧ w'.cell? (ad228.add (x9_4).toNat) = some (.int .u32 (rd x3_3 x9_4)) ∧ w'.cell? (ad228.add (x9_4).toNat) = some (.int .u32 (rd x3_3 x9_4)) ∧ w'.cell? (ad228.add (x9_4).toNat) = some (.int .u32 (rd x3_3 x9_4))) (ds := [25]) #[false,false,false,false,false,false,false,false,false,false,false,false,false,false,false,false,false,false,false,false,false,false,false,false,false,false,false] (by kernel_rfl) rfl rfl ⟨hx228_0,hx229_0,hx230_0,hx231_0⟩ (fun hHeld => ?_);refine with_tabW spec_l01Hash.tab18 spec_l01Hash.bits18 (fun HT_ HW_ => ?_)
                  generalize wr.drew = w37 at HO_3 HO_8 HB hx228_0 hx229_0 hx230_0 hx231_0 hHeld ⊢
                  refine zpu 0 (N := some 58) #[true,false,false,false,false,false,false,false,false,false,false,false,false,false,false,false,false,false,false,false,false,false,false,false,false,false,false] HT_ ?_
                  refine zpu 1 (N := some 59) #[true,true,false,false,false,false,false,false,false,false,false,false,false,false,false,false,false,false,false,false,false,false,false,false,false,false,false] HT_ ?_
                  refine zpu 2 (N := some 60) #[true,true,true,false,false,false,false,false,false,false,false,false,false,false,false,false,false,false,false,false,false,false,false,false,false,false,false] HT_ ?_
                  refine zpu 3 (N := some 61) #[true,true,true,true,false,false,false,false,false,false,false,false,false,false,false,false,false,false,false,false,false,false,false,false,false,false,false] HT_ ?_
                  refine zpu 7 (N := some 65) #[true,true,true,true,false,false,false,true,false,false,false,false,false,false,false,false,false,false,false,false,false,false,false,false,false,false,false] HT_ ?_
                  refine zpu 8 (N := some 66) #[true,true,true,true,false,false,false,true,true,false,false,false,false,false,false,false,false,false,false,false,false,false,false,false,false,false,false] HT_ ?_
                  refine zpu 9 (N := some 67) #[true,true,true,true,false,false,false,true,true,true,false,false,false,false,false,false,false,false,false,false,false,false,false,false,false,false,false] HT_ ?_
                  refine zpu 13 (N := some 71) #[true,true,true,true,false,false,false,true,true,true,false,false,false,true,false,false,false,false,false,false,false,false,false,false,false,false,false] HT_ ?_
                  refine zpu 14 (N := some 72) #[true,true,true,true,false,false,false,true,true,true,false,false,false,true,true,false,false,false,false,false,false,false,false,false,false,false,false] HT_ ?_
                  refine zpu 15 (N := some 73) #[true,true,true,true,false,false,false,true,true,true,false,false,false,true,true,true,false,false,false,false,false,false,false,false,false,false,false] HT_ ?_
                  refine zpu 19 (N := some 77) #[true,true,true,true,false,false,false,true,true,true,false,false,false,true,true,true,false,false,false,true,false,false,false,false,false,false,false] HT_ ?_
                  refine zpu 20 (N := some 78) #[true,true,true,true,false,false,false,true,true,true,false,false,false,true,true,true,false,false,false,true,true,false,false,false,false,false,false] HT_ ?_
                  refine zpu 21 (N := some 79) #[true,true,true,true,false,false,false,true,true,true,false,false,false,true,true,true,false,false,false,true,true,true,false,false,false,false,false] HT_ ?_
                  refine ztk 4 (N := some 62) #[true,true,true,true,true,false,false,true,true,true,false,false,false,true,true,true,false,false,false,true,true,true,false,false,false,false,false] HT_ HW_ hHeld ?_
                  refine zpu 5 (N := some 63) #[true,true,true,true,true,true,false,true,true,true,false,false,false,true,true,true,false,false,false,true,true,true,false,false,false,false,false] HT_ ?_
                  refine zpu 6 (N := some 64) #[true,true,true,true,true,true,true,true,true,true,false,false,false,true,true,true,false,false,false,true,true,true,false,false,false,false,false] HT_ ?_
                  refine ztk 10 (N := some 68) #[true,true,true,true,true,true,true,true,true,true,true,false,false,true,true,true,false,false,false,true,true,true,false,false,false,false,false] HT_ HW_ hHeld ?_
                  refine zpu 11 (N := some 69) #[true,true,true,true,true,true,true,true,true,true,true,true,false,true,true,true,false,false,false,true,true,true,false,false,false,false,false] HT_ ?_
                  refine zpu 12 (N := some 70) #[true,true,true,true,true,true,true,true,true,true,true,true,true,true,true,true,false,false,false,true,true,true,false,false,false,false,false] HT_ ?_
                  refine ztk 16 (N := some 74) #[true,true,true,true,true,true,true,true,true,true,true,true,true,true,true,true,true,false,false,true,true,true,false,false,false,false,false] HT_ HW_ hHeld ?_
                  refine zpu 17 (N := some 75) #[true,true,true,true,true,true,true,true,true,true,true,true,true,true,true,true,true,true,false,true,true,true,false,false,false,false,false] HT_ ?_
                  refine zpu 18 (N := some 76) #[true,true,true,true,true,true,true,true,true,true,true,true,true,true,true,true,true,true,true,true,true,true,false,false,false,false,false] HT_ ?_
                  refine ztk 22 (N := some 80) #[true,true,true,true,true,true,true,true,true,true,true,true,true,true,true,true,true,true,true,true,true,true,true,false,false,false,false] HT_ HW_ hHeld ?_
                  refine zpu 23 (N := some 81) #[true,true,true,true,true,true,true,true,true,true,true,true,true,true,true,true,true,true,true,true,true,true,true,true,false,false,false] HT_ ?_
                  refine one_ (i := 24) (N := some 82) #[true,true,true,true,true,true,true,true,true,true,true,true,true,true,true,true,true,true,true,true,true,true,true,true,true,false,false] rfl rfl (one_of HT_.out (by kernel_rfl)) (by decide) (fun K hK => ?_)
                  refine Kd.R_lit_step (Kd.int .u8) _ 5 ?hg (N := 82) ?hd (xs := ([((rd x3_3 x9_4) / 16777216) % 256,((rd x3_3 x9_4) / 65536) % 256,((rd x3_3 x9_4) / 256) % 256,(rd x3_3 x9_4) % 256] : List Int)) (inner := [.int .u8 (((rd x3_3 x9_4) / 16777216) % 256),.int .u8 (((rd x3_3 x9_4) / 65536) % 256),.int .u8 (((rd x3_3 x9_4) / 256) % 256),.int .u8 ((rd x3_3 x9_4) % 256)]) (ok := fun _ => True) (okp := fun _ => True) ?hr ?hp (fun _ hk => hk) trivial (Below.refl _ _) (Nat.le_refl _) (by simp) ?_;(case hd => rfl);(case hg => rfl);(case hr => first | (go_simp;done) | (go_simp;rfl));(case hp => exact (Reps.one (show Kd.M (Kd.int .u8) _ _ _ (((rd x3_3 x9_4) / 16777216) % 256) [.int .u8 (((rd x3_3 x9_4) / 16777216) % 256)] from rfl) (Reps.one (show Kd.M (Kd.int .u8) _ _ _ (((rd x3_3 x9_4) / 65536) % 256) [.int .u8 (((rd x3_3 x9_4) / 65536) % 256)] from rfl) (Reps.one (show Kd.M (Kd.int .u8) _ _ _ (((rd x3_3 x9_4) / 256) % 256) [.int .u8 (((rd x3_3 x9_4) / 256) % 256)] from rfl) (Reps.one (show Kd.M (Kd.int .u8) _ _ _ ((rd x3_3 x9_4) % 256) [.int .u8 ((rd x3_3 x9_4) % 256)] from rfl) (Reps.none _ _))))))
                  intro v233 w39 ho40 hb hg_ hnew_
                  have HS0_ := (hb.cell (World.block_lt_of_cell? _ _ (hHeld.1))).trans (hHeld.1)
                  have HS1_ := (hb.cell (World.block_lt_of_cell? _ _ (hHeld.2.1))).trans (hHeld.2.1)
                  have HS2_ := (hb.cell (World.block_lt_of_cell? _ _ (hHeld.2.2.1))).trans (hHeld.2.2.1)
                  have HS3_ := (hb.cell (World.block_lt_of_cell? _ _ (hHeld.2.2.2))).trans (hHeld.2.2.2)
                  clear hg_ hnew_
                  (first | rw [← Ny232.out] at ho40 | (simp only [Int.reduceToNat] at ho40;rw [← Ny232.out] at ho40))
                  replace HO_3 := zrb HO_3 hb
                  have HO234 := am_ (Kd.R_lower (Kd.R_new' ho40 (Kd.R_lt (zr HO_8))) (below_size (zl_ HB)))
                  replace HO_8 := am_ (Kd.R_elder' (zr HO_8) (Kd.R_base ho40) hb)
                  replace HB := zs_ HB hb
                  clear hb ho40
                  obtain ⟨Ao42,co42,eo42⟩ := Kd.R_slice HO234.out
                  (first | subst eo42 | (injection eo42 with f1_ f2_ f3_;have f4_ := f1_.symm;have f5_ := f3_.symm;clear f1_ f2_ f3_;subst f4_;subst f5_))
                  refine hK.out _ _ ⟨HS0_,HS1_,HS2_,HS3_⟩ (fun hHeld => ?_)
                  clear hK K
                  refine norm_ (a' := ?_) ?_ ?_
                  rotate_left
                  ·show Act.put _ (some 82) _ = _
                   simp only [Act.put,p1_,p2_,p3_,i64_w,i32_w]
                   rfl
                  refine last_ (i := 25) (N := some 83) #[true,true,true,true,true,true,true,true,true,true,true,true,true,true,true,true,true,true,true,true,true,true,true,true,true,true,false] rfl rfl (one_of HT_.out (by kernel_rfl)) (by decide) (fun K hK => ?_)
                  refine Kd.R_append_rows_step (Kd.int .u8) (w0 := w) w.heap.size (by rfl) (.tmp 58) (.tmp 82) 22 5 (.int .u8 0) 1 rfl Try.underlying22 info5 rfl (by decide) (by omega) u8 x8_4 y232 _ _ _ (fun k_ => some k_ ≠ (.slice Ao42 y232.length co42 : Value).ownBlock) (fun _ => False) rfl rfl ?aO ?aR (fun _ _ h => h) (fun _ h => h.elim) ?aF ?aB ?aS ?aL ?_
                  (case aR => repeat (first | exact (Kd.R_reads' HO234.out).2.2 | (with_reducible refine Kd.C_alloc ?_ _) | (with_reducible refine Kd.C_drewN ?_ _) | (with_reducible refine Kd.C_drew ?_)))
                  (case aB => exact (zl_ HB))
                  (case aF => exact (fun k_ hk => Kd.fresh' (Kd.R_lt (zr HO234)) k_ hk))
                  (case aO => exact (by (with_reducible repeat (first | apply r1_ | apply r2_ | apply r3_));exact Kd.R_mono HO_8.out (fun _ hk => hk.2)))
                  (case aS => exact (below_size (zl_ HB)))
                  (case aL => have := LMc36.out;omega)
                  intro v236 w41 ho hb hg hat
                  rw [← Ny235.out] at ho
                  replace HO_3 := am_ (Kd.R_over' (zr HO_3) (Kd.R_typed (zr HO_8)) (by decide) hg)
                  replace HB := am_ (hb)
                  have HO237 := am_ (ho)
                  clear HO_8
                  clear ho hb hg hat
                  refine hK.out _ _ ?_
                  clear hK K
                  refine norm_ (a' := ?_) ?_ ?_
                  rotate_left
                  ·show Act.put _ (some 83) _ = _
                   simp only [Act.put,p1_,p2_,p3_,i64_w,i32_w]
                   rfl
                  refine zpu 26 (N := some 8) #[true,true,true,true,true,true,true,true,true,true,true,true,true,true,true,true,true,true,true,true,true,true,true,true,true,true,true] HT_ ?_
                  refine done_ (done_of HT_.out (by kernel_rfl)) ?_
                  try go_wp2
                  go_roundg k4
                  case measure => have := HK1.out;have := HK2.out;have := HK3.out;have := HK4.out;omega
                  case rel => exact ⟨(y235),(wrap64 (x9_4 + 1)),(by first | rfl | (simp;done) | (simp [*];done)),H',⟨by have := HK1.out;have := HK2.out;have := HK3.out;have := HK4.out;omega⟩,⟨by (with_reducible repeat (first | apply r1_ | apply r2_ | apply r3_));exact HO_3.out⟩,⟨by (with_reducible repeat (first | apply r1_ | apply r2_ | apply r3_));exact Kd.R_mono HO237.out (fun _ hk => trivial)⟩,⟨zl_ HB⟩⟩
                 ·rw [if_neg c36] at H
                  exact absurd H (by simp)
                ·rw [if_neg c35] at H
                 exact absurd H (by simp)
               ·rw [if_neg c34] at H
                exact absurd H (by simp)
              ·rw [if_neg c33] at H
               have c33b0 : decide (x9_4 < 8) = false := decide_eq_false c33
               clear c33
               obtain rfl := Option.some.inj H
               have hcv43 := own_string (P := Try.prog) Try.underlying22 Try.underlying5 Try.underlying9 (Kd.own_of_R HO_8.out)
               go_wp2
               go_ret
               exact ⟨zt_,zl_ HB⟩
     ·rw [if_neg c10] at H
      have c10b0 : (((x4_1.length : Int) % 64) == 56) = false := beq_eq_false_iff_ne.mpr c10
      have c10b1 : (((x4_1.length : Int) % 64) != 56) = true := bne_iff_ne.mpr c10
      by_cases c44 : x4_1.length < 140737488355328
      ·rw [if_pos c44] at H
       have LMc44 := am_ c44
       clear c44
       obtain ⟨y211,hy211⟩ : ∃ y_ : List Int,y_ = (x4_1 ++ [0]) := ⟨_,rfl⟩
       replace H : (spec_l01Hash.l0 k1 l0 y199 y211) = some r := by first | (rw [hy211];with_reducible exact H) | (have H2_ := (Option.bind_some _ _).symm.trans H;rw [hy211];with_reducible exact H2_) | (have H2_ := (Option.bind_some _ _).symm.trans H;with_reducible exact H2_) | with_reducible exact H | (rw [hy211];exact H) | exact H
       have Ny211 := am_ hy211
       clear hy211
       have H' := am_ H
       clear H
       obtain ⟨Ao45,co45,eo45⟩ := Kd.R_slice HO_4.out
       subst eo45
       go_wp2_with (first | ((with_reducible refine gate_builtin (b := .append) (xs := #[.tmp 20,.tmp 21]) rfl ?_);at_builtin;refine Kd.R_append (Kd.int .u8) (w0 := w) w.heap.size rfl (.tmp 20) (.tmp 21) 22 5 (.int .u8 0) 1 rfl Try.underlying22 info5 rfl (by decide) (by omega) (.slice Ao45 x4_1.length co45) x4_1 0 [.int .u8 0] (fun _ => True) (fun _ => False) rfl rfl ?aP (fun _ hk => hk.elim) ?aF ?aO ?aB ?aS ?aL ?_;(case aP => exact rfl);(case aB => exact (zl_ HB));(case aF => exact (fun _ _ => trivial));(case aO => exact (zr HO_4));(case aS => exact (below_size (zl_ HB)));(case aL => have := LMc44.out;omega);intro v212 w46 ho hb hg hat;rw [← Ny211.out] at ho;replace HO_3 := am_ (Kd.R_over' (zr HO_3) (Kd.R_typed (zr HO_4)) (by decide) hg);replace HB := am_ (hb);have HO213 := am_ (ho);clear HO_4;clear ho hb hg hat))
       go_roundg k1
       case measure => have := HK1.out;omega
       case rel => exact ⟨(y211),H',⟨by have := HK1.out;omega⟩,⟨by (with_reducible repeat (first | apply r1_ | apply r2_ | apply r3_));exact HO_3.out⟩,⟨by (with_reducible repeat (first | apply r1_ | apply r2_ | apply r3_));exact HO213.out⟩,⟨zl_ HB⟩⟩
      ·rw [if_neg c44] at H
       exact absurd H (by simp)
  ·rw [if_neg c3] at H
   exact absurd H (by simp)
 ·rw [if_neg c2] at H
  exact absurd H (by simp)
def spec_l00Src_batch.T8 : Bool × List (List Nat × List Nat) := (true,[([],[]),([0],[0]),([],[]),([],[]),([3],[3]),([],[]),([5],[5]),([6],[6]),([7,4],[7]),([8],[8]),([2,4,9],[2,4,9]),([10],[10]),([1,11,8],[1,11]),([0,1,2,3,4,5,6,7,8,9,10,11,12],[]),([13,12,12,0,1,2,3,4,5,6,7,8,9,10,11,12],[12,13])])
def spec_l00Src_batch.B8 : List Nat := [0,1,0,0,8,0,32,96,248,504,1020,2044,4095,8191,16383]
theorem spec_l00Src_batch.tab8 : rtab .any (opsOf Try.f38 8) = spec_l00Src_batch.T8 := by kernel_rfl
theorem spec_l00Src_batch.bits8 : waitsOk spec_l00Src_batch.T8.2 spec_l00Src_batch.B8 = true := by kernel_rfl
set_option maxHeartbeats 8000000 in
set_option maxRecDepth 100000 in
theorem spec_l00Src_batch.calls (k : Nat) (g : Nat) (s0_0 : List Int) (s0_1 : Int) (s0_2 : Int) (r1 : Bool) (r2 : Int) (r3 : Int) (r4 : Int) (r5 : Int) (r6 : ByteArray) (r7 : List (S70)) (r8 : Int) (r9 : Int) (w0 w : World) (hI : IsS72 w0 w g s0_0 s0_1 s0_2) (hB : Below w0.heap.size w0 w) (h : spec_l00Src_batch.f k s0_0 s0_1 s0_2 = some (r1,r2,r3,r4,r5,r6,r7,r8,r9)) :
  Calls Try.prog 38 #[.pointer (some ⟨g,0,none⟩)] w fun e w' => ∃ v6_ : Value,e = .returned (.agg #[.bool r1,.int .i64 r2,.int .i64 r3,.int .i64 r4,.int .i64 r5,.string r6,v6_]) ∧ Kd.R k70 70 w' w.heap.size (fun _ => True) v6_ r7 ∧ IsS72 w0 w' g s0_0 r8 r9 ∧ Below w0.heap.size w0 w' ∧ KeepBut w w' g none := by
 have hu41 := Try.underlying41
 have hu70 := Try.underlying70
 have HI0 := am_ hI
 have HK := am_ (KeepBut.refl w g none)
 have HL := am_ hB.size
 clear hI
 have HW0 := am_ hB.size
 have HB := am_ hB
 clear hB
 have H : ((spec_l00Src_chance.f s0_0 s0_1 s0_2 6).bind fun bt242 => (if bt242.1 = true then (some (true,0,0,0,0,(⟨#[]⟩ : ByteArray),(([] : List (S70))),bt242.2.1,bt242.2.2)) else ((spec_l00Src_request.f s0_0 bt242.2.1 bt242.2.2).bind fun bt248 => (spec_l00Src_batch.l0 k 0 s0_0 bt248.2.2.2.2.2.1 bt248.2.2.2.2.2.2 false bt248.1 bt248.2.1 bt248.2.2.1 bt248.2.2.2.1 bt248.2.2.2.2.1 (([] : List (S70))))))) = some (r1,r2,r3,r4,r5,r6,r7,r8,r9) := h
 clear h
 replace H := Option.bind_eq_some_iff.mp H
 obtain ⟨⟨t242,t243,t244⟩,A20,H⟩ := H
 try dsimp only at H
 have A2 := am_ A20
 clear A20
 by_cases c3 : t242 = true
 ·subst c3
  have H1 : (some (true,0,0,0,0,(⟨#[]⟩ : ByteArray),(([] : List (S70))),t243,t244)) = some (r1,r2,r3,r4,r5,r6,r7,r8,r9) := by rw [if_pos rfl] at H;exact H
  clear H
  have H := H1
  clear H1
  obtain ⟨y245,hy245⟩ : ∃ y_ : List (S70),y_ = (([] : List (S70))) := ⟨_,rfl⟩
  replace H : (some (true,0,0,0,0,(⟨#[]⟩ : ByteArray),y245,t243,t244)) = some (r1,r2,r3,r4,r5,r6,r7,r8,r9) := by first | (rw [hy245];with_reducible exact H) | (have H2_ := (Option.bind_some _ _).symm.trans H;rw [hy245];with_reducible exact H2_) | (have H2_ := (Option.bind_some _ _).symm.trans H;with_reducible exact H2_) | with_reducible exact H | (rw [hy245];exact H) | exact H
  have Ny245 := am_ hy245
  clear hy245
  simp only [Option.some.injEq,Prod.mk.injEq] at H
  obtain ⟨rfl,rfl,rfl,rfl,rfl,rfl,rfl,rfl,rfl⟩ := H
  go_enter Try.func38,Try.ntmps38
  go_wp2_with (first | ((with_reducible refine gate_dst (N := 2) rfl ?_);refine zbx (N := 2) (cs := #[.bool false,.int .i64 0,.int .i64 0,.int .i64 0,.int .i64 0,.string ⟨#[]⟩,.slice none 0 0]) (t := 41) ?_;intro gb241 hg w4 hbox hb;replace HB := zs_ HB hb;have BK241 := am_ (hbox);have GW241 := am_ ((by rw [hg];exact (keep_size (w := w) (g := g) (row := none) (zh_ HK)) : w.heap.size ≤ gb241));have GE241 := am_ ((Nat.le_trans HW0.out (by rw [hg];exact (keep_size (w := w) (g := g) (row := none) (zh_ HK)) : w.heap.size ≤ gb241) : w0.heap.size ≤ gb241));replace HK := am_ (KeepBut.trans (zh_ HK) (KeepBut.of_below hb g none) (.inl rfl));have NB0_241 := am_ ((by rw [hg];exact Nat.ne_of_lt (IsS72.lt (show IsS72 w0 _ g s0_0 s0_1 s0_2 from (zi72 HI0))) : g ≠ gb241));have NB241_0 := am_ ((by rw [hg];exact Nat.ne_of_gt (IsS72.lt (show IsS72 w0 _ g s0_0 s0_1 s0_2 from (zi72 HI0))) : gb241 ≠ g));replace HI0 := am_ (IsS72.below (zi72 HI0) hb);clear hb hbox hg) | ((with_reducible refine gate_callee (f := 60) rfl ?_);refine zgl (some 6) Try.func60 #[.pointer (some ⟨g,0,none⟩),.int .i64 6] ?_;(with_reducible refine (spec_l00Src_chance.calls g s0_0 s0_1 s0_2 6 true t243 t244 w0 _ ?side1 ?side2 A2.out).mono ?_);(case side1 => exact zi72 HI0);(case side2 => exact zl_ HB);rintro e w5 ⟨rfl,hi,hb,hk⟩;refine ⟨_,rfl,?_⟩;replace BK241 := zkb hk BK241 NB241_0;replace HK := am_ (KeepBut.trans (zh_ HK) hk (.inl rfl));replace HB := am_ (hb);replace HI0 := am_ (hi);(try clear hb);(try clear hb2);(try clear hk);(try clear hi)) | ((with_reducible refine gate_dst (N := 7) rfl ?_);refine Kd.R_lit k70 _ 70 ?hg (N := 7) ?hd (xs := ([] : List (S70))) (inner := []) (ok := fun _ => True) (okp := fun _ => True) ?hr ?hp (fun _ hk => hk) trivial (Below.refl _ _) (Nat.le_refl _) (by simp) ?_;(case hd => rfl);(case hg => rfl);(case hr => first | (go_simp;done) | (go_simp;rfl));(case hp => exact (Reps.none _ _));intro v246 w6 ho7 hb hg_ hnew_;clear hg_ hnew_;(first | rw [← Ny245.out] at ho7 | (simp only [Int.reduceToNat] at ho7;rw [← Ny245.out] at ho7));have HO247 := am_ (Kd.R_lower ho7 (keep_size (w := w) (g := g) (row := none) (zh_ HK)));replace HI0 := am_ (IsS72.below (zi72 HI0) hb);replace BK241 := zb BK241 hb;replace HK := am_ (KeepBut.trans (zh_ HK) (KeepBut.of_below hb g none) (.inl rfl));replace HB := zs_ HB hb;clear hb ho7;obtain ⟨Ao8,co8,eo8⟩ := Kd.R_slice HO247.out;subst eo8;have hnb9 := NB241_0.out;have hnc9 := NB0_241.out;obtain ⟨hcz10_0,hcz10_1,hcz10_2,hcz10_3,hcz10_4,hcz10_5,hcz10_6,hfz10_0,hfz10_1,hfz10_2,hfz10_3,hfz10_4,hfz10_5,hfz10_6⟩ := zc7 BK241))
  refine bodyPost_ret (results_cell_row rfl _ _ gb241 41 #[.bool true,.int .i64 0,.int .i64 0,.int .i64 0,.int .i64 0,.string ⟨#[]⟩,.slice Ao8 y245.length co8] (0,0) _ rfl (zq BK241) Try.underlying41 rfl (by kernel_rfl)) rfl ?_
  exact ⟨_,zt_,by (with_reducible repeat (first | apply r1_ | apply r2_ | apply r3_));exact Kd.R_mono (zrf (Kd.R_types HO247.out BK241.out (by decide))) (fun _ hk => trivial),(zi72 HI0),zl_ HB,zh_ HK⟩
 ·replace c3 := Bool.eq_false_iff.mpr c3
  subst c3
  have H1 : ((spec_l00Src_request.f s0_0 t243 t244).bind fun bt248 => (spec_l00Src_batch.l0 k 0 s0_0 bt248.2.2.2.2.2.1 bt248.2.2.2.2.2.2 false bt248.1 bt248.2.1 bt248.2.2.1 bt248.2.2.2.1 bt248.2.2.2.2.1 (([] : List (S70))))) = some (r1,r2,r3,r4,r5,r6,r7,r8,r9) := by rw [if_neg (show ¬ (false = true) by decide)] at H;exact H
  clear H
  have H := H1
  clear H1
  replace H := Option.bind_eq_some_iff.mp H
  obtain ⟨⟨t248,t249,t250,t251,t252,t253,t254⟩,A110,H⟩ := H
  try dsimp only at H
  have A11 := am_ A110
  clear A110
  obtain ⟨y255,hy255⟩ : ∃ y_ : List (S70),y_ = (([] : List (S70))) := ⟨_,rfl⟩
  replace H : (spec_l00Src_batch.l0 k 0 s0_0 t253 t254 false t248 t249 t250 t251 t252 y255) = some (r1,r2,r3,r4,r5,r6,r7,r8,r9) := by first | (rw [hy255];with_reducible exact H) | (have H2_ := (Option.bind_some _ _).symm.trans H;rw [hy255];with_reducible exact H2_) | (have H2_ := (Option.bind_some _ _).symm.trans H;with_reducible exact H2_) | with_reducible exact H | (rw [hy255];exact H) | exact H
  have Ny255 := am_ hy255
  clear hy255
  have H' := am_ H
  clear H
  go_enter Try.func38,Try.ntmps38
  go_wp2_with (first | ((with_reducible refine gate_dst (N := 2) rfl ?_);refine zbx (N := 2) (cs := #[.bool false,.int .i64 0,.int .i64 0,.int .i64 0,.int .i64 0,.string ⟨#[]⟩,.slice none 0 0]) (t := 41) ?_;intro gb241 hg w12 hbox hb;replace HB := zs_ HB hb;have BK241 := am_ (hbox);have GW241 := am_ ((by rw [hg];exact (keep_size (w := w) (g := g) (row := none) (zh_ HK)) : w.heap.size ≤ gb241));have GE241 := am_ ((Nat.le_trans HW0.out (by rw [hg];exact (keep_size (w := w) (g := g) (row := none) (zh_ HK)) : w.heap.size ≤ gb241) : w0.heap.size ≤ gb241));replace HK := am_ (KeepBut.trans (zh_ HK) (KeepBut.of_below hb g none) (.inl rfl));have NB0_241 := am_ ((by rw [hg];exact Nat.ne_of_lt (IsS72.lt (show IsS72 w0 _ g s0_0 s0_1 s0_2 from (zi72 HI0))) : g ≠ gb241));have NB241_0 := am_ ((by rw [hg];exact Nat.ne_of_gt (IsS72.lt (show IsS72 w0 _ g s0_0 s0_1 s0_2 from (zi72 HI0))) : gb241 ≠ g));replace HI0 := am_ (IsS72.below (zi72 HI0) hb);clear hb hbox hg) | ((with_reducible refine gate_callee (f := 60) rfl ?_);refine zgl (some 6) Try.func60 #[.pointer (some ⟨g,0,none⟩),.int .i64 6] ?_;(with_reducible refine (spec_l00Src_chance.calls g s0_0 s0_1 s0_2 6 false t243 t244 w0 _ ?side1 ?side2 A2.out).mono ?_);(case side1 => exact zi72 HI0);(case side2 => exact zl_ HB);rintro e w13 ⟨rfl,hi,hb,hk⟩;refine ⟨_,rfl,?_⟩;replace BK241 := zkb hk BK241 NB241_0;replace HK := am_ (KeepBut.trans (zh_ HK) hk (.inl rfl));replace HB := am_ (hb);replace HI0 := am_ (hi);(try clear hb);(try clear hb2);(try clear hk);(try clear hi)) | ((with_reducible refine gate_callee (f := 31) rfl ?_);refine zgl (some 10) Try.func31 #[.pointer (some ⟨g,0,none⟩)] ?_;(with_reducible refine (spec_l00Src_request.calls g s0_0 t243 t244 t248 t249 t250 t251 t252 t253 t254 w0 _ ?side1 ?side2 A11.out).mono ?_);(case side1 => exact zi72 HI0);(case side2 => exact zl_ HB);rintro e w14 ⟨rfl,hi,hb,hk⟩;refine ⟨_,rfl,?_⟩;replace BK241 := zkb hk BK241 NB241_0;replace HK := am_ (KeepBut.trans (zh_ HK) hk (.inl rfl));replace HB := am_ (hb);replace HI0 := am_ (hi);(try clear hb);(try clear hb2);(try clear hk);(try clear hi)) | ((with_reducible refine gate_dst (N := 11) rfl ?_);refine Kd.R_lit k70 _ 70 ?hg (N := 11) ?hd (xs := ([] : List (S70))) (inner := []) (ok := fun _ => True) (okp := fun _ => True) ?hr ?hp (fun _ hk => hk) trivial (Below.refl _ _) (Nat.le_refl _) (by simp) ?_;(case hd => rfl);(case hg => rfl);(case hr => first | (go_simp;done) | (go_simp;rfl));(case hp => exact (Reps.none _ _));intro v256 w15 ho16 hb hg_ hnew_;clear hg_ hnew_;(first | rw [← Ny255.out] at ho16 | (simp only [Int.reduceToNat] at ho16;rw [← Ny255.out] at ho16));have HO257 := am_ (Kd.R_lower ho16 (keep_size (w := w) (g := g) (row := none) (zh_ HK)));replace HI0 := am_ (IsS72.below (zi72 HI0) hb);replace BK241 := zb BK241 hb;replace HK := am_ (KeepBut.trans (zh_ HK) (KeepBut.of_below hb g none) (.inl rfl));replace HB := zs_ HB hb;clear hb ho16;obtain ⟨Ao17,co17,eo17⟩ := Kd.R_slice HO257.out;subst eo17) | ((with_reducible refine gate_dst (N := 3) rfl ?_);refine zbx (N := 3) (cs := #[.bool false,.int .i64 0,.int .i64 0,.int .i64 0,.int .i64 0,.string ⟨#[]⟩,.slice none 0 0]) (t := 41) ?_;intro gb258 hg w18 hbox hb;replace HO257 := zrb HO257 hb;replace HB := zs_ HB hb;have BK258 := am_ (hbox);have GW258 := am_ ((by rw [hg];exact (keep_size (w := w) (g := g) (row := none) (zh_ HK)) : w.heap.size ≤ gb258));have GE258 := am_ ((Nat.le_trans HW0.out (by rw [hg];exact (keep_size (w := w) (g := g) (row := none) (zh_ HK)) : w.heap.size ≤ gb258) : w0.heap.size ≤ gb258));replace HK := am_ (KeepBut.trans (zh_ HK) (KeepBut.of_below hb g none) (.inl rfl));have NB241_258 := zl hg BK241;have NB258_241 := zg hg BK241;replace BK241 := zb BK241 hb;have NB0_258 := am_ ((by rw [hg];exact Nat.ne_of_lt (IsS72.lt (show IsS72 w0 _ g s0_0 t253 t254 from (zi72 HI0))) : g ≠ gb258));have NB258_0 := am_ ((by rw [hg];exact Nat.ne_of_gt (IsS72.lt (show IsS72 w0 _ g s0_0 t253 t254 from (zi72 HI0))) : gb258 ≠ g));replace HI0 := am_ (IsS72.below (zi72 HI0) hb);clear hb hbox hg;have hnb19 := NB258_241.out;have hnc19 := NB241_258.out;have hnb20 := NB258_0.out;have hnc20 := NB0_258.out;obtain ⟨hcz21_0,hcz21_1,hcz21_2,hcz21_3,hcz21_4,hcz21_5,hcz21_6,hfz21_0,hfz21_1,hfz21_2,hfz21_3,hfz21_4,hfz21_5,hfz21_6⟩ := zc7 BK258))
  go_loopg [4] k (fun kq v4 w' => ∃ (x4_1 : Int) (x1001_1 : Int) (x1002_1 : Int) (x259006_1 : List (S70)) (u259006 : Value),v4 = .int .i64 x4_1 ∧ Aside0 (spec_l00Src_batch.l0 kq x4_1 s0_0 x1001_1 x1002_1 false t248 t249 t250 t251 t252 x259006_1 = some (r1,r2,r3,r4,r5,r6,r7,r8,r9)) ∧ Aside0 (kq ≤ k) ∧ Aside0 (Kd.R k70 70 w' w.heap.size (fun _ => True) u259006 x259006_1) ∧ Aside0 (w'.heap[gb241]? = some (.cells #[.bool false,.int .i64 0,.int .i64 0,.int .i64 0,.int .i64 0,.string ⟨#[]⟩,(.slice none 0 0)] 41 (0,0))) ∧ Aside0 (w'.heap[gb258]? = some (.cells #[.bool false,.int .i64 t248,.int .i64 t249,.int .i64 t250,.int .i64 t251,.string t252,u259006] 41 (0,0))) ∧ Aside0 (IsS72 w0 w' g s0_0 x1001_1 x1002_1) ∧ Aside0 (KeepBut w w' g none) ∧ Aside0 (Below w0.heap.size w0 w'))
  case atStart => exact ⟨(0),(t253),(t254),(y255),(.slice Ao17 y255.length co17),(by first | rfl | (simp;done) | (simp [*];done)),H',⟨Nat.le_refl _⟩,⟨by (with_reducible repeat (first | apply r1_ | apply r2_ | apply r3_));exact Kd.R_mono (zrf (Kd.R_types HO257.out BK258.out (by decide))) (fun _ hk => trivial)⟩,⟨zq BK241⟩,⟨zq BK258⟩,⟨(zi72 HI0)⟩,⟨zh_ HK⟩,⟨zl_ HB⟩⟩
  case round =>
   clear H'
   try clear c1
   try clear c2
   try clear p2
   try clear c3
   try clear c6
   try clear c9
   try clear c19
   try clear c20
   try clear hcz10_0
   try clear hcz10_1
   try clear hcz10_2
   try clear hcz10_3
   try clear hcz10_4
   try clear hcz10_5
   try clear hcz10_6
   try clear hcz21_0
   try clear hcz21_1
   try clear hcz21_2
   try clear hcz21_3
   try clear hcz21_4
   try clear hcz21_5
   try clear hcz21_6
   try clear hfz10_0
   try clear hfz10_1
   try clear hfz10_2
   try clear hfz10_3
   try clear hfz10_4
   try clear hfz10_5
   try clear hfz10_6
   try clear hfz21_0
   try clear hfz21_1
   try clear hfz21_2
   try clear hfz21_3
   try clear hfz21_4
   try clear hfz21_5
   try clear hfz21_6
   obtain ⟨x4_1,x1001_1,x1002_1,x259006_1,u259006,rfl,HA,HK1,HO_259006,BK241,BK258,HI0,HK,HB⟩ := hrel
   cases gk with
   | zero => exact absurd HA.out (by simp [spec_l00Src_batch.l0])
   | succ k1 =>
    have H := HA.out
    clear HA
    simp only [spec_l00Src_batch.l0] at H
    by_cases c22 : x4_1 < 4
    ·rw [if_pos c22] at H
     have c22b0 : decide (x4_1 < 4) = true := decide_eq_true c22
     clear c22
     replace H := Option.bind_eq_some_iff.mp H
     obtain ⟨⟨t259,t260,t261⟩,A230,H⟩ := H
     try dsimp only at H
     have A23 := am_ A230
     clear A230
     by_cases c24 : t259 = true
     ·subst c24
      have H1 : (spec_l00Src_batch.l0 k1 (wrap64 (x4_1 + 1)) s0_0 t260 t261 false t248 t249 t250 t251 t252 x259006_1) = some (r1,r2,r3,r4,r5,r6,r7,r8,r9) := by rw [if_pos rfl] at H;exact H
      clear H
      have H := H1
      clear H1
      have H' := am_ H
      clear H
      go_wp2_with (first | ((with_reducible refine gate_callee (f := 60) rfl ?_);refine zgl (some 18) Try.func60 #[.pointer (some ⟨g,0,none⟩),.int .i64 4] ?_;(with_reducible refine (spec_l00Src_chance.calls g s0_0 x1001_1 x1002_1 4 true t260 t261 w0 _ ?side1 ?side2 A23.out).mono ?_);(case side1 => exact zi72 HI0);(case side2 => exact zl_ HB);rintro e w25 ⟨rfl,hi,hb,hk⟩;refine ⟨_,rfl,?_⟩;replace HO_259006 := am_ (Kd.R_mono (Kd.R_keep (IsS72.apart (show IsS72 w0 _ g s0_0 x1001_1 x1002_1 from (zi72 HI0)) (zr HO_259006) (by decide)) hk (fun _ h => h.2)) (fun _ h => h.1));replace BK241 := zkb hk BK241 NB241_0;replace BK258 := zkb hk BK258 NB258_0;replace HK := am_ (KeepBut.trans (zh_ HK) hk (.inl rfl));replace HB := am_ (hb);replace HI0 := am_ (hi);(try clear hb);(try clear hb2);(try clear hk);(try clear hi)))
      go_roundg k1
      case measure => have := HK1.out;omega
      case rel => exact ⟨(wrap64 (x4_1 + 1)),(t260),(t261),(x259006_1),(u259006),(by first | rfl | (simp;done) | (simp [*];done)),H',⟨by have := HK1.out;omega⟩,⟨by (with_reducible repeat (first | apply r1_ | apply r2_ | apply r3_));exact HO_259006.out⟩,⟨by (with_reducible repeat (first | apply k1_ | apply k2_ | apply k3_));exact BK241.out⟩,⟨by (with_reducible repeat (first | apply k1_ | apply k2_ | apply k3_));exact BK258.out⟩,⟨(zi72 HI0)⟩,⟨zh_ HK⟩,⟨zl_ HB⟩⟩
     ·replace c24 := Bool.eq_false_iff.mpr c24
      subst c24
      have H1 : ((spec_l00Src_next.f s0_0 t260 t261 100).bind fun bt262 => ((spec_l01Hash.f k1 (([(x4_1) % 256] : List Int))).bind fun t268 => (if 0 ≤ 8 then (if 8 ≤ (t268.size : Int) then (if x259006_1.length < 4398046511104 then (spec_l00Src_batch.l0 k1 (wrap64 (x4_1 + 1)) s0_0 bt262.2.1 bt262.2.2 false t248 t249 t250 t251 t252 (x259006_1 ++ [(⟨x4_1,bt262.1,t268.extract 0 8⟩ : S70)])) else (none)) else (none)) else (none)))) = some (r1,r2,r3,r4,r5,r6,r7,r8,r9) := by rw [if_neg (show ¬ (false = true) by decide)] at H;exact H
      clear H
      have H := H1
      clear H1
      replace H := Option.bind_eq_some_iff.mp H
      obtain ⟨⟨t262,t263,t264⟩,A260,H⟩ := H
      try dsimp only at H
      have A26 := am_ A260
      clear A260
      obtain ⟨y265,hy265⟩ : ∃ y_ : List Int,y_ = (([(x4_1) % 256] : List Int)) := ⟨_,rfl⟩
      replace H : ((spec_l01Hash.f k1 y265).bind fun t268 => (if 0 ≤ 8 then (if 8 ≤ (t268.size : Int) then (if x259006_1.length < 4398046511104 then (spec_l00Src_batch.l0 k1 (wrap64 (x4_1 + 1)) s0_0 t263 t264 false t248 t249 t250 t251 t252 (x259006_1 ++ [(⟨x4_1,t262,t268.extract 0 8⟩ : S70)])) else (none)) else (none)) else (none))) = some (r1,r2,r3,r4,r5,r6,r7,r8,r9) := by first | (rw [hy265];with_reducible exact H) | (have H2_ := (Option.bind_some _ _).symm.trans H;rw [hy265];with_reducible exact H2_) | (have H2_ := (Option.bind_some _ _).symm.trans H;with_reducible exact H2_) | with_reducible exact H | (rw [hy265];exact H) | exact H
      have Ny265 := am_ hy265
      clear hy265
      replace H := Option.bind_eq_some_iff.mp H
      obtain ⟨t268,A270,H⟩ := H
      try dsimp only at H
      have A27 := am_ A270
      clear A270
      by_cases c28 : 0 ≤ 8
      ·rw [if_pos c28] at H
       have c28b0 := eq_true c28
       have c28b1 : decide (0 ≤ 8) = true := decide_eq_true c28
       clear c28
       by_cases c29 : 8 ≤ (t268.size : Int)
       ·rw [if_pos c29] at H
        have c29b0 := eq_true c29
        have c29b1 : decide (8 ≤ (t268.size : Int)) = true := decide_eq_true c29
        clear c29
        by_cases c30 : x259006_1.length < 4398046511104
        ·rw [if_pos c30] at H
         have LMc30 := am_ c30
         clear c30
         obtain ⟨y269,hy269⟩ : ∃ y_ : List (S70),y_ = (x259006_1 ++ [(⟨x4_1,t262,t268.extract 0 8⟩ : S70)]) := ⟨_,rfl⟩
         replace H : (spec_l00Src_batch.l0 k1 (wrap64 (x4_1 + 1)) s0_0 t263 t264 false t248 t249 t250 t251 t252 y269) = some (r1,r2,r3,r4,r5,r6,r7,r8,r9) := by first | (rw [hy269];with_reducible exact H) | (have H2_ := (Option.bind_some _ _).symm.trans H;rw [hy269];with_reducible exact H2_) | (have H2_ := (Option.bind_some _ _).symm.trans H;with_reducible exact H2_) | with_reducible exact H | (rw [hy269];exact H) | exact H
         have Ny269 := am_ hy269
         clear hy269
         have H' := am_ H
         clear H
         try go_wp2_with (first | ((with_reducible refine gate_callee (f := 60) rfl ?_);refine zgl (some 18) Try.func60 #[.pointer (some ⟨g,0,none⟩),.int .i64 4] ?_;(with_reducible refine (spec_l00Src_chance.calls g s0_0 x1001_1 x1002_1 4 false t260 t261 w0 _ ?side1 ?side2 A23.out).mono ?_);(case side1 => exact zi72 HI0);(case side2 => exact zl_ HB);rintro e w31 ⟨rfl,hi,hb,hk⟩;refine ⟨_,rfl,?_⟩;replace HO_259006 := am_ (Kd.R_mono (Kd.R_keep (IsS72.apart (show IsS72 w0 _ g s0_0 x1001_1 x1002_1 from (zi72 HI0)) (zr HO_259006) (by decide)) hk (fun _ h => h.2)) (fun _ h => h.1));replace BK241 := zkb hk BK241 NB241_0;replace BK258 := zkb hk BK258 NB258_0;replace HK := am_ (KeepBut.trans (zh_ HK) hk (.inl rfl));replace HB := am_ (hb);replace HI0 := am_ (hi);(try clear hb);(try clear hb2);(try clear hk);(try clear hi);obtain ⟨Ao32,co32,eo32⟩ := Kd.R_slice HO_259006.out;subst eo32))
         replace HO_259006 := am_ (Kd.R_drew HO_259006.out)
         replace BK241 := am_ (blk_drew BK241.out)
         replace BK258 := am_ (blk_drew BK258.out)
         replace HI0 := am_ (IsS72.drew HI0.out)
         replace HK := am_ (keep_drew HK.out)
         replace HB := am_ (below_drew1 HB.out)
         refine start_ (n := 15) (S := fun w' => w'.cell? ⟨gb258,0,none⟩ = some (.bool false) ∧ w'.cell? ⟨gb258,1,none⟩ = some (.int .i64 t248) ∧ w'.cell? ⟨gb258,2,none⟩ = some (.int .i64 t249) ∧ w'.cell? ⟨gb258,3,none⟩ = some (.int .i64 t250) ∧ w'.cell? ⟨gb258,4,none⟩ = some (.int .i64 t251) ∧ w'.cell? ⟨gb258,5,none⟩ = some (.string t252) ∧ w'.cell? ⟨gb258,6,none⟩ = some (.slice Ao32 x259006_1.length co32)) (ds := [14]) #[false,false,false,false,false,false,false,false,false,false,false,false,false,false,false] (by kernel_rfl) rfl rfl ⟨(blk_cell BK258.out 0).trans rfl,(blk_cell BK258.out 1).trans rfl,(blk_cell BK258.out 2).trans rfl,(blk_cell BK258.out 3).trans rfl,(blk_cell BK258.out 4).trans rfl,(blk_cell BK258.out 5).trans rfl,(blk_cell BK258.out 6).trans rfl⟩ (fun hHeld => ?_);refine with_tabW spec_l00Src_batch.tab8 spec_l00Src_batch.bits8 (fun HT_ HW_ => ?_)
         generalize w31.drew = w33 at HO_259006 BK241 BK258 HI0 HK HB hHeld ⊢
         refine zpu 0 (N := some 20) #[true,false,false,false,false,false,false,false,false,false,false,false,false,false,false] HT_ ?_
         refine zpu 2 (N := some 22) #[true,false,true,false,false,false,false,false,false,false,false,false,false,false,false] HT_ ?_
         refine zpu 3 (N := some 23) #[true,false,true,true,false,false,false,false,false,false,false,false,false,false,false] HT_ ?_
         refine zpu 5 (N := some 25) #[true,false,true,true,false,true,false,false,false,false,false,false,false,false,false] HT_ ?_
         refine zpu 6 (N := some 26) #[true,false,true,true,false,true,true,false,false,false,false,false,false,false,false] HT_ ?_
         refine ztk 1 (N := some 21) #[true,true,true,true,false,true,true,false,false,false,false,false,false,false,false] HT_ HW_ hHeld ?_
         refine join_ (σ := Value) 7 #[true,true,true,true,true,true,true,true,false,false,false,false,false,false,false] (fun s_ => [(24,.int .i64 t262),(27,s_)]) (fun s_ w' => (w'.cell? ⟨gb258,0,none⟩ = some (.bool false) ∧ w'.cell? ⟨gb258,1,none⟩ = some (.int .i64 t248) ∧ w'.cell? ⟨gb258,2,none⟩ = some (.int .i64 t249) ∧ w'.cell? ⟨gb258,3,none⟩ = some (.int .i64 t250) ∧ w'.cell? ⟨gb258,4,none⟩ = some (.int .i64 t251) ∧ w'.cell? ⟨gb258,5,none⟩ = some (.string t252) ∧ w'.cell? ⟨gb258,6,none⟩ = some (.slice Ao32 x259006_1.length co32)) ∧ (Kd.R (Kd.int .u8) 5 w' w.heap.size (fun _ => True) s_ y265) ∧ (Kd.R k70 70 w' w.heap.size (fun _ => True) (.slice Ao32 x259006_1.length co32) x259006_1) ∧ (w'.heap[gb241]? = some (.cells #[.bool false,.int .i64 0,.int .i64 0,.int .i64 0,.int .i64 0,.string ⟨#[]⟩,.slice none 0 0] 41 (0,0))) ∧ (w'.heap[gb258]? = some (.cells #[.bool false,.int .i64 t248,.int .i64 t249,.int .i64 t250,.int .i64 t251,.string t252,.slice Ao32 x259006_1.length co32] 41 (0,0))) ∧ (IsS72 w0 w' g s0_0 t263 t264) ∧ (KeepBut w w' g none) ∧ (Below w0.heap.size w0 w')) ?_ ?_
         rotate_left
         ·intro hCont
          refine two_ (i := 4) (j := 7) (Ni := some 24) (Nj := some 27) #[true,true,true,true,true,true,true,false,false,false,false,false,false,false,false] #[true,true,true,true,false,true,true,true,false,false,false,false,false,false,false] rfl rfl rfl rfl (two_of HT_.out (by kernel_rfl)) (by decide) (by decide) (fun K hK => ?_) (fun K hK => ?_)
          ·skip
           refine goes_ Try.func45 (by kernel_rfl) rfl #[.pointer (some ⟨g,0,none⟩),.int .i64 100] (by rfl) rfl rfl (by (try simp only [m1_,m2_,m3_]);first | done | rfl | (simp only [d1_,d2_];rfl)) ?_
           with_reducible refine (spec_l00Src_next.calls g s0_0 t260 t261 100 t262 t263 t264 w0 _ ?side1 ?side2 A26.out).mono ?_
           (case side1 => exact zi72 HI0)
           (case side2 => exact zl_ HB)
           rintro e w34 ⟨rfl,hi,hb,hk⟩
           refine ⟨_,rfl,?_⟩
           replace HO_259006 := am_ (Kd.R_mono (Kd.R_keep (IsS72.apart (show IsS72 w0 _ g s0_0 t260 t261 from (zi72 HI0)) (zr HO_259006) (by decide)) hk (fun _ h => h.2)) (fun _ h => h.1))
           replace BK241 := zkb hk BK241 NB241_0
           replace BK258 := zkb hk BK258 NB258_0
           replace HK := am_ (KeepBut.trans (zh_ HK) hk (.inl rfl))
           replace HB := am_ (hb)
           replace HI0 := am_ (hi)
           (try clear hb)
           (try clear hb2)
           (try clear hk)
           (try clear hi)
           refine hK.out _ _ ⟨(blk_cell BK258.out 0).trans rfl,(blk_cell BK258.out 1).trans rfl,(blk_cell BK258.out 2).trans rfl,(blk_cell BK258.out 3).trans rfl,(blk_cell BK258.out 4).trans rfl,(blk_cell BK258.out 5).trans rfl,(blk_cell BK258.out 6).trans rfl⟩ (fun hHeld => ?_)
           clear hK K
           refine norm_ (a' := ?_) ?_ ?_
           rotate_left
           ·show Act.put _ (some 24) _ = _
            simp only [Act.put,p1_,p2_,p3_,i64_w,i32_w]
            rfl
           refine one_ (i := 7) (N := some 27) #[true,true,true,true,true,true,true,true,false,false,false,false,false,false,false] rfl rfl (one_of HT_.out (by kernel_rfl)) (by decide) (fun K hK => ?_)
           refine Kd.R_lit_step (Kd.int .u8) _ 5 ?hg (N := 27) ?hd (xs := ([(x4_1) % 256] : List Int)) (inner := [.int .u8 ((x4_1) % 256)]) (ok := fun _ => True) (okp := fun _ => True) ?hr ?hp (fun _ hk => hk) trivial (Below.refl _ _) (Nat.le_refl _) (by simp) ?_;(case hd => rfl);(case hg => rfl);(case hr => first | (go_simp;done) | (go_simp;rfl));(case hp => exact (Reps.one (show Kd.M (Kd.int .u8) _ _ _ ((x4_1) % 256) [.int .u8 ((x4_1) % 256)] from rfl) (Reps.none _ _)))
           intro v266 w35 ho36 hb hg_ hnew_
           clear hg_ hnew_
           (first | rw [← Ny265.out] at ho36 | (simp only [Int.reduceToNat] at ho36;rw [← Ny265.out] at ho36))
           replace HO_259006 := zrb HO_259006 hb
           have HO267 := am_ (Kd.R_lower ho36 (keep_size (w := w) (g := g) (row := none) (zh_ HK)))
           replace BK241 := zb BK241 hb
           replace BK258 := zb BK258 hb
           replace HI0 := am_ (IsS72.below (zi72 HI0) hb)
           replace HK := am_ (KeepBut.trans (zh_ HK) (KeepBut.of_below hb g none) (.inl rfl))
           replace HB := zs_ HB hb
           clear hb ho36
           refine hK.out _ _ ⟨(blk_cell BK258.out 0).trans rfl,(blk_cell BK258.out 1).trans rfl,(blk_cell BK258.out 2).trans rfl,(blk_cell BK258.out 3).trans rfl,(blk_cell BK258.out 4).trans rfl,(blk_cell BK258.out 5).trans rfl,(blk_cell BK258.out 6).trans rfl⟩ (fun hHeld => ?_)
           clear hK K
           refine norm_ (a' := ?_) ?_ ?_
           rotate_left
           ·show Act.put _ (some 27) _ = _
            simp only [Act.put,p1_,p2_,p3_,i64_w,i32_w]
            rfl
           exact norm_ (by simp only [putAll,Act.put,p1_,p2_,p3_]) (hCont (v266) _ ⟨hHeld,(zr HO267),(zr HO_259006),(zk BK241),(zk BK258),(zi72 HI0),(zh_ HK),(zl_ HB)⟩)
          ·skip
           refine Kd.R_lit_step (Kd.int .u8) _ 5 ?hg (N := 27) ?hd (xs := ([(x4_1) % 256] : List Int)) (inner := [.int .u8 ((x4_1) % 256)]) (ok := fun _ => True) (okp := fun _ => True) ?hr ?hp (fun _ hk => hk) trivial (Below.refl _ _) (Nat.le_refl _) (by simp) ?_;(case hd => rfl);(case hg => rfl);(case hr => first | (go_simp;done) | (go_simp;rfl));(case hp => exact (Reps.one (show Kd.M (Kd.int .u8) _ _ _ ((x4_1) % 256) [.int .u8 ((x4_1) % 256)] from rfl) (Reps.none _ _)))
           intro v266 w34 ho35 hb hg_ hnew_
           clear hg_ hnew_
           (first | rw [← Ny265.out] at ho35 | (simp only [Int.reduceToNat] at ho35;rw [← Ny265.out] at ho35))
           replace HO_259006 := zrb HO_259006 hb
           have HO267 := am_ (Kd.R_lower ho35 (keep_size (w := w) (g := g) (row := none) (zh_ HK)))
           replace BK241 := zb BK241 hb
           replace BK258 := zb BK258 hb
           replace HI0 := am_ (IsS72.below (zi72 HI0) hb)
           replace HK := am_ (KeepBut.trans (zh_ HK) (KeepBut.of_below hb g none) (.inl rfl))
           replace HB := zs_ HB hb
           clear hb ho35
           refine hK.out _ _ ⟨(blk_cell BK258.out 0).trans rfl,(blk_cell BK258.out 1).trans rfl,(blk_cell BK258.out 2).trans rfl,(blk_cell BK258.out 3).trans rfl,(blk_cell BK258.out 4).trans rfl,(blk_cell BK258.out 5).trans rfl,(blk_cell BK258.out 6).trans rfl⟩ (fun hHeld => ?_)
           clear hK K
           refine norm_ (a' := ?_) ?_ ?_
           rotate_left
           ·show Act.put _ (some 27) _ = _
            simp only [Act.put,p1_,p2_,p3_,i64_w,i32_w]
            rfl
           refine one_ (i := 4) (N := some 24) #[true,true,true,true,true,true,true,true,false,false,false,false,false,false,false] rfl rfl (one_of HT_.out (by kernel_rfl)) (by decide) (fun K hK => ?_)
           refine goes_ Try.func45 (by kernel_rfl) rfl #[.pointer (some ⟨g,0,none⟩),.int .i64 100] (by rfl) rfl rfl (by (try simp only [m1_,m2_,m3_]);first | done | rfl | (simp only [d1_,d2_];rfl)) ?_
           with_reducible refine (spec_l00Src_next.calls g s0_0 t260 t261 100 t262 t263 t264 w0 _ ?side1 ?side2 A26.out).mono ?_
           (case side1 => exact zi72 HI0)
           (case side2 => exact zl_ HB)
           rintro e w36 ⟨rfl,hi,hb,hk⟩
           refine ⟨_,rfl,?_⟩
           replace HO_259006 := am_ (Kd.R_mono (Kd.R_keep (IsS72.apart (show IsS72 w0 _ g s0_0 t260 t261 from (zi72 HI0)) (zr HO_259006) (by decide)) hk (fun _ h => h.2)) (fun _ h => h.1))
           replace BK241 := zkb hk BK241 NB241_0
           replace BK258 := zkb hk BK258 NB258_0
           replace HO267 := am_ (Kd.R_mono (Kd.R_keep (IsS72.apart (show IsS72 w0 _ g s0_0 t260 t261 from (zi72 HI0)) (zr HO267) (by decide)) hk (fun _ h => h.2)) (fun _ h => h.1))
           replace HK := am_ (KeepBut.trans (zh_ HK) hk (.inl rfl))
           replace HB := am_ (hb)
           replace HI0 := am_ (hi)
           (try clear hb)
           (try clear hb2)
           (try clear hk)
           (try clear hi)
           refine hK.out _ _ ⟨(blk_cell BK258.out 0).trans rfl,(blk_cell BK258.out 1).trans rfl,(blk_cell BK258.out 2).trans rfl,(blk_cell BK258.out 3).trans rfl,(blk_cell BK258.out 4).trans rfl,(blk_cell BK258.out 5).trans rfl,(blk_cell BK258.out 6).trans rfl⟩ (fun hHeld => ?_)
           clear hK K
           refine norm_ (a' := ?_) ?_ ?_
           rotate_left
           ·show Act.put _ (some 24) _ = _
            simp only [Act.put,p1_,p2_,p3_,i64_w,i32_w]
            rfl
           exact norm_ (by simp only [putAll,Act.put,p1_,p2_,p3_]) (hCont (v266) _ ⟨hHeld,(zr HO267),(zr HO_259006),(zk BK241),(zk BK258),(zi72 HI0),(zh_ HK),(zl_ HB)⟩)
         rintro v266 w37 ⟨hS_,h0_,h1_,h2_,h3_,h4_,h5_,h6_⟩
         have n0_ : Aside0 (Kd.R (Kd.int .u8) 5 w37 w.heap.size (fun _ => True) v266 y265) := ⟨h0_⟩
         have n1_ : Aside0 (Kd.R k70 70 w37 w.heap.size (fun _ => True) (.slice Ao32 x259006_1.length co32) x259006_1) := ⟨h1_⟩
         have n2_ : Aside0 (w37.heap[gb241]? = some (.cells #[.bool false,.int .i64 0,.int .i64 0,.int .i64 0,.int .i64 0,.string ⟨#[]⟩,.slice none 0 0] 41 (0,0))) := ⟨h2_⟩
         have n3_ : Aside0 (w37.heap[gb258]? = some (.cells #[.bool false,.int .i64 t248,.int .i64 t249,.int .i64 t250,.int .i64 t251,.string t252,.slice Ao32 x259006_1.length co32] 41 (0,0))) := ⟨h3_⟩
         have n4_ : Aside0 (IsS72 w0 w37 g s0_0 t263 t264) := ⟨h4_⟩
         have n5_ : Aside0 (KeepBut w w37 g none) := ⟨h5_⟩
         have n6_ : Aside0 (Below w0.heap.size w0 w37) := ⟨h6_⟩
         clear HO_259006
         clear BK241
         clear BK258
         clear HI0
         clear HK
         clear HB
         clear h0_ h1_ h2_ h3_ h4_ h5_ h6_
         have HO267 := n0_
         have HO_259006 := n1_
         have BK241 := n2_
         have BK258 := n3_
         have HI0 := n4_
         have HK := n5_
         have HB := n6_
         clear n0_ n1_ n2_ n3_ n4_ n5_ n6_
         have hHeld : w37.cell? ⟨gb258,0,none⟩ = some (.bool false) ∧ w37.cell? ⟨gb258,1,none⟩ = some (.int .i64 t248) ∧ w37.cell? ⟨gb258,2,none⟩ = some (.int .i64 t249) ∧ w37.cell? ⟨gb258,3,none⟩ = some (.int .i64 t250) ∧ w37.cell? ⟨gb258,4,none⟩ = some (.int .i64 t251) ∧ w37.cell? ⟨gb258,5,none⟩ = some (.string t252) ∧ w37.cell? ⟨gb258,6,none⟩ = some (.slice Ao32 x259006_1.length co32) := hS_
         obtain ⟨Ao38,co38,eo38⟩ := Kd.R_slice HO267.out
         (first | subst eo38 | (injection eo38 with f1_ f2_ f3_;have f4_ := f1_.symm;have f5_ := f3_.symm;clear f1_ f2_ f3_;subst f4_;subst f5_))
         refine norm_ (a' := ?_) ?_ ?_
         rotate_left
         ·simp only [putAll,Act.put,p1_,p2_,p3_]
          rfl
         refine one_ (i := 8) (N := some 28) #[true,true,true,true,true,true,true,true,true,false,false,false,false,false,false] rfl rfl (one_of HT_.out (by kernel_rfl)) (by decide) (fun K hK => ?_)
         refine goes_ Try.func46 (by kernel_rfl) rfl #[.slice Ao38 y265.length co38] (by rfl) rfl rfl (by (try simp only [m1_,m2_,m3_]);first | done | rfl | (simp only [d1_,d2_];rfl)) ?_
         with_reducible refine (spec_l01Hash.calls k1 _ _ y265 t268 _ ?side1 ?side2 A27.out).mono ?_
         (case side1 => repeat (first | exact (Kd.R_reads' HO267.out).2.2 | (with_reducible refine Kd.C_alloc ?_ _) | (with_reducible refine Kd.C_drewN ?_ _) | (with_reducible refine Kd.C_drew ?_)))
         (case side2 => exact (Kd.R_reads' HO267.out).2.1)
         rintro e w39 ⟨rfl,hb⟩
         refine ⟨_,rfl,?_⟩
         replace HO_259006 := zrb HO_259006 hb
         replace BK241 := zb BK241 hb
         replace BK258 := zb BK258 hb
         replace HI0 := am_ (IsS72.below (zi72 HI0) hb)
         replace HK := am_ (KeepBut.trans (zh_ HK) (KeepBut.of_below hb g none) (.inl rfl))
         replace HB := zs_ HB hb
         (try clear hb)
         (try clear hb2)
         (try clear hk)
         (try clear hi)
         refine hK.out _ _ ⟨(blk_cell BK258.out 0).trans rfl,(blk_cell BK258.out 1).trans rfl,(blk_cell BK258.out 2).trans rfl,(blk_cell BK258.out 3).trans rfl,(blk_cell BK258.out 4).trans rfl,(blk_cell BK258.out 5).trans rfl,(blk_cell BK258.out 6).trans rfl⟩ (fun hHeld => ?_)
         clear hK K
         refine norm_ (a' := ?_) ?_ ?_
         rotate_left
         ·show Act.put _ (some 28) _ = _
          simp only [Act.put,p1_,p2_,p3_,i64_w,i32_w]
          rfl
         refine zpu 9 (N := some 29) #[true,true,true,true,true,true,true,true,true,true,false,false,false,false,false] HT_ ?_
         refine zpu 10 (N := some 30) #[true,true,true,true,true,true,true,true,true,true,true,false,false,false,false] HT_ ?_
         refine one_ (i := 11) (N := some 31) #[true,true,true,true,true,true,true,true,true,true,true,true,false,false,false] rfl rfl (one_of HT_.out (by kernel_rfl)) (by decide) (fun K hK => ?_)
         refine value_ (w1 := ?_) (v := ?_) (by rfl) rfl ?_ ?_
         rotate_left 2
         ·go_simp
          constructor
          ·rfl
          ·rfl
         refine hK.out _ _ ⟨(blk_cell (blk_alloc BK258.out _) 0).trans rfl,(blk_cell (blk_alloc BK258.out _) 1).trans rfl,(blk_cell (blk_alloc BK258.out _) 2).trans rfl,(blk_cell (blk_alloc BK258.out _) 3).trans rfl,(blk_cell (blk_alloc BK258.out _) 4).trans rfl,(blk_cell (blk_alloc BK258.out _) 5).trans rfl,(blk_cell (blk_alloc BK258.out _) 6).trans rfl⟩ (fun hHeld => ?_)
         clear hK K
         refine norm_ (a' := ?_) ?_ ?_
         rotate_left
         ·show Act.put _ (some 31) _ = _
          simp only [Act.put,p1_,p2_,p3_,i64_w,i32_w]
          rfl
         refine one_ (i := 12) (N := some 32) #[true,true,true,true,true,true,true,true,true,true,true,true,true,false,false] rfl rfl (one_of HT_.out (by kernel_rfl)) (by decide) (fun K hK => ?_)
         refine Kd.R_append_step k70 w.heap.size (by rfl) (.tmp 21) (.tmp 31) 39 70 (.agg #[(.int .i64 0),(.int .i64 0),(.string ⟨#[]⟩)]) 32 rfl Try.underlying39 info70 rfl (by decide) (by omega) (.slice Ao32 x259006_1.length co32) x259006_1 (⟨x4_1,t262,t268.extract 0 8⟩ : S70) [.int .i64 x4_1,.int .i64 t262,.string (t268.extract 0 8)] (fun _ => True) (fun _ => False) rfl rfl ?aP (fun _ hk => hk.elim) ?aF ?aO (Below.refl _ _) ?aS ?aL ?_
         (case aP => exact k70_mkM _ _ _ (⟨x4_1,t262,t268.extract 0 8⟩ : S70))
         (case aF => exact (fun _ _ => trivial))
         (case aO => exact (zr HO_259006))
         (case aS => exact (keep_size (w := w) (g := g) (row := none) (zh_ HK)))
         (case aL => have := LMc30.out;omega)
         intro v270 w40 ho hb hg hat
         rw [← Ny269.out] at ho
         replace BK241 := am_ (blk_grown (g := gb241) (o := .cells #[.bool false,.int .i64 0,.int .i64 0,.int .i64 0,.int .i64 0,.string ⟨#[]⟩,.slice none 0 0] 41 (0,0)) (zk BK241) hg (Kd.R_ne HO_259006.out BK241.out (by decide)))
         replace BK258 := am_ (blk_grown (g := gb258) (o := .cells #[.bool false,.int .i64 t248,.int .i64 t249,.int .i64 t250,.int .i64 t251,.string t252,.slice Ao32 x259006_1.length co32] 41 (0,0)) (zk BK258) hg (Kd.R_ne HO_259006.out BK258.out (by decide)))
         replace HI0 := am_ (IsS72.grown (zi72 HI0) hg (IsS72.own_ne HI0.out HO_259006.out (by decide)))
         replace HB := am_ (below_weaken (zl_ HB) HL.out hb)
         replace HK := am_ (KeepBut.trans (zh_ HK) (KeepBut.of_grown hg g) (Kd.R_base2 HO_259006.out))
         have HO271 := am_ (ho)
         clear HO_259006
         clear ho hb hg hat
         obtain ⟨Ao41,co41,eo41⟩ := Kd.R_slice HO271.out
         (first | subst eo41 | (injection eo41 with f1_ f2_ f3_;have f4_ := f1_.symm;have f5_ := f3_.symm;clear f1_ f2_ f3_;subst f4_;subst f5_))
         refine hK.out _ _ ⟨(blk_cell BK258.out 0).trans rfl,(blk_cell BK258.out 1).trans rfl,(blk_cell BK258.out 2).trans rfl,(blk_cell BK258.out 3).trans rfl,(blk_cell BK258.out 4).trans rfl,(blk_cell BK258.out 5).trans rfl,(blk_cell BK258.out 6).trans rfl⟩ (fun hHeld => ?_)
         clear hK K
         refine norm_ (a' := ?_) ?_ ?_
         rotate_left
         ·show Act.put _ (some 32) _ = _
          simp only [Act.put,p1_,p2_,p3_,i64_w,i32_w]
          rfl
         refine zpu 13 (N := some 33) #[true,true,true,true,true,true,true,true,true,true,true,true,true,true,false] HT_ ?_
         refine last_ (i := 14) (N := none) #[true,true,true,true,true,true,true,true,true,true,true,true,true,true,true] rfl rfl (one_of HT_.out (by kernel_rfl)) (by decide) (fun K hK => ?_)
         have hs42 : w40.cell? ⟨gb258,6,none⟩ = some (.slice Ao32 x259006_1.length co32) := (blk_cell BK258.out 6).trans rfl
         have hfs42 := blk_frozen BK258.out 6
         have hns42_0 := NB241_258.out
         have hms42_0 := NB258_241.out
         refine skip_ (w1 := ?_) (by rfl) rfl ?_ ?_
         rotate_left
         ·go_simp
          rfl
         refine hK.out _ _ ?_
         clear hK K
         refine done_ (done_of HT_.out (by kernel_rfl)) ?_
         try go_wp2
         go_roundg k1
         case measure => have := HK1.out;omega
         case rel => exact ⟨(wrap64 (x4_1 + 1)),(t263),(t264),(y269),(.slice Ao41 y269.length co41),(by first | rfl | (simp;done) | (simp [*];done)),H',⟨by have := HK1.out;omega⟩,⟨by (with_reducible repeat (first | apply r1_ | apply r2_ | apply r3_));exact Kd.R_mono (zrf (Kd.R_types HO271.out BK258.out (by decide))) (fun _ hk => trivial)⟩,⟨zq BK241⟩,⟨zq BK258⟩,⟨(zi72 HI0)⟩,⟨zh_ HK⟩,⟨zl_ HB⟩⟩
        ·rw [if_neg c30] at H
         exact absurd H (by simp)
       ·rw [if_neg c29] at H
        exact absurd H (by simp)
      ·rw [if_neg c28] at H
       exact absurd H (by simp)
    ·rw [if_neg c22] at H
     have c22b0 : decide (x4_1 < 4) = false := decide_eq_false c22
     clear c22
     simp only [Option.some.injEq,Prod.mk.injEq] at H
     obtain ⟨rfl,rfl,rfl,rfl,rfl,rfl,rfl,rfl,rfl⟩ := H
     have hnb43 := NB258_241.out
     have hnc43 := NB241_258.out
     have hnb44 := NB258_0.out
     have hnc44 := NB0_258.out
     obtain ⟨hcz45_0,hcz45_1,hcz45_2,hcz45_3,hcz45_4,hcz45_5,hcz45_6,hfz45_0,hfz45_1,hfz45_2,hfz45_3,hfz45_4,hfz45_5,hfz45_6⟩ := zc7 BK258
     have hnb46 := NB241_0.out
     have hnc46 := NB0_241.out
     obtain ⟨hcz47_0,hcz47_1,hcz47_2,hcz47_3,hcz47_4,hcz47_5,hcz47_6,hfz47_0,hfz47_1,hfz47_2,hfz47_3,hfz47_4,hfz47_5,hfz47_6⟩ := zc7 BK241
     obtain ⟨Ao48,co48,eo48⟩ := Kd.R_slice HO_259006.out
     subst eo48
     go_wp2
     refine bodyPost_ret (results_cell_row rfl _ _ gb241 41 #[.bool false,.int .i64 t248,.int .i64 t249,.int .i64 t250,.int .i64 t251,.string t252,.slice Ao48 x259006_1.length co48] (0,0) _ rfl (zq BK241) Try.underlying41 rfl (by kernel_rfl)) rfl ?_
     exact ⟨_,zt_,by (with_reducible repeat (first | apply r1_ | apply r2_ | apply r3_));exact Kd.R_mono (zrf (Kd.R_types HO_259006.out BK241.out (by decide))) (fun _ hk => trivial),(zi72 HI0),zl_ HB,zh_ HK⟩
set_option maxHeartbeats 8000000 in
set_option maxRecDepth 100000 in
theorem spec_BatchOf.calls (k : Nat) (A0 : Option Addr) (c0 : Nat) (l0 : List Int) (r1 : Bool) (r2 : Int) (r3 : Int) (r4 : Int) (r5 : Int) (r6 : ByteArray) (r7 : List (S70)) (w : World) (hr0 : Kd.C (Kd.int .u8) w A0 l0.length l0) (hc0 : l0.length ≤ c0) (h : spec_BatchOf.f k l0 = some (r1,r2,r3,r4,r5,r6,r7)) :
  Calls Try.prog 16 #[.slice A0 l0.length c0] w fun e w' => ∃ v6_ : Value,e = .returned (.agg #[.bool r1,.int .i64 r2,.int .i64 r3,.int .i64 r4,.int .i64 r5,.string r6,v6_]) ∧ Kd.R k70 70 w' w.heap.size (fun _ => True) v6_ r7 ∧ Below w.heap.size w w' := by
 have hu41 := Try.underlying41
 have HR0 := am_ hr0
 have HC0 := am_ hc0
 clear hr0 hc0
 have HB := am_ (Below.refl w.heap.size w)
 have H : ((spec_l00Source.f l0).bind fun bt672 => ((spec_l00Src_batch.f k bt672.1 bt672.2.1 bt672.2.2).bind fun bt676 => (some (bt676.1,bt676.2.1,bt676.2.2.1,bt676.2.2.2.1,bt676.2.2.2.2.1,bt676.2.2.2.2.2.1,bt676.2.2.2.2.2.2.1)))) = some (r1,r2,r3,r4,r5,r6,r7) := h
 clear h
 replace H := Option.bind_eq_some_iff.mp H
 obtain ⟨⟨t672,t673,t674⟩,A20,H⟩ := H
 try dsimp only at H
 have A2 := am_ A20
 clear A20
 replace H := Option.bind_eq_some_iff.mp H
 obtain ⟨⟨t676,t677,t678,t679,t680,t681,t682,t685,t686⟩,A30,H⟩ := H
 try dsimp only at H
 have A3 := am_ A30
 clear A30
 simp only [Option.some.injEq,Prod.mk.injEq] at H
 obtain ⟨rfl,rfl,rfl,rfl,rfl,rfl,rfl⟩ := H
 go_enter Try.func16,Try.ntmps16
 go_wp2_with (first | ((with_reducible refine gate_dst (N := 2) rfl ?_);refine zbx (N := 2) (cs := #[.bool false,.int .i64 0,.int .i64 0,.int .i64 0,.int .i64 0,.string ⟨#[]⟩,.slice none 0 0]) (t := 41) ?_;intro gb671 hg w4 hbox hb;have BK671 := am_ (hbox);have GW671 := zw_ HB hg;have GE671 := zw_ HB hg;replace HB := zs_ HB hb;clear hb hbox hg) | ((with_reducible refine gate_callee (f := 22) rfl ?_);refine zgl (some 4) Try.func22 #[.slice A0 l0.length c0] ?_;(with_reducible refine (spec_l00Source.calls _ _ l0 t672 t673 t674 w _ ?side1 ?side2 ?side3 A2.out).mono ?_);(case side1 => exact zl_ HB);(case side2 => exact HR0.out);(case side3 => exact HC0.out);rintro e w5 ⟨g675,rfl,hi,hb,hb2⟩;refine ⟨_,rfl,?_⟩;replace HB := am_ (hb);have HI675 := am_ (hi);have NB675_671 := am_ (IsS72.ne_blk hi (blk_below (g := gb671) (o := .cells #[.bool false,.int .i64 0,.int .i64 0,.int .i64 0,.int .i64 0,.string ⟨#[]⟩,.slice none 0 0] 41 (0,0)) (zk BK671) hb2) (by decide));have NB671_675 := am_ (Ne.symm (IsS72.ne_blk hi (blk_below (g := gb671) (o := .cells #[.bool false,.int .i64 0,.int .i64 0,.int .i64 0,.int .i64 0,.string ⟨#[]⟩,.slice none 0 0] 41 (0,0)) (zk BK671) hb2) (by decide)));replace BK671 := am_ (blk_below (g := gb671) (o := .cells #[.bool false,.int .i64 0,.int .i64 0,.int .i64 0,.int .i64 0,.string ⟨#[]⟩,.slice none 0 0] 41 (0,0)) (zk BK671) hb2);(try clear hb);(try clear hb2);(try clear hk);(try clear hi)) | ((with_reducible refine gate_callee (f := 38) rfl ?_);refine zgl (some 5) Try.func38 #[.pointer (some ⟨g675,0,none⟩)] ?_;(with_reducible refine (spec_l00Src_batch.calls k g675 t672 t673 t674 t676 t677 t678 t679 t680 t681 t682 t685 t686 w _ ?side1 ?side2 A3.out).mono ?_);(case side1 => exact zi72 HI675);(case side2 => exact zl_ HB);rintro e w6 ⟨v683,rfl,ho0,hi,hb,hk⟩;refine ⟨_,rfl,?_⟩;replace BK671 := zkb hk BK671 NB671_675;have HO684 := am_ (Kd.R_lower ho0 (below_size (zl_ HB)));replace HB := am_ (hb);replace HI675 := am_ (hi);(try clear hb);(try clear hb2);(try clear hk);(try clear hi);(try clear ho0);have hnb7 := NB671_675.out;have hnc7 := NB675_671.out;obtain ⟨hcz8_0,hcz8_1,hcz8_2,hcz8_3,hcz8_4,hcz8_5,hcz8_6,hfz8_0,hfz8_1,hfz8_2,hfz8_3,hfz8_4,hfz8_5,hfz8_6⟩ := zc7 BK671;obtain ⟨Ao9,co9,eo9⟩ := Kd.R_slice HO684.out;subst eo9))
 refine bodyPost_ret (results_cell_row rfl _ _ gb671 41 #[.bool t676,.int .i64 t677,.int .i64 t678,.int .i64 t679,.int .i64 t680,.string t681,.slice Ao9 t682.length co9] (0,0) _ rfl (zq BK671) Try.underlying41 rfl (by kernel_rfl)) rfl ?_
 exact ⟨_,zt_,by (with_reducible repeat (first | apply r1_ | apply r2_ | apply r3_));exact Kd.R_mono (zrf (Kd.R_types HO684.out BK671.out (by decide))) (fun _ hk => trivial),zl_ HB⟩
set_option maxHeartbeats 8000000 in
set_option maxRecDepth 100000 in
theorem spec_l02Of.calls (k : Nat) (a0 : ByteArray) (r : Int) (w : World) (h : spec_l02Of.f k a0 = some r) :
  Calls Try.prog 54 #[.string a0] w fun e w' => e = .returned (.int .i64 r) ∧ Drawn0 w w' := by
 have H : (spec_l02Of.l0 k a0 0 0) = some r := h
 clear h
 have H' := am_ H
 clear H
 go_enter Try.func54,Try.ntmps54
 go_wp2
 go_loopg [3,4] k (fun kq v3 v4 w' => ∃ (x3_1 : Int) (x4_1 : Int),v3 = .int .i64 x3_1 ∧ v4 = .int .i64 x4_1 ∧ Aside0 (spec_l02Of.l0 kq a0 x3_1 x4_1 = some r) ∧ Aside0 (kq ≤ k) ∧ Drawn0 w w')
 case atStart => exact ⟨(0),(0),(by first | rfl | (simp;done) | (simp [*];done)),(by first | rfl | (simp;done) | (simp [*];done)),H',⟨Nat.le_refl _⟩,by repeat (first | exact Drawn0.refl _ | apply Drawn0.step)⟩
 case round =>
  clear H'
  obtain ⟨x3_1,x4_1,rfl,rfl,HA,HK1,⟨m1,rfl⟩⟩ := hrel
  cases gk with
  | zero => exact absurd HA.out (by simp [spec_l02Of.l0])
  | succ k1 =>
   have H := HA.out
   clear HA
   simp only [spec_l02Of.l0] at H
   by_cases c2 : x4_1 < (a0.size : Int)
   ·rw [if_pos c2] at H
    have c2b0 : decide (x4_1 < (a0.size : Int)) = true := decide_eq_true c2
    clear c2
    by_cases c3 : 0 ≤ x4_1
    ·rw [if_pos c3] at H
     have c3b0 : decide (0 ≤ x4_1) = true := decide_eq_true c3
     clear c3
     have H' := am_ H
     clear H
     have p4 : 0 ≤ (x4_1 : Int) := o1_ (by first | (with_reducible assumption) | assumption)
     have q4 : x4_1 < (a0.size : Int) := o1_ (by first | (with_reducible assumption) | assumption)
     have hx4 := bt_at a0 x4_1
     replace p4 := eq_true p4
     replace q4 := eq_true q4
     go_wp2
     go_roundg k1
     case measure => have := HK1.out;omega
     case rel => exact ⟨(wrap64 ((wrap64 (x3_1 * 256)) + (wrap64 (bt a0 x4_1)))),(wrap64 (x4_1 + 1)),(by first | rfl | (simp;done) | (simp [*];done)),(by first | rfl | (simp;done) | (simp [*];done)),H',⟨by have := HK1.out;omega⟩,by repeat (first | exact Drawn0.refl _ | apply Drawn0.step)⟩
    ·rw [if_neg c3] at H
     exact absurd H (by simp)
   ·rw [if_neg c2] at H
    have c2b0 : decide (x4_1 < (a0.size : Int)) = false := decide_eq_false c2
    clear c2
    obtain rfl := Option.some.inj H
    go_wp2
    go_ret
    exact ⟨by first | rfl | (simp;done) | (simp [*];done),by repeat (first | exact Drawn0.refl _ | apply Drawn0.step)⟩
def spec_l02ReadRequest.T3 : Bool × List (List Nat × List Nat) := (true,[([],[]),([0],[0]),([1],[1]),([],[]),([3],[3]),([4],[4]),([],[]),([6],[6]),([7],[7]),([],[]),([9],[9]),([10,5],[10]),([],[]),([12],[12]),([2,5,8,11,13],[2,5,8,11,13]),([],[]),([15,14,11,0,1,2,3,4,5,6,7,8,9,10,11,12,13,14,15],[14,15])])
def spec_l02ReadRequest.B3 : List Nat := [0,1,3,0,8,24,0,64,192,0,512,1592,0,4096,16383,0,65535]
theorem spec_l02ReadRequest.tab3 : rtab .any (opsOf Try.f63 3) = spec_l02ReadRequest.T3 := by kernel_rfl
theorem spec_l02ReadRequest.bits3 : waitsOk spec_l02ReadRequest.T3.2 spec_l02ReadRequest.B3 = true := by kernel_rfl
set_option maxHeartbeats 8000000 in
set_option maxRecDepth 100000 in
theorem spec_l02ReadRequest.calls (k : Nat) (a0 : ByteArray) (r1 : Int) (r2 : Int) (r3 : Int) (r4 : Int) (r5 : ByteArray) (r6 : Bool) (w : World) (h : spec_l02ReadRequest.f k a0 = some (r1,r2,r3,r4,r5,r6)) :
  Calls Try.prog 63 #[.string a0] w fun e w' => e = .returned (.tuple #[.agg #[.int .i64 r1,.int .i64 r2,.int .i64 r3,.int .i64 r4,.string r5],.bool r6]) ∧ Below w.heap.size w w' := by
 have hu33 := Try.underlying33
 have HB := am_ (Below.refl w.heap.size w)
 have H : (if (a0.size : Int) < 7 then (spec_l02ReadRequest.j0 k a0 true) else (if 6 < (a0.size : Int) then (spec_l02ReadRequest.j0 k a0 ((a0.size : Int) != (wrap64 (7 + (wrap64 (bt a0 6)))))) else (none))) = some (r1,r2,r3,r4,r5,r6) := h
 clear h
 have HC2 := am_ H
 clear H
 go_enter Try.func63,Try.ntmps63
 go_upto_region 1 with (first | ((with_reducible refine gate_dst (N := 2) rfl ?_);(try (refine gate_guard (by rfl) ?_;dsimp only));refine zbx (N := 2) (cs := #[.int .i64 0,.int .i64 0,.int .i64 0,.int .i64 0,.string ⟨#[]⟩]) (t := 33) ?_;intro gb771 hg w3 hbox hb;have BK771 := am_ (hbox);have GW771 := zw_ HB hg;have GE771 := zw_ HB hg;replace HB := zs_ HB hb;clear hb hbox hg))
 (try simp only [Act.put,p1_,p2_,p3_])
 go_cut [16] (fun v16 wc => ∃ (kq : Nat) (x16_1 : Bool),v16 = .bool x16_1 ∧ Aside0 (spec_l02ReadRequest.j0 kq a0 x16_1 = some (r1,r2,r3,r4,r5,r6)) ∧ Aside0 (kq ≤ k) ∧ Aside0 (wc.heap[gb771]? = some (.cells #[.int .i64 0,.int .i64 0,.int .i64 0,.int .i64 0,.string ⟨#[]⟩] 33 (0,0))) ∧ Aside0 (Below w.heap.size w wc))
 case first =>
  have H := HC2.out
  clear HC2
  by_cases c4 : (a0.size : Int) < 7
  ·rw [if_pos c4] at H
   have c4b0 : decide ((a0.size : Int) < 7) = true := decide_eq_true c4
   have c4b1 : decide (a0.size < 7) = true := decide_eq_true (by omega)
   clear c4
   (first | rw [c4b0] | (simp only [i64_w,i32_w];rw [c4b0]) | skip)
   have H' := am_ H
   clear H
   go_wp2
   go_meet
   case rel => exact ⟨_,(true),(by first | rfl | (simp;done) | (simp [*];done)),H',⟨by first | omega | exact Nat.le_refl _⟩,⟨by (with_reducible repeat (first | apply k1_ | apply k2_ | apply k3_));exact BK771.out⟩,⟨zl_ HB⟩⟩
  ·rw [if_neg c4] at H
   have c4b0 : decide ((a0.size : Int) < 7) = false := decide_eq_false c4
   have c4b1 : decide (a0.size < 7) = false := decide_eq_false (by omega)
   clear c4
   (first | rw [c4b0] | (simp only [i64_w,i32_w];rw [c4b0]) | skip)
   by_cases c5 : 6 < (a0.size : Int)
   ·rw [if_pos c5] at H
    have c5b0 : decide (6 < (a0.size : Int)) = true := decide_eq_true c5
    have c5b1 : decide (6 < a0.size) = true := decide_eq_true (by omega)
    clear c5
    have H' := am_ H
    clear H
    have p6 : 0 ≤ (6 : Int) := (by omega)
    have q6 : 6 < a0.size := (by have : (6 : Int) < (a0.size : Int) := o1_ (by first | (with_reducible assumption) | assumption);omega)
    have hx6 : ∀ h : 6 < a0.size,((a0[6]'h).toNat : Int) = bt a0 6 := bt_at a0 6
    clear p6
    have qi6 : (6 < (a0.size : Int)) = True := eq_true (o1_ (by first | (with_reducible assumption) | assumption))
    replace q6 := eq_true q6
    go_wp2
    go_meet
    case rel => exact ⟨_,(((a0.size : Int) != (wrap64 (7 + (wrap64 (bt a0 6)))))),(by first | rfl | (simp;done) | (simp [*];done)),H',⟨by first | omega | exact Nat.le_refl _⟩,⟨by (with_reducible repeat (first | apply k1_ | apply k2_ | apply k3_));exact BK771.out⟩,⟨zl_ HB⟩⟩
   ·rw [if_neg c5] at H
    exact absurd H (by simp)
 case rest =>
  clear HC2
  try clear p2
  try clear c4
  try clear c4b0
  try clear c4b1
  try clear c5
  try clear c5b0
  try clear c5b1
  try clear c6
  try clear p6
  try clear q6
  try clear hx6
  try clear qi6
  try clear p6
  try clear q6
  obtain ⟨kq,x16_1,rfl,HA,HJ1,BK771,HB⟩ := hcut
  cases kq with
  | zero => exact absurd HA.out (by simp [spec_l02ReadRequest.j0])
  | succ kj1 =>
   have H := HA.out
   clear HA
   simp only [spec_l02ReadRequest.j0] at H
   by_cases c7 : x16_1 = true
   ·subst c7
    have H1 : (some (0,0,0,0,(⟨#[]⟩ : ByteArray),false)) = some (r1,r2,r3,r4,r5,r6) := by rw [if_pos rfl] at H;exact H
    clear H
    have H := H1
    clear H1
    simp only [Option.some.injEq,Prod.mk.injEq] at H
    obtain ⟨rfl,rfl,rfl,rfl,rfl,rfl⟩ := H
    obtain ⟨hcz8_0,hcz8_1,hcz8_2,hcz8_3,hcz8_4,hfz8_0,hfz8_1,hfz8_2,hfz8_3,hfz8_4⟩ := zc5 BK771
    go_wp2
    refine bodyPost_ret (results_ct rfl _ _ gb771 33 #[.int .i64 0,.int .i64 0,.int .i64 0,.int .i64 0,.string ⟨#[]⟩] (0,0) _ rfl (zq BK771) Try.underlying33 rfl (by kernel_rfl)) rfl ?_
    exact ⟨zt_,zl_ HB⟩
   ·replace c7 := Bool.eq_false_iff.mpr c7
    subst c7
    have H1 : (if 0 < (a0.size : Int) then (if 1 ≤ 3 then (if 3 ≤ (a0.size : Int) then ((spec_l02Of.f kj1 (a0.extract 1 3)).bind fun t772 => (if 3 < (a0.size : Int) then (if 4 ≤ 6 then (if 6 ≤ (a0.size : Int) then ((spec_l02Of.f kj1 (a0.extract 4 6)).bind fun t773 => (if 7 ≤ (a0.size : Int) then ((spec_RequestOK.f kj1 (wrap64 (bt a0 0)) t772 (wrap64 (bt a0 3)) t773 (a0.extract 7 a0.size)).bind fun t775 => (some (wrap64 (bt a0 0),t772,wrap64 (bt a0 3),t773,a0.extract 7 a0.size,t775))) else (none))) else (none)) else (none)) else (none))) else (none)) else (none)) else (none)) = some (r1,r2,r3,r4,r5,r6) := by rw [if_neg (show ¬ (false = true) by decide)] at H;exact H
    clear H
    have H := H1
    clear H1
    by_cases c9 : 0 < (a0.size : Int)
    ·rw [if_pos c9] at H
     have c9b0 : decide (0 < (a0.size : Int)) = true := decide_eq_true c9
     have c9b1 : decide (0 < a0.size) = true := decide_eq_true (by omega)
     clear c9
     by_cases c11 : 1 ≤ 3
     ·rw [if_pos c11] at H
      have c11b0 := eq_true c11
      have c11b1 : decide (1 ≤ 3) = true := decide_eq_true c11
      clear c11
      by_cases c12 : 3 ≤ (a0.size : Int)
      ·rw [if_pos c12] at H
       have c12b0 := eq_true c12
       have c12b1 : decide (3 ≤ (a0.size : Int)) = true := decide_eq_true c12
       clear c12
       replace H := Option.bind_eq_some_iff.mp H
       obtain ⟨t772,A130,H⟩ := H
       try dsimp only at H
       have A13 := am_ A130
       clear A130
       by_cases c14 : 3 < (a0.size : Int)
       ·rw [if_pos c14] at H
        have c14b0 : decide (3 < (a0.size : Int)) = true := decide_eq_true c14
        have c14b1 : decide (3 < a0.size) = true := decide_eq_true (by omega)
        clear c14
        by_cases c16 : 4 ≤ 6
        ·rw [if_pos c16] at H
         have c16b0 := eq_true c16
         have c16b1 : decide (4 ≤ 6) = true := decide_eq_true c16
         clear c16
         by_cases c17 : 6 ≤ (a0.size : Int)
         ·rw [if_pos c17] at H
          have c17b0 := eq_true c17
          have c17b1 : decide (6 ≤ (a0.size : Int)) = true := decide_eq_true c17
          clear c17
          replace H := Option.bind_eq_some_iff.mp H
          obtain ⟨t773,A180,H⟩ := H
          try dsimp only at H
          have A18 := am_ A180
          clear A180
          by_cases c19 : 7 ≤ (a0.size : Int)
          ·rw [if_pos c19] at H
           have c19b0 := eq_true c19
           have c19b1 : decide (7 ≤ (a0.size : Int)) = true := decide_eq_true c19
           clear c19
           replace H := Option.bind_eq_some_iff.mp H
           obtain ⟨t775,A200,H⟩ := H
           try dsimp only at H
           have A20 := am_ A200
           clear A200
           simp only [Option.some.injEq,Prod.mk.injEq] at H
           obtain ⟨rfl,rfl,rfl,rfl,rfl,rfl⟩ := H
           try go_wp2
           replace BK771 := am_ (blk_drew BK771.out)
           replace HB := am_ (below_drew1 HB.out)
           have p10 : 0 ≤ (0 : Int) := (by omega)
           have q10 : 0 < a0.size := (by have : (0 : Int) < (a0.size : Int) := o1_ (by first | (with_reducible assumption) | assumption);omega)
           have hx10 : ∀ h : 0 < a0.size,((a0[0]'h).toNat : Int) = bt a0 0 := bt_at a0 0
           clear p10
           have qi10 : (0 < (a0.size : Int)) = True := eq_true (o1_ (by first | (with_reducible assumption) | assumption))
           replace q10 := eq_true q10
           have p15 : 0 ≤ (3 : Int) := (by omega)
           have q15 : 3 < a0.size := (by have : (3 : Int) < (a0.size : Int) := o1_ (by first | (with_reducible assumption) | assumption);omega)
           have hx15 : ∀ h : 3 < a0.size,((a0[3]'h).toNat : Int) = bt a0 3 := bt_at a0 3
           clear p15
           have qi15 : (3 < (a0.size : Int)) = True := eq_true (o1_ (by first | (with_reducible assumption) | assumption))
           replace q15 := eq_true q15
           refine start_ (n := 17) (S := fun w' => True) (ds := []) #[false,false,false,false,false,false,false,false,false,false,false,false,false,false,false,false,false] (by kernel_rfl) rfl rfl trivial (fun hHeld => ?_);refine with_tabW spec_l02ReadRequest.tab3 spec_l02ReadRequest.bits3 (fun HT_ HW_ => ?_)
           generalize wc.drew = w21 at BK771 HB hHeld ⊢
           refine zpu 0 (N := some 18) #[true,false,false,false,false,false,false,false,false,false,false,false,false,false,false,false,false] HT_ ?_
           refine zpu 3 (N := some 21) #[true,false,false,true,false,false,false,false,false,false,false,false,false,false,false,false,false] HT_ ?_
           refine zpu 4 (N := some 22) #[true,false,false,true,true,false,false,false,false,false,false,false,false,false,false,false,false] HT_ ?_
           refine zpu 6 (N := some 24) #[true,false,false,true,true,false,true,false,false,false,false,false,false,false,false,false,false] HT_ ?_
           refine zpu 9 (N := some 27) #[true,false,false,true,true,false,true,false,false,true,false,false,false,false,false,false,false] HT_ ?_
           refine zpu 10 (N := some 28) #[true,false,false,true,true,false,true,false,false,true,true,false,false,false,false,false,false] HT_ ?_
           refine zpu 12 (N := some 30) #[true,false,false,true,true,false,true,false,false,true,true,false,true,false,false,false,false] HT_ ?_
           refine zpu 13 (N := some 31) #[true,false,false,true,true,false,true,false,false,true,true,false,true,true,false,false,false] HT_ ?_
           refine take_ (i := 1) (N := some 19) (v := ?_) (a' := ?_) #[true,true,false,true,true,false,true,false,false,true,true,false,true,true,false,false,false] rfl rfl (take_ofW HT_.out HW_.out (by kernel_rfl)) (fun _ _ _ h => h) (Or.inl ⟨by rfl,?_⟩) hHeld ?_ ?_
           rotate_left
           ·intro w' _
            go_simp
            with_reducible rfl
           rotate_left
           ·simp only [Act.put,p1_,p2_,p3_,i64_w,i32_w]
            rfl
           refine zpu 2 (N := some 20) #[true,true,true,true,true,false,true,false,false,true,true,false,true,true,false,false,false] HT_ ?_
           refine take_ (i := 7) (N := some 25) (v := ?_) (a' := ?_) #[true,true,true,true,true,false,true,true,false,true,true,false,true,true,false,false,false] rfl rfl (take_ofW HT_.out HW_.out (by kernel_rfl)) (fun _ _ _ h => h) (Or.inl ⟨by rfl,?_⟩) hHeld ?_ ?_
           rotate_left
           ·intro w' _
            go_simp
            with_reducible rfl
           rotate_left
           ·simp only [Act.put,p1_,p2_,p3_,i64_w,i32_w]
            rfl
           refine zpu 8 (N := some 26) #[true,true,true,true,true,false,true,true,true,true,true,false,true,true,false,false,false] HT_ ?_
           refine join_ (σ := Nat) 1 #[true,true,true,true,true,true,true,true,true,true,true,true,true,true,true,true,false] (fun s_ => [(23,.int .i64 t772),(29,.int .i64 t773),(4,.pointer (some ⟨s_,0,none⟩)),(32,.agg #[.int .i64 (wrap64 (bt a0 0)),.int .i64 t772,.int .i64 (wrap64 (bt a0 3)),.int .i64 t773,.string (a0.extract 7 a0.size)])]) (fun s_ w' => (w'.heap[gb771]? = some (.cells #[.int .i64 0,.int .i64 0,.int .i64 0,.int .i64 0,.string ⟨#[]⟩] 33 (0,0))) ∧ (w'.heap[s_]? = some (.cells #[.int .i64 0,.int .i64 0,.int .i64 0,.int .i64 0,.string ⟨#[]⟩] 33 (0,0))) ∧ (w.heap.size ≤ s_) ∧ (w.heap.size ≤ s_) ∧ (gb771 ≠ s_) ∧ (s_ ≠ gb771) ∧ (Below w.heap.size w w')) ?_ ?_
           rotate_left
           ·intro hCont
            refine two_ (i := 5) (j := 15) (Ni := some 23) (Nj := some 4) #[true,true,true,true,true,true,true,true,true,true,true,false,true,true,false,false,false] #[true,true,true,true,true,false,true,true,true,true,true,false,true,true,false,true,false] rfl rfl rfl rfl (two_of HT_.out (by kernel_rfl)) (by decide) (by decide) (fun K hK => ?_) (fun K hK => ?_)
            ·skip
             refine goes_ Try.func54 (by kernel_rfl) rfl #[.string (a0.extract 1 3)] (by rfl) rfl rfl (by (try simp only [m1_,m2_,m3_]);first | done | rfl | (simp only [d1_,d2_];rfl)) ?_
             with_reducible refine (spec_l02Of.calls kj1 (a0.extract 1 3) t772 _ A13.out).mono ?_
             rintro e w' ⟨rfl,⟨nd,rfl⟩⟩
             refine ⟨_,rfl,?_⟩
             refine hK.out _ _ trivial (fun hHeld => ?_)
             clear hK K
             refine norm_ (a' := ?_) ?_ ?_
             rotate_left
             ·show Act.put _ (some 23) _ = _
              simp only [Act.put,p1_,p2_,p3_,i64_w,i32_w]
              rfl
             refine two_ (i := 11) (j := 15) (Ni := some 29) (Nj := some 4) #[true,true,true,true,true,true,true,true,true,true,true,true,true,true,false,false,false] #[true,true,true,true,true,true,true,true,true,true,true,false,true,true,false,true,false] rfl rfl rfl rfl (two_of HT_.out (by kernel_rfl)) (by decide) (by decide) (fun K hK => ?_) (fun K hK => ?_)
             ·skip
              refine goes_ Try.func54 (by kernel_rfl) rfl #[.string (a0.extract 4 6)] (by rfl) rfl rfl (by (try simp only [m1_,m2_,m3_]);first | done | rfl | (simp only [d1_,d2_];rfl)) ?_
              with_reducible refine (spec_l02Of.calls kj1 (a0.extract 4 6) t773 _ A18.out).mono ?_
              rintro e w' ⟨rfl,⟨nd,rfl⟩⟩
              refine ⟨_,rfl,?_⟩
              refine hK.out _ _ trivial (fun hHeld => ?_)
              clear hK K
              refine norm_ (a' := ?_) ?_ ?_
              rotate_left
              ·show Act.put _ (some 29) _ = _
               simp only [Act.put,p1_,p2_,p3_,i64_w,i32_w]
               rfl
              refine zpu 14 (N := some 32) #[true,true,true,true,true,true,true,true,true,true,true,true,true,true,true,false,false] HT_ ?_
              refine one_ (i := 15) (N := some 4) #[true,true,true,true,true,true,true,true,true,true,true,true,true,true,true,true,false] rfl rfl (one_of HT_.out (by kernel_rfl)) (by decide) (fun K hK => ?_)
              refine box_step ?hg (N := 4) ?hd (cs := #[.int .i64 0,.int .i64 0,.int .i64 0,.int .i64 0,.string ⟨#[]⟩]) (t := 33) ?hr ?_;(case hd => rfl);(case hg => rfl);(case hr => first | (go_simp;done) | (go_simp;rfl))
              intro gb774 hg w22 hbox hb
              have BK774 := am_ (hbox)
              have GW774 := zw_ HB hg
              have GE774 := zw_ HB hg
              replace HB := zs_ HB hb
              have NB771_774 := zl hg BK771
              have NB774_771 := zg hg BK771
              replace BK771 := zb BK771 hb
              clear hb hbox hg
              refine hK.out _ _ trivial (fun hHeld => ?_)
              clear hK K
              refine norm_ (a' := ?_) ?_ ?_
              rotate_left
              ·show Act.put _ (some 4) _ = _
               simp only [Act.put,p1_,p2_,p3_,i64_w,i32_w]
               rfl
              exact norm_ (by simp only [putAll,Act.put,p1_,p2_,p3_]) (hCont (gb774) _ ⟨(zk BK771),(zk BK774),GW774.out,GE774.out,NB771_774.out,NB774_771.out,(zl_ HB)⟩)
             ·skip
              refine box_step ?hg (N := 4) ?hd (cs := #[.int .i64 0,.int .i64 0,.int .i64 0,.int .i64 0,.string ⟨#[]⟩]) (t := 33) ?hr ?_;(case hd => rfl);(case hg => rfl);(case hr => first | (go_simp;done) | (go_simp;rfl))
              intro gb774 hg w22 hbox hb
              have BK774 := am_ (hbox)
              have GW774 := zw_ HB hg
              have GE774 := zw_ HB hg
              replace HB := zs_ HB hb
              have NB771_774 := zl hg BK771
              have NB774_771 := zg hg BK771
              replace BK771 := zb BK771 hb
              clear hb hbox hg
              refine hK.out _ _ trivial (fun hHeld => ?_)
              clear hK K
              refine norm_ (a' := ?_) ?_ ?_
              rotate_left
              ·show Act.put _ (some 4) _ = _
               simp only [Act.put,p1_,p2_,p3_,i64_w,i32_w]
               rfl
              refine one_ (i := 11) (N := some 29) #[true,true,true,true,true,true,true,true,true,true,true,true,true,true,false,true,false] rfl rfl (one_of HT_.out (by kernel_rfl)) (by decide) (fun K hK => ?_)
              refine goes_ Try.func54 (by kernel_rfl) rfl #[.string (a0.extract 4 6)] (by rfl) rfl rfl (by (try simp only [m1_,m2_,m3_]);first | done | rfl | (simp only [d1_,d2_];rfl)) ?_
              with_reducible refine (spec_l02Of.calls kj1 (a0.extract 4 6) t773 _ A18.out).mono ?_
              rintro e w' ⟨rfl,⟨nd,rfl⟩⟩
              refine ⟨_,rfl,?_⟩
              refine hK.out _ _ trivial (fun hHeld => ?_)
              clear hK K
              refine norm_ (a' := ?_) ?_ ?_
              rotate_left
              ·show Act.put _ (some 29) _ = _
               simp only [Act.put,p1_,p2_,p3_,i64_w,i32_w]
               rfl
              refine zpu 14 (N := some 32) #[true,true,true,true,true,true,true,true,true,true,true,true,true,true,true,true,false] HT_ ?_
              exact norm_ (by simp only [putAll,Act.put,p1_,p2_,p3_]) (hCont (gb774) _ ⟨(zk BK771),(zk BK774),GW774.out,GE774.out,NB771_774.out,NB774_771.out,(zl_ HB)⟩)
            ·skip
             refine box_step ?hg (N := 4) ?hd (cs := #[.int .i64 0,.int .i64 0,.int .i64 0,.int .i64 0,.string ⟨#[]⟩]) (t := 33) ?hr ?_;(case hd => rfl);(case hg => rfl);(case hr => first | (go_simp;done) | (go_simp;rfl))
             intro gb774 hg w22 hbox hb
             have BK774 := am_ (hbox)
             have GW774 := zw_ HB hg
             have GE774 := zw_ HB hg
             replace HB := zs_ HB hb
             have NB771_774 := zl hg BK771
             have NB774_771 := zg hg BK771
             replace BK771 := zb BK771 hb
             clear hb hbox hg
             refine hK.out _ _ trivial (fun hHeld => ?_)
             clear hK K
             refine norm_ (a' := ?_) ?_ ?_
             rotate_left
             ·show Act.put _ (some 4) _ = _
              simp only [Act.put,p1_,p2_,p3_,i64_w,i32_w]
              rfl
             refine one_ (i := 5) (N := some 23) #[true,true,true,true,true,true,true,true,true,true,true,false,true,true,false,true,false] rfl rfl (one_of HT_.out (by kernel_rfl)) (by decide) (fun K hK => ?_)
             refine goes_ Try.func54 (by kernel_rfl) rfl #[.string (a0.extract 1 3)] (by rfl) rfl rfl (by (try simp only [m1_,m2_,m3_]);first | done | rfl | (simp only [d1_,d2_];rfl)) ?_
             with_reducible refine (spec_l02Of.calls kj1 (a0.extract 1 3) t772 _ A13.out).mono ?_
             rintro e w' ⟨rfl,⟨nd,rfl⟩⟩
             refine ⟨_,rfl,?_⟩
             refine hK.out _ _ trivial (fun hHeld => ?_)
             clear hK K
             refine norm_ (a' := ?_) ?_ ?_
             rotate_left
             ·show Act.put _ (some 23) _ = _
              simp only [Act.put,p1_,p2_,p3_,i64_w,i32_w]
              rfl
             refine one_ (i := 11) (N := some 29) #[true,true,true,true,true,true,true,true,true,true,true,true,true,true,false,true,false] rfl rfl (one_of HT_.out (by kernel_rfl)) (by decide) (fun K hK => ?_)
             refine goes_ Try.func54 (by kernel_rfl) rfl #[.string (a0.extract 4 6)] (by rfl) rfl rfl (by (try simp only [m1_,m2_,m3_]);first | done | rfl | (simp only [d1_,d2_];rfl)) ?_
             with_reducible refine (spec_l02Of.calls kj1 (a0.extract 4 6) t773 _ A18.out).mono ?_
             rintro e w' ⟨rfl,⟨nd,rfl⟩⟩
             refine ⟨_,rfl,?_⟩
             refine hK.out _ _ trivial (fun hHeld => ?_)
             clear hK K
             refine norm_ (a' := ?_) ?_ ?_
             rotate_left
             ·show Act.put _ (some 29) _ = _
              simp only [Act.put,p1_,p2_,p3_,i64_w,i32_w]
              rfl
             refine zpu 14 (N := some 32) #[true,true,true,true,true,true,true,true,true,true,true,true,true,true,true,true,false] HT_ ?_
             exact norm_ (by simp only [putAll,Act.put,p1_,p2_,p3_]) (hCont (gb774) _ ⟨(zk BK771),(zk BK774),GW774.out,GE774.out,NB771_774.out,NB774_771.out,(zl_ HB)⟩)
           rintro gb774 w23 ⟨h0_,h1_,h2_,h3_,h4_,h5_,h6_⟩
           have n0_ : Aside0 (w23.heap[gb771]? = some (.cells #[.int .i64 0,.int .i64 0,.int .i64 0,.int .i64 0,.string ⟨#[]⟩] 33 (0,0))) := ⟨h0_⟩
           have n1_ : Aside0 (w23.heap[gb774]? = some (.cells #[.int .i64 0,.int .i64 0,.int .i64 0,.int .i64 0,.string ⟨#[]⟩] 33 (0,0))) := ⟨h1_⟩
           have n2_ : Aside0 (w.heap.size ≤ gb774) := ⟨h2_⟩
           have n3_ : Aside0 (w.heap.size ≤ gb774) := ⟨h3_⟩
           have n4_ : Aside0 (gb771 ≠ gb774) := ⟨h4_⟩
           have n5_ : Aside0 (gb774 ≠ gb771) := ⟨h5_⟩
           have n6_ : Aside0 (Below w.heap.size w w23) := ⟨h6_⟩
           clear BK771
           clear HB
           clear h0_ h1_ h2_ h3_ h4_ h5_ h6_
           have BK771 := n0_
           have BK774 := n1_
           have GW774 := n2_
           have GE774 := n3_
           have NB771_774 := n4_
           have NB774_771 := n5_
           have HB := n6_
           clear n0_ n1_ n2_ n3_ n4_ n5_ n6_
           have hHeld := trivial
           refine norm_ (a' := ?_) ?_ ?_
           rotate_left
           ·simp only [putAll,Act.put,p1_,p2_,p3_]
            rfl
           refine one_ (i := 16) (N := none) #[true,true,true,true,true,true,true,true,true,true,true,true,true,true,true,true,true] rfl rfl (one_of HT_.out (by kernel_rfl)) (by decide) (fun K hK => ?_)
           have hs24 : w23.cell? ⟨gb774,0,none⟩ = some (.int .i64 0) := (blk_cell BK774.out 0).trans rfl
           have hfs24 := blk_frozen BK774.out 0
           have hns24_0 := NB771_774.out
           have hms24_0 := NB774_771.out
           have hs25 : w23.cell? ⟨gb774,1,none⟩ = some (.int .i64 0) := (blk_cell BK774.out 1).trans rfl
           have hfs25 := blk_frozen BK774.out 1
           have hns25_0 := NB771_774.out
           have hms25_0 := NB774_771.out
           have hs26 : w23.cell? ⟨gb774,2,none⟩ = some (.int .i64 0) := (blk_cell BK774.out 2).trans rfl
           have hfs26 := blk_frozen BK774.out 2
           have hns26_0 := NB771_774.out
           have hms26_0 := NB774_771.out
           have hs27 : w23.cell? ⟨gb774,3,none⟩ = some (.int .i64 0) := (blk_cell BK774.out 3).trans rfl
           have hfs27 := blk_frozen BK774.out 3
           have hns27_0 := NB771_774.out
           have hms27_0 := NB774_771.out
           have hs28 : w23.cell? ⟨gb774,4,none⟩ = some (.string ⟨#[]⟩) := (blk_cell BK774.out 4).trans rfl
           have hfs28 := blk_frozen BK774.out 4
           have hns28_0 := NB771_774.out
           have hms28_0 := NB774_771.out
           refine skip_ (w1 := ?_) (by rfl) rfl ?_ ?_
           rotate_left
           ·go_simp
            rfl
           refine hK.out _ _ trivial (fun hHeld => ?_)
           clear hK K
           refine done_ (done_of HT_.out (by kernel_rfl)) ?_
           try go_wp2
           have n0_ : Aside0 ((((((w23.setCell ⟨gb774,0,none⟩ (.int .i64 (wrap64 (bt a0 0)))).setCell ⟨gb774,1,none⟩ (.int .i64 t772)).setCell ⟨gb774,2,none⟩ (.int .i64 (wrap64 (bt a0 3)))).setCell ⟨gb774,3,none⟩ (.int .i64 t773)).setCell ⟨gb774,4,none⟩ (.string (a0.extract 7 a0.size))).heap[gb771]? = some (.cells #[.int .i64 0,.int .i64 0,.int .i64 0,.int .i64 0,.string ⟨#[]⟩] 33 (0,0))) := ⟨zq BK771⟩
           have n1_ : Aside0 ((((((w23.setCell ⟨gb774,0,none⟩ (.int .i64 (wrap64 (bt a0 0)))).setCell ⟨gb774,1,none⟩ (.int .i64 t772)).setCell ⟨gb774,2,none⟩ (.int .i64 (wrap64 (bt a0 3)))).setCell ⟨gb774,3,none⟩ (.int .i64 t773)).setCell ⟨gb774,4,none⟩ (.string (a0.extract 7 a0.size))).heap[gb774]? = some (.cells #[.int .i64 (wrap64 (bt a0 0)),.int .i64 t772,.int .i64 (wrap64 (bt a0 3)),.int .i64 t773,.string (a0.extract 7 a0.size)] 33 (0,0))) := ⟨zq BK774⟩
           have n2_ : Aside0 (Below w.heap.size w (((((w23.setCell ⟨gb774,0,none⟩ (.int .i64 (wrap64 (bt a0 0)))).setCell ⟨gb774,1,none⟩ (.int .i64 t772)).setCell ⟨gb774,2,none⟩ (.int .i64 (wrap64 (bt a0 3)))).setCell ⟨gb774,3,none⟩ (.int .i64 t773)).setCell ⟨gb774,4,none⟩ (.string (a0.extract 7 a0.size)))) := ⟨zl_ HB⟩
           (try clear BK771)
           (try clear BK774)
           (try clear HB)
           generalize (((((w23.setCell ⟨gb774,0,none⟩ (.int .i64 (wrap64 (bt a0 0)))).setCell ⟨gb774,1,none⟩ (.int .i64 t772)).setCell ⟨gb774,2,none⟩ (.int .i64 (wrap64 (bt a0 3)))).setCell ⟨gb774,3,none⟩ (.int .i64 t773)).setCell ⟨gb774,4,none⟩ (.string (a0.extract 7 a0.size))) = w29 at n0_ n1_ n2_ ⊢
           have BK771 := n0_
           have BK774 := n1_
           have HB := n2_
           clear n0_ n1_ n2_
           replace BK771 := am_ (blk_drew BK771.out)
           replace BK774 := am_ (blk_drew BK774.out)
           replace HB := am_ (below_drew1 HB.out)
           refine start_ (n := 5) (S := fun w' => w'.cell? ⟨gb774,0,none⟩ = some (.int .i64 (wrap64 (bt a0 0))) ∧ w'.cell? ⟨gb774,1,none⟩ = some (.int .i64 t772) ∧ w'.cell? ⟨gb774,2,none⟩ = some (.int .i64 (wrap64 (bt a0 3))) ∧ w'.cell? ⟨gb774,3,none⟩ = some (.int .i64 t773) ∧ w'.cell? ⟨gb774,4,none⟩ = some (.string (a0.extract 7 a0.size))) (ds := []) #[false,false,false,false,false] (by kernel_rfl) rfl rfl ⟨(blk_cell BK774.out 0).trans rfl,(blk_cell BK774.out 1).trans rfl,(blk_cell BK774.out 2).trans rfl,(blk_cell BK774.out 3).trans rfl,(blk_cell BK774.out 4).trans rfl⟩ (fun hHeld => ?_)
           generalize w29.drew = w30 at BK771 BK774 HB hHeld ⊢
           refine take_ (i := 0) (N := some 33) (v := ?_) (a' := ?_) #[true,false,false,false,false] rfl rfl (by kernel_rfl) (fun _ _ _ h => h) (Or.inl ⟨by rfl,?_⟩) hHeld ?_ ?_
           rotate_left
           ·rintro w' ⟨s0,s1,s2,s3,s4⟩
            go_simp
            with_reducible rfl
           rotate_left
           ·simp only [Act.put,p1_,p2_,p3_,i64_w,i32_w]
            rfl
           refine take_ (i := 1) (N := some 34) (v := ?_) (a' := ?_) #[true,true,false,false,false] rfl rfl (by kernel_rfl) (fun _ _ _ h => h) (Or.inl ⟨by rfl,?_⟩) hHeld ?_ ?_
           rotate_left
           ·rintro w' ⟨s0,s1,s2,s3,s4⟩
            go_simp
            with_reducible rfl
           rotate_left
           ·simp only [Act.put,p1_,p2_,p3_,i64_w,i32_w]
            rfl
           refine one_ (i := 2) (N := some 35) #[true,true,true,false,false] rfl rfl (by kernel_rfl) (by decide) (fun K hK => ?_)
           refine goes_ Try.func33 (by kernel_rfl) rfl #[.agg #[.int .i64 (wrap64 (bt a0 0)),.int .i64 t772,.int .i64 (wrap64 (bt a0 3)),.int .i64 t773,.string (a0.extract 7 a0.size)]] (by rfl) rfl rfl (by (try simp only [m1_,m2_,m3_]);first | done | rfl | (simp only [d1_,d2_];rfl)) ?_
           with_reducible refine (spec_RequestOK.calls kj1 (wrap64 (bt a0 0)) t772 (wrap64 (bt a0 3)) t773 (a0.extract 7 a0.size) t775 _ A20.out).mono ?_
           rintro e w31 ⟨rfl,hb⟩
           refine ⟨_,rfl,?_⟩
           replace BK771 := zb BK771 hb
           replace BK774 := zb BK774 hb
           replace HB := zs_ HB hb
           (try clear hb)
           (try clear hb2)
           (try clear hk)
           (try clear hi)
           refine hK.out _ _ ⟨(blk_cell BK774.out 0).trans rfl,(blk_cell BK774.out 1).trans rfl,(blk_cell BK774.out 2).trans rfl,(blk_cell BK774.out 3).trans rfl,(blk_cell BK774.out 4).trans rfl⟩ (fun hHeld => ?_)
           clear hK K
           refine norm_ (a' := ?_) ?_ ?_
           rotate_left
           ·show Act.put _ (some 35) _ = _
            simp only [Act.put,p1_,p2_,p3_,i64_w,i32_w]
            rfl
           refine one_ (i := 3) (N := none) #[true,true,true,true,false] rfl rfl (by kernel_rfl) (by decide) (fun K hK => ?_)
           have hs32 : w31.cell? ⟨gb771,0,none⟩ = some (.int .i64 0) := (blk_cell BK771.out 0).trans rfl
           have hfs32 := blk_frozen BK771.out 0
           have hns32_1 := NB774_771.out
           have hms32_1 := NB771_774.out
           have hs33 : w31.cell? ⟨gb771,1,none⟩ = some (.int .i64 0) := (blk_cell BK771.out 1).trans rfl
           have hfs33 := blk_frozen BK771.out 1
           have hns33_1 := NB774_771.out
           have hms33_1 := NB771_774.out
           have hs34 : w31.cell? ⟨gb771,2,none⟩ = some (.int .i64 0) := (blk_cell BK771.out 2).trans rfl
           have hfs34 := blk_frozen BK771.out 2
           have hns34_1 := NB774_771.out
           have hms34_1 := NB771_774.out
           have hs35 : w31.cell? ⟨gb771,3,none⟩ = some (.int .i64 0) := (blk_cell BK771.out 3).trans rfl
           have hfs35 := blk_frozen BK771.out 3
           have hns35_1 := NB774_771.out
           have hms35_1 := NB771_774.out
           have hs36 : w31.cell? ⟨gb771,4,none⟩ = some (.string ⟨#[]⟩) := (blk_cell BK771.out 4).trans rfl
           have hfs36 := blk_frozen BK771.out 4
           have hns36_1 := NB774_771.out
           have hms36_1 := NB771_774.out
           refine skip_ (w1 := ?_) (by rfl) rfl ?_ ?_
           rotate_left
           ·go_simp
            rfl
           refine hK.out _ _ ⟨((cell_far (p := ⟨gb771,_,none⟩) NB774_771.out _).trans (((cell_far (p := ⟨gb771,_,none⟩) NB774_771.out _).trans (((cell_far (p := ⟨gb771,_,none⟩) NB774_771.out _).trans (((cell_far (p := ⟨gb771,_,none⟩) NB774_771.out _).trans (((cell_far (p := ⟨gb771,_,none⟩) NB774_771.out _).trans (hHeld.1)))))))))),((cell_far (p := ⟨gb771,_,none⟩) NB774_771.out _).trans (((cell_far (p := ⟨gb771,_,none⟩) NB774_771.out _).trans (((cell_far (p := ⟨gb771,_,none⟩) NB774_771.out _).trans (((cell_far (p := ⟨gb771,_,none⟩) NB774_771.out _).trans (((cell_far (p := ⟨gb771,_,none⟩) NB774_771.out _).trans (hHeld.2.1)))))))))),((cell_far (p := ⟨gb771,_,none⟩) NB774_771.out _).trans (((cell_far (p := ⟨gb771,_,none⟩) NB774_771.out _).trans (((cell_far (p := ⟨gb771,_,none⟩) NB774_771.out _).trans (((cell_far (p := ⟨gb771,_,none⟩) NB774_771.out _).trans (((cell_far (p := ⟨gb771,_,none⟩) NB774_771.out _).trans (hHeld.2.2.1)))))))))),((cell_far (p := ⟨gb771,_,none⟩) NB774_771.out _).trans (((cell_far (p := ⟨gb771,_,none⟩) NB774_771.out _).trans (((cell_far (p := ⟨gb771,_,none⟩) NB774_771.out _).trans (((cell_far (p := ⟨gb771,_,none⟩) NB774_771.out _).trans (((cell_far (p := ⟨gb771,_,none⟩) NB774_771.out _).trans (hHeld.2.2.2.1)))))))))),((cell_far (p := ⟨gb771,_,none⟩) NB774_771.out _).trans (((cell_far (p := ⟨gb771,_,none⟩) NB774_771.out _).trans (((cell_far (p := ⟨gb771,_,none⟩) NB774_771.out _).trans (((cell_far (p := ⟨gb771,_,none⟩) NB774_771.out _).trans (((cell_far (p := ⟨gb771,_,none⟩) NB774_771.out _).trans (hHeld.2.2.2.2))))))))))⟩ (fun hHeld => ?_)
           clear hK K
           refine pure_ (i := 4) (N := some 3) (v := ?_) (a' := ?_) #[true,true,true,true,true] rfl rfl (by kernel_rfl) (fun _ _ _ h => h) (Or.inl ⟨by rfl,?_⟩) ?_ ?_
           rotate_left
           ·intro w'
            go_simp
            with_reducible rfl
           rotate_left
           ·simp only [Act.put,p1_,p2_,p3_,i64_w,i32_w]
            rfl
           refine done_ (by kernel_rfl) ?_
           try go_wp2
           refine bodyPost_ret (results_ct rfl _ _ gb771 33 #[.int .i64 (wrap64 (bt a0 0)),.int .i64 t772,.int .i64 (wrap64 (bt a0 3)),.int .i64 t773,.string (a0.extract 7 a0.size)] (0,0) _ rfl (zq BK771) Try.underlying33 rfl (by kernel_rfl)) rfl ?_
           exact ⟨zt_,zl_ HB⟩
          ·rw [if_neg c19] at H
           exact absurd H (by simp)
         ·rw [if_neg c17] at H
          exact absurd H (by simp)
        ·rw [if_neg c16] at H
         exact absurd H (by simp)
       ·rw [if_neg c14] at H
        exact absurd H (by simp)
      ·rw [if_neg c12] at H
       exact absurd H (by simp)
     ·rw [if_neg c11] at H
      exact absurd H (by simp)
    ·rw [if_neg c9] at H
     exact absurd H (by simp)
def spec_l02ReadBatch.T13 : Bool × List (List Nat × List Nat) := (true,[([],[]),([0],[0]),([],[]),([2],[2]),([3],[3]),([],[]),([5],[5]),([6],[6]),([],[]),([8],[8]),([4,7,9],[4,7,9]),([10],[10]),([1,11,7],[1,11]),([0,1,2,3,4,5,6,7,8,9,10,11,12],[]),([13,12,12,0,1,2,3,4,5,6,7,8,9,10,11,12],[12,13])])
def spec_l02ReadBatch.B13 : List Nat := [0,1,0,4,12,0,32,96,0,256,1020,2044,4095,8191,16383]
theorem spec_l02ReadBatch.tab13 : rtab .any (opsOf Try.f44 13) = spec_l02ReadBatch.T13 := by kernel_rfl
theorem spec_l02ReadBatch.bits13 : waitsOk spec_l02ReadBatch.T13.2 spec_l02ReadBatch.B13 = true := by kernel_rfl
def spec_l02ReadBatch.T16 : Bool × List (List Nat × List Nat) := (true,[([],[]),([],[]),([1],[1]),([2],[2]),([3,2,2],[2,3]),([2,4],[2,4]),([0,4,0],[0]),([5,6,0,1,2,3,4,5,6],[5])])
def spec_l02ReadBatch.B16 : List Nat := [0,0,2,6,14,30,31,127]
theorem spec_l02ReadBatch.tab16 : rtab .any (opsOf Try.f44 16) = spec_l02ReadBatch.T16 := by kernel_rfl
theorem spec_l02ReadBatch.bits16 : waitsOk spec_l02ReadBatch.T16.2 spec_l02ReadBatch.B16 = true := by kernel_rfl
set_option maxHeartbeats 8000000 in
set_option maxRecDepth 100000 in
theorem spec_l02ReadBatch.calls (k : Nat) (a0 : ByteArray) (r1 : Bool) (r2 : Int) (r3 : Int) (r4 : Int) (r5 : Int) (r6 : ByteArray) (r7 : List (S70)) (r8 : Bool) (w : World) (h : spec_l02ReadBatch.f k a0 = some (r1,r2,r3,r4,r5,r6,r7,r8)) :
  Calls Try.prog 44 #[.string a0] w fun e w' => ∃ v6_ : Value,e = .returned (.tuple #[.agg #[.bool r1,.int .i64 r2,.int .i64 r3,.int .i64 r4,.int .i64 r5,.string r6,v6_],.bool r8]) ∧ Kd.R k70 70 w' w.heap.size (fun _ => True) v6_ r7 ∧ Below w.heap.size w w' := by
 have hu41 := Try.underlying41
 have hu70 := Try.underlying70
 have hu33 := Try.underlying33
 have HB := am_ (Below.refl w.heap.size w)
 have H : (if a0.toList = ([] : List UInt8) then (some (false,0,0,0,0,(⟨#[]⟩ : ByteArray),([] : List (S70)),false)) else (if 0 < (a0.size : Int) then (if (wrap64 (bt a0 0)) = 0 then (some (true,0,0,0,0,(⟨#[]⟩ : ByteArray),(([] : List (S70))),((a0.size : Int) == 1))) else (if (a0.size : Int) < (wrap64 (1 + (wrap64 (13 * (wrap64 ((wrap64 (bt a0 0)) - 1)))))) then (some (false,0,0,0,0,(⟨#[]⟩ : ByteArray),([] : List (S70)),false)) else (spec_l02ReadBatch.l0 k a0 (wrap64 (bt a0 0)) 0 false 0 0 0 0 (⟨#[]⟩ : ByteArray) (([] : List (S70)))))) else (none))) = some (r1,r2,r3,r4,r5,r6,r7,r8) := h
 clear h
 by_cases c2 : a0.toList = ([] : List UInt8)
 ·rw [if_pos c2] at H
  have c2b0 : (a0.toList == ([] : List UInt8)) = true := beq_iff_eq.mpr c2
  have c2b1 : (a0.toList != ([] : List UInt8)) = false := bne_eq_false_iff_eq.mpr c2
  (try have c2e0 := c2b0;simp only [e3_,e4_] at c2e0)
  (try have c2e1 := c2b1;simp only [e3_,e4_] at c2e1)
  clear c2
  simp only [Option.some.injEq,Prod.mk.injEq] at H
  obtain ⟨rfl,rfl,rfl,rfl,rfl,rfl,rfl,rfl⟩ := H
  go_enter Try.func44,Try.ntmps44
  go_wp2_with (first | ((with_reducible refine gate_dst (N := 2) rfl ?_);refine zbx (N := 2) (cs := #[.bool false,.int .i64 0,.int .i64 0,.int .i64 0,.int .i64 0,.string ⟨#[]⟩,.slice none 0 0]) (t := 41) ?_;intro gb776 hg w3 hbox hb;have BK776 := am_ (hbox);have GW776 := zw_ HB hg;have GE776 := zw_ HB hg;replace HB := zs_ HB hb;clear hb hbox hg;obtain ⟨hcz4_0,hcz4_1,hcz4_2,hcz4_3,hcz4_4,hcz4_5,hcz4_6,hfz4_0,hfz4_1,hfz4_2,hfz4_3,hfz4_4,hfz4_5,hfz4_6⟩ := zc7 BK776))
  refine bodyPost_ret (results_ct rfl _ _ gb776 41 #[.bool false,.int .i64 0,.int .i64 0,.int .i64 0,.int .i64 0,.string ⟨#[]⟩,.slice none 0 0] (0,0) _ rfl (zq BK776) Try.underlying41 rfl (by kernel_rfl)) rfl ?_
  exact ⟨_,zt_,by first | exact Kd.R_nil _ _ _ _ _ | exact Kd.N_nil _ _ _ _ _ | exact Kd.V_nil _ _ _ _ _ | exact Kd.Q_nil _ _ _ _ _ | exact Kd.S_nil _ _ _ _ _,zl_ HB⟩
 ·rw [if_neg c2] at H
  have c2b0 : (a0.toList == ([] : List UInt8)) = false := beq_eq_false_iff_ne.mpr c2
  have c2b1 : (a0.toList != ([] : List UInt8)) = true := bne_iff_ne.mpr c2
  (try have c2e0 := c2b0;simp only [e3_,e4_] at c2e0)
  (try have c2e1 := c2b1;simp only [e3_,e4_] at c2e1)
  by_cases c5 : 0 < (a0.size : Int)
  ·rw [if_pos c5] at H
   have c5b0 : decide (0 < (a0.size : Int)) = true := decide_eq_true c5
   have c5b1 : decide (0 < a0.size) = true := decide_eq_true (by omega)
   clear c5
   by_cases c7 : (wrap64 (bt a0 0)) = 0
   ·rw [if_pos c7] at H
    have c7b0 : ((wrap64 (bt a0 0)) == 0) = true := beq_iff_eq.mpr c7
    have c7b1 : ((wrap64 (bt a0 0)) != 0) = false := bne_eq_false_iff_eq.mpr c7
    clear c7
    obtain ⟨y777,hy777⟩ : ∃ y_ : List (S70),y_ = (([] : List (S70))) := ⟨_,rfl⟩
    replace H : (some (true,0,0,0,0,(⟨#[]⟩ : ByteArray),y777,((a0.size : Int) == 1))) = some (r1,r2,r3,r4,r5,r6,r7,r8) := by first | (rw [hy777];with_reducible exact H) | (have H2_ := (Option.bind_some _ _).symm.trans H;rw [hy777];with_reducible exact H2_) | (have H2_ := (Option.bind_some _ _).symm.trans H;with_reducible exact H2_) | with_reducible exact H | (rw [hy777];exact H) | exact H
    have Ny777 := am_ hy777
    clear hy777
    simp only [Option.some.injEq,Prod.mk.injEq] at H
    obtain ⟨rfl,rfl,rfl,rfl,rfl,rfl,rfl,rfl⟩ := H
    go_enter Try.func44,Try.ntmps44
    go_wp2_with (first | ((with_reducible refine gate_dst (N := 2) rfl ?_);refine zbx (N := 2) (cs := #[.bool false,.int .i64 0,.int .i64 0,.int .i64 0,.int .i64 0,.string ⟨#[]⟩,.slice none 0 0]) (t := 41) ?_;intro gb776 hg w8 hbox hb;have BK776 := am_ (hbox);have GW776 := zw_ HB hg;have GE776 := zw_ HB hg;replace HB := zs_ HB hb;clear hb hbox hg;have p6 : 0 ≤ (0 : Int) := (by omega);have q6 : 0 < a0.size := (by have : (0 : Int) < (a0.size : Int) := o1_ (by first | (with_reducible assumption) | assumption);omega);have hx6 : ∀ h : 0 < a0.size,((a0[0]'h).toNat : Int) = bt a0 0 := bt_at a0 0;clear p6;have qi6 : (0 < (a0.size : Int)) = True := eq_true (o1_ (by first | (with_reducible assumption) | assumption));replace q6 := eq_true q6) | ((with_reducible refine gate_dst (N := 18) rfl ?_);refine Kd.R_lit k70 _ 70 ?hg (N := 18) ?hd (xs := ([] : List (S70))) (inner := []) (ok := fun _ => True) (okp := fun _ => True) ?hr ?hp (fun _ hk => hk) trivial (Below.refl _ _) (Nat.le_refl _) (by simp) ?_;(case hd => rfl);(case hg => rfl);(case hr => first | (go_simp;done) | (go_simp;rfl));(case hp => exact (Reps.none _ _));intro v778 w9 ho10 hb hg_ hnew_;clear hg_ hnew_;(first | rw [← Ny777.out] at ho10 | (simp only [Int.reduceToNat] at ho10;rw [← Ny777.out] at ho10));have HO779 := am_ (Kd.R_lower ho10 (below_size (zl_ HB)));replace BK776 := zb BK776 hb;replace HB := zs_ HB hb;clear hb ho10;obtain ⟨Ao11,co11,eo11⟩ := Kd.R_slice HO779.out;subst eo11;obtain ⟨hcz12_0,hcz12_1,hcz12_2,hcz12_3,hcz12_4,hcz12_5,hcz12_6,hfz12_0,hfz12_1,hfz12_2,hfz12_3,hfz12_4,hfz12_5,hfz12_6⟩ := zc7 BK776))
    refine bodyPost_ret (results_ct rfl _ _ gb776 41 #[.bool true,.int .i64 0,.int .i64 0,.int .i64 0,.int .i64 0,.string ⟨#[]⟩,.slice Ao11 y777.length co11] (0,0) _ rfl (zq BK776) Try.underlying41 rfl (by kernel_rfl)) rfl ?_
    exact ⟨_,zt_,by (with_reducible repeat (first | apply r1_ | apply r2_ | apply r3_));exact Kd.R_mono (zrf (Kd.R_types HO779.out BK776.out (by decide))) (fun _ hk => trivial),zl_ HB⟩
   ·rw [if_neg c7] at H
    have c7b0 : ((wrap64 (bt a0 0)) == 0) = false := beq_eq_false_iff_ne.mpr c7
    have c7b1 : ((wrap64 (bt a0 0)) != 0) = true := bne_iff_ne.mpr c7
    by_cases c13 : (a0.size : Int) < (wrap64 (1 + (wrap64 (13 * (wrap64 ((wrap64 (bt a0 0)) - 1))))))
    ·rw [if_pos c13] at H
     have c13b0 : decide ((a0.size : Int) < (wrap64 (1 + (wrap64 (13 * (wrap64 ((wrap64 (bt a0 0)) - 1))))))) = true := decide_eq_true c13
     clear c13
     simp only [Option.some.injEq,Prod.mk.injEq] at H
     obtain ⟨rfl,rfl,rfl,rfl,rfl,rfl,rfl,rfl⟩ := H
     go_enter Try.func44,Try.ntmps44
     go_wp2_with (first | ((with_reducible refine gate_dst (N := 2) rfl ?_);refine zbx (N := 2) (cs := #[.bool false,.int .i64 0,.int .i64 0,.int .i64 0,.int .i64 0,.string ⟨#[]⟩,.slice none 0 0]) (t := 41) ?_;intro gb776 hg w14 hbox hb;have BK776 := am_ (hbox);have GW776 := zw_ HB hg;have GE776 := zw_ HB hg;replace HB := zs_ HB hb;clear hb hbox hg;have p6 : 0 ≤ (0 : Int) := (by omega);have q6 : 0 < a0.size := (by have : (0 : Int) < (a0.size : Int) := o1_ (by first | (with_reducible assumption) | assumption);omega);have hx6 : ∀ h : 0 < a0.size,((a0[0]'h).toNat : Int) = bt a0 0 := bt_at a0 0;clear p6;have qi6 : (0 < (a0.size : Int)) = True := eq_true (o1_ (by first | (with_reducible assumption) | assumption));replace q6 := eq_true q6;obtain ⟨hcz15_0,hcz15_1,hcz15_2,hcz15_3,hcz15_4,hcz15_5,hcz15_6,hfz15_0,hfz15_1,hfz15_2,hfz15_3,hfz15_4,hfz15_5,hfz15_6⟩ := zc7 BK776))
     refine bodyPost_ret (results_ct rfl _ _ gb776 41 #[.bool false,.int .i64 0,.int .i64 0,.int .i64 0,.int .i64 0,.string ⟨#[]⟩,.slice none 0 0] (0,0) _ rfl (zq BK776) Try.underlying41 rfl (by kernel_rfl)) rfl ?_
     exact ⟨_,zt_,by first | exact Kd.R_nil _ _ _ _ _ | exact Kd.N_nil _ _ _ _ _ | exact Kd.V_nil _ _ _ _ _ | exact Kd.Q_nil _ _ _ _ _ | exact Kd.S_nil _ _ _ _ _,zl_ HB⟩
    ·rw [if_neg c13] at H
     have c13b0 : decide ((a0.size : Int) < (wrap64 (1 + (wrap64 (13 * (wrap64 ((wrap64 (bt a0 0)) - 1))))))) = false := decide_eq_false c13
     clear c13
     obtain ⟨y780,hy780⟩ : ∃ y_ : List (S70),y_ = (([] : List (S70))) := ⟨_,rfl⟩
     replace H : (spec_l02ReadBatch.l0 k a0 (wrap64 (bt a0 0)) 0 false 0 0 0 0 (⟨#[]⟩ : ByteArray) y780) = some (r1,r2,r3,r4,r5,r6,r7,r8) := by first | (rw [hy780];with_reducible exact H) | (have H2_ := (Option.bind_some _ _).symm.trans H;rw [hy780];with_reducible exact H2_) | (have H2_ := (Option.bind_some _ _).symm.trans H;with_reducible exact H2_) | with_reducible exact H | (rw [hy780];exact H) | exact H
     have Ny780 := am_ hy780
     clear hy780
     have H' := am_ H
     clear H
     go_enter Try.func44,Try.ntmps44
     go_wp2_with (first | ((with_reducible refine gate_dst (N := 2) rfl ?_);refine zbx (N := 2) (cs := #[.bool false,.int .i64 0,.int .i64 0,.int .i64 0,.int .i64 0,.string ⟨#[]⟩,.slice none 0 0]) (t := 41) ?_;intro gb776 hg w16 hbox hb;have BK776 := am_ (hbox);have GW776 := zw_ HB hg;have GE776 := zw_ HB hg;replace HB := zs_ HB hb;clear hb hbox hg;have p6 : 0 ≤ (0 : Int) := (by omega);have q6 : 0 < a0.size := (by have : (0 : Int) < (a0.size : Int) := o1_ (by first | (with_reducible assumption) | assumption);omega);have hx6 : ∀ h : 0 < a0.size,((a0[0]'h).toNat : Int) = bt a0 0 := bt_at a0 0;clear p6;have qi6 : (0 < (a0.size : Int)) = True := eq_true (o1_ (by first | (with_reducible assumption) | assumption));replace q6 := eq_true q6) | ((with_reducible refine gate_dst (N := 31) rfl ?_);refine Kd.R_lit k70 _ 70 ?hg (N := 31) ?hd (xs := ([] : List (S70))) (inner := []) (ok := fun _ => True) (okp := fun _ => True) ?hr ?hp (fun _ hk => hk) trivial (Below.refl _ _) (Nat.le_refl _) (by simp) ?_;(case hd => rfl);(case hg => rfl);(case hr => first | (go_simp;done) | (go_simp;rfl));(case hp => exact (Reps.none _ _));intro v781 w17 ho18 hb hg_ hnew_;clear hg_ hnew_;(first | rw [← Ny780.out] at ho18 | (simp only [Int.reduceToNat] at ho18;rw [← Ny780.out] at ho18));have HO782 := am_ (Kd.R_lower ho18 (below_size (zl_ HB)));replace BK776 := zb BK776 hb;replace HB := zs_ HB hb;clear hb ho18;obtain ⟨Ao19,co19,eo19⟩ := Kd.R_slice HO782.out;subst eo19) | ((with_reducible refine gate_dst (N := 5) rfl ?_);refine zbx (N := 5) (cs := #[.bool false,.int .i64 0,.int .i64 0,.int .i64 0,.int .i64 0,.string ⟨#[]⟩,.slice none 0 0]) (t := 41) ?_;intro gb783 hg w20 hbox hb;replace HO782 := zrb HO782 hb;have BK783 := am_ (hbox);have GW783 := zw_ HB hg;have GE783 := zw_ HB hg;replace HB := zs_ HB hb;have NB776_783 := zl hg BK776;have NB783_776 := zg hg BK776;replace BK776 := zb BK776 hb;clear hb hbox hg;have hnb21 := NB783_776.out;have hnc21 := NB776_783.out;obtain ⟨hcz22_0,hcz22_1,hcz22_2,hcz22_3,hcz22_4,hcz22_5,hcz22_6,hfz22_0,hfz22_1,hfz22_2,hfz22_3,hfz22_4,hfz22_5,hfz22_6⟩ := zc7 BK783))
     go_loopg [6] k (fun kq v6 w' => ∃ (x6_1 : Int) (x784006_1 : List (S70)) (u784006 : Value),v6 = .int .i64 x6_1 ∧ Aside0 (spec_l02ReadBatch.l0 kq a0 (wrap64 (bt a0 0)) x6_1 false 0 0 0 0 (⟨#[]⟩ : ByteArray) x784006_1 = some (r1,r2,r3,r4,r5,r6,r7,r8)) ∧ Aside0 (kq ≤ k) ∧ Aside0 (Kd.R k70 70 w' w.heap.size (fun _ => True) u784006 x784006_1) ∧ Aside0 (w'.heap[gb776]? = some (.cells #[.bool false,.int .i64 0,.int .i64 0,.int .i64 0,.int .i64 0,.string ⟨#[]⟩,(.slice none 0 0)] 41 (0,0))) ∧ Aside0 (w'.heap[gb783]? = some (.cells #[.bool false,.int .i64 0,.int .i64 0,.int .i64 0,.int .i64 0,.string ⟨#[]⟩,u784006] 41 (0,0))) ∧ Aside0 (Below w.heap.size w w'))
     case atStart => exact ⟨(0),(y780),(.slice Ao19 y780.length co19),(by first | rfl | (simp;done) | (simp [*];done)),H',⟨Nat.le_refl _⟩,⟨by (with_reducible repeat (first | apply r1_ | apply r2_ | apply r3_));exact Kd.R_mono (zrf (Kd.R_types HO782.out BK783.out (by decide))) (fun _ hk => trivial)⟩,⟨zq BK776⟩,⟨zq BK783⟩,⟨zl_ HB⟩⟩
     case round =>
      clear H'
      try clear c1
      try clear c2
      try clear c2b0
      try clear c2b1
      try clear p2
      try clear c4
      try clear c5
      try clear c5b0
      try clear c5b1
      try clear p6
      try clear q6
      try clear hx6
      try clear qi6
      try clear c7
      try clear c7b0
      try clear c7b1
      try clear c13
      try clear c13b0
      try clear c21
      try clear hcz12_0
      try clear hcz12_1
      try clear hcz12_2
      try clear hcz12_3
      try clear hcz12_4
      try clear hcz12_5
      try clear hcz12_6
      try clear hcz15_0
      try clear hcz15_1
      try clear hcz15_2
      try clear hcz15_3
      try clear hcz15_4
      try clear hcz15_5
      try clear hcz15_6
      try clear hcz22_0
      try clear hcz22_1
      try clear hcz22_2
      try clear hcz22_3
      try clear hcz22_4
      try clear hcz22_5
      try clear hcz22_6
      try clear hcz4_0
      try clear hcz4_1
      try clear hcz4_2
      try clear hcz4_3
      try clear hcz4_4
      try clear hcz4_5
      try clear hcz4_6
      try clear hfz12_0
      try clear hfz12_1
      try clear hfz12_2
      try clear hfz12_3
      try clear hfz12_4
      try clear hfz12_5
      try clear hfz12_6
      try clear hfz15_0
      try clear hfz15_1
      try clear hfz15_2
      try clear hfz15_3
      try clear hfz15_4
      try clear hfz15_5
      try clear hfz15_6
      try clear hfz22_0
      try clear hfz22_1
      try clear hfz22_2
      try clear hfz22_3
      try clear hfz22_4
      try clear hfz22_5
      try clear hfz22_6
      try clear hfz4_0
      try clear hfz4_1
      try clear hfz4_2
      try clear hfz4_3
      try clear hfz4_4
      try clear hfz4_5
      try clear hfz4_6
      try clear p6
      try clear q6
      obtain ⟨x6_1,x784006_1,u784006,rfl,HA,HK1,HO_784006,BK776,BK783,HB⟩ := hrel
      cases gk with
      | zero => exact absurd HA.out (by simp [spec_l02ReadBatch.l0])
      | succ k1 =>
       have H := HA.out
       clear HA
       simp only [spec_l02ReadBatch.l0] at H
       by_cases c23 : x6_1 < (wrap64 ((wrap64 (bt a0 0)) - 1))
       ·rw [if_pos c23] at H
        have c23b0 : decide (x6_1 < (wrap64 ((wrap64 (bt a0 0)) - 1))) = true := decide_eq_true c23
        clear c23
        obtain ⟨ji24,hji24⟩ : ∃ j_ : Int,(wrap64 (1 + (wrap64 (13 * x6_1)))) = j_ := ⟨_,rfl⟩
        replace H : (if 0 ≤ (ji24) then (if (ji24) ≤ (wrap64 (14 + (wrap64 (13 * x6_1)))) then (if (wrap64 (14 + (wrap64 (13 * x6_1)))) ≤ (a0.size : Int) then (if 0 < ((a0.extract ((ji24) : Int).toNat ((wrap64 (14 + (wrap64 (13 * x6_1)))) : Int).toNat).size : Int) then (if 1 ≤ 5 then (if 5 ≤ ((a0.extract ((ji24) : Int).toNat ((wrap64 (14 + (wrap64 (13 * x6_1)))) : Int).toNat).size : Int) then ((spec_l02Of.f k1 ((a0.extract ((ji24) : Int).toNat ((wrap64 (14 + (wrap64 (13 * x6_1)))) : Int).toNat).extract 1 5)).bind fun t784 => (if x784006_1.length < 4398046511104 then (spec_l02ReadBatch.l0 k1 a0 (wrap64 (bt a0 0)) (wrap64 (x6_1 + 1)) false 0 0 0 0 (⟨#[]⟩ : ByteArray) (x784006_1 ++ [(⟨wrap64 (bt (a0.extract ((ji24) : Int).toNat ((wrap64 (14 + (wrap64 (13 * x6_1)))) : Int).toNat) 0),t784,(a0.extract ((ji24) : Int).toNat ((wrap64 (14 + (wrap64 (13 * x6_1)))) : Int).toNat).extract 5 (((wrap64 (14 + (wrap64 (13 * x6_1)))) : Int).toNat - ((ji24) : Int).toNat)⟩ : S70)])) else (none))) else (none)) else (none)) else (none)) else (none)) else (none)) else (none)) = some (r1,r2,r3,r4,r5,r6,r7,r8) := by first | (rw [hji24] at H;exact H) | (simp only [hji24] at H ⊢;exact H)
        have hji24w : (IntKind.i64.wrap (1 + (wrap64 (13 * x6_1)))) = ji24 := (i64_w _).trans hji24
        by_cases c25 : 0 ≤ (ji24)
        ·rw [if_pos c25] at H
         have c25b0 := eq_true c25
         have c25b1 : decide (0 ≤ (ji24)) = true := decide_eq_true c25
         clear c25
         by_cases c26 : (ji24) ≤ (wrap64 (14 + (wrap64 (13 * x6_1))))
         ·rw [if_pos c26] at H
          have c26b0 := eq_true c26
          have c26b1 : decide ((ji24) ≤ (wrap64 (14 + (wrap64 (13 * x6_1))))) = true := decide_eq_true c26
          by_cases c27 : (wrap64 (14 + (wrap64 (13 * x6_1)))) ≤ (a0.size : Int)
          ·rw [if_pos c27] at H
           have c27b0 := eq_true c27
           have c27b1 : decide ((wrap64 (14 + (wrap64 (13 * x6_1)))) ≤ (a0.size : Int)) = true := decide_eq_true c27
           by_cases c28 : 0 < ((a0.extract ((ji24) : Int).toNat ((wrap64 (14 + (wrap64 (13 * x6_1)))) : Int).toNat).size : Int)
           ·rw [if_pos c28] at H
            have c28b0 : decide (0 < ((a0.extract ((ji24) : Int).toNat ((wrap64 (14 + (wrap64 (13 * x6_1)))) : Int).toNat).size : Int)) = true := decide_eq_true c28
            (try (have c28x0 := c28b0;simp only [ByteArray.size_extract] at c28x0;rw [Nat.min_eq_left (by first | omega | (have h_ := o1_ (by first | (with_reducible assumption) | assumption : decide ((wrap64 (14 + (wrap64 (13 * x6_1)))) ≤ (a0.size : Int)) = true);omega))] at c28x0))
            (try (have c28y0 := eq_true (o1_ c28x0)))
            have c28b1 : decide (0 < (a0.extract ((ji24) : Int).toNat ((wrap64 (14 + (wrap64 (13 * x6_1)))) : Int).toNat).size) = true := decide_eq_true (by omega)
            (try (have c28x1 := c28b1;simp only [ByteArray.size_extract] at c28x1;rw [Nat.min_eq_left (by first | omega | (have h_ := o1_ (by first | (with_reducible assumption) | assumption : decide ((wrap64 (14 + (wrap64 (13 * x6_1)))) ≤ (a0.size : Int)) = true);omega))] at c28x1))
            (try (have c28y1 := eq_true (o1_ c28x1)))
            clear c28
            by_cases c30 : 1 ≤ 5
            ·rw [if_pos c30] at H
             have c30b0 := eq_true c30
             have c30b1 : decide (1 ≤ 5) = true := decide_eq_true c30
             clear c30
             by_cases c31 : 5 ≤ ((a0.extract ((ji24) : Int).toNat ((wrap64 (14 + (wrap64 (13 * x6_1)))) : Int).toNat).size : Int)
             ·rw [if_pos c31] at H
              have c31b0 := eq_true c31
              (try (have c31x0 := c31b0;simp only [ByteArray.size_extract] at c31x0;rw [Nat.min_eq_left (by first | omega | (have h_ := o1_ (by first | (with_reducible assumption) | assumption : decide ((wrap64 (14 + (wrap64 (13 * x6_1)))) ≤ (a0.size : Int)) = true);omega))] at c31x0))
              (try (have c31y0 := eq_true (o1_ c31x0)))
              have c31b1 : decide (5 ≤ ((a0.extract ((ji24) : Int).toNat ((wrap64 (14 + (wrap64 (13 * x6_1)))) : Int).toNat).size : Int)) = true := decide_eq_true c31
              (try (have c31x1 := c31b1;simp only [ByteArray.size_extract] at c31x1;rw [Nat.min_eq_left (by first | omega | (have h_ := o1_ (by first | (with_reducible assumption) | assumption : decide ((wrap64 (14 + (wrap64 (13 * x6_1)))) ≤ (a0.size : Int)) = true);omega))] at c31x1))
              (try (have c31y1 := eq_true (o1_ c31x1)))
              replace H := Option.bind_eq_some_iff.mp H
              obtain ⟨t784,A320,H⟩ := H
              try dsimp only at H
              have A32 := am_ A320
              clear A320
              have c33b0 := eq_true (o1_ (by first | (with_reducible assumption) | assumption) : 5 ≤ ((a0.extract ((ji24) : Int).toNat ((wrap64 (14 + (wrap64 (13 * x6_1)))) : Int).toNat).size : Int))
              (try (have c33x0 := c33b0;simp only [ByteArray.size_extract] at c33x0;rw [Nat.min_eq_left (by first | omega | (have h_ := o1_ (by first | (with_reducible assumption) | assumption : decide ((wrap64 (14 + (wrap64 (13 * x6_1)))) ≤ (a0.size : Int)) = true);omega))] at c33x0))
              (try (have c33y0 := eq_true (o1_ c33x0)))
              by_cases c34 : x784006_1.length < 4398046511104
              ·rw [if_pos c34] at H
               have LMc34 := am_ c34
               clear c34
               obtain ⟨y785,hy785⟩ : ∃ y_ : List (S70),y_ = (x784006_1 ++ [(⟨wrap64 (bt (a0.extract ((ji24) : Int).toNat ((wrap64 (14 + (wrap64 (13 * x6_1)))) : Int).toNat) 0),t784,(a0.extract ((ji24) : Int).toNat ((wrap64 (14 + (wrap64 (13 * x6_1)))) : Int).toNat).extract 5 (((wrap64 (14 + (wrap64 (13 * x6_1)))) : Int).toNat - ((ji24) : Int).toNat)⟩ : S70)]) := ⟨_,rfl⟩
               replace H : (spec_l02ReadBatch.l0 k1 a0 (wrap64 (bt a0 0)) (wrap64 (x6_1 + 1)) false 0 0 0 0 (⟨#[]⟩ : ByteArray) y785) = some (r1,r2,r3,r4,r5,r6,r7,r8) := by first | (rw [hy785];with_reducible exact H) | (have H2_ := (Option.bind_some _ _).symm.trans H;rw [hy785];with_reducible exact H2_) | (have H2_ := (Option.bind_some _ _).symm.trans H;with_reducible exact H2_) | with_reducible exact H | (rw [hy785];exact H) | exact H
               have Ny785 := am_ hy785
               clear hy785
               have H' := am_ H
               clear H
               try go_wp2
               replace HO_784006 := am_ (Kd.R_drew HO_784006.out)
               replace BK776 := am_ (blk_drew BK776.out)
               replace BK783 := am_ (blk_drew BK783.out)
               replace HB := am_ (below_drew1 HB.out)
               have p29 : 0 ≤ (0 : Int) := (by omega)
               have q29 : 0 < (a0.extract ((ji24) : Int).toNat ((wrap64 (14 + (wrap64 (13 * x6_1)))) : Int).toNat).size := (by have : (0 : Int) < ((a0.extract ((ji24) : Int).toNat ((wrap64 (14 + (wrap64 (13 * x6_1)))) : Int).toNat).size : Int) := o1_ (by first | (with_reducible assumption) | assumption);omega)
               have hx29 : ∀ h : 0 < (a0.extract ((ji24) : Int).toNat ((wrap64 (14 + (wrap64 (13 * x6_1)))) : Int).toNat).size,(((a0.extract ((ji24) : Int).toNat ((wrap64 (14 + (wrap64 (13 * x6_1)))) : Int).toNat)[0]'h).toNat : Int) = bt (a0.extract ((ji24) : Int).toNat ((wrap64 (14 + (wrap64 (13 * x6_1)))) : Int).toNat) 0 := bt_at (a0.extract ((ji24) : Int).toNat ((wrap64 (14 + (wrap64 (13 * x6_1)))) : Int).toNat) 0
               clear p29
               have qi29 : (0 < ((a0.extract ((ji24) : Int).toNat ((wrap64 (14 + (wrap64 (13 * x6_1)))) : Int).toNat).size : Int)) = True := eq_true (o1_ (by first | (with_reducible assumption) | assumption))
               replace q29 := eq_true q29
               refine start_ (n := 15) (S := fun w' => w'.cell? ⟨gb783,0,none⟩ = some (.bool false) ∧ w'.cell? ⟨gb783,1,none⟩ = some (.int .i64 0) ∧ w'.cell? ⟨gb783,2,none⟩ = some (.int .i64 0) ∧ w'.cell? ⟨gb783,3,none⟩ = some (.int .i64 0) ∧ w'.cell? ⟨gb783,4,none⟩ = some (.int .i64 0) ∧ w'.cell? ⟨gb783,5,none⟩ = some (.string ⟨#[]⟩) ∧ w'.cell? ⟨gb783,6,none⟩ = some (u784006)) (ds := [14]) #[false,false,false,false,false,false,false,false,false,false,false,false,false,false,false] (by kernel_rfl) rfl rfl ⟨(blk_cell BK783.out 0).trans rfl,(blk_cell BK783.out 1).trans rfl,(blk_cell BK783.out 2).trans rfl,(blk_cell BK783.out 3).trans rfl,(blk_cell BK783.out 4).trans rfl,(blk_cell BK783.out 5).trans rfl,(blk_cell BK783.out 6).trans rfl⟩ (fun hHeld => ?_);refine with_tabW spec_l02ReadBatch.tab13 spec_l02ReadBatch.bits13 (fun HT_ HW_ => ?_)
               generalize wr.drew = w35 at HO_784006 BK776 BK783 HB hHeld ⊢
               refine zpu 0 (N := some 47) #[true,false,false,false,false,false,false,false,false,false,false,false,false,false,false] HT_ ?_
               refine zpu 2 (N := some 49) #[true,false,true,false,false,false,false,false,false,false,false,false,false,false,false] HT_ ?_
               refine zpu 5 (N := some 52) #[true,false,true,false,false,true,false,false,false,false,false,false,false,false,false] HT_ ?_
               refine zpu 6 (N := some 53) #[true,false,true,false,false,true,true,false,false,false,false,false,false,false,false] HT_ ?_
               refine zpu 8 (N := some 55) #[true,false,true,false,false,true,true,false,true,false,false,false,false,false,false] HT_ ?_
               refine zpu 9 (N := some 56) #[true,false,true,false,false,true,true,false,true,true,false,false,false,false,false] HT_ ?_
               refine ztk 1 (N := some 48) #[true,true,true,false,false,true,true,false,true,true,false,false,false,false,false] HT_ HW_ hHeld ?_
               refine ztk 3 (N := some 50) #[true,true,true,true,false,true,true,false,true,true,false,false,false,false,false] HT_ HW_ hHeld ?_
               refine zpu 4 (N := some 51) #[true,true,true,true,true,true,true,false,true,true,false,false,false,false,false] HT_ ?_
               refine one_ (i := 7) (N := some 54) #[true,true,true,true,true,true,true,true,true,true,false,false,false,false,false] rfl rfl (one_of HT_.out (by kernel_rfl)) (by decide) (fun K hK => ?_)
               refine goes_ Try.func54 (by kernel_rfl) rfl #[.string ((a0.extract ((ji24) : Int).toNat ((wrap64 (14 + (wrap64 (13 * x6_1)))) : Int).toNat).extract 1 5)] (by rfl) rfl rfl (by (try simp only [m1_,m2_,m3_]);first | done | (simp only [hji24];rfl) | rfl | (simp only [d1_,d2_];rfl)) ?_
               with_reducible refine (spec_l02Of.calls k1 ((a0.extract ((ji24) : Int).toNat ((wrap64 (14 + (wrap64 (13 * x6_1)))) : Int).toNat).extract 1 5) t784 _ A32.out).mono ?_
               rintro e w' ⟨rfl,⟨nd,rfl⟩⟩
               refine ⟨_,rfl,?_⟩
               refine hK.out _ _ ⟨(blk_cell BK783.out 0).trans rfl,(blk_cell BK783.out 1).trans rfl,(blk_cell BK783.out 2).trans rfl,(blk_cell BK783.out 3).trans rfl,(blk_cell BK783.out 4).trans rfl,(blk_cell BK783.out 5).trans rfl,(blk_cell BK783.out 6).trans rfl⟩ (fun hHeld => ?_)
               clear hK K
               refine norm_ (a' := ?_) ?_ ?_
               rotate_left
               ·show Act.put _ (some 54) _ = _
                simp only [Act.put,p1_,p2_,p3_,i64_w,i32_w]
                rfl
               refine zpu 10 (N := some 57) #[true,true,true,true,true,true,true,true,true,true,true,false,false,false,false] HT_ ?_
               refine one_ (i := 11) (N := some 58) #[true,true,true,true,true,true,true,true,true,true,true,true,false,false,false] rfl rfl (one_of HT_.out (by kernel_rfl)) (by decide) (fun K hK => ?_)
               refine value_ (w1 := ?_) (v := ?_) (by rfl) rfl ?_ ?_
               rotate_left 2
               ·go_simp
                constructor
                ·rfl
                ·rfl
               refine hK.out _ _ ⟨(blk_cell (blk_alloc BK783.out _) 0).trans rfl,(blk_cell (blk_alloc BK783.out _) 1).trans rfl,(blk_cell (blk_alloc BK783.out _) 2).trans rfl,(blk_cell (blk_alloc BK783.out _) 3).trans rfl,(blk_cell (blk_alloc BK783.out _) 4).trans rfl,(blk_cell (blk_alloc BK783.out _) 5).trans rfl,(blk_cell (blk_alloc BK783.out _) 6).trans rfl⟩ (fun hHeld => ?_)
               clear hK K
               refine norm_ (a' := ?_) ?_ ?_
               rotate_left
               ·show Act.put _ (some 58) _ = _
                simp only [Act.put,p1_,p2_,p3_,i64_w,i32_w]
                rfl
               refine one_ (i := 12) (N := some 59) #[true,true,true,true,true,true,true,true,true,true,true,true,true,false,false] rfl rfl (one_of HT_.out (by kernel_rfl)) (by decide) (fun K hK => ?_)
               refine Kd.R_append_step k70 (w0 := w) w.heap.size (by rfl) (.tmp 48) (.tmp 58) 39 70 (.agg #[(.int .i64 0),(.int .i64 0),(.string ⟨#[]⟩)]) 32 rfl Try.underlying39 info70 rfl (by decide) (by omega) u784006 x784006_1 (⟨wrap64 (bt (a0.extract ((ji24) : Int).toNat ((wrap64 (14 + (wrap64 (13 * x6_1)))) : Int).toNat) 0),t784,(a0.extract ((ji24) : Int).toNat ((wrap64 (14 + (wrap64 (13 * x6_1)))) : Int).toNat).extract 5 (((wrap64 (14 + (wrap64 (13 * x6_1)))) : Int).toNat - ((ji24) : Int).toNat)⟩ : S70) [.int .i64 (wrap64 (bt (a0.extract ((ji24) : Int).toNat ((wrap64 (14 + (wrap64 (13 * x6_1)))) : Int).toNat) 0)),.int .i64 t784,.string ((a0.extract ((ji24) : Int).toNat ((wrap64 (14 + (wrap64 (13 * x6_1)))) : Int).toNat).extract 5 (((wrap64 (14 + (wrap64 (13 * x6_1)))) : Int).toNat - ((ji24) : Int).toNat))] (fun _ => True) (fun _ => False) rfl rfl ?aP (fun _ hk => hk.elim) ?aF ?aO ?aB ?aS ?aL ?_
               (case aP => exact k70_mkM _ _ _ (⟨wrap64 (bt (a0.extract ((ji24) : Int).toNat ((wrap64 (14 + (wrap64 (13 * x6_1)))) : Int).toNat) 0),t784,(a0.extract ((ji24) : Int).toNat ((wrap64 (14 + (wrap64 (13 * x6_1)))) : Int).toNat).extract 5 (((wrap64 (14 + (wrap64 (13 * x6_1)))) : Int).toNat - ((ji24) : Int).toNat)⟩ : S70))
               (case aB => exact (zl_ HB))
               (case aF => exact (fun _ _ => trivial))
               (case aO => exact (zr HO_784006))
               (case aS => exact (below_size (zl_ HB)))
               (case aL => have := LMc34.out;omega)
               intro v786 w36 ho hb hg hat
               rw [← Ny785.out] at ho
               replace BK776 := am_ (blk_grown (g := gb776) (o := .cells #[.bool false,.int .i64 0,.int .i64 0,.int .i64 0,.int .i64 0,.string ⟨#[]⟩,.slice none 0 0] 41 (0,0)) (zk BK776) hg (Kd.R_ne HO_784006.out BK776.out (by decide)))
               replace BK783 := am_ (blk_grown (g := gb783) (o := .cells #[.bool false,.int .i64 0,.int .i64 0,.int .i64 0,.int .i64 0,.string ⟨#[]⟩,u784006] 41 (0,0)) (zk BK783) hg (Kd.R_ne HO_784006.out BK783.out (by decide)))
               replace HB := am_ (hb)
               have HO787 := am_ (ho)
               clear HO_784006
               clear ho hb hg hat
               obtain ⟨Ao37,co37,eo37⟩ := Kd.R_slice HO787.out
               (first | subst eo37 | (injection eo37 with f1_ f2_ f3_;have f4_ := f1_.symm;have f5_ := f3_.symm;clear f1_ f2_ f3_;subst f4_;subst f5_))
               refine hK.out _ _ ⟨(blk_cell BK783.out 0).trans rfl,(blk_cell BK783.out 1).trans rfl,(blk_cell BK783.out 2).trans rfl,(blk_cell BK783.out 3).trans rfl,(blk_cell BK783.out 4).trans rfl,(blk_cell BK783.out 5).trans rfl,(blk_cell BK783.out 6).trans rfl⟩ (fun hHeld => ?_)
               clear hK K
               refine norm_ (a' := ?_) ?_ ?_
               rotate_left
               ·show Act.put _ (some 59) _ = _
                simp only [Act.put,p1_,p2_,p3_,i64_w,i32_w]
                rfl
               refine zpu 13 (N := some 60) #[true,true,true,true,true,true,true,true,true,true,true,true,true,true,false] HT_ ?_
               refine last_ (i := 14) (N := none) #[true,true,true,true,true,true,true,true,true,true,true,true,true,true,true] rfl rfl (one_of HT_.out (by kernel_rfl)) (by decide) (fun K hK => ?_)
               have hs38 : w36.cell? ⟨gb783,6,none⟩ = some (u784006) := (blk_cell BK783.out 6).trans rfl
               have hfs38 := blk_frozen BK783.out 6
               have hns38_0 := NB776_783.out
               have hms38_0 := NB783_776.out
               refine skip_ (w1 := ?_) (by rfl) rfl ?_ ?_
               rotate_left
               ·go_simp
                rfl
               refine hK.out _ _ ?_
               clear hK K
               refine done_ (done_of HT_.out (by kernel_rfl)) ?_
               try go_wp2
               go_roundg k1
               case measure => have := HK1.out;omega
               case rel => exact ⟨(wrap64 (x6_1 + 1)),(y785),(.slice Ao37 y785.length co37),(by first | rfl | (simp;done) | (simp [*];done)),H',⟨by have := HK1.out;omega⟩,⟨by (with_reducible repeat (first | apply r1_ | apply r2_ | apply r3_));exact Kd.R_mono (zrf (Kd.R_types HO787.out BK783.out (by decide))) (fun _ hk => trivial)⟩,⟨zq BK776⟩,⟨zq BK783⟩,⟨zl_ HB⟩⟩
              ·rw [if_neg c34] at H
               exact absurd H (by simp)
             ·rw [if_neg c31] at H
              exact absurd H (by simp)
            ·rw [if_neg c30] at H
             exact absurd H (by simp)
           ·rw [if_neg c28] at H
            exact absurd H (by simp)
          ·rw [if_neg c27] at H
           exact absurd H (by simp)
         ·rw [if_neg c26] at H
          exact absurd H (by simp)
        ·rw [if_neg c25] at H
         exact absurd H (by simp)
       ·rw [if_neg c23] at H
        have c23b0 : decide (x6_1 < (wrap64 ((wrap64 (bt a0 0)) - 1))) = false := decide_eq_false c23
        clear c23
        obtain ⟨ji39,hji39⟩ : ∃ j_ : Int,(wrap64 (1 + (wrap64 (13 * (wrap64 ((wrap64 (bt a0 0)) - 1)))))) = j_ := ⟨_,rfl⟩
        replace H : (if 0 ≤ (ji39) then (if (ji39) ≤ (a0.size : Int) then ((spec_l02ReadRequest.f k1 (a0.extract ((ji39) : Int).toNat a0.size)).bind fun bt788 => (if bt788.2.2.2.2.2 = true then ((spec_l02BatchOK.f k1 false bt788.1 bt788.2.1 bt788.2.2.1 bt788.2.2.2.1 bt788.2.2.2.2.1 x784006_1).bind fun t795 => (some (false,bt788.1,bt788.2.1,bt788.2.2.1,bt788.2.2.2.1,bt788.2.2.2.2.1,x784006_1,t795))) else (some (false,bt788.1,bt788.2.1,bt788.2.2.1,bt788.2.2.2.1,bt788.2.2.2.2.1,x784006_1,false)))) else (none)) else (none)) = some (r1,r2,r3,r4,r5,r6,r7,r8) := by first | (rw [hji39] at H;exact H) | (simp only [hji39] at H ⊢;exact H)
        (try rw [hji39] at c13b0)
        have hji39w : (IntKind.i64.wrap (1 + (wrap64 (13 * (wrap64 ((wrap64 (bt a0 0)) - 1)))))) = ji39 := (i64_w _).trans hji39
        by_cases c40 : 0 ≤ (ji39)
        ·rw [if_pos c40] at H
         have c40b0 := eq_true c40
         have c40b1 : decide (0 ≤ (ji39)) = true := decide_eq_true c40
         clear c40
         by_cases c41 : (ji39) ≤ (a0.size : Int)
         ·rw [if_pos c41] at H
          have c41b0 := eq_true c41
          have c41b1 : decide ((ji39) ≤ (a0.size : Int)) = true := decide_eq_true c41
          clear c41
          replace H := Option.bind_eq_some_iff.mp H
          obtain ⟨⟨t788,t789,t790,t791,t792,t793⟩,A420,H⟩ := H
          try dsimp only at H
          have A42 := am_ A420
          clear A420
          by_cases c43 : t793 = true
          ·subst c43
           have H1 : ((spec_l02BatchOK.f k1 false t788 t789 t790 t791 t792 x784006_1).bind fun t795 => (some (false,t788,t789,t790,t791,t792,x784006_1,t795))) = some (r1,r2,r3,r4,r5,r6,r7,r8) := by rw [if_pos rfl] at H;exact H
           clear H
           have H := H1
           clear H1
           replace H := Option.bind_eq_some_iff.mp H
           obtain ⟨t795,A440,H⟩ := H
           try dsimp only at H
           have A44 := am_ A440
           clear A440
           simp only [Option.some.injEq,Prod.mk.injEq] at H
           obtain ⟨rfl,rfl,rfl,rfl,rfl,rfl,rfl,rfl⟩ := H
           try go_wp2_with (first | ((with_reducible refine gate_callee (f := 63) rfl ?_);refine goesL_ (some 68) rfl rfl Try.func63 (by kernel_rfl) rfl #[.string (a0.extract ((ji39) : Int).toNat a0.size)] rfl (by (try simp only [m1_,m2_,m3_]);first | done | (simp only [hji39];rfl) | rfl | (simp only [d1_,d2_];rfl)) ?_;(with_reducible refine (spec_l02ReadRequest.calls k1 (a0.extract ((ji39) : Int).toNat a0.size) t788 t789 t790 t791 t792 true _ A42.out).mono ?_);rintro e w45 ⟨rfl,hb⟩;refine ⟨_,rfl,?_⟩;replace HO_784006 := zrb HO_784006 hb;replace BK776 := zb BK776 hb;replace BK783 := zb BK783 hb;replace HB := zs_ HB hb;(try clear hb);(try clear hb2);(try clear hk);(try clear hi)) | ((with_reducible refine gate_dst (N := 8) rfl ?_);refine zbx (N := 8) (cs := #[.int .i64 0,.int .i64 0,.int .i64 0,.int .i64 0,.string ⟨#[]⟩]) (t := 33) ?_;intro gb794 hg w46 hbox hb;replace HO_784006 := zrb HO_784006 hb;have BK794 := am_ (hbox);have GW794 := zw_ HB hg;have GE794 := zw_ HB hg;replace HB := zs_ HB hb;have NB776_794 := zl hg BK776;have NB794_776 := zg hg BK776;replace BK776 := zb BK776 hb;have NB783_794 := zl hg BK783;have NB794_783 := zg hg BK783;replace BK783 := zb BK783 hb;clear hb hbox hg;have hnb47 := NB794_776.out;have hnc47 := NB776_794.out;have hnb48 := NB794_783.out;have hnc48 := NB783_794.out;obtain ⟨hcz49_0,hcz49_1,hcz49_2,hcz49_3,hcz49_4,hfz49_0,hfz49_1,hfz49_2,hfz49_3,hfz49_4⟩ := zc5 BK794;have hnb50 := NB783_776.out;have hnc50 := NB776_783.out;obtain ⟨hcz51_0,hcz51_1,hcz51_2,hcz51_3,hcz51_4,hcz51_5,hcz51_6,hfz51_0,hfz51_1,hfz51_2,hfz51_3,hfz51_4,hfz51_5,hfz51_6⟩ := zc7 BK783))
           have n0_ : Aside0 (Kd.R k70 70 ((((((((((w46.setCell ⟨gb794,0,none⟩ (.int .i64 t788)).setCell ⟨gb794,1,none⟩ (.int .i64 t789)).setCell ⟨gb794,2,none⟩ (.int .i64 t790)).setCell ⟨gb794,3,none⟩ (.int .i64 t791)).setCell ⟨gb794,4,none⟩ (.string t792)).setCell ⟨gb783,1,none⟩ (.int .i64 t788)).setCell ⟨gb783,2,none⟩ (.int .i64 t789)).setCell ⟨gb783,3,none⟩ (.int .i64 t790)).setCell ⟨gb783,4,none⟩ (.int .i64 t791)).setCell ⟨gb783,5,none⟩ (.string t792)) w.heap.size (fun _ => True) u784006 x784006_1) := ⟨by (with_reducible repeat (first | apply r1_ | apply r2_ | apply r3_));exact Kd.R_mono (Kd.Rf (Kd.Rf (Kd.Rf (Kd.Rf (Kd.Rf (Kd.R_far (p := ⟨gb794,4,none⟩) (Kd.R_far (p := ⟨gb794,3,none⟩) (Kd.R_far (p := ⟨gb794,2,none⟩) (Kd.R_far (p := ⟨gb794,1,none⟩) (Kd.R_far (p := ⟨gb794,0,none⟩) (Kd.R_types (Kd.R_types HO_784006.out BK794.out (by decide)) BK783.out (by decide)) (fun _ hk => hk.1.2) (.int .i64 t788)) (fun _ hk => hk.1.2) (.int .i64 t789)) (fun _ hk => hk.1.2) (.int .i64 t790)) (fun _ hk => hk.1.2) (.int .i64 t791)) (fun _ hk => hk.1.2) (.string t792))))))) (fun _ hk => trivial)⟩
           have n1_ : Aside0 (((((((((((w46.setCell ⟨gb794,0,none⟩ (.int .i64 t788)).setCell ⟨gb794,1,none⟩ (.int .i64 t789)).setCell ⟨gb794,2,none⟩ (.int .i64 t790)).setCell ⟨gb794,3,none⟩ (.int .i64 t791)).setCell ⟨gb794,4,none⟩ (.string t792)).setCell ⟨gb783,1,none⟩ (.int .i64 t788)).setCell ⟨gb783,2,none⟩ (.int .i64 t789)).setCell ⟨gb783,3,none⟩ (.int .i64 t790)).setCell ⟨gb783,4,none⟩ (.int .i64 t791)).setCell ⟨gb783,5,none⟩ (.string t792)).heap[gb776]? = some (.cells #[.bool false,.int .i64 0,.int .i64 0,.int .i64 0,.int .i64 0,.string ⟨#[]⟩,.slice none 0 0] 41 (0,0))) := ⟨zq BK776⟩
           have n2_ : Aside0 (((((((((((w46.setCell ⟨gb794,0,none⟩ (.int .i64 t788)).setCell ⟨gb794,1,none⟩ (.int .i64 t789)).setCell ⟨gb794,2,none⟩ (.int .i64 t790)).setCell ⟨gb794,3,none⟩ (.int .i64 t791)).setCell ⟨gb794,4,none⟩ (.string t792)).setCell ⟨gb783,1,none⟩ (.int .i64 t788)).setCell ⟨gb783,2,none⟩ (.int .i64 t789)).setCell ⟨gb783,3,none⟩ (.int .i64 t790)).setCell ⟨gb783,4,none⟩ (.int .i64 t791)).setCell ⟨gb783,5,none⟩ (.string t792)).heap[gb783]? = some (.cells #[.bool false,.int .i64 t788,.int .i64 t789,.int .i64 t790,.int .i64 t791,.string t792,u784006] 41 (0,0))) := ⟨zq BK783⟩
           have n3_ : Aside0 (((((((((((w46.setCell ⟨gb794,0,none⟩ (.int .i64 t788)).setCell ⟨gb794,1,none⟩ (.int .i64 t789)).setCell ⟨gb794,2,none⟩ (.int .i64 t790)).setCell ⟨gb794,3,none⟩ (.int .i64 t791)).setCell ⟨gb794,4,none⟩ (.string t792)).setCell ⟨gb783,1,none⟩ (.int .i64 t788)).setCell ⟨gb783,2,none⟩ (.int .i64 t789)).setCell ⟨gb783,3,none⟩ (.int .i64 t790)).setCell ⟨gb783,4,none⟩ (.int .i64 t791)).setCell ⟨gb783,5,none⟩ (.string t792)).heap[gb794]? = some (.cells #[.int .i64 t788,.int .i64 t789,.int .i64 t790,.int .i64 t791,.string t792] 33 (0,0))) := ⟨zq BK794⟩
           have n4_ : Aside0 (Below w.heap.size w ((((((((((w46.setCell ⟨gb794,0,none⟩ (.int .i64 t788)).setCell ⟨gb794,1,none⟩ (.int .i64 t789)).setCell ⟨gb794,2,none⟩ (.int .i64 t790)).setCell ⟨gb794,3,none⟩ (.int .i64 t791)).setCell ⟨gb794,4,none⟩ (.string t792)).setCell ⟨gb783,1,none⟩ (.int .i64 t788)).setCell ⟨gb783,2,none⟩ (.int .i64 t789)).setCell ⟨gb783,3,none⟩ (.int .i64 t790)).setCell ⟨gb783,4,none⟩ (.int .i64 t791)).setCell ⟨gb783,5,none⟩ (.string t792))) := ⟨zl_ HB⟩
           (try clear HO_784006)
           (try clear BK776)
           (try clear BK783)
           (try clear BK794)
           (try clear HB)
           generalize ((((((((((w46.setCell ⟨gb794,0,none⟩ (.int .i64 t788)).setCell ⟨gb794,1,none⟩ (.int .i64 t789)).setCell ⟨gb794,2,none⟩ (.int .i64 t790)).setCell ⟨gb794,3,none⟩ (.int .i64 t791)).setCell ⟨gb794,4,none⟩ (.string t792)).setCell ⟨gb783,1,none⟩ (.int .i64 t788)).setCell ⟨gb783,2,none⟩ (.int .i64 t789)).setCell ⟨gb783,3,none⟩ (.int .i64 t790)).setCell ⟨gb783,4,none⟩ (.int .i64 t791)).setCell ⟨gb783,5,none⟩ (.string t792)) = w52 at n0_ n1_ n2_ n3_ n4_ ⊢
           have HO_784006 := n0_
           have BK776 := n1_
           have BK783 := n2_
           have BK794 := n3_
           have HB := n4_
           clear n0_ n1_ n2_ n3_ n4_
           replace HO_784006 := am_ (Kd.R_drew HO_784006.out)
           replace BK776 := am_ (blk_drew BK776.out)
           replace BK783 := am_ (blk_drew BK783.out)
           replace BK794 := am_ (blk_drew BK794.out)
           replace HB := am_ (below_drew1 HB.out)
           obtain ⟨Ao54,co54,eo54⟩ := Kd.R_slice HO_784006.out
           (first | subst eo54 | (injection eo54 with f1_ f2_ f3_;have f4_ := f1_.symm;have f5_ := f3_.symm;clear f1_ f2_ f3_;subst f4_;subst f5_))
           refine start_ (n := 8) (S := fun w' => w'.cell? ⟨gb783,0,none⟩ = some (.bool false) ∧ w'.cell? ⟨gb783,1,none⟩ = some (.int .i64 t788) ∧ w'.cell? ⟨gb783,2,none⟩ = some (.int .i64 t789) ∧ w'.cell? ⟨gb783,3,none⟩ = some (.int .i64 t790) ∧ w'.cell? ⟨gb783,4,none⟩ = some (.int .i64 t791) ∧ w'.cell? ⟨gb783,5,none⟩ = some (.string t792) ∧ w'.cell? ⟨gb783,6,none⟩ = some (.slice Ao54 x784006_1.length co54)) (ds := []) #[false,false,false,false,false,false,false,false] (by kernel_rfl) rfl rfl ⟨(blk_cell BK783.out 0).trans rfl,(blk_cell BK783.out 1).trans rfl,(blk_cell BK783.out 2).trans rfl,(blk_cell BK783.out 3).trans rfl,(blk_cell BK783.out 4).trans rfl,(blk_cell BK783.out 5).trans rfl,(blk_cell BK783.out 6).trans rfl⟩ (fun hHeld => ?_);refine with_tabW spec_l02ReadBatch.tab16 spec_l02ReadBatch.bits16 (fun HT_ HW_ => ?_)
           generalize w52.drew = w53 at HO_784006 BK776 BK783 BK794 HB hHeld ⊢
           refine zpu 1 (N := some 74) #[false,true,false,false,false,false,false,false] HT_ ?_
           refine zpu 2 (N := some 75) #[false,true,true,false,false,false,false,false] HT_ ?_
           refine ztk 0 (N := some 73) #[true,true,true,false,false,false,false,false] HT_ HW_ hHeld ?_
           refine ztk 3 (N := some 76) #[true,true,true,true,false,false,false,false] HT_ HW_ hHeld ?_
           refine one_ (i := 4) (N := some 77) #[true,true,true,true,true,false,false,false] rfl rfl (one_of HT_.out (by kernel_rfl)) (by decide) (fun K hK => ?_)
           refine goes_ Try.func41 (by kernel_rfl) rfl #[.agg #[.bool false,.int .i64 t788,.int .i64 t789,.int .i64 t790,.int .i64 t791,.string t792,.slice Ao54 x784006_1.length co54]] (by rfl) rfl rfl (by (try simp only [m1_,m2_,m3_]);first | done | rfl | (simp only [d1_,d2_];rfl)) ?_
           with_reducible refine (spec_l02BatchOK.calls k1 false t788 t789 t790 t791 t792 _ _ x784006_1 t795 _ ?side1 ?side2 A44.out).mono ?_
           (case side1 => repeat (first | exact (Kd.R_reads' HO_784006.out).2.2 | (with_reducible refine Kd.C_alloc ?_ _) | (with_reducible refine Kd.C_drewN ?_ _) | (with_reducible refine Kd.C_drew ?_)))
           (case side2 => exact (Kd.R_reads' HO_784006.out).2.1)
           rintro e w55 ⟨rfl,hb⟩
           refine ⟨_,rfl,?_⟩
           replace HO_784006 := zrb HO_784006 hb
           replace BK776 := zb BK776 hb
           replace BK783 := zb BK783 hb
           replace BK794 := zb BK794 hb
           replace HB := zs_ HB hb
           (try clear hb)
           (try clear hb2)
           (try clear hk)
           (try clear hi)
           refine hK.out _ _ ⟨(blk_cell BK783.out 0).trans rfl,(blk_cell BK783.out 1).trans rfl,(blk_cell BK783.out 2).trans rfl,(blk_cell BK783.out 3).trans rfl,(blk_cell BK783.out 4).trans rfl,(blk_cell BK783.out 5).trans rfl,(blk_cell BK783.out 6).trans rfl⟩ (fun hHeld => ?_)
           clear hK K
           refine norm_ (a' := ?_) ?_ ?_
           rotate_left
           ·show Act.put _ (some 77) _ = _
            simp only [Act.put,p1_,p2_,p3_,i64_w,i32_w]
            rfl
           refine zpu 5 (N := some 78) #[true,true,true,true,true,true,false,false] HT_ ?_
           refine one_ (i := 6) (N := none) #[true,true,true,true,true,true,true,false] rfl rfl (one_of HT_.out (by kernel_rfl)) (by decide) (fun K hK => ?_)
           have hs56 : w55.cell? ⟨gb776,0,none⟩ = some (.bool false) := (blk_cell BK776.out 0).trans rfl
           have hfs56 := blk_frozen BK776.out 0
           have hns56_1 := NB783_776.out
           have hns56_2 := NB794_776.out
           have hms56_1 := NB776_783.out
           have hms56_2 := NB776_794.out
           have hs57 : w55.cell? ⟨gb776,1,none⟩ = some (.int .i64 0) := (blk_cell BK776.out 1).trans rfl
           have hfs57 := blk_frozen BK776.out 1
           have hns57_1 := NB783_776.out
           have hns57_2 := NB794_776.out
           have hms57_1 := NB776_783.out
           have hms57_2 := NB776_794.out
           have hs58 : w55.cell? ⟨gb776,2,none⟩ = some (.int .i64 0) := (blk_cell BK776.out 2).trans rfl
           have hfs58 := blk_frozen BK776.out 2
           have hns58_1 := NB783_776.out
           have hns58_2 := NB794_776.out
           have hms58_1 := NB776_783.out
           have hms58_2 := NB776_794.out
           have hs59 : w55.cell? ⟨gb776,3,none⟩ = some (.int .i64 0) := (blk_cell BK776.out 3).trans rfl
           have hfs59 := blk_frozen BK776.out 3
           have hns59_1 := NB783_776.out
           have hns59_2 := NB794_776.out
           have hms59_1 := NB776_783.out
           have hms59_2 := NB776_794.out
           have hs60 : w55.cell? ⟨gb776,4,none⟩ = some (.int .i64 0) := (blk_cell BK776.out 4).trans rfl
           have hfs60 := blk_frozen BK776.out 4
           have hns60_1 := NB783_776.out
           have hns60_2 := NB794_776.out
           have hms60_1 := NB776_783.out
           have hms60_2 := NB776_794.out
           have hs61 : w55.cell? ⟨gb776,5,none⟩ = some (.string ⟨#[]⟩) := (blk_cell BK776.out 5).trans rfl
           have hfs61 := blk_frozen BK776.out 5
           have hns61_1 := NB783_776.out
           have hns61_2 := NB794_776.out
           have hms61_1 := NB776_783.out
           have hms61_2 := NB776_794.out
           have hs62 : w55.cell? ⟨gb776,6,none⟩ = some (.slice none 0 0) := (blk_cell BK776.out 6).trans rfl
           have hfs62 := blk_frozen BK776.out 6
           have hns62_1 := NB783_776.out
           have hns62_2 := NB794_776.out
           have hms62_1 := NB776_783.out
           have hms62_2 := NB776_794.out
           refine skip_ (w1 := ?_) (by rfl) rfl ?_ ?_
           rotate_left
           ·go_simp
            rfl
           refine hK.out _ _ ⟨((cell_far (p := ⟨gb776,_,none⟩) NB783_776.out _).trans (((cell_far (p := ⟨gb776,_,none⟩) NB783_776.out _).trans (((cell_far (p := ⟨gb776,_,none⟩) NB783_776.out _).trans (((cell_far (p := ⟨gb776,_,none⟩) NB783_776.out _).trans (((cell_far (p := ⟨gb776,_,none⟩) NB783_776.out _).trans (((cell_far (p := ⟨gb776,_,none⟩) NB783_776.out _).trans (((cell_far (p := ⟨gb776,_,none⟩) NB783_776.out _).trans (hHeld.1)))))))))))))),((cell_far (p := ⟨gb776,_,none⟩) NB783_776.out _).trans (((cell_far (p := ⟨gb776,_,none⟩) NB783_776.out _).trans (((cell_far (p := ⟨gb776,_,none⟩) NB783_776.out _).trans (((cell_far (p := ⟨gb776,_,none⟩) NB783_776.out _).trans (((cell_far (p := ⟨gb776,_,none⟩) NB783_776.out _).trans (((cell_far (p := ⟨gb776,_,none⟩) NB783_776.out _).trans (((cell_far (p := ⟨gb776,_,none⟩) NB783_776.out _).trans (hHeld.2.1)))))))))))))),((cell_far (p := ⟨gb776,_,none⟩) NB783_776.out _).trans (((cell_far (p := ⟨gb776,_,none⟩) NB783_776.out _).trans (((cell_far (p := ⟨gb776,_,none⟩) NB783_776.out _).trans (((cell_far (p := ⟨gb776,_,none⟩) NB783_776.out _).trans (((cell_far (p := ⟨gb776,_,none⟩) NB783_776.out _).trans (((cell_far (p := ⟨gb776,_,none⟩) NB783_776.out _).trans (((cell_far (p := ⟨gb776,_,none⟩) NB783_776.out _).trans (hHeld.2.2.1)))))))))))))),((cell_far (p := ⟨gb776,_,none⟩) NB783_776.out _).trans (((cell_far (p := ⟨gb776,_,none⟩) NB783_776.out _).trans (((cell_far (p := ⟨gb776,_,none⟩) NB783_776.out _).trans (((cell_far (p := ⟨gb776,_,none⟩) NB783_776.out _).trans (((cell_far (p := ⟨gb776,_,none⟩) NB783_776.out _).trans (((cell_far (p := ⟨gb776,_,none⟩) NB783_776.out _).trans (((cell_far (p := ⟨gb776,_,none⟩) NB783_776.out _).trans (hHeld.2.2.2.1)))))))))))))),((cell_far (p := ⟨gb776,_,none⟩) NB783_776.out _).trans (((cell_far (p := ⟨gb776,_,none⟩) NB783_776.out _).trans (((cell_far (p := ⟨gb776,_,none⟩) NB783_776.out _).trans (((cell_far (p := ⟨gb776,_,none⟩) NB783_776.out _).trans (((cell_far (p := ⟨gb776,_,none⟩) NB783_776.out _).trans (((cell_far (p := ⟨gb776,_,none⟩) NB783_776.out _).trans (((cell_far (p := ⟨gb776,_,none⟩) NB783_776.out _).trans (hHeld.2.2.2.2.1)))))))))))))),((cell_far (p := ⟨gb776,_,none⟩) NB783_776.out _).trans (((cell_far (p := ⟨gb776,_,none⟩) NB783_776.out _).trans (((cell_far (p := ⟨gb776,_,none⟩) NB783_776.out _).trans (((cell_far (p := ⟨gb776,_,none⟩) NB783_776.out _).trans (((cell_far (p := ⟨gb776,_,none⟩) NB783_776.out _).trans (((cell_far (p := ⟨gb776,_,none⟩) NB783_776.out _).trans (((cell_far (p := ⟨gb776,_,none⟩) NB783_776.out _).trans (hHeld.2.2.2.2.2.1)))))))))))))),((cell_far (p := ⟨gb776,_,none⟩) NB783_776.out _).trans (((cell_far (p := ⟨gb776,_,none⟩) NB783_776.out _).trans (((cell_far (p := ⟨gb776,_,none⟩) NB783_776.out _).trans (((cell_far (p := ⟨gb776,_,none⟩) NB783_776.out _).trans (((cell_far (p := ⟨gb776,_,none⟩) NB783_776.out _).trans (((cell_far (p := ⟨gb776,_,none⟩) NB783_776.out _).trans (((cell_far (p := ⟨gb776,_,none⟩) NB783_776.out _).trans (hHeld.2.2.2.2.2.2))))))))))))))⟩ (fun hHeld => ?_)
           clear hK K
           refine zpu 7 (N := some 3) #[true,true,true,true,true,true,true,true] HT_ ?_
           refine done_ (done_of HT_.out (by kernel_rfl)) ?_
           try go_wp2
           refine bodyPost_ret (results_ct rfl _ _ gb776 41 #[.bool false,.int .i64 t788,.int .i64 t789,.int .i64 t790,.int .i64 t791,.string t792,.slice Ao54 x784006_1.length co54] (0,0) _ rfl (zq BK776) Try.underlying41 rfl (by kernel_rfl)) rfl ?_
           exact ⟨_,by first | rfl | (simp [e1_,e2_] <;> rfl) | (simp only [← hji39];first | rfl | (simp [e1_,e2_] <;> rfl)) | (simp [*,e1_,e2_] <;> rfl) | (simp [e3_,e4_];done) | (simp [*,e3_,e4_];done),by (with_reducible repeat (first | apply r1_ | apply r2_ | apply r3_));exact Kd.R_mono (zrf (Kd.R_types HO_784006.out BK776.out (by decide))) (fun _ hk => trivial),zl_ HB⟩
          ·replace c43 := Bool.eq_false_iff.mpr c43
           subst c43
           have H1 : (some (false,t788,t789,t790,t791,t792,x784006_1,false)) = some (r1,r2,r3,r4,r5,r6,r7,r8) := by rw [if_neg (show ¬ (false = true) by decide)] at H;exact H
           clear H
           have H := H1
           clear H1
           simp only [Option.some.injEq,Prod.mk.injEq] at H
           obtain ⟨rfl,rfl,rfl,rfl,rfl,rfl,rfl,rfl⟩ := H
           try go_wp2_with (first | ((with_reducible refine gate_callee (f := 63) rfl ?_);refine goesL_ (some 68) rfl rfl Try.func63 (by kernel_rfl) rfl #[.string (a0.extract ((ji39) : Int).toNat a0.size)] rfl (by (try simp only [m1_,m2_,m3_]);first | done | (simp only [hji39];rfl) | rfl | (simp only [d1_,d2_];rfl)) ?_;(with_reducible refine (spec_l02ReadRequest.calls k1 (a0.extract ((ji39) : Int).toNat a0.size) t788 t789 t790 t791 t792 false _ A42.out).mono ?_);rintro e w63 ⟨rfl,hb⟩;refine ⟨_,rfl,?_⟩;replace HO_784006 := zrb HO_784006 hb;replace BK776 := zb BK776 hb;replace BK783 := zb BK783 hb;replace HB := zs_ HB hb;(try clear hb);(try clear hb2);(try clear hk);(try clear hi)) | ((with_reducible refine gate_dst (N := 8) rfl ?_);refine zbx (N := 8) (cs := #[.int .i64 0,.int .i64 0,.int .i64 0,.int .i64 0,.string ⟨#[]⟩]) (t := 33) ?_;intro gb794 hg w64 hbox hb;replace HO_784006 := zrb HO_784006 hb;have BK794 := am_ (hbox);have GW794 := zw_ HB hg;have GE794 := zw_ HB hg;replace HB := zs_ HB hb;have NB776_794 := zl hg BK776;have NB794_776 := zg hg BK776;replace BK776 := zb BK776 hb;have NB783_794 := zl hg BK783;have NB794_783 := zg hg BK783;replace BK783 := zb BK783 hb;clear hb hbox hg;have hnb65 := NB794_776.out;have hnc65 := NB776_794.out;have hnb66 := NB794_783.out;have hnc66 := NB783_794.out;obtain ⟨hcz67_0,hcz67_1,hcz67_2,hcz67_3,hcz67_4,hfz67_0,hfz67_1,hfz67_2,hfz67_3,hfz67_4⟩ := zc5 BK794;have hnb68 := NB783_776.out;have hnc68 := NB776_783.out;obtain ⟨hcz69_0,hcz69_1,hcz69_2,hcz69_3,hcz69_4,hcz69_5,hcz69_6,hfz69_0,hfz69_1,hfz69_2,hfz69_3,hfz69_4,hfz69_5,hfz69_6⟩ := zc7 BK783))
           have n0_ : Aside0 (Kd.R k70 70 ((((((((((w64.setCell ⟨gb794,0,none⟩ (.int .i64 t788)).setCell ⟨gb794,1,none⟩ (.int .i64 t789)).setCell ⟨gb794,2,none⟩ (.int .i64 t790)).setCell ⟨gb794,3,none⟩ (.int .i64 t791)).setCell ⟨gb794,4,none⟩ (.string t792)).setCell ⟨gb783,1,none⟩ (.int .i64 t788)).setCell ⟨gb783,2,none⟩ (.int .i64 t789)).setCell ⟨gb783,3,none⟩ (.int .i64 t790)).setCell ⟨gb783,4,none⟩ (.int .i64 t791)).setCell ⟨gb783,5,none⟩ (.string t792)) w.heap.size (fun _ => True) u784006 x784006_1) := ⟨by (with_reducible repeat (first | apply r1_ | apply r2_ | apply r3_));exact Kd.R_mono (Kd.Rf (Kd.Rf (Kd.Rf (Kd.Rf (Kd.Rf (Kd.R_far (p := ⟨gb794,4,none⟩) (Kd.R_far (p := ⟨gb794,3,none⟩) (Kd.R_far (p := ⟨gb794,2,none⟩) (Kd.R_far (p := ⟨gb794,1,none⟩) (Kd.R_far (p := ⟨gb794,0,none⟩) (Kd.R_types (Kd.R_types HO_784006.out BK794.out (by decide)) BK783.out (by decide)) (fun _ hk => hk.1.2) (.int .i64 t788)) (fun _ hk => hk.1.2) (.int .i64 t789)) (fun _ hk => hk.1.2) (.int .i64 t790)) (fun _ hk => hk.1.2) (.int .i64 t791)) (fun _ hk => hk.1.2) (.string t792))))))) (fun _ hk => trivial)⟩
           have n1_ : Aside0 (((((((((((w64.setCell ⟨gb794,0,none⟩ (.int .i64 t788)).setCell ⟨gb794,1,none⟩ (.int .i64 t789)).setCell ⟨gb794,2,none⟩ (.int .i64 t790)).setCell ⟨gb794,3,none⟩ (.int .i64 t791)).setCell ⟨gb794,4,none⟩ (.string t792)).setCell ⟨gb783,1,none⟩ (.int .i64 t788)).setCell ⟨gb783,2,none⟩ (.int .i64 t789)).setCell ⟨gb783,3,none⟩ (.int .i64 t790)).setCell ⟨gb783,4,none⟩ (.int .i64 t791)).setCell ⟨gb783,5,none⟩ (.string t792)).heap[gb776]? = some (.cells #[.bool false,.int .i64 0,.int .i64 0,.int .i64 0,.int .i64 0,.string ⟨#[]⟩,.slice none 0 0] 41 (0,0))) := ⟨zq BK776⟩
           have n2_ : Aside0 (((((((((((w64.setCell ⟨gb794,0,none⟩ (.int .i64 t788)).setCell ⟨gb794,1,none⟩ (.int .i64 t789)).setCell ⟨gb794,2,none⟩ (.int .i64 t790)).setCell ⟨gb794,3,none⟩ (.int .i64 t791)).setCell ⟨gb794,4,none⟩ (.string t792)).setCell ⟨gb783,1,none⟩ (.int .i64 t788)).setCell ⟨gb783,2,none⟩ (.int .i64 t789)).setCell ⟨gb783,3,none⟩ (.int .i64 t790)).setCell ⟨gb783,4,none⟩ (.int .i64 t791)).setCell ⟨gb783,5,none⟩ (.string t792)).heap[gb783]? = some (.cells #[.bool false,.int .i64 t788,.int .i64 t789,.int .i64 t790,.int .i64 t791,.string t792,u784006] 41 (0,0))) := ⟨zq BK783⟩
           have n3_ : Aside0 (((((((((((w64.setCell ⟨gb794,0,none⟩ (.int .i64 t788)).setCell ⟨gb794,1,none⟩ (.int .i64 t789)).setCell ⟨gb794,2,none⟩ (.int .i64 t790)).setCell ⟨gb794,3,none⟩ (.int .i64 t791)).setCell ⟨gb794,4,none⟩ (.string t792)).setCell ⟨gb783,1,none⟩ (.int .i64 t788)).setCell ⟨gb783,2,none⟩ (.int .i64 t789)).setCell ⟨gb783,3,none⟩ (.int .i64 t790)).setCell ⟨gb783,4,none⟩ (.int .i64 t791)).setCell ⟨gb783,5,none⟩ (.string t792)).heap[gb794]? = some (.cells #[.int .i64 t788,.int .i64 t789,.int .i64 t790,.int .i64 t791,.string t792] 33 (0,0))) := ⟨zq BK794⟩
           have n4_ : Aside0 (Below w.heap.size w ((((((((((w64.setCell ⟨gb794,0,none⟩ (.int .i64 t788)).setCell ⟨gb794,1,none⟩ (.int .i64 t789)).setCell ⟨gb794,2,none⟩ (.int .i64 t790)).setCell ⟨gb794,3,none⟩ (.int .i64 t791)).setCell ⟨gb794,4,none⟩ (.string t792)).setCell ⟨gb783,1,none⟩ (.int .i64 t788)).setCell ⟨gb783,2,none⟩ (.int .i64 t789)).setCell ⟨gb783,3,none⟩ (.int .i64 t790)).setCell ⟨gb783,4,none⟩ (.int .i64 t791)).setCell ⟨gb783,5,none⟩ (.string t792))) := ⟨zl_ HB⟩
           (try clear HO_784006)
           (try clear BK776)
           (try clear BK783)
           (try clear BK794)
           (try clear HB)
           generalize ((((((((((w64.setCell ⟨gb794,0,none⟩ (.int .i64 t788)).setCell ⟨gb794,1,none⟩ (.int .i64 t789)).setCell ⟨gb794,2,none⟩ (.int .i64 t790)).setCell ⟨gb794,3,none⟩ (.int .i64 t791)).setCell ⟨gb794,4,none⟩ (.string t792)).setCell ⟨gb783,1,none⟩ (.int .i64 t788)).setCell ⟨gb783,2,none⟩ (.int .i64 t789)).setCell ⟨gb783,3,none⟩ (.int .i64 t790)).setCell ⟨gb783,4,none⟩ (.int .i64 t791)).setCell ⟨gb783,5,none⟩ (.string t792)) = w70 at n0_ n1_ n2_ n3_ n4_ ⊢
           have HO_784006 := n0_
           have BK776 := n1_
           have BK783 := n2_
           have BK794 := n3_
           have HB := n4_
           clear n0_ n1_ n2_ n3_ n4_
           replace HO_784006 := am_ (Kd.R_drew HO_784006.out)
           replace BK776 := am_ (blk_drew BK776.out)
           replace BK783 := am_ (blk_drew BK783.out)
           replace BK794 := am_ (blk_drew BK794.out)
           replace HB := am_ (below_drew1 HB.out)
           obtain ⟨Ao78,co78,eo78⟩ := Kd.R_slice HO_784006.out
           (first | subst eo78 | (injection eo78 with f1_ f2_ f3_;have f4_ := f1_.symm;have f5_ := f3_.symm;clear f1_ f2_ f3_;subst f4_;subst f5_))
           refine start_ (n := 8) (S := fun w' => w'.cell? ⟨gb783,0,none⟩ = some (.bool false) ∧ w'.cell? ⟨gb783,1,none⟩ = some (.int .i64 t788) ∧ w'.cell? ⟨gb783,2,none⟩ = some (.int .i64 t789) ∧ w'.cell? ⟨gb783,3,none⟩ = some (.int .i64 t790) ∧ w'.cell? ⟨gb783,4,none⟩ = some (.int .i64 t791) ∧ w'.cell? ⟨gb783,5,none⟩ = some (.string t792) ∧ w'.cell? ⟨gb783,6,none⟩ = some (.slice Ao78 x784006_1.length co78)) (ds := []) #[false,false,false,false,false,false,false,false] (by kernel_rfl) rfl rfl ⟨(blk_cell BK783.out 0).trans rfl,(blk_cell BK783.out 1).trans rfl,(blk_cell BK783.out 2).trans rfl,(blk_cell BK783.out 3).trans rfl,(blk_cell BK783.out 4).trans rfl,(blk_cell BK783.out 5).trans rfl,(blk_cell BK783.out 6).trans rfl⟩ (fun hHeld => ?_);refine with_tabW spec_l02ReadBatch.tab16 spec_l02ReadBatch.bits16 (fun HT_ HW_ => ?_)
           generalize w70.drew = w71 at HO_784006 BK776 BK783 BK794 HB hHeld ⊢
           refine zpu 1 (N := some 74) #[false,true,false,false,false,false,false,false] HT_ ?_
           refine zpu 2 (N := some 75) #[false,true,true,false,false,false,false,false] HT_ ?_
           refine zpx 3 (N := some 76) #[false,true,true,true,false,false,false,false] HT_ ?_
           refine zpx 4 (N := some 77) #[false,true,true,true,true,false,false,false] HT_ ?_
           refine zpu 5 (N := some 78) #[false,true,true,true,true,true,false,false] HT_ ?_
           refine ztk 0 (N := some 73) #[true,true,true,true,true,true,false,false] HT_ HW_ hHeld ?_
           refine one_ (i := 6) (N := none) #[true,true,true,true,true,true,true,false] rfl rfl (one_of HT_.out (by kernel_rfl)) (by decide) (fun K hK => ?_)
           have hs72 : w71.cell? ⟨gb776,0,none⟩ = some (.bool false) := (blk_cell BK776.out 0).trans rfl
           have hfs72 := blk_frozen BK776.out 0
           have hns72_1 := NB783_776.out
           have hns72_2 := NB794_776.out
           have hms72_1 := NB776_783.out
           have hms72_2 := NB776_794.out
           have hs73 : w71.cell? ⟨gb776,1,none⟩ = some (.int .i64 0) := (blk_cell BK776.out 1).trans rfl
           have hfs73 := blk_frozen BK776.out 1
           have hns73_1 := NB783_776.out
           have hns73_2 := NB794_776.out
           have hms73_1 := NB776_783.out
           have hms73_2 := NB776_794.out
           have hs74 : w71.cell? ⟨gb776,2,none⟩ = some (.int .i64 0) := (blk_cell BK776.out 2).trans rfl
           have hfs74 := blk_frozen BK776.out 2
           have hns74_1 := NB783_776.out
           have hns74_2 := NB794_776.out
           have hms74_1 := NB776_783.out
           have hms74_2 := NB776_794.out
           have hs75 : w71.cell? ⟨gb776,3,none⟩ = some (.int .i64 0) := (blk_cell BK776.out 3).trans rfl
           have hfs75 := blk_frozen BK776.out 3
           have hns75_1 := NB783_776.out
           have hns75_2 := NB794_776.out
           have hms75_1 := NB776_783.out
           have hms75_2 := NB776_794.out
           have hs76 : w71.cell? ⟨gb776,4,none⟩ = some (.int .i64 0) := (blk_cell BK776.out 4).trans rfl
           have hfs76 := blk_frozen BK776.out 4
           have hns76_1 := NB783_776.out
           have hns76_2 := NB794_776.out
           have hms76_1 := NB776_783.out
           have hms76_2 := NB776_794.out
           have hs77 : w71.cell? ⟨gb776,5,none⟩ = some (.string ⟨#[]⟩) := (blk_cell BK776.out 5).trans rfl
           have hfs77 := blk_frozen BK776.out 5
           have hns77_1 := NB783_776.out
           have hns77_2 := NB794_776.out
           have hms77_1 := NB776_783.out
           have hms77_2 := NB776_794.out
           have hs79 : w71.cell? ⟨gb776,6,none⟩ = some (.slice none 0 0) := (blk_cell BK776.out 6).trans rfl
           have hfs79 := blk_frozen BK776.out 6
           have hns79_1 := NB783_776.out
           have hns79_2 := NB794_776.out
           have hms79_1 := NB776_783.out
           have hms79_2 := NB776_794.out
           refine skip_ (w1 := ?_) (by rfl) rfl ?_ ?_
           rotate_left
           ·go_simp
            rfl
           refine hK.out _ _ ⟨((cell_far (p := ⟨gb776,_,none⟩) NB783_776.out _).trans (((cell_far (p := ⟨gb776,_,none⟩) NB783_776.out _).trans (((cell_far (p := ⟨gb776,_,none⟩) NB783_776.out _).trans (((cell_far (p := ⟨gb776,_,none⟩) NB783_776.out _).trans (((cell_far (p := ⟨gb776,_,none⟩) NB783_776.out _).trans (((cell_far (p := ⟨gb776,_,none⟩) NB783_776.out _).trans (((cell_far (p := ⟨gb776,_,none⟩) NB783_776.out _).trans (hHeld.1)))))))))))))),((cell_far (p := ⟨gb776,_,none⟩) NB783_776.out _).trans (((cell_far (p := ⟨gb776,_,none⟩) NB783_776.out _).trans (((cell_far (p := ⟨gb776,_,none⟩) NB783_776.out _).trans (((cell_far (p := ⟨gb776,_,none⟩) NB783_776.out _).trans (((cell_far (p := ⟨gb776,_,none⟩) NB783_776.out _).trans (((cell_far (p := ⟨gb776,_,none⟩) NB783_776.out _).trans (((cell_far (p := ⟨gb776,_,none⟩) NB783_776.out _).trans (hHeld.2.1)))))))))))))),((cell_far (p := ⟨gb776,_,none⟩) NB783_776.out _).trans (((cell_far (p := ⟨gb776,_,none⟩) NB783_776.out _).trans (((cell_far (p := ⟨gb776,_,none⟩) NB783_776.out _).trans (((cell_far (p := ⟨gb776,_,none⟩) NB783_776.out _).trans (((cell_far (p := ⟨gb776,_,none⟩) NB783_776.out _).trans (((cell_far (p := ⟨gb776,_,none⟩) NB783_776.out _).trans (((cell_far (p := ⟨gb776,_,none⟩) NB783_776.out _).trans (hHeld.2.2.1)))))))))))))),((cell_far (p := ⟨gb776,_,none⟩) NB783_776.out _).trans (((cell_far (p := ⟨gb776,_,none⟩) NB783_776.out _).trans (((cell_far (p := ⟨gb776,_,none⟩) NB783_776.out _).trans (((cell_far (p := ⟨gb776,_,none⟩) NB783_776.out _).trans (((cell_far (p := ⟨gb776,_,none⟩) NB783_776.out _).trans (((cell_far (p := ⟨gb776,_,none⟩) NB783_776.out _).trans (((cell_far (p := ⟨gb776,_,none⟩) NB783_776.out _).trans (hHeld.2.2.2.1)))))))))))))),((cell_far (p := ⟨gb776,_,none⟩) NB783_776.out _).trans (((cell_far (p := ⟨gb776,_,none⟩) NB783_776.out _).trans (((cell_far (p := ⟨gb776,_,none⟩) NB783_776.out _).trans (((cell_far (p := ⟨gb776,_,none⟩) NB783_776.out _).trans (((cell_far (p := ⟨gb776,_,none⟩) NB783_776.out _).trans (((cell_far (p := ⟨gb776,_,none⟩) NB783_776.out _).trans (((cell_far (p := ⟨gb776,_,none⟩) NB783_776.out _).trans (hHeld.2.2.2.2.1)))))))))))))),((cell_far (p := ⟨gb776,_,none⟩) NB783_776.out _).trans (((cell_far (p := ⟨gb776,_,none⟩) NB783_776.out _).trans (((cell_far (p := ⟨gb776,_,none⟩) NB783_776.out _).trans (((cell_far (p := ⟨gb776,_,none⟩) NB783_776.out _).trans (((cell_far (p := ⟨gb776,_,none⟩) NB783_776.out _).trans (((cell_far (p := ⟨gb776,_,none⟩) NB783_776.out _).trans (((cell_far (p := ⟨gb776,_,none⟩) NB783_776.out _).trans (hHeld.2.2.2.2.2.1)))))))))))))),((cell_far (p := ⟨gb776,_,none⟩) NB783_776.out _).trans (((cell_far (p := ⟨gb776,_,none⟩) NB783_776.out _).trans (((cell_far (p := ⟨gb776,_,none⟩) NB783_776.out _).trans (((cell_far (p := ⟨gb776,_,none⟩) NB783_776.out _).trans (((cell_far (p := ⟨gb776,_,none⟩) NB783_776.out _).trans (((cell_far (p := ⟨gb776,_,none⟩) NB783_776.out _).trans (((cell_far (p := ⟨gb776,_,none⟩) NB783_776.out _).trans (hHeld.2.2.2.2.2.2))))))))))))))⟩ (fun hHeld => ?_)
           clear hK K
           refine zpu 7 (N := some 3) #[true,true,true,true,true,true,true,true] HT_ ?_
           refine done_ (done_of HT_.out (by kernel_rfl)) ?_
           try go_wp2
           refine bodyPost_ret (results_ct rfl _ _ gb776 41 #[.bool false,.int .i64 t788,.int .i64 t789,.int .i64 t790,.int .i64 t791,.string t792,.slice Ao78 x784006_1.length co78] (0,0) _ rfl (zq BK776) Try.underlying41 rfl (by kernel_rfl)) rfl ?_
           exact ⟨_,by first | rfl | (simp [e1_,e2_] <;> rfl) | (simp only [← hji39];first | rfl | (simp [e1_,e2_] <;> rfl)) | (simp [*,e1_,e2_] <;> rfl) | (simp [e3_,e4_];done) | (simp [*,e3_,e4_];done),by (with_reducible repeat (first | apply r1_ | apply r2_ | apply r3_));exact Kd.R_mono (zrf (Kd.R_types HO_784006.out BK776.out (by decide))) (fun _ hk => trivial),zl_ HB⟩
         ·rw [if_neg c41] at H
          exact absurd H (by simp)
        ·rw [if_neg c40] at H
         exact absurd H (by simp)
  ·rw [if_neg c5] at H
   exact absurd H (by simp)
set_option maxHeartbeats 8000000 in
set_option maxRecDepth 100000 in
theorem spec_ReadBatch.calls (k : Nat) (A0 : Option Addr) (c0 : Nat) (l0 : List Int) (r1 : Bool) (r2 : Int) (r3 : Int) (r4 : Int) (r5 : Int) (r6 : ByteArray) (r7 : List (S70)) (r8 : Int) (w : World) (hr0 : Kd.C (Kd.int .u8) w A0 l0.length l0) (hc0 : l0.length ≤ c0) (h : spec_ReadBatch.f k l0 = some (r1,r2,r3,r4,r5,r6,r7,r8)) :
  Calls Try.prog 21 #[.slice A0 l0.length c0] w fun e w' => ∃ v6_ : Value,e = .returned (.tuple #[.agg #[.bool r1,.int .i64 r2,.int .i64 r3,.int .i64 r4,.int .i64 r5,.string r6,v6_],.int .i64 r8]) ∧ Kd.R k70 70 w' w.heap.size (fun _ => True) v6_ r7 ∧ Below w.heap.size w w' := by
 have hu41 := Try.underlying41
 have HR0 := am_ hr0
 have HC0 := am_ hc0
 clear hr0 hc0
 have HB := am_ (Below.refl w.heap.size w)
 have H : (if (l0.length : Int) > 65536 then (some (false,0,0,0,0,(⟨#[]⟩ : ByteArray),([] : List (S70)),2)) else ((spec_l02ReadBatch.f k (strOfNums l0)).bind fun bt797 => (if bt797.2.2.2.2.2.2.2 = true then (some (bt797.1,bt797.2.1,bt797.2.2.1,bt797.2.2.2.1,bt797.2.2.2.2.1,bt797.2.2.2.2.2.1,bt797.2.2.2.2.2.2.1,0)) else (some (false,0,0,0,0,(⟨#[]⟩ : ByteArray),([] : List (S70)),3))))) = some (r1,r2,r3,r4,r5,r6,r7,r8) := h
 clear h
 by_cases c2 : (l0.length : Int) > 65536
 ·rw [if_pos c2] at H
  have c2b0 : decide (65536 < (l0.length : Int)) = true := decide_eq_true c2
  have c2b1 : decide (65536 < l0.length) = true := decide_eq_true (by omega)
  clear c2
  simp only [Option.some.injEq,Prod.mk.injEq] at H
  obtain ⟨rfl,rfl,rfl,rfl,rfl,rfl,rfl,rfl⟩ := H
  go_enter Try.func21,Try.ntmps21
  go_wp2_with (first | ((with_reducible refine gate_dst (N := 2) rfl ?_);refine zbx (N := 2) (cs := #[.bool false,.int .i64 0,.int .i64 0,.int .i64 0,.int .i64 0,.string ⟨#[]⟩,.slice none 0 0]) (t := 41) ?_;intro gb796 hg w3 hbox hb;have BK796 := am_ (hbox);have GW796 := zw_ HB hg;have GE796 := zw_ HB hg;replace HB := zs_ HB hb;clear hb hbox hg;obtain ⟨hcz4_0,hcz4_1,hcz4_2,hcz4_3,hcz4_4,hcz4_5,hcz4_6,hfz4_0,hfz4_1,hfz4_2,hfz4_3,hfz4_4,hfz4_5,hfz4_6⟩ := zc7 BK796))
  refine bodyPost_ret (results_ct rfl _ _ gb796 41 #[.bool false,.int .i64 0,.int .i64 0,.int .i64 0,.int .i64 0,.string ⟨#[]⟩,.slice none 0 0] (0,0) _ rfl (zq BK796) Try.underlying41 rfl (by kernel_rfl)) rfl ?_
  exact ⟨_,zt_,by first | exact Kd.R_nil _ _ _ _ _ | exact Kd.N_nil _ _ _ _ _ | exact Kd.V_nil _ _ _ _ _ | exact Kd.Q_nil _ _ _ _ _ | exact Kd.S_nil _ _ _ _ _,zl_ HB⟩
 ·rw [if_neg c2] at H
  have c2b0 : decide (65536 < (l0.length : Int)) = false := decide_eq_false c2
  have c2b1 : decide (65536 < l0.length) = false := decide_eq_false (by omega)
  clear c2
  replace H := Option.bind_eq_some_iff.mp H
  obtain ⟨⟨t797,t798,t799,t800,t801,t802,t803,t806⟩,A50,H⟩ := H
  try dsimp only at H
  have A5 := am_ A50
  clear A50
  by_cases c6 : t806 = true
  ·subst c6
   have H1 : (some (t797,t798,t799,t800,t801,t802,t803,0)) = some (r1,r2,r3,r4,r5,r6,r7,r8) := by rw [if_pos rfl] at H;exact H
   clear H
   have H := H1
   clear H1
   simp only [Option.some.injEq,Prod.mk.injEq] at H
   obtain ⟨rfl,rfl,rfl,rfl,rfl,rfl,rfl,rfl⟩ := H
   go_enter Try.func21,Try.ntmps21
   go_wp2_with (first | ((with_reducible refine gate_dst (N := 2) rfl ?_);refine zbx (N := 2) (cs := #[.bool false,.int .i64 0,.int .i64 0,.int .i64 0,.int .i64 0,.string ⟨#[]⟩,.slice none 0 0]) (t := 41) ?_;intro gb796 hg w7 hbox hb;have BK796 := am_ (hbox);have GW796 := zw_ HB hg;have GE796 := zw_ HB hg;replace HB := zs_ HB hb;clear hb hbox hg;have hcv8 := Kd.C_string (P := Try.prog) (A := A0) (c := c0) Try.underlying22 Try.underlying5 Try.underlying9 (Kd.C_below HR0.out HB.out)) | ((with_reducible refine gate_callee (f := 44) rfl ?_);refine zgl (some 13) Try.func44 #[.string (strOfNums l0)] ?_;(with_reducible refine (spec_l02ReadBatch.calls k (strOfNums l0) t797 t798 t799 t800 t801 t802 t803 true _ A5.out).mono ?_);rintro e w9 ⟨v804,rfl,ho0,hb⟩;refine ⟨_,rfl,?_⟩;have HO805 := am_ (Kd.R_lower ho0 (below_size (zl_ HB)));replace BK796 := zb BK796 hb;replace HB := zs_ HB hb;(try clear hb);(try clear hb2);(try clear hk);(try clear hi);(try clear ho0)) | ((with_reducible refine gate_dst (N := 4) rfl ?_);refine zbx (N := 4) (cs := #[.bool false,.int .i64 0,.int .i64 0,.int .i64 0,.int .i64 0,.string ⟨#[]⟩,.slice none 0 0]) (t := 41) ?_;intro gb807 hg w10 hbox hb;replace HO805 := zrb HO805 hb;have BK807 := am_ (hbox);have GW807 := zw_ HB hg;have GE807 := zw_ HB hg;replace HB := zs_ HB hb;have NB796_807 := zl hg BK796;have NB807_796 := zg hg BK796;replace BK796 := zb BK796 hb;clear hb hbox hg;have hnb11 := NB807_796.out;have hnc11 := NB796_807.out;obtain ⟨hcz12_0,hcz12_1,hcz12_2,hcz12_3,hcz12_4,hcz12_5,hcz12_6,hfz12_0,hfz12_1,hfz12_2,hfz12_3,hfz12_4,hfz12_5,hfz12_6⟩ := zc7 BK807;obtain ⟨Ao13,co13,eo13⟩ := Kd.R_slice HO805.out;subst eo13;obtain ⟨hcz14_0,hcz14_1,hcz14_2,hcz14_3,hcz14_4,hcz14_5,hcz14_6,hfz14_0,hfz14_1,hfz14_2,hfz14_3,hfz14_4,hfz14_5,hfz14_6⟩ := zc7 BK796))
   refine bodyPost_ret (results_ct rfl _ _ gb796 41 #[.bool t797,.int .i64 t798,.int .i64 t799,.int .i64 t800,.int .i64 t801,.string t802,.slice Ao13 t803.length co13] (0,0) _ rfl (zq BK796) Try.underlying41 rfl (by kernel_rfl)) rfl ?_
   exact ⟨_,zt_,by (with_reducible repeat (first | apply r1_ | apply r2_ | apply r3_));exact Kd.R_mono (Kd.Rf (Kd.Rf (Kd.Rf (Kd.Rf (Kd.Rf (Kd.Rf (Kd.Rf (Kd.R_far (p := ⟨gb807,6,none⟩) (Kd.R_far (p := ⟨gb807,5,none⟩) (Kd.R_far (p := ⟨gb807,4,none⟩) (Kd.R_far (p := ⟨gb807,3,none⟩) (Kd.R_far (p := ⟨gb807,2,none⟩) (Kd.R_far (p := ⟨gb807,1,none⟩) (Kd.R_far (p := ⟨gb807,0,none⟩) (Kd.R_types (Kd.R_types HO805.out BK807.out (by decide)) BK796.out (by decide)) (fun _ hk => hk.1.2) (.bool t797)) (fun _ hk => hk.1.2) (.int .i64 t798)) (fun _ hk => hk.1.2) (.int .i64 t799)) (fun _ hk => hk.1.2) (.int .i64 t800)) (fun _ hk => hk.1.2) (.int .i64 t801)) (fun _ hk => hk.1.2) (.string t802)) (fun _ hk => hk.1.2) (.slice Ao13 t803.length co13))))))))) (fun _ hk => trivial),zl_ HB⟩
  ·replace c6 := Bool.eq_false_iff.mpr c6
   subst c6
   have H1 : (some (false,0,0,0,0,(⟨#[]⟩ : ByteArray),([] : List (S70)),3)) = some (r1,r2,r3,r4,r5,r6,r7,r8) := by rw [if_neg (show ¬ (false = true) by decide)] at H;exact H
   clear H
   have H := H1
   clear H1
   simp only [Option.some.injEq,Prod.mk.injEq] at H
   obtain ⟨rfl,rfl,rfl,rfl,rfl,rfl,rfl,rfl⟩ := H
   go_enter Try.func21,Try.ntmps21
   go_wp2_with (first | ((with_reducible refine gate_dst (N := 2) rfl ?_);refine zbx (N := 2) (cs := #[.bool false,.int .i64 0,.int .i64 0,.int .i64 0,.int .i64 0,.string ⟨#[]⟩,.slice none 0 0]) (t := 41) ?_;intro gb796 hg w15 hbox hb;have BK796 := am_ (hbox);have GW796 := zw_ HB hg;have GE796 := zw_ HB hg;replace HB := zs_ HB hb;clear hb hbox hg;have hcv16 := Kd.C_string (P := Try.prog) (A := A0) (c := c0) Try.underlying22 Try.underlying5 Try.underlying9 (Kd.C_below HR0.out HB.out)) | ((with_reducible refine gate_callee (f := 44) rfl ?_);refine zgl (some 13) Try.func44 #[.string (strOfNums l0)] ?_;(with_reducible refine (spec_l02ReadBatch.calls k (strOfNums l0) t797 t798 t799 t800 t801 t802 t803 false _ A5.out).mono ?_);rintro e w17 ⟨v804,rfl,ho0,hb⟩;refine ⟨_,rfl,?_⟩;have HO805 := am_ (Kd.R_lower ho0 (below_size (zl_ HB)));replace BK796 := zb BK796 hb;replace HB := zs_ HB hb;(try clear hb);(try clear hb2);(try clear hk);(try clear hi);(try clear ho0)) | ((with_reducible refine gate_dst (N := 4) rfl ?_);refine zbx (N := 4) (cs := #[.bool false,.int .i64 0,.int .i64 0,.int .i64 0,.int .i64 0,.string ⟨#[]⟩,.slice none 0 0]) (t := 41) ?_;intro gb807 hg w18 hbox hb;replace HO805 := zrb HO805 hb;have BK807 := am_ (hbox);have GW807 := zw_ HB hg;have GE807 := zw_ HB hg;replace HB := zs_ HB hb;have NB796_807 := zl hg BK796;have NB807_796 := zg hg BK796;replace BK796 := zb BK796 hb;clear hb hbox hg;have hnb19 := NB807_796.out;have hnc19 := NB796_807.out;obtain ⟨hcz20_0,hcz20_1,hcz20_2,hcz20_3,hcz20_4,hcz20_5,hcz20_6,hfz20_0,hfz20_1,hfz20_2,hfz20_3,hfz20_4,hfz20_5,hfz20_6⟩ := zc7 BK807;obtain ⟨Ao21,co21,eo21⟩ := Kd.R_slice HO805.out;subst eo21;obtain ⟨hcz22_0,hcz22_1,hcz22_2,hcz22_3,hcz22_4,hcz22_5,hcz22_6,hfz22_0,hfz22_1,hfz22_2,hfz22_3,hfz22_4,hfz22_5,hfz22_6⟩ := zc7 BK796))
   refine bodyPost_ret (results_ct rfl _ _ gb796 41 #[.bool false,.int .i64 0,.int .i64 0,.int .i64 0,.int .i64 0,.string ⟨#[]⟩,.slice none 0 0] (0,0) _ rfl (zq BK796) Try.underlying41 rfl (by kernel_rfl)) rfl ?_
   exact ⟨_,zt_,by first | exact Kd.R_nil _ _ _ _ _ | exact Kd.N_nil _ _ _ _ _ | exact Kd.V_nil _ _ _ _ _ | exact Kd.Q_nil _ _ _ _ _ | exact Kd.S_nil _ _ _ _ _,zl_ HB⟩
set_option maxHeartbeats 8000000 in
set_option maxRecDepth 100000 in
theorem spec_RequestBytes.calls (k : Nat) (a0_0 : Int) (a0_1 : Int) (a0_2 : Int) (a0_3 : Int) (a0_4 : ByteArray) (r1 : List Int) (r2 : Int) (w : World) (h : spec_RequestBytes.f k a0_0 a0_1 a0_2 a0_3 a0_4 = some (r1,r2)) :
  Calls Try.prog 13 #[.agg #[.int .i64 a0_0,.int .i64 a0_1,.int .i64 a0_2,.int .i64 a0_3,.string a0_4]] w fun e w' => ∃ v0_ : Value,e = .returned (.tuple #[v0_,.int .i64 r2]) ∧ Kd.R (Kd.int .u8) 5 w' w.heap.size (fun _ => True) v0_ r1 ∧ Below w.heap.size w w' := by
 have hu33 := Try.underlying33
 have HB := am_ (Below.refl w.heap.size w)
 have H : ((spec_RequestOK.f k a0_0 a0_1 a0_2 a0_3 a0_4).bind fun t634 => (if t634 = true then ((spec_l02Request.f k a0_0 a0_1 a0_2 a0_3 a0_4).bind fun t635 => (some (t635,0))) else (some ((([] : List Int)),1)))) = some (r1,r2) := h
 clear h
 replace H := Option.bind_eq_some_iff.mp H
 obtain ⟨t634,A20,H⟩ := H
 try dsimp only at H
 have A2 := am_ A20
 clear A20
 by_cases c3 : t634 = true
 ·subst c3
  have H1 : ((spec_l02Request.f k a0_0 a0_1 a0_2 a0_3 a0_4).bind fun t635 => (some (t635,0))) = some (r1,r2) := by rw [if_pos rfl] at H;exact H
  clear H
  have H := H1
  clear H1
  replace H := Option.bind_eq_some_iff.mp H
  obtain ⟨t635,A40,H⟩ := H
  try dsimp only at H
  have A4 := am_ A40
  clear A40
  simp only [Option.some.injEq,Prod.mk.injEq] at H
  obtain ⟨rfl,rfl⟩ := H
  go_enter Try.func13,Try.ntmps13
  go_wp2_with (first | ((with_reducible refine gate_dst (N := 1) rfl ?_);refine zbx (N := 1) (cs := #[.int .i64 a0_0,.int .i64 a0_1,.int .i64 a0_2,.int .i64 a0_3,.string a0_4]) (t := 33) ?_;intro gb633 hg w5 hbox hb;have BK633 := am_ (hbox);have GW633 := zw_ HB hg;have GE633 := zw_ HB hg;replace HB := zs_ HB hb;clear hb hbox hg;obtain ⟨hcz6_0,hcz6_1,hcz6_2,hcz6_3,hcz6_4,hfz6_0,hfz6_1,hfz6_2,hfz6_3,hfz6_4⟩ := zc5 BK633) | ((with_reducible refine gate_callee (f := 33) rfl ?_);refine zgl (some 5) Try.func33 #[.agg #[.int .i64 a0_0,.int .i64 a0_1,.int .i64 a0_2,.int .i64 a0_3,.string a0_4]] ?_;(with_reducible refine (spec_RequestOK.calls k a0_0 a0_1 a0_2 a0_3 a0_4 true _ A2.out).mono ?_);rintro e w7 ⟨rfl,hb⟩;refine ⟨_,rfl,?_⟩;replace BK633 := zb BK633 hb;replace HB := zs_ HB hb;(try clear hb);(try clear hb2);(try clear hk);(try clear hi);obtain ⟨hcz8_0,hcz8_1,hcz8_2,hcz8_3,hcz8_4,hfz8_0,hfz8_1,hfz8_2,hfz8_3,hfz8_4⟩ := zc5 BK633) | ((with_reducible refine gate_callee (f := 34) rfl ?_);refine zgl (some 9) Try.func34 #[.agg #[.int .i64 a0_0,.int .i64 a0_1,.int .i64 a0_2,.int .i64 a0_3,.string a0_4]] ?_;(with_reducible refine (spec_l02Request.calls k a0_0 a0_1 a0_2 a0_3 a0_4 t635 _ A4.out).mono ?_);rintro e w9 ⟨v636,rfl,ho0,hb⟩;refine ⟨_,rfl,?_⟩;have HO637 := am_ (Kd.R_lower ho0 (below_size (zl_ HB)));replace BK633 := zb BK633 hb;replace HB := zs_ HB hb;(try clear hb);(try clear hb2);(try clear hk);(try clear hi);(try clear ho0)))
  go_ret2
  exact ⟨_,zt_,by (with_reducible repeat (first | apply r1_ | apply r2_ | apply r3_));exact HO637.out,zl_ HB⟩
 ·replace c3 := Bool.eq_false_iff.mpr c3
  subst c3
  have H1 : (some ((([] : List Int)),1)) = some (r1,r2) := by rw [if_neg (show ¬ (false = true) by decide)] at H;exact H
  clear H
  have H := H1
  clear H1
  obtain ⟨y638,hy638⟩ : ∃ y_ : List Int,y_ = (([] : List Int)) := ⟨_,rfl⟩
  replace H : (some (y638,1)) = some (r1,r2) := by first | (rw [hy638];with_reducible exact H) | (have H2_ := (Option.bind_some _ _).symm.trans H;rw [hy638];with_reducible exact H2_) | (have H2_ := (Option.bind_some _ _).symm.trans H;with_reducible exact H2_) | with_reducible exact H | (rw [hy638];exact H) | exact H
  have Ny638 := am_ hy638
  clear hy638
  simp only [Option.some.injEq,Prod.mk.injEq] at H
  obtain ⟨rfl,rfl⟩ := H
  go_enter Try.func13,Try.ntmps13
  go_wp2_with (first | ((with_reducible refine gate_dst (N := 1) rfl ?_);refine zbx (N := 1) (cs := #[.int .i64 a0_0,.int .i64 a0_1,.int .i64 a0_2,.int .i64 a0_3,.string a0_4]) (t := 33) ?_;intro gb633 hg w10 hbox hb;have BK633 := am_ (hbox);have GW633 := zw_ HB hg;have GE633 := zw_ HB hg;replace HB := zs_ HB hb;clear hb hbox hg;obtain ⟨hcz11_0,hcz11_1,hcz11_2,hcz11_3,hcz11_4,hfz11_0,hfz11_1,hfz11_2,hfz11_3,hfz11_4⟩ := zc5 BK633) | ((with_reducible refine gate_callee (f := 33) rfl ?_);refine zgl (some 5) Try.func33 #[.agg #[.int .i64 a0_0,.int .i64 a0_1,.int .i64 a0_2,.int .i64 a0_3,.string a0_4]] ?_;(with_reducible refine (spec_RequestOK.calls k a0_0 a0_1 a0_2 a0_3 a0_4 false _ A2.out).mono ?_);rintro e w12 ⟨rfl,hb⟩;refine ⟨_,rfl,?_⟩;replace HB := zs_ HB hb;(try clear hb);(try clear hb2);(try clear hk);(try clear hi)) | ((with_reducible refine gate_dst (N := 7) rfl ?_);refine Kd.R_lit (Kd.int .u8) _ 5 ?hg (N := 7) ?hd (xs := ([] : List Int)) (inner := []) (ok := fun _ => True) (okp := fun _ => True) ?hr ?hp (fun _ hk => hk) trivial (Below.refl _ _) (Nat.le_refl _) (by simp) ?_;(case hd => rfl);(case hg => rfl);(case hr => first | (go_simp;done) | (go_simp;rfl));(case hp => exact (Reps.none _ _));intro v639 w13 ho14 hb hg_ hnew_;clear hg_ hnew_;(first | rw [← Ny638.out] at ho14 | (simp only [Int.reduceToNat] at ho14;rw [← Ny638.out] at ho14));have HO640 := am_ (Kd.R_lower ho14 (below_size (zl_ HB)));replace HB := zs_ HB hb;clear hb ho14))
  go_ret2
  exact ⟨_,zt_,by (with_reducible repeat (first | apply r1_ | apply r2_ | apply r3_));exact HO640.out,zl_ HB⟩
end Go.Proofs.Ytdpdbegglkdgnaa.A
end
