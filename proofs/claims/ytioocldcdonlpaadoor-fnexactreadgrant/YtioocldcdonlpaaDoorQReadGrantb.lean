/- A part of the proof that FnExactReadGrant returns true at every input: plain functions, contracts and lemmas. No conditions. -/
import Derived.Test.YtioocldcdonlpaaDoorQReadGranta
import Derived.Lib.SlBy
import Derived.Lib.Walk
import Derived.LoopN
import Derived.Shelf.Strconv.Itoa3
import Derived.Lib.AppendIntMem
import Derived.Shelf.Strconv.AtoiAll
import Derived.Shelf.Strings.Prefix
import Derived.Shelf.Strings.SplitShaped
import Derived.Lib.SplitLaws
import Derived.Handed
import Derived.HandedShaped
set_option linter.unusedVariables false
set_option linter.unusedSimpArgs false
set_option linter.unusedSectionVars false
section
namespace Go.Proofs.YtioocldcdonlpaaDoor.A
open Go.RowKit Go.Proofs.YtioocldcdonlpaaDoorW.PrintWords Go.Proofs.YtioocldcdonlpaaDoorW.PrintLast Go.Proofs.YtioocldcdonlpaaDoorW.PrintMore
attribute [local go_sem] max2_int min2_int max_two min_two max_three min_three max_four min_four
def errW : Option Int → Value
  | none => .nilIface
  | some c => .iface 0 (.int .i64 c)
theorem errW_none : errW none = .nilIface := rfl
theorem errW_some (c : Int) : errW (some c) = .iface 0 (.int .i64 c) := rfl
theorem info9 : (Tryd.prog.info? 9).map (fun i => (i.zero, i.size, i.bytes)) = some (some (.string ⟨#[]⟩), 1, 16) := by kernel_rfl
/-- A state of type 60 at block g of W; what its slices lead to came in by w0. -/
def IsS60 (w0 W : World) (g : Nat) (f0 : List Int) (f1 : Int) (f2 : Int) : Prop := ∃ A0 c0, W.heap[g]? = some (.cells #[.slice A0 f0.length c0, .int .i64 f1, .int .i64 f2] 60 (0, 0)) ∧ w0.heap.size ≤ g ∧ Kd.C (Kd.int .u8) w0 A0 f0.length f0
theorem IsS60.grown {w0 W : World} {g : Nat} {f0 : List Int} {f1 : Int} {f2 : Int} {W1 : World} {row : Option Nat} (h : IsS60 w0 W g f0 f1 f2) (hw : W.grownBy W1 row) (hne : some g ≠ row) : IsS60 w0 W1 g f0 f1 f2 := by
  obtain ⟨A0, c0, hb, hg, hr0⟩ := h
  exact ⟨A0, c0, blk_grown hb hw hne, hg, hr0⟩
theorem IsS60.fresh {w0 W : World} {g : Nat} {f0 : List Int} {f1 : Int} {f2 : Int} (h : IsS60 w0 W g f0 f1 f2) : ∀ k, W.heap.size ≤ k → k ≠ g := by
  obtain ⟨A0, c0, hb, hg, hr0⟩ := h
  exact Kd.freshB hb
theorem IsS60.kept {w0 W : World} {g : Nat} {f0 : List Int} {f1 : Int} {f2 : Int} {W1 : World} {S : Nat → Prop} (h : IsS60 w0 W g f0 f1 f2) (hk : Kept W W1 S) (hne : ¬ S g) : IsS60 w0 W1 g f0 f1 f2 := by
  obtain ⟨A0, c0, hb, hg, hr0⟩ := h
  exact ⟨A0, c0, blk_kept hb hk hne, hg, hr0⟩
theorem IsS60.below {w0 W : World} {g : Nat} {f0 : List Int} {f1 : Int} {f2 : Int} {W1 : World} (h : IsS60 w0 W g f0 f1 f2) (hw : Below W.heap.size W W1) : IsS60 w0 W1 g f0 f1 f2 := h.grown (grown_of_below hw none) (by simp)
theorem IsS60.alloc {w0 W : World} {g : Nat} {f0 : List Int} {f1 : Int} {f2 : Int} (h : IsS60 w0 W g f0 f1 f2) (o : Obj) : IsS60 w0 (W.alloc o) g f0 f1 f2 := h.below (below_alloc (Below.refl _ _) o)
theorem IsS60.drewN {w0 W : World} {g : Nat} {f0 : List Int} {f1 : Int} {f2 : Int} (h : IsS60 w0 W g f0 f1 f2) (m : Nat) : IsS60 w0 (W.drewN m) g f0 f1 f2 := h
theorem IsS60.drew {w0 W : World} {g : Nat} {f0 : List Int} {f1 : Int} {f2 : Int} (h : IsS60 w0 W g f0 f1 f2) : IsS60 w0 W.drew g f0 f1 f2 := h
theorem IsS60.at_ {w0 W : World} {g : Nat} {f0 : List Int} {f1 : Int} {f2 : Int} {w' : World} {m : Nat} (hq : W.drewN m = w') (h : IsS60 w0 W g f0 f1 f2) : IsS60 w0 w' g f0 f1 f2 := by subst hq; exact IsS60.drewN h m
theorem IsS60.apart {w0 W : World} {g : Nat} {f0 : List Int} {f1 : Int} {f2 : Int} {α : Type} {d : Kd α} {e : Nat} {base : Nat} {ok : Nat → Prop} {v : Value} {xs : List α} (h : IsS60 w0 W g f0 f1 f2) (ho : d.R e W base ok v xs) (ht : ∀ q, q ∈ e :: d.E → q ≠ 60) : d.R e W base (fun k => ok k ∧ k ≠ g) v xs := by
  obtain ⟨A0, c0, hb, hg, hr0⟩ := h
  exact Kd.R_types ho hb ht
theorem IsS60.own_ne {w0 W : World} {g : Nat} {f0 : List Int} {f1 : Int} {f2 : Int} {α : Type} {d : Kd α} {e : Nat} {base : Nat} {ok : Nat → Prop} {v : Value} {xs : List α} (h : IsS60 w0 W g f0 f1 f2) (ho : d.R e W base ok v xs) (ht : e ≠ 60) : some g ≠ v.ownBlock := by
  obtain ⟨A0, c0, hb, hg, hr0⟩ := h
  exact Kd.R_ne ho hb ht
theorem IsS60.ge {w0 W : World} {g : Nat} {f0 : List Int} {f1 : Int} {f2 : Int} (h : IsS60 w0 W g f0 f1 f2) : w0.heap.size ≤ g := by
  obtain ⟨A0, c0, hb, hg, hr0⟩ := h
  exact hg
theorem zl_ {w W0 W : World} (b : Aside0 (Below w.heap.size w W0)) (h : Below w.heap.size w W := by repeat (first | (with_reducible first | exact HB.out | apply below_alloc | apply pw_below_drewN | apply below_drew1 | refine below_set ?_ (Aside0.out (by with_reducible assumption)) | refine below_set ?_ (IsS60.ge (Aside0.out (by with_reducible assumption)))) | exact HB.out)) : Below w.heap.size w W := h
theorem zs_ {w W0 W W1 : World} (b : Aside0 (Below w.heap.size w W0)) (hb : Below W.heap.size W W1) (h : Below w.heap.size w W := by repeat (first | (with_reducible first | exact HB.out | apply below_alloc | apply pw_below_drewN | apply below_drew1 | refine below_set ?_ (Aside0.out (by with_reducible assumption)) | refine below_set ?_ (IsS60.ge (Aside0.out (by with_reducible assumption)))) | exact HB.out)) : Aside0 (Below w.heap.size w W1) := ⟨below_step h hb⟩
theorem zw_ {w W0 W : World} {g : Nat} (b : Aside0 (Below w.heap.size w W0)) (hg : g = W.heap.size) (h : Below w.heap.size w W := by repeat (first | (with_reducible first | exact HB.out | apply below_alloc | apply pw_below_drewN | apply below_drew1 | refine below_set ?_ (Aside0.out (by with_reducible assumption)) | refine below_set ?_ (IsS60.ge (Aside0.out (by with_reducible assumption)))) | exact HB.out)) : Aside0 (w.heap.size ≤ g) := ⟨by rw [hg]; exact below_size h⟩
theorem zt_ {p : Prop} (h : p := by first | rfl | (simp [errW_none, errW_some] <;> rfl) | (simp [*, errW_none, errW_some] <;> rfl) | (simp [mp_beq_nil, mp_bne_nil]; done) | (simp [*, mp_beq_nil, mp_bne_nil]; done)) : p := h
theorem zc4 {w : World} {g : Nat} {t : TypeId} {a0 a1 a2 a3 : Value} (h : Aside0 (w.heap[g]? = some (.cells #[a0, a1, a2, a3] t (0, 0)))) : w.cell? ⟨g, 0, none⟩ = some a0 ∧ w.cell? ⟨g, 1, none⟩ = some a1 ∧ w.cell? ⟨g, 2, none⟩ = some a2 ∧ w.cell? ⟨g, 3, none⟩ = some a3 ∧ w.frozen? ⟨g, 0, none⟩ = false ∧ w.frozen? ⟨g, 1, none⟩ = false ∧ w.frozen? ⟨g, 2, none⟩ = false ∧ w.frozen? ⟨g, 3, none⟩ = false := ⟨(blk_cell h.out 0).trans rfl, (blk_cell h.out 1).trans rfl, (blk_cell h.out 2).trans rfl, (blk_cell h.out 3).trans rfl, blk_frozen h.out 0, blk_frozen h.out 1, blk_frozen h.out 2, blk_frozen h.out 3⟩
end Go.Proofs.YtioocldcdonlpaaDoor.A
end

section
namespace Go.Proofs.YtioocldcdonlpaaDoor.A
open Go Go.RowKit Go.Proofs.YtioocldcdonlpaaDoorW.PrintWords Go.Proofs.YtioocldcdonlpaaDoorW.PrintLast Go.Proofs.YtioocldcdonlpaaDoorW.PrintMore
section
variable {P : Program} {ops : Array Oper} {rest : List Oper} {o : Oper} {a : Act} {Q : Exit → Act → World → Prop}
theorem zsl {W : World} {cs : Array Value} {n : Nat} {t : TypeId}
    (h : ∀ g, g = W.heap.size → ∀ w1, w1.heap[g]? = some (.cells cs t (0, 0)) → Below W.heap.size W w1 → wpList P ops Q rest (a.put o.dst (.slice (some ⟨g, 0, none⟩) n n)) w1)
    (hgd : o.guard = none := by rfl)
    (hrun : (execOp a.eval o).run P W = .ok (.value (.slice (some ⟨W.heap.size, 0, none⟩) n n)) (W.alloc (.cells cs t (0, 0))) := by first | (go_simp; done) | (go_simp; rfl)) : wpList P ops Q (o :: rest) a W :=
  Kd.event_run hgd hrun (h _ rfl _ (blk_new W _) (below_alloc (Below.refl _ _) _))
end
theorem zgen {P : Program} {c : Code} {Q : Exit → Act → World → Prop} {a : Act} {W : World} {R : World → Prop} (h0 : R W) (h : ∀ w', R w' → c.wp P Q a w') : c.wp P Q a W := h W h0
theorem znb {w W : World} {g g' t : Nat} {cs0 cs : Array Value} (hg : g' = W.heap.size) (b : Aside0 (w.heap[g]? = some (.cells cs0 t (0, 0)))) (m : W.heap[g]? = some (.cells cs t (0, 0)) := by repeat (with_reducible first | apply blk_drewN | apply blk_drew | apply blk_alloc | apply blk_set | (apply blk_far; case hp => exact Aside0.out (by with_reducible assumption)) | exact Aside0.out (by with_reducible assumption))) : Aside0 (g ≠ g') := ⟨by rw [hg]; exact Nat.ne_of_lt (blk_lt m)⟩
end Go.Proofs.YtioocldcdonlpaaDoor.A
end

section
namespace Go.Proofs.YtioocldcdonlpaaDoor.A
open Go.RowKit Go.Proofs.YtioocldcdonlpaaDoorW.PrintWords Go.Proofs.YtioocldcdonlpaaDoorW.PrintLast Go.Proofs.YtioocldcdonlpaaDoorW.PrintMore
attribute [local go_sem] max2_int min2_int max_two min_two max_three min_three max_four min_four
set_option maxHeartbeats 8000000 in
set_option maxRecDepth 100000 in
theorem impl_isLetter.calls (a0 : Int) (r : Bool) (w : World) (h : impl_isLetter.f a0 = some r) :
    Calls Tryd.prog 49 #[.int .u8 a0] w fun e w' => e = .returned (.bool r) ∧ Drawn0 w w' := by
  have H : (if a0 ≥ 97 then (if a0 ≤ 122 then (some true) else (if a0 ≥ 65 then (if a0 ≤ 90 then (some true) else (some (a0 == 95))) else (some (a0 == 95)))) else (if a0 ≥ 65 then (if a0 ≤ 90 then (some true) else (some (a0 == 95))) else (some (a0 == 95)))) = some r := h
  clear h
  by_cases c2 : a0 ≥ 97
  · rw [if_pos c2] at H
    have c2b0 : decide (97 ≤ a0) = true := decide_eq_true c2
    clear c2
    by_cases c3 : a0 ≤ 122
    · rw [if_pos c3] at H
      have c3b0 : decide (a0 ≤ 122) = true := decide_eq_true c3
      clear c3
      obtain rfl := Option.some.inj H
      go_enter Tryd.func49, Tryd.ntmps49
      go_wp2
      go_ret
      exact ⟨by first | rfl | (simp; done) | (simp [*]; done), by repeat (first | exact Drawn0.refl _ | apply Drawn0.step)⟩
    · rw [if_neg c3] at H
      have c3b0 : decide (a0 ≤ 122) = false := decide_eq_false c3
      clear c3
      by_cases c4 : a0 ≥ 65
      · rw [if_pos c4] at H
        have c4b0 : decide (65 ≤ a0) = true := decide_eq_true c4
        clear c4
        by_cases c5 : a0 ≤ 90
        · rw [if_pos c5] at H
          have c5b0 : decide (a0 ≤ 90) = true := decide_eq_true c5
          clear c5
          obtain rfl := Option.some.inj H
          go_enter Tryd.func49, Tryd.ntmps49
          go_wp2
          go_ret
          exact ⟨by first | rfl | (simp; done) | (simp [*]; done), by repeat (first | exact Drawn0.refl _ | apply Drawn0.step)⟩
        · rw [if_neg c5] at H
          have c5b0 : decide (a0 ≤ 90) = false := decide_eq_false c5
          clear c5
          obtain rfl := Option.some.inj H
          go_enter Tryd.func49, Tryd.ntmps49
          go_wp2
          go_ret
          exact ⟨by first | rfl | (simp; done) | (simp [*]; done), by repeat (first | exact Drawn0.refl _ | apply Drawn0.step)⟩
      · rw [if_neg c4] at H
        have c4b0 : decide (65 ≤ a0) = false := decide_eq_false c4
        clear c4
        obtain rfl := Option.some.inj H
        go_enter Tryd.func49, Tryd.ntmps49
        go_wp2
        go_ret
        exact ⟨by first | rfl | (simp; done) | (simp [*]; done), by repeat (first | exact Drawn0.refl _ | apply Drawn0.step)⟩
  · rw [if_neg c2] at H
    have c2b0 : decide (97 ≤ a0) = false := decide_eq_false c2
    clear c2
    by_cases c6 : a0 ≥ 65
    · rw [if_pos c6] at H
      have c6b0 : decide (65 ≤ a0) = true := decide_eq_true c6
      clear c6
      by_cases c7 : a0 ≤ 90
      · rw [if_pos c7] at H
        have c7b0 : decide (a0 ≤ 90) = true := decide_eq_true c7
        clear c7
        obtain rfl := Option.some.inj H
        go_enter Tryd.func49, Tryd.ntmps49
        go_wp2
        go_ret
        exact ⟨by first | rfl | (simp; done) | (simp [*]; done), by repeat (first | exact Drawn0.refl _ | apply Drawn0.step)⟩
      · rw [if_neg c7] at H
        have c7b0 : decide (a0 ≤ 90) = false := decide_eq_false c7
        clear c7
        obtain rfl := Option.some.inj H
        go_enter Tryd.func49, Tryd.ntmps49
        go_wp2
        go_ret
        exact ⟨by first | rfl | (simp; done) | (simp [*]; done), by repeat (first | exact Drawn0.refl _ | apply Drawn0.step)⟩
    · rw [if_neg c6] at H
      have c6b0 : decide (65 ≤ a0) = false := decide_eq_false c6
      clear c6
      obtain rfl := Option.some.inj H
      go_enter Tryd.func49, Tryd.ntmps49
      go_wp2
      go_ret
      exact ⟨by first | rfl | (simp; done) | (simp [*]; done), by repeat (first | exact Drawn0.refl _ | apply Drawn0.step)⟩
end Go.Proofs.YtioocldcdonlpaaDoor.A
end

section
namespace Go.Proofs.YtioocldcdonlpaaDoor.A
open Go.RowKit Go.Proofs.YtioocldcdonlpaaDoorW.PrintWords Go.Proofs.YtioocldcdonlpaaDoorW.PrintLast Go.Proofs.YtioocldcdonlpaaDoorW.PrintMore
attribute [local go_sem] max2_int min2_int max_two min_two max_three min_three max_four min_four
set_option maxHeartbeats 8000000 in
set_option maxRecDepth 100000 in
theorem impl_NameOK.calls (k : Nat) (a0 : ByteArray) (r : Bool) (w : World) (h : impl_NameOK.f k a0 = some r) :
    Calls Tryd.prog 37 #[.string a0] w fun e w' => e = .returned (.bool r) ∧ Drawn0 w w' := by
  have H : (if (a0.size : Int) < 1 then (impl_NameOK.j0 k a0 true) else (if (a0.size : Int) > 40 then (impl_NameOK.j0 k a0 true) else (if 0 < (a0.size : Int) then ((impl_isLetter.f (bt a0 0)).bind fun t138 => (impl_NameOK.j0 k a0 (!t138))) else (none)))) = some r := h
  clear h
  have HC2 := Aside0.mk H
  clear H
  go_enter Tryd.func37, Tryd.ntmps37
  go_upto_region 1 with (fail)
  go_cut [17] (fun v17 wc => ∃ (kq : Nat) (x17_1 : Bool), v17 = .bool x17_1 ∧ Aside0 (impl_NameOK.j0 kq a0 x17_1 = some r) ∧ Aside0 (kq ≤ k) ∧ Drawn0 w wc)
  case first =>
    have H := HC2.out
    clear HC2
    by_cases c3 : (a0.size : Int) < 1
    · rw [if_pos c3] at H
      have c3b0 : decide ((a0.size : Int) < 1) = true := decide_eq_true c3
      have c3b1 : decide (a0.size < 1) = true := decide_eq_true (by omega)
      clear c3
      (first | rw [c3b0] | (simp only [i64_w, i32_w]; rw [c3b0]) | skip)
      have H' := Aside0.mk H
      clear H
      go_wp2
      go_meet
      case rel => exact ⟨_, (true), (by first | rfl | (simp; done) | (simp [*]; done)), H', ⟨by first | omega | exact Nat.le_refl _⟩, by repeat (first | exact Drawn0.refl _ | apply Drawn0.step)⟩
    · rw [if_neg c3] at H
      have c3b0 : decide ((a0.size : Int) < 1) = false := decide_eq_false c3
      have c3b1 : decide (a0.size < 1) = false := decide_eq_false (by omega)
      clear c3
      (first | rw [c3b0] | (simp only [i64_w, i32_w]; rw [c3b0]) | skip)
      by_cases c4 : (a0.size : Int) > 40
      · rw [if_pos c4] at H
        have c4b0 : decide (40 < (a0.size : Int)) = true := decide_eq_true c4
        have c4b1 : decide (40 < a0.size) = true := decide_eq_true (by omega)
        clear c4
        have H' := Aside0.mk H
        clear H
        go_wp2
        go_meet
        case rel => exact ⟨_, (true), (by first | rfl | (simp; done) | (simp [*]; done)), H', ⟨by first | omega | exact Nat.le_refl _⟩, by repeat (first | exact Drawn0.refl _ | apply Drawn0.step)⟩
      · rw [if_neg c4] at H
        have c4b0 : decide (40 < (a0.size : Int)) = false := decide_eq_false c4
        have c4b1 : decide (40 < a0.size) = false := decide_eq_false (by omega)
        clear c4
        by_cases c5 : 0 < (a0.size : Int)
        · rw [if_pos c5] at H
          have c5b0 : decide (0 < (a0.size : Int)) = true := decide_eq_true c5
          have c5b1 : decide (0 < a0.size) = true := decide_eq_true (by omega)
          clear c5
          replace H := Option.bind_eq_some_iff.mp H
          obtain ⟨t138, A70, H⟩ := H
          replace H : (impl_NameOK.j0 k a0 (!t138)) = some r := H
          have A7 := Aside0.mk A70
          clear A70
          have H' := Aside0.mk H
          clear H
          have p6 : 0 ≤ (0 : Int) := (by omega)
          have q6 : 0 < a0.size := (by have : (0 : Int) < (a0.size : Int) := zo_; omega)
          have hx6 : ∀ h : 0 < a0.size, ((a0[0]'h).toNat : Int) = bt a0 0 := bt_at a0 0
          clear p6
          have qi6 : (0 < (a0.size : Int)) = True := eq_true (zo_)
          replace q6 := eq_true q6
          go_wp2_with (first | (go_at_call 49; (with_reducible refine (impl_isLetter.calls (bt a0 0) t138 _ A7.out).mono ?_); rintro e w' ⟨rfl, ⟨nd, rfl⟩⟩))
          go_meet
          case rel => exact ⟨_, (!t138), (by first | rfl | (simp; done) | (simp [*]; done)), H', ⟨by first | omega | exact Nat.le_refl _⟩, by repeat (first | exact Drawn0.refl _ | apply Drawn0.step)⟩
        · rw [if_neg c5] at H
          exact absurd H (by simp)
  case rest =>
    clear HC2
    try clear p2
    try clear c3
    try clear c3b0
    try clear c3b1
    try clear c4
    try clear c4b0
    try clear c4b1
    try clear c5
    try clear c5b0
    try clear c5b1
    try clear p6
    try clear q6
    try clear hx6
    try clear qi6
    try clear p6
    try clear q6
    obtain ⟨kq, x17_1, rfl, HA, HJ1, ⟨mc1, rfl⟩⟩ := hcut
    cases kq with
    | zero => exact absurd HA.out (by simp [impl_NameOK.j0])
    | succ kj1 =>
      have H := HA.out
      clear HA
      simp only [impl_NameOK.j0] at H
      by_cases c8 : x17_1 = true
      · subst c8
        have H1 : (some false) = some r := by rw [if_pos rfl] at H; exact H
        clear H
        have H := H1
        clear H1
        obtain rfl := Option.some.inj H
        go_wp2
        go_ret
        exact ⟨by first | rfl | (simp; done) | (simp [*]; done), by repeat (first | exact Drawn0.refl _ | apply Drawn0.step)⟩
      · replace c8 := Bool.eq_false_iff.mpr c8
        subst c8
        have H1 : (impl_NameOK.l0 kj1 a0 (a0.size : Int) 0) = some r := by rw [if_neg (show ¬ (false = true) by decide)] at H; exact H
        clear H
        have H := H1
        clear H1
        have H' := Aside0.mk H
        clear H
        go_wp2
        go_loopg [20] kj1 (fun kq v20 w' => ∃ (x20_2 : Int), v20 = .int .i64 x20_2 ∧ Aside0 (impl_NameOK.l0 kq a0 (a0.size : Int) x20_2 = some r) ∧ Aside0 (kq ≤ kj1) ∧ Drawn0 w w')
        case atStart => exact ⟨(0), (by first | rfl | (simp; done) | (simp [*]; done)), H', ⟨Nat.le_refl _⟩, by repeat (first | exact Drawn0.refl _ | apply Drawn0.step)⟩
        case round =>
          clear H'
          try clear c1
          try clear p2
          try clear c3
          try clear c3b0
          try clear c3b1
          try clear c4
          try clear c4b0
          try clear c4b1
          try clear c5
          try clear c5b0
          try clear c5b1
          try clear p6
          try clear q6
          try clear hx6
          try clear qi6
          try clear c8
          try clear p2
          try clear p6
          try clear q6
          obtain ⟨x20_2, rfl, HA, HK2, ⟨m2, rfl⟩⟩ := hrel
          cases gk with
          | zero => exact absurd HA.out (by simp [impl_NameOK.l0])
          | succ k2 =>
            have H := HA.out
            clear HA
            simp only [impl_NameOK.l0] at H
            by_cases c9 : x20_2 < (a0.size : Int)
            · rw [if_pos c9] at H
              have c9b0 : decide (x20_2 < (a0.size : Int)) = true := decide_eq_true c9
              clear c9
              by_cases c10 : 0 ≤ x20_2
              · rw [if_pos c10] at H
                have c10b0 : decide (0 ≤ x20_2) = true := decide_eq_true c10
                clear c10
                by_cases c11 : x20_2 < (a0.size : Int)
                · rw [if_pos c11] at H
                  have c11b0 : decide (x20_2 < (a0.size : Int)) = true := decide_eq_true c11
                  clear c11
                  replace H := Option.bind_eq_some_iff.mp H
                  obtain ⟨t139, A130, H⟩ := H
                  replace H : (if t139 = true then (impl_NameOK.l0 k2 a0 (a0.size : Int) (wrap64 (x20_2 + 1))) else (if (bt a0 x20_2) < 48 then (some false) else (if (bt a0 x20_2) > 57 then (some false) else (impl_NameOK.l0 k2 a0 (a0.size : Int) (wrap64 (x20_2 + 1)))))) = some r := H
                  have A13 := Aside0.mk A130
                  clear A130
                  by_cases c14 : t139 = true
                  · subst c14
                    have H1 : (impl_NameOK.l0 k2 a0 (a0.size : Int) (wrap64 (x20_2 + 1))) = some r := by rw [if_pos rfl] at H; exact H
                    clear H
                    have H := H1
                    clear H1
                    have H' := Aside0.mk H
                    clear H
                    have p12 : 0 ≤ (x20_2 : Int) := zo_
                    have q12 : x20_2 < (a0.size : Int) := zo_
                    have hx12 := bt_at a0 x20_2
                    replace p12 := eq_true p12
                    replace q12 := eq_true q12
                    go_wp2_with (first | ((with_reducible refine gate_callee (f := 49) rfl ?_); refine zgl (some 26) Tryd.func49 #[.int .u8 (bt a0 x20_2)] ?_; (with_reducible refine (impl_isLetter.calls (bt a0 x20_2) true _ A13.out).mono ?_); rintro e w' ⟨rfl, ⟨nd, rfl⟩⟩; refine ⟨_, rfl, ?_⟩))
                    go_roundg k2
                    case measure => have := HJ1.out; have := HK2.out; omega
                    case rel => exact ⟨(wrap64 (x20_2 + 1)), (by first | rfl | (simp; done) | (simp [*]; done)), H', ⟨by have := HJ1.out; have := HK2.out; omega⟩, by repeat (first | exact Drawn0.refl _ | apply Drawn0.step)⟩
                  · replace c14 := Bool.eq_false_iff.mpr c14
                    subst c14
                    have H1 : (if (bt a0 x20_2) < 48 then (some false) else (if (bt a0 x20_2) > 57 then (some false) else (impl_NameOK.l0 k2 a0 (a0.size : Int) (wrap64 (x20_2 + 1))))) = some r := by rw [if_neg (show ¬ (false = true) by decide)] at H; exact H
                    clear H
                    have H := H1
                    clear H1
                    by_cases c16 : (bt a0 x20_2) < 48
                    · rw [if_pos c16] at H
                      have c16b0 : decide ((bt a0 x20_2) < 48) = true := decide_eq_true c16
                      clear c16
                      obtain rfl := Option.some.inj H
                      have p12 : 0 ≤ (x20_2 : Int) := zo_
                      have q12 : x20_2 < (a0.size : Int) := zo_
                      have hx12 := bt_at a0 x20_2
                      replace p12 := eq_true p12
                      replace q12 := eq_true q12
                      go_wp2_with (first | ((with_reducible refine gate_callee (f := 49) rfl ?_); refine zgl (some 26) Tryd.func49 #[.int .u8 (bt a0 x20_2)] ?_; (with_reducible refine (impl_isLetter.calls (bt a0 x20_2) false _ A13.out).mono ?_); rintro e w' ⟨rfl, ⟨nd, rfl⟩⟩; refine ⟨_, rfl, ?_⟩; have p15 : 0 ≤ (x20_2 : Int) := zo_; have q15 : x20_2 < (a0.size : Int) := zo_; have hx15 := bt_at a0 x20_2; replace p15 := eq_true p15; replace q15 := eq_true q15))
                      go_ret
                      exact ⟨by first | rfl | (simp; done) | (simp [*]; done), by repeat (first | exact Drawn0.refl _ | apply Drawn0.step)⟩
                    · rw [if_neg c16] at H
                      have c16b0 : decide ((bt a0 x20_2) < 48) = false := decide_eq_false c16
                      clear c16
                      by_cases c18 : (bt a0 x20_2) > 57
                      · rw [if_pos c18] at H
                        have c18b0 : decide (57 < (bt a0 x20_2)) = true := decide_eq_true c18
                        clear c18
                        obtain rfl := Option.some.inj H
                        have p12 : 0 ≤ (x20_2 : Int) := zo_
                        have q12 : x20_2 < (a0.size : Int) := zo_
                        have hx12 := bt_at a0 x20_2
                        replace p12 := eq_true p12
                        replace q12 := eq_true q12
                        go_wp2_with (first | ((with_reducible refine gate_callee (f := 49) rfl ?_); refine zgl (some 26) Tryd.func49 #[.int .u8 (bt a0 x20_2)] ?_; (with_reducible refine (impl_isLetter.calls (bt a0 x20_2) false _ A13.out).mono ?_); rintro e w' ⟨rfl, ⟨nd, rfl⟩⟩; refine ⟨_, rfl, ?_⟩; have p15 : 0 ≤ (x20_2 : Int) := zo_; have q15 : x20_2 < (a0.size : Int) := zo_; have hx15 := bt_at a0 x20_2; replace p15 := eq_true p15; replace q15 := eq_true q15; have p17 : 0 ≤ (x20_2 : Int) := zo_; have q17 : x20_2 < (a0.size : Int) := zo_; have hx17 := bt_at a0 x20_2; replace p17 := eq_true p17; replace q17 := eq_true q17))
                        go_ret
                        exact ⟨by first | rfl | (simp; done) | (simp [*]; done), by repeat (first | exact Drawn0.refl _ | apply Drawn0.step)⟩
                      · rw [if_neg c18] at H
                        have c18b0 : decide (57 < (bt a0 x20_2)) = false := decide_eq_false c18
                        clear c18
                        have H' := Aside0.mk H
                        clear H
                        have p12 : 0 ≤ (x20_2 : Int) := zo_
                        have q12 : x20_2 < (a0.size : Int) := zo_
                        have hx12 := bt_at a0 x20_2
                        replace p12 := eq_true p12
                        replace q12 := eq_true q12
                        go_wp2_with (first | ((with_reducible refine gate_callee (f := 49) rfl ?_); refine zgl (some 26) Tryd.func49 #[.int .u8 (bt a0 x20_2)] ?_; (with_reducible refine (impl_isLetter.calls (bt a0 x20_2) false _ A13.out).mono ?_); rintro e w' ⟨rfl, ⟨nd, rfl⟩⟩; refine ⟨_, rfl, ?_⟩; have p15 : 0 ≤ (x20_2 : Int) := zo_; have q15 : x20_2 < (a0.size : Int) := zo_; have hx15 := bt_at a0 x20_2; replace p15 := eq_true p15; replace q15 := eq_true q15; have p17 : 0 ≤ (x20_2 : Int) := zo_; have q17 : x20_2 < (a0.size : Int) := zo_; have hx17 := bt_at a0 x20_2; replace p17 := eq_true p17; replace q17 := eq_true q17))
                        go_roundg k2
                        case measure => have := HJ1.out; have := HK2.out; omega
                        case rel => exact ⟨(wrap64 (x20_2 + 1)), (by first | rfl | (simp; done) | (simp [*]; done)), H', ⟨by have := HJ1.out; have := HK2.out; omega⟩, by repeat (first | exact Drawn0.refl _ | apply Drawn0.step)⟩
                · rw [if_neg c11] at H
                  exact absurd H (by simp)
              · rw [if_neg c10] at H
                exact absurd H (by simp)
            · rw [if_neg c9] at H
              have c9b0 : decide (x20_2 < (a0.size : Int)) = false := decide_eq_false c9
              clear c9
              obtain rfl := Option.some.inj H
              go_wp2
              go_ret
              exact ⟨by first | rfl | (simp; done) | (simp [*]; done), by repeat (first | exact Drawn0.refl _ | apply Drawn0.step)⟩
end Go.Proofs.YtioocldcdonlpaaDoor.A
end

section
namespace Go.Proofs.YtioocldcdonlpaaDoor.A
open Go.RowKit Go.Proofs.YtioocldcdonlpaaDoorW.PrintWords Go.Proofs.YtioocldcdonlpaaDoorW.PrintLast Go.Proofs.YtioocldcdonlpaaDoorW.PrintMore
attribute [local go_sem] max2_int min2_int max_two min_two max_three min_three max_four min_four
set_option maxHeartbeats 8000000 in
set_option maxRecDepth 100000 in
theorem impl_isOpName.calls (k : Nat) (a0 : ByteArray) (r : Bool) (w : World) (h : impl_isOpName.f k a0 = some r) :
    Calls Tryd.prog 23 #[.string a0] w fun e w' => e = .returned (.bool r) ∧ Drawn0 w w' := by
  have H : (if (a0.size : Int) ≤ 12 then ((impl_NameOK.f k a0).bind fun t140 => (some t140)) else (some false)) = some r := h
  clear h
  by_cases c2 : (a0.size : Int) ≤ 12
  · rw [if_pos c2] at H
    have c2b0 : decide ((a0.size : Int) ≤ 12) = true := decide_eq_true c2
    have c2b1 : decide (a0.size ≤ 12) = true := decide_eq_true (by omega)
    clear c2
    replace H := Option.bind_eq_some_iff.mp H
    obtain ⟨t140, A30, H⟩ := H
    replace H : (some t140) = some r := H
    have A3 := Aside0.mk A30
    clear A30
    obtain rfl := Option.some.inj H
    go_enter Tryd.func23, Tryd.ntmps23
    go_wp2_with (first | (go_at_call 37; (with_reducible refine (impl_NameOK.calls k a0 t140 _ A3.out).mono ?_); rintro e w' ⟨rfl, ⟨nd, rfl⟩⟩))
    go_ret
    exact ⟨by first | rfl | (simp; done) | (simp [*]; done), by repeat (first | exact Drawn0.refl _ | apply Drawn0.step)⟩
  · rw [if_neg c2] at H
    have c2b0 : decide ((a0.size : Int) ≤ 12) = false := decide_eq_false c2
    have c2b1 : decide (a0.size ≤ 12) = false := decide_eq_false (by omega)
    clear c2
    obtain rfl := Option.some.inj H
    go_enter Tryd.func23, Tryd.ntmps23
    go_wp2
    go_ret
    exact ⟨by first | rfl | (simp; done) | (simp [*]; done), by repeat (first | exact Drawn0.refl _ | apply Drawn0.step)⟩
end Go.Proofs.YtioocldcdonlpaaDoor.A
end

section
namespace Go.Proofs.YtioocldcdonlpaaDoor.A
open Go.RowKit Go.Proofs.YtioocldcdonlpaaDoorW.PrintWords Go.Proofs.YtioocldcdonlpaaDoorW.PrintLast Go.Proofs.YtioocldcdonlpaaDoorW.PrintMore
attribute [local go_sem] max2_int min2_int max_two min_two max_three min_three max_four min_four
set_option maxHeartbeats 8000000 in
set_option maxRecDepth 100000 in
theorem impl_within.calls (a0 : Int) (a1 : Int) (a2 : Int) (r : Bool) (w : World) (h : impl_within.f a0 a1 a2 = some r) :
    Calls Tryd.prog 24 #[.int .i64 a0, .int .i64 a1, .int .i64 a2] w fun e w' => e = .returned (.bool r) ∧ Drawn0 w w' := by
  have H : (if a0 ≥ a1 then (some (decide (a0 ≤ a2))) else (some false)) = some r := h
  clear h
  by_cases c4 : a0 ≥ a1
  · rw [if_pos c4] at H
    have c4b0 : decide (a1 ≤ a0) = true := decide_eq_true c4
    clear c4
    obtain rfl := Option.some.inj H
    go_enter Tryd.func24, Tryd.ntmps24
    go_wp2
    go_ret
    exact ⟨by first | rfl | (simp; done) | (simp [*]; done), by repeat (first | exact Drawn0.refl _ | apply Drawn0.step)⟩
  · rw [if_neg c4] at H
    have c4b0 : decide (a1 ≤ a0) = false := decide_eq_false c4
    clear c4
    obtain rfl := Option.some.inj H
    go_enter Tryd.func24, Tryd.ntmps24
    go_wp2
    go_ret
    exact ⟨by first | rfl | (simp; done) | (simp [*]; done), by repeat (first | exact Drawn0.refl _ | apply Drawn0.step)⟩
end Go.Proofs.YtioocldcdonlpaaDoor.A
end

section
namespace Go.Proofs.YtioocldcdonlpaaDoor.A
open Go.RowKit Go.Proofs.YtioocldcdonlpaaDoorW.PrintWords Go.Proofs.YtioocldcdonlpaaDoorW.PrintLast Go.Proofs.YtioocldcdonlpaaDoorW.PrintMore
attribute [local go_sem] max2_int min2_int max_two min_two max_three min_three max_four min_four
set_option maxHeartbeats 8000000 in
set_option maxRecDepth 100000 in
theorem impl_GrantOK.calls (k : Nat) (a0_0 : ByteArray) (a0_1 : Int) (a0_2 : Int) (a0_3 : Int) (r : Bool) (w : World) (h : impl_GrantOK.f k a0_0 a0_1 a0_2 a0_3 = some r) :
    Calls Tryd.prog 11 #[.agg #[.string a0_0, .int .i64 a0_1, .int .i64 a0_2, .int .i64 a0_3]] w fun e w' => e = .returned (.bool r) ∧ Below w.heap.size w w' := by
  have hu23 := Tryd.underlying23
  have HB := Aside0.mk (Below.refl w.heap.size w)
  have H : ((impl_isOpName.f k a0_0).bind fun t142 => (if t142 = true then ((impl_within.f a0_1 0 255).bind fun t143 => (if t143 = true then ((impl_within.f a0_2 1 1000000).bind fun t144 => (if t144 = true then ((impl_within.f a0_3 0 2000000000).bind fun t145 => (some t145)) else (some false))) else (some false))) else (some false))) = some r := h
  clear h
  replace H := Option.bind_eq_some_iff.mp H
  obtain ⟨t142, A20, H⟩ := H
  replace H : (if t142 = true then ((impl_within.f a0_1 0 255).bind fun t143 => (if t143 = true then ((impl_within.f a0_2 1 1000000).bind fun t144 => (if t144 = true then ((impl_within.f a0_3 0 2000000000).bind fun t145 => (some t145)) else (some false))) else (some false))) else (some false)) = some r := H
  have A2 := Aside0.mk A20
  clear A20
  by_cases c3 : t142 = true
  · subst c3
    have H1 : ((impl_within.f a0_1 0 255).bind fun t143 => (if t143 = true then ((impl_within.f a0_2 1 1000000).bind fun t144 => (if t144 = true then ((impl_within.f a0_3 0 2000000000).bind fun t145 => (some t145)) else (some false))) else (some false))) = some r := by rw [if_pos rfl] at H; exact H
    clear H
    have H := H1
    clear H1
    replace H := Option.bind_eq_some_iff.mp H
    obtain ⟨t143, A40, H⟩ := H
    replace H : (if t143 = true then ((impl_within.f a0_2 1 1000000).bind fun t144 => (if t144 = true then ((impl_within.f a0_3 0 2000000000).bind fun t145 => (some t145)) else (some false))) else (some false)) = some r := H
    have A4 := Aside0.mk A40
    clear A40
    by_cases c5 : t143 = true
    · subst c5
      have H1 : ((impl_within.f a0_2 1 1000000).bind fun t144 => (if t144 = true then ((impl_within.f a0_3 0 2000000000).bind fun t145 => (some t145)) else (some false))) = some r := by rw [if_pos rfl] at H; exact H
      clear H
      have H := H1
      clear H1
      replace H := Option.bind_eq_some_iff.mp H
      obtain ⟨t144, A60, H⟩ := H
      replace H : (if t144 = true then ((impl_within.f a0_3 0 2000000000).bind fun t145 => (some t145)) else (some false)) = some r := H
      have A6 := Aside0.mk A60
      clear A60
      by_cases c7 : t144 = true
      · subst c7
        have H1 : ((impl_within.f a0_3 0 2000000000).bind fun t145 => (some t145)) = some r := by rw [if_pos rfl] at H; exact H
        clear H
        have H := H1
        clear H1
        replace H := Option.bind_eq_some_iff.mp H
        obtain ⟨t145, A80, H⟩ := H
        replace H : (some t145) = some r := H
        have A8 := Aside0.mk A80
        clear A80
        obtain rfl := Option.some.inj H
        go_enter Tryd.func11, Tryd.ntmps11
        go_wp2_with (first | ((with_reducible refine gate_dst (N := 1) rfl ?_); refine zbx (N := 1) (cs := #[.string a0_0, .int .i64 a0_1, .int .i64 a0_2, .int .i64 a0_3]) (t := 23) ?_; intro gb141 hg w9 hbox hb; have BK141 := Aside0.mk (hbox); have GW141 := zw_ HB hg; have GE141 := zw_ HB hg; replace HB := zs_ HB hb; clear hb hbox hg; obtain ⟨hcz10_0, hcz10_1, hcz10_2, hcz10_3, hfz10_0, hfz10_1, hfz10_2, hfz10_3⟩ := zc4 BK141) | ((with_reducible refine gate_callee (f := 23) rfl ?_); refine zgl (some 5) Tryd.func23 #[.string a0_0] ?_; (with_reducible refine (impl_isOpName.calls k a0_0 true _ A2.out).mono ?_); rintro e w' ⟨rfl, ⟨nd, rfl⟩⟩; refine ⟨_, rfl, ?_⟩) | (go_at_call 24; (with_reducible refine (impl_within.calls a0_1 0 255 true _ A4.out).mono ?_); rintro e w' ⟨rfl, ⟨nd, rfl⟩⟩) | (go_at_call 24; (with_reducible refine (impl_within.calls a0_2 1 1000000 true _ A6.out).mono ?_); rintro e w' ⟨rfl, ⟨nd, rfl⟩⟩) | (go_at_call 24; (with_reducible refine (impl_within.calls a0_3 0 2000000000 t145 _ A8.out).mono ?_); rintro e w' ⟨rfl, ⟨nd, rfl⟩⟩))
        go_ret
        exact ⟨zt_, zl_ HB⟩
      · replace c7 := Bool.eq_false_iff.mpr c7
        subst c7
        have H1 : (some false) = some r := by rw [if_neg (show ¬ (false = true) by decide)] at H; exact H
        clear H
        have H := H1
        clear H1
        obtain rfl := Option.some.inj H
        go_enter Tryd.func11, Tryd.ntmps11
        go_wp2_with (first | ((with_reducible refine gate_dst (N := 1) rfl ?_); refine zbx (N := 1) (cs := #[.string a0_0, .int .i64 a0_1, .int .i64 a0_2, .int .i64 a0_3]) (t := 23) ?_; intro gb141 hg w11 hbox hb; have BK141 := Aside0.mk (hbox); have GW141 := zw_ HB hg; have GE141 := zw_ HB hg; replace HB := zs_ HB hb; clear hb hbox hg; obtain ⟨hcz12_0, hcz12_1, hcz12_2, hcz12_3, hfz12_0, hfz12_1, hfz12_2, hfz12_3⟩ := zc4 BK141) | ((with_reducible refine gate_callee (f := 23) rfl ?_); refine zgl (some 5) Tryd.func23 #[.string a0_0] ?_; (with_reducible refine (impl_isOpName.calls k a0_0 true _ A2.out).mono ?_); rintro e w' ⟨rfl, ⟨nd, rfl⟩⟩; refine ⟨_, rfl, ?_⟩) | (go_at_call 24; (with_reducible refine (impl_within.calls a0_1 0 255 true _ A4.out).mono ?_); rintro e w' ⟨rfl, ⟨nd, rfl⟩⟩) | (go_at_call 24; (with_reducible refine (impl_within.calls a0_2 1 1000000 false _ A6.out).mono ?_); rintro e w' ⟨rfl, ⟨nd, rfl⟩⟩))
        go_ret
        exact ⟨zt_, zl_ HB⟩
    · replace c5 := Bool.eq_false_iff.mpr c5
      subst c5
      have H1 : (some false) = some r := by rw [if_neg (show ¬ (false = true) by decide)] at H; exact H
      clear H
      have H := H1
      clear H1
      obtain rfl := Option.some.inj H
      go_enter Tryd.func11, Tryd.ntmps11
      go_wp2_with (first | ((with_reducible refine gate_dst (N := 1) rfl ?_); refine zbx (N := 1) (cs := #[.string a0_0, .int .i64 a0_1, .int .i64 a0_2, .int .i64 a0_3]) (t := 23) ?_; intro gb141 hg w13 hbox hb; have BK141 := Aside0.mk (hbox); have GW141 := zw_ HB hg; have GE141 := zw_ HB hg; replace HB := zs_ HB hb; clear hb hbox hg; obtain ⟨hcz14_0, hcz14_1, hcz14_2, hcz14_3, hfz14_0, hfz14_1, hfz14_2, hfz14_3⟩ := zc4 BK141) | ((with_reducible refine gate_callee (f := 23) rfl ?_); refine zgl (some 5) Tryd.func23 #[.string a0_0] ?_; (with_reducible refine (impl_isOpName.calls k a0_0 true _ A2.out).mono ?_); rintro e w' ⟨rfl, ⟨nd, rfl⟩⟩; refine ⟨_, rfl, ?_⟩) | (go_at_call 24; (with_reducible refine (impl_within.calls a0_1 0 255 false _ A4.out).mono ?_); rintro e w' ⟨rfl, ⟨nd, rfl⟩⟩))
      go_ret
      exact ⟨zt_, zl_ HB⟩
  · replace c3 := Bool.eq_false_iff.mpr c3
    subst c3
    have H1 : (some false) = some r := by rw [if_neg (show ¬ (false = true) by decide)] at H; exact H
    clear H
    have H := H1
    clear H1
    obtain rfl := Option.some.inj H
    go_enter Tryd.func11, Tryd.ntmps11
    go_wp2_with (first | ((with_reducible refine gate_dst (N := 1) rfl ?_); refine zbx (N := 1) (cs := #[.string a0_0, .int .i64 a0_1, .int .i64 a0_2, .int .i64 a0_3]) (t := 23) ?_; intro gb141 hg w15 hbox hb; have BK141 := Aside0.mk (hbox); have GW141 := zw_ HB hg; have GE141 := zw_ HB hg; replace HB := zs_ HB hb; clear hb hbox hg; obtain ⟨hcz16_0, hcz16_1, hcz16_2, hcz16_3, hfz16_0, hfz16_1, hfz16_2, hfz16_3⟩ := zc4 BK141) | ((with_reducible refine gate_callee (f := 23) rfl ?_); refine zgl (some 5) Tryd.func23 #[.string a0_0] ?_; (with_reducible refine (impl_isOpName.calls k a0_0 false _ A2.out).mono ?_); rintro e w' ⟨rfl, ⟨nd, rfl⟩⟩; refine ⟨_, rfl, ?_⟩))
    go_ret
    exact ⟨zt_, zl_ HB⟩
end Go.Proofs.YtioocldcdonlpaaDoor.A
end

section
namespace Go.Proofs.YtioocldcdonlpaaDoor.A
open Go.RowKit Go.Proofs.YtioocldcdonlpaaDoorW.PrintWords Go.Proofs.YtioocldcdonlpaaDoorW.PrintLast Go.Proofs.YtioocldcdonlpaaDoorW.PrintMore
attribute [local go_sem] max2_int min2_int max_two min_two max_three min_three max_four min_four
set_option maxHeartbeats 8000000 in
set_option maxRecDepth 100000 in
theorem impl_areLong_1.calls (a0 : ByteArray) (r : Bool) (w : World) (h : impl_areLong_1.f a0 = some r) :
    Calls Tryd.prog 29 #[.string a0] w fun e w' => e = .returned (.bool r) ∧ Drawn0 w w' := by
  have H : (some (decide ((a0.size : Int) > 65536))) = some r := h
  clear h
  obtain rfl := Option.some.inj H
  go_enter Tryd.func29, Tryd.ntmps29
  go_wp2
  go_ret
  exact ⟨by first | rfl | (simp; done) | (simp [*]; done), by repeat (first | exact Drawn0.refl _ | apply Drawn0.step)⟩
end Go.Proofs.YtioocldcdonlpaaDoor.A
end

section
namespace Go.Proofs.YtioocldcdonlpaaDoor.A
open Go.RowKit Go.Proofs.YtioocldcdonlpaaDoorW.PrintWords Go.Proofs.YtioocldcdonlpaaDoorW.PrintLast Go.Proofs.YtioocldcdonlpaaDoorW.PrintMore
attribute [local go_sem] max2_int min2_int max_two min_two max_three min_three max_four min_four
theorem contains_impl_areLong_1_pred (s : ByteArray) : impl_areLong_1.f s = some ((impl_areLong_1.f s).getD false) := rfl
set_option maxHeartbeats 2000000 in
theorem contains_impl_areLong_1_ix (A0 : Option Addr) (c0 : Nat) (l0 : List ByteArray) (w : World) (hr0 : Kd.C Kd.string w A0 l0.length l0) :
    Calls Tryd.prog 40 #[.slice A0 l0.length c0, .func (.func 29) #[] #[]] w fun e w' => e = .returned (.int .i64 (Lib.idxBy (fun _ y => (impl_areLong_1.f y).getD false) l0 default)) ∧ ∃ q, w' = w.drewN q := by
  have hlen : l0.length ≤ 9223372036854775807 := hr0.2.1
  have HR0 := Aside0.mk hr0
  clear hr0
  have hcl : ∀ (s : ByteArray) (W : World), Calls Tryd.prog 29 #[.string s] W fun e w' => e = .returned (.bool ((impl_areLong_1.f s).getD false)) ∧ ∃ q, w' = W.drewN q := fun s W => (impl_areLong_1.calls s _ W (contains_impl_areLong_1_pred s)).mono fun e w' h => ⟨h.1, h.2.out⟩
  generalize hp : (fun s => (impl_areLong_1.f s).getD false) = p at *
  have hp2 : ∀ s, (impl_areLong_1.f s).getD false = p s := fun s => congrFun hp s
  simp only [hp2] at hcl ⊢
  clear hp hp2
  have HCL := Aside0.mk hcl
  clear hcl
  go_enter Tryd.func40, Tryd.ntmps40
  go_wp2
  go_loopg [5, 8] l0.length (fun gg _ s8 wr => ∃ kk q : Nat, kk ≤ l0.length ∧ l0.length - kk ≤ gg ∧ s8 = .int .i64 kk ∧ wr = w.drewN q ∧ Aside0 (∀ j, j < kk → p l0[j]! = false))
  case atStart => exact ⟨0, 0, Nat.zero_le _, by omega, rfl, rfl, ⟨fun j hj => absurd hj (Nat.not_lt_zero _)⟩⟩
  case round =>
    obtain ⟨kk, q, hkk, hg, rfl, rfl, HA⟩ := hrel
    by_cases hlt : kk < l0.length
    · have hltz : (kk : Int) < (l0.length : Int) := by omega
      obtain ⟨ad, e0, hcell0⟩ := Kd.at_string HR0.out (kk : Int) (by omega) hltz
      subst e0
      have hcell : w.cell? (ad.add kk) = some (.string l0[kk]!) := by
        rw [Int.toNat_natCast] at hcell0
        rw [hcell0]
        simp [rdOf, List.getD, getElem!_def, List.getElem?_eq_getElem hlt]
      clear hcell0
      generalize hy : l0[kk]! = y at hcell
      have HB := Aside0.mk hy
      clear hy
      cases hq : p y with
      | true =>
        have hcall := fun W => HCL.out y W
        rw [hq] at hcall
        have HC2 := Aside0.mk hcall
        clear hcall
        go_wp2_with (go_at_call 29; refine (HC2.out _).mono ?_; rintro e w' ⟨rfl, q', rfl⟩)
        go_ret
        refine ⟨?_, _, rfl⟩
        have hh := Lib.idxBy_hit (fun _ y => p y) l0 l0.length kk default hlt (Nat.le_refl _) (by show p l0[kk]! = true; rw [HB.out]; exact hq) HA.out
        rw [List.take_length] at hh
        rw [hh]
        rfl
      | false =>
        have hcall := fun W => HCL.out y W
        rw [hq] at hcall
        have HC2 := Aside0.mk hcall
        clear hcall
        go_wp2_with (go_at_call 29; refine (HC2.out _).mono ?_; rintro e w' ⟨rfl, q', rfl⟩)
        go_roundg (l0.length - (kk + 1))
        case measure => omega
        case rel =>
          refine ⟨kk + 1, _, by omega, by omega, by go_num, rfl, ⟨fun j hj => ?_⟩⟩
          by_cases e : j = kk
          · subst e
            rw [HB.out]; exact hq
          · exact HA.out j (by omega)
    · have hltz : ¬ (kk : Int) < (l0.length : Int) := by omega
      have hk : kk = l0.length := by omega
      subst hk
      go_wp2
      go_ret
      refine ⟨?_, _, rfl⟩
      have hh := Lib.idxBy_miss (fun _ y => p y) l0 l0.length default (fun j hj => HA.out j hj)
      rw [List.take_length] at hh
      rw [hh]
      rfl
theorem contains_impl_areLong_1.calls (A0 : Option Addr) (c0 : Nat) (l0 : List ByteArray) (r : Bool) (w : World) (hr0 : Kd.C Kd.string w A0 l0.length l0) (hc0 : l0.length ≤ c0) (h : contains_impl_areLong_1.f l0 = some r) :
    Calls Tryd.prog 28 #[.slice A0 l0.length c0, .func (.func 29) #[] #[]] w fun e w' => e = .returned (.bool r) ∧ Drawn0 w w' := by
  have hr : (decide (0 ≤ Lib.idxBy (fun _ y => (impl_areLong_1.f y).getD false) l0 default)) = r := by
    rw [Lib.idxBy_nonneg_iff (fun _ y => (impl_areLong_1.f y).getD false) l0 default]
    exact Option.some.inj h
  have hix := fun W (hW : Kd.C Kd.string W A0 l0.length l0) => contains_impl_areLong_1_ix A0 c0 l0 W hW
  generalize Lib.idxBy (fun _ y => (impl_areLong_1.f y).getD false) l0 default = i at hr hix
  subst hr
  have HR0 := Aside0.mk hr0
  have HIX := Aside0.mk hix
  clear hr0 hc0 h hix
  go_enter Tryd.func28, Tryd.ntmps28
  go_wp2_with (go_at_call 40; refine (HIX.out _ HR0.out).mono ?_; rintro e w' ⟨rfl, q, rfl⟩)
  go_ret
  exact ⟨rfl, ⟨⟨_, rfl⟩⟩⟩
end Go.Proofs.YtioocldcdonlpaaDoor.A
end

section
namespace Go.Proofs.YtioocldcdonlpaaDoor.A
open Go.RowKit Go.Proofs.YtioocldcdonlpaaDoorW.PrintWords Go.Proofs.YtioocldcdonlpaaDoorW.PrintLast Go.Proofs.YtioocldcdonlpaaDoorW.PrintMore
attribute [local go_sem] max2_int min2_int max_two min_two max_three min_three max_four min_four
set_option maxHeartbeats 8000000 in
set_option maxRecDepth 100000 in
theorem impl_areLong.calls (A0 : Option Addr) (c0 : Nat) (l0 : List ByteArray) (r : Bool) (w : World) (hr0 : Kd.C Kd.string w A0 l0.length l0) (hc0 : l0.length ≤ c0) (h : impl_areLong.f l0 = some r) :
    Calls Tryd.prog 16 #[.slice A0 l0.length c0] w fun e w' => e = .returned (.bool r) ∧ Drawn0 w w' := by
  have HR0 := Aside0.mk hr0
  have HC0 := Aside0.mk hc0
  clear hr0 hc0
  have H : ((contains_impl_areLong_1.f l0).bind fun t146 => (some t146)) = some r := h
  clear h
  replace H := Option.bind_eq_some_iff.mp H
  obtain ⟨t146, A20, H⟩ := H
  replace H : (some t146) = some r := H
  have A2 := Aside0.mk A20
  clear A20
  obtain rfl := Option.some.inj H
  go_enter Tryd.func16, Tryd.ntmps16
  go_wp2_with (first | ((with_reducible refine gate_callee (f := 28) rfl ?_); refine zgl (some 4) Tryd.func28 #[.slice A0 l0.length c0, .func (.func 29) #[] #[]] ?_; (with_reducible refine (contains_impl_areLong_1.calls _ _ l0  t146 _ ?side1 ?side2 A2.out).mono ?_); (case side1 => repeat (first | exact HR0.out | (with_reducible refine Kd.C_alloc ?_ _) | (with_reducible refine Kd.C_drewN ?_ _) | (with_reducible refine Kd.C_drew ?_))); (case side2 => exact HC0.out); rintro e w' ⟨rfl, ⟨nd, rfl⟩⟩; refine ⟨_, rfl, ?_⟩))
  go_ret
  exact ⟨by first | rfl | (simp; done) | (simp [*]; done), by repeat (first | exact Drawn0.refl _ | apply Drawn0.step)⟩
end Go.Proofs.YtioocldcdonlpaaDoor.A
end

section
namespace Go.Proofs.YtioocldcdonlpaaDoor.A
open Go.RowKit Go.Shelf Go.Proofs.YtioocldcdonlpaaDoorW.PrintWords
set_option maxRecDepth 100000
def itoaLays_ren : Go.Shelf.Ren := ⟨fun | 171 => 33 | 243 => 47 | 246 => 61 | 283 => 72 | 284 => 73 | 285 => 74 | 286 => 75 | 129 => 81 | 317 => 80 | 318 => 82 | 319 => 83 | 320 => 84 | 337 => 85 | 338 => 86 | n => n, fun | 3 => 3 | 9 => 9 | 2 => 2 | 4 => 4 | 171 => 90 | 0 => 0 | 53 => 83 | 37 => 28 | 5 => 5 | 173 => 93 | 212 => 108 | 51 => 99 | 20 => 20 | 213 => 109 | 46 => 82 | 232 => 112 | 233 => 113 | n => n, fun | 17 => 5 | 18 => 6 | 19 => 7 | n => n⟩
theorem itoaLays : Go.Proofs.LaysM.n171 Tryd.prog itoaLays_ren where
  mixed := by kernel_rfl
  f129 := Tryd.func81.trans (congrArg some (by kernel_rfl))
  f171 := Tryd.func33.trans (congrArg some (by kernel_rfl))
  f243 := Tryd.func47.trans (congrArg some (by kernel_rfl))
  f246 := Tryd.func61.trans (congrArg some (by kernel_rfl))
  f283 := Tryd.func72.trans (congrArg some (by kernel_rfl))
  f284 := Tryd.func73.trans (congrArg some (by kernel_rfl))
  f285 := Tryd.func74.trans (congrArg some (by kernel_rfl))
  f286 := Tryd.func75.trans (congrArg some (by kernel_rfl))
  f317 := Tryd.func80.trans (congrArg some (by kernel_rfl))
  f318 := Tryd.func82.trans (congrArg some (by kernel_rfl))
  f319 := Tryd.func83.trans (congrArg some (by kernel_rfl))
  f320 := Tryd.func84.trans (congrArg some (by kernel_rfl))
  f337 := Tryd.func85.trans (congrArg some (by kernel_rfl))
  f338 := Tryd.func86.trans (congrArg some (by kernel_rfl))
  t0 := Tryd.underlying0
  a0 := Tryd.isAgg0
  z0 := Tryd.sizeOf0
  v0 := Tryd.zeroValue0
  t2 := Tryd.underlying2
  a2 := Tryd.isAgg2
  z2 := Tryd.sizeOf2
  v2 := Tryd.zeroValue2
  t3 := Tryd.underlying3
  a3 := Tryd.isAgg3
  z3 := Tryd.sizeOf3
  v3 := Tryd.zeroValue3
  t4 := Tryd.underlying4
  a4 := Tryd.isAgg4
  z4 := Tryd.sizeOf4
  v4 := Tryd.zeroValue4
  t5 := Tryd.underlying5
  a5 := Tryd.isAgg5
  z5 := Tryd.sizeOf5
  v5 := Tryd.zeroValue5
  t9 := Tryd.underlying9
  a9 := Tryd.isAgg9
  z9 := Tryd.sizeOf9
  v9 := Tryd.zeroValue9
  t20 := Tryd.underlying20
  a20 := Tryd.isAgg20
  z20 := Tryd.sizeOf20
  v20 := Tryd.zeroValue20
  t37 := Tryd.underlying28
  a37 := Tryd.isAgg28
  z37 := Tryd.sizeOf28
  v37 := Tryd.zeroValue28
  t46 := Tryd.underlying82
  a46 := Tryd.isAgg82
  z46 := Tryd.sizeOf82
  v46 := Tryd.zeroValue82
  t51 := Tryd.underlying99
  a51 := Tryd.isAgg99
  z51 := Tryd.sizeOf99
  v51 := Tryd.zeroValue99
  t53 := Tryd.underlying83
  a53 := Tryd.isAgg83
  z53 := Tryd.sizeOf83
  v53 := Tryd.zeroValue83
  t171 := Tryd.underlying90
  a171 := Tryd.isAgg90
  z171 := Tryd.sizeOf90
  v171 := Tryd.zeroValue90
  t173 := Tryd.underlying93
  a173 := Tryd.isAgg93
  z173 := Tryd.sizeOf93
  v173 := Tryd.zeroValue93
  t212 := Tryd.underlying108
  a212 := Tryd.isAgg108
  z212 := Tryd.sizeOf108
  v212 := Tryd.zeroValue108
  t213 := Tryd.underlying109
  a213 := Tryd.isAgg109
  z213 := Tryd.sizeOf109
  t232 := Tryd.underlying112
  a232 := Tryd.isAgg112
  z232 := Tryd.sizeOf112
  v232 := Tryd.zeroValue112
  t233 := Tryd.underlying113
  a233 := Tryd.isAgg113
  z233 := Tryd.sizeOf113
  v233 := Tryd.zeroValue113
  g17 := by kernel_rfl
  g18 := by kernel_rfl
  g19 := by kernel_rfl
  i0 := by kernel_rfl
  i2 := by kernel_rfl
  i3 := by kernel_rfl
  i4 := by kernel_rfl
  i5 := by kernel_rfl
  i9 := by kernel_rfl
  i20 := by kernel_rfl
  i37 := by kernel_rfl
  i46 := by kernel_rfl
  i51 := by kernel_rfl
  i53 := by kernel_rfl
  i171 := by kernel_rfl
  i173 := by kernel_rfl
  i212 := by kernel_rfl
  i232 := by kernel_rfl
  i233 := by kernel_rfl
  m17 := by kernel_rfl
  m18 := by kernel_rfl
  m19 := by kernel_rfl
/-- What the laid variables hold: the table of powers of ten, two errors, a number. -/
structure LaidT (w : World) : Prop where
  tab : Lib.TabIs Tryd.prog w "internal/strconv.uint64pow10" .u64 Lib.pow10Tab
  syn : ∃ te pe, w.cell? ⟨1, 0, none⟩ = some (.iface te pe)
  rng : ∃ te pe, w.cell? ⟨2, 0, none⟩ = some (.iface te pe)
  most : ∃ m, w.cell? ⟨0, 0, none⟩ = some (.int .i64 m)
theorem below_cell {w W : World} {g : Nat} {v : Value} (b : Below w.heap.size w W) (h : w.cell? ⟨g, 0, none⟩ = some v) : W.cell? ⟨g, 0, none⟩ = some v := (b.cell (p := (⟨g, 0, none⟩ : Addr)) (World.block_lt_of_cell? w _ h)).trans h
theorem LaidT.on {w W : World} (h : LaidT w) (b : Below w.heap.size w W) : LaidT W :=
  ⟨((Lib.tabBelow_of_tabIs h.tab).on b).here, (let ⟨t, p, e⟩ := h.syn; ⟨t, p, below_cell b e⟩), (let ⟨t, p, e⟩ := h.rng; ⟨t, p, below_cell b e⟩), (let ⟨m, e⟩ := h.most; ⟨m, below_cell b e⟩)⟩
theorem itoa_walk (a0 : Int) (r : ByteArray) (w : World) (hT : LaidT w) (h : strconv_Itoa.f a0 = some r) :
    Calls Tryd.prog 33 #[.int .i64 a0] w fun e w' => e = .returned (.string r) ∧ Below w.heap.size w w' := by
  unfold strconv_Itoa.f at h
  by_cases c : -9223372036854775808 ≤ a0 ∧ a0 ≤ 9223372036854775807
  · rw [if_pos c] at h
    obtain rfl := Option.some.inj h
    refine Calls.mono (Any.strconv_Itoa itoaLays a0 c.1 c.2 w hT.tab) fun e w' hh => ?_
    obtain ⟨he, k, os, rfl⟩ := hh
    exact ⟨he, Lib.below_grow _ w (Nat.le_refl _) k os⟩
  · rw [if_neg c] at h
    cases h
end Go.Proofs.YtioocldcdonlpaaDoor.A
end

section
namespace Go.Proofs.YtioocldcdonlpaaDoor.A
open Go.RowKit Go.Proofs.YtioocldcdonlpaaDoorW.PrintWords Go.Proofs.YtioocldcdonlpaaDoorW.PrintLast Go.Proofs.YtioocldcdonlpaaDoorW.PrintMore
attribute [local go_sem] max2_int min2_int max_two min_two max_three min_three max_four min_four
theorem strconv_Itoa.calls (a0 : Int) (r : ByteArray) (w : World) (hT : LaidT w) (h : strconv_Itoa.f a0 = some r) :
    Calls Tryd.prog 33 #[.int .i64 a0] w fun e w' => e = .returned (.string r) ∧ Below w.heap.size w w' := itoa_walk a0 r w hT h
end Go.Proofs.YtioocldcdonlpaaDoor.A
end

section
namespace Go.Proofs.YtioocldcdonlpaaDoor.A
open Go.RowKit Go.Proofs.YtioocldcdonlpaaDoorW.PrintWords Go.Proofs.YtioocldcdonlpaaDoorW.PrintLast Go.Proofs.YtioocldcdonlpaaDoorW.PrintMore
attribute [local go_sem] max2_int min2_int max_two min_two max_three min_three max_four min_four
def impl_grantText.T1 : Bool × List (List Nat × List Nat) := (true, [([], []), ([0], [0]), ([1], [1]), ([2], [2]), ([], []), ([4], [4]), ([5], [5]), ([3, 6], [3, 6]), ([7], [7]), ([], []), ([9], [9]), ([10, 6], [10]), ([8, 11], [8, 11]), ([12], [12]), ([], []), ([14], [14]), ([15, 11], [15]), ([13, 16], [13, 16]), ([17, 16, 0, 1, 2, 3, 4, 5, 6, 7, 8, 9, 10, 11, 12, 13, 14, 15, 16, 17], [17])])
def impl_grantText.B1 : List Nat := [0, 1, 3, 7, 0, 16, 48, 127, 255, 0, 512, 1648, 4095, 8191, 0, 16384, 52848, 131071, 262143]
theorem impl_grantText.tab1 : rtab .any (opsOf Tryd.f19 1) = impl_grantText.T1 := by kernel_rfl
theorem impl_grantText.bits1 : waitsOk impl_grantText.T1.2 impl_grantText.B1 = true := by kernel_rfl
set_option maxHeartbeats 8000000 in
set_option maxRecDepth 100000 in
theorem impl_grantText.calls (a0_0 : ByteArray) (a0_1 : Int) (a0_2 : Int) (a0_3 : Int) (r : ByteArray) (w : World) (hT : LaidT w) (h : impl_grantText.f a0_0 a0_1 a0_2 a0_3 = some r) :
    Calls Tryd.prog 19 #[.agg #[.string a0_0, .int .i64 a0_1, .int .i64 a0_2, .int .i64 a0_3]] w fun e w' => e = .returned (.string r) ∧ Below w.heap.size w w' := by
  have hu23 := Tryd.underlying23
  have HTD := Aside0.mk hT
  clear hT
  have HB := Aside0.mk (Below.refl w.heap.size w)
  have H : (if 6 + a0_0.size ≤ 9223372036854775807 then (if ((⟨#[103, 114, 97, 110, 116, 32]⟩ : ByteArray) ++ a0_0).size + 1 ≤ 9223372036854775807 then ((strconv_Itoa.f a0_1).bind fun t148 => (if (((⟨#[103, 114, 97, 110, 116, 32]⟩ : ByteArray) ++ a0_0) ++ (⟨#[32]⟩ : ByteArray)).size + t148.size ≤ 9223372036854775807 then (if ((((⟨#[103, 114, 97, 110, 116, 32]⟩ : ByteArray) ++ a0_0) ++ (⟨#[32]⟩ : ByteArray)) ++ t148).size + 1 ≤ 9223372036854775807 then ((strconv_Itoa.f a0_2).bind fun t149 => (if (((((⟨#[103, 114, 97, 110, 116, 32]⟩ : ByteArray) ++ a0_0) ++ (⟨#[32]⟩ : ByteArray)) ++ t148) ++ (⟨#[32]⟩ : ByteArray)).size + t149.size ≤ 9223372036854775807 then (if ((((((⟨#[103, 114, 97, 110, 116, 32]⟩ : ByteArray) ++ a0_0) ++ (⟨#[32]⟩ : ByteArray)) ++ t148) ++ (⟨#[32]⟩ : ByteArray)) ++ t149).size + 1 ≤ 9223372036854775807 then ((strconv_Itoa.f a0_3).bind fun t150 => (if (((((((⟨#[103, 114, 97, 110, 116, 32]⟩ : ByteArray) ++ a0_0) ++ (⟨#[32]⟩ : ByteArray)) ++ t148) ++ (⟨#[32]⟩ : ByteArray)) ++ t149) ++ (⟨#[32]⟩ : ByteArray)).size + t150.size ≤ 9223372036854775807 then (some ((((((((⟨#[103, 114, 97, 110, 116, 32]⟩ : ByteArray) ++ a0_0) ++ (⟨#[32]⟩ : ByteArray)) ++ t148) ++ (⟨#[32]⟩ : ByteArray)) ++ t149) ++ (⟨#[32]⟩ : ByteArray)) ++ t150)) else (none))) else (none)) else (none))) else (none)) else (none))) else (none)) else (none)) = some r := h
  clear h
  by_cases c2 : 6 + a0_0.size ≤ 9223372036854775807
  · rw [if_pos c2] at H
    have c2b0 := eq_true c2
    have c2b1 : decide (6 + a0_0.size ≤ 9223372036854775807) = true := decide_eq_true c2
    try have c2b2 : (9223372036854775807 < 6 + a0_0.size) = False := eq_false (Nat.not_lt.2 c2)
    by_cases c3 : ((⟨#[103, 114, 97, 110, 116, 32]⟩ : ByteArray) ++ a0_0).size + 1 ≤ 9223372036854775807
    · rw [if_pos c3] at H
      have c3b0 := eq_true c3
      have c3b1 : decide (((⟨#[103, 114, 97, 110, 116, 32]⟩ : ByteArray) ++ a0_0).size + 1 ≤ 9223372036854775807) = true := decide_eq_true c3
      try have c3b2 : (9223372036854775807 < ((⟨#[103, 114, 97, 110, 116, 32]⟩ : ByteArray) ++ a0_0).size + 1) = False := eq_false (Nat.not_lt.2 c3)
      (try have c3b3 := c3b2; simp only [ByteArray.size_append, show (⟨#[103, 114, 97, 110, 116, 32]⟩ : ByteArray).size = 6 from rfl] at c3b3)
      replace H := Option.bind_eq_some_iff.mp H
      obtain ⟨t148, A40, H⟩ := H
      replace H : (if (((⟨#[103, 114, 97, 110, 116, 32]⟩ : ByteArray) ++ a0_0) ++ (⟨#[32]⟩ : ByteArray)).size + t148.size ≤ 9223372036854775807 then (if ((((⟨#[103, 114, 97, 110, 116, 32]⟩ : ByteArray) ++ a0_0) ++ (⟨#[32]⟩ : ByteArray)) ++ t148).size + 1 ≤ 9223372036854775807 then ((strconv_Itoa.f a0_2).bind fun t149 => (if (((((⟨#[103, 114, 97, 110, 116, 32]⟩ : ByteArray) ++ a0_0) ++ (⟨#[32]⟩ : ByteArray)) ++ t148) ++ (⟨#[32]⟩ : ByteArray)).size + t149.size ≤ 9223372036854775807 then (if ((((((⟨#[103, 114, 97, 110, 116, 32]⟩ : ByteArray) ++ a0_0) ++ (⟨#[32]⟩ : ByteArray)) ++ t148) ++ (⟨#[32]⟩ : ByteArray)) ++ t149).size + 1 ≤ 9223372036854775807 then ((strconv_Itoa.f a0_3).bind fun t150 => (if (((((((⟨#[103, 114, 97, 110, 116, 32]⟩ : ByteArray) ++ a0_0) ++ (⟨#[32]⟩ : ByteArray)) ++ t148) ++ (⟨#[32]⟩ : ByteArray)) ++ t149) ++ (⟨#[32]⟩ : ByteArray)).size + t150.size ≤ 9223372036854775807 then (some ((((((((⟨#[103, 114, 97, 110, 116, 32]⟩ : ByteArray) ++ a0_0) ++ (⟨#[32]⟩ : ByteArray)) ++ t148) ++ (⟨#[32]⟩ : ByteArray)) ++ t149) ++ (⟨#[32]⟩ : ByteArray)) ++ t150)) else (none))) else (none)) else (none))) else (none)) else (none)) = some r := H
      have A4 := Aside0.mk A40
      clear A40
      by_cases c5 : (((⟨#[103, 114, 97, 110, 116, 32]⟩ : ByteArray) ++ a0_0) ++ (⟨#[32]⟩ : ByteArray)).size + t148.size ≤ 9223372036854775807
      · rw [if_pos c5] at H
        have c5b0 := eq_true c5
        have c5b1 : decide ((((⟨#[103, 114, 97, 110, 116, 32]⟩ : ByteArray) ++ a0_0) ++ (⟨#[32]⟩ : ByteArray)).size + t148.size ≤ 9223372036854775807) = true := decide_eq_true c5
        try have c5b2 : (9223372036854775807 < (((⟨#[103, 114, 97, 110, 116, 32]⟩ : ByteArray) ++ a0_0) ++ (⟨#[32]⟩ : ByteArray)).size + t148.size) = False := eq_false (Nat.not_lt.2 c5)
        (try have c5b3 := c5b2; simp only [ByteArray.size_append, show (⟨#[103, 114, 97, 110, 116, 32]⟩ : ByteArray).size = 6 from rfl, show (⟨#[32]⟩ : ByteArray).size = 1 from rfl] at c5b3)
        by_cases c6 : ((((⟨#[103, 114, 97, 110, 116, 32]⟩ : ByteArray) ++ a0_0) ++ (⟨#[32]⟩ : ByteArray)) ++ t148).size + 1 ≤ 9223372036854775807
        · rw [if_pos c6] at H
          have c6b0 := eq_true c6
          have c6b1 : decide (((((⟨#[103, 114, 97, 110, 116, 32]⟩ : ByteArray) ++ a0_0) ++ (⟨#[32]⟩ : ByteArray)) ++ t148).size + 1 ≤ 9223372036854775807) = true := decide_eq_true c6
          try have c6b2 : (9223372036854775807 < ((((⟨#[103, 114, 97, 110, 116, 32]⟩ : ByteArray) ++ a0_0) ++ (⟨#[32]⟩ : ByteArray)) ++ t148).size + 1) = False := eq_false (Nat.not_lt.2 c6)
          (try have c6b3 := c6b2; simp only [ByteArray.size_append, show (⟨#[103, 114, 97, 110, 116, 32]⟩ : ByteArray).size = 6 from rfl, show (⟨#[32]⟩ : ByteArray).size = 1 from rfl] at c6b3)
          replace H := Option.bind_eq_some_iff.mp H
          obtain ⟨t149, A70, H⟩ := H
          replace H : (if (((((⟨#[103, 114, 97, 110, 116, 32]⟩ : ByteArray) ++ a0_0) ++ (⟨#[32]⟩ : ByteArray)) ++ t148) ++ (⟨#[32]⟩ : ByteArray)).size + t149.size ≤ 9223372036854775807 then (if ((((((⟨#[103, 114, 97, 110, 116, 32]⟩ : ByteArray) ++ a0_0) ++ (⟨#[32]⟩ : ByteArray)) ++ t148) ++ (⟨#[32]⟩ : ByteArray)) ++ t149).size + 1 ≤ 9223372036854775807 then ((strconv_Itoa.f a0_3).bind fun t150 => (if (((((((⟨#[103, 114, 97, 110, 116, 32]⟩ : ByteArray) ++ a0_0) ++ (⟨#[32]⟩ : ByteArray)) ++ t148) ++ (⟨#[32]⟩ : ByteArray)) ++ t149) ++ (⟨#[32]⟩ : ByteArray)).size + t150.size ≤ 9223372036854775807 then (some ((((((((⟨#[103, 114, 97, 110, 116, 32]⟩ : ByteArray) ++ a0_0) ++ (⟨#[32]⟩ : ByteArray)) ++ t148) ++ (⟨#[32]⟩ : ByteArray)) ++ t149) ++ (⟨#[32]⟩ : ByteArray)) ++ t150)) else (none))) else (none)) else (none)) = some r := H
          have A7 := Aside0.mk A70
          clear A70
          by_cases c8 : (((((⟨#[103, 114, 97, 110, 116, 32]⟩ : ByteArray) ++ a0_0) ++ (⟨#[32]⟩ : ByteArray)) ++ t148) ++ (⟨#[32]⟩ : ByteArray)).size + t149.size ≤ 9223372036854775807
          · rw [if_pos c8] at H
            have c8b0 := eq_true c8
            have c8b1 : decide ((((((⟨#[103, 114, 97, 110, 116, 32]⟩ : ByteArray) ++ a0_0) ++ (⟨#[32]⟩ : ByteArray)) ++ t148) ++ (⟨#[32]⟩ : ByteArray)).size + t149.size ≤ 9223372036854775807) = true := decide_eq_true c8
            try have c8b2 : (9223372036854775807 < (((((⟨#[103, 114, 97, 110, 116, 32]⟩ : ByteArray) ++ a0_0) ++ (⟨#[32]⟩ : ByteArray)) ++ t148) ++ (⟨#[32]⟩ : ByteArray)).size + t149.size) = False := eq_false (Nat.not_lt.2 c8)
            (try have c8b3 := c8b2; simp only [ByteArray.size_append, show (⟨#[103, 114, 97, 110, 116, 32]⟩ : ByteArray).size = 6 from rfl, show (⟨#[32]⟩ : ByteArray).size = 1 from rfl] at c8b3)
            by_cases c9 : ((((((⟨#[103, 114, 97, 110, 116, 32]⟩ : ByteArray) ++ a0_0) ++ (⟨#[32]⟩ : ByteArray)) ++ t148) ++ (⟨#[32]⟩ : ByteArray)) ++ t149).size + 1 ≤ 9223372036854775807
            · rw [if_pos c9] at H
              have c9b0 := eq_true c9
              have c9b1 : decide (((((((⟨#[103, 114, 97, 110, 116, 32]⟩ : ByteArray) ++ a0_0) ++ (⟨#[32]⟩ : ByteArray)) ++ t148) ++ (⟨#[32]⟩ : ByteArray)) ++ t149).size + 1 ≤ 9223372036854775807) = true := decide_eq_true c9
              try have c9b2 : (9223372036854775807 < ((((((⟨#[103, 114, 97, 110, 116, 32]⟩ : ByteArray) ++ a0_0) ++ (⟨#[32]⟩ : ByteArray)) ++ t148) ++ (⟨#[32]⟩ : ByteArray)) ++ t149).size + 1) = False := eq_false (Nat.not_lt.2 c9)
              (try have c9b3 := c9b2; simp only [ByteArray.size_append, show (⟨#[103, 114, 97, 110, 116, 32]⟩ : ByteArray).size = 6 from rfl, show (⟨#[32]⟩ : ByteArray).size = 1 from rfl] at c9b3)
              replace H := Option.bind_eq_some_iff.mp H
              obtain ⟨t150, A100, H⟩ := H
              replace H : (if (((((((⟨#[103, 114, 97, 110, 116, 32]⟩ : ByteArray) ++ a0_0) ++ (⟨#[32]⟩ : ByteArray)) ++ t148) ++ (⟨#[32]⟩ : ByteArray)) ++ t149) ++ (⟨#[32]⟩ : ByteArray)).size + t150.size ≤ 9223372036854775807 then (some ((((((((⟨#[103, 114, 97, 110, 116, 32]⟩ : ByteArray) ++ a0_0) ++ (⟨#[32]⟩ : ByteArray)) ++ t148) ++ (⟨#[32]⟩ : ByteArray)) ++ t149) ++ (⟨#[32]⟩ : ByteArray)) ++ t150)) else (none)) = some r := H
              have A10 := Aside0.mk A100
              clear A100
              by_cases c11 : (((((((⟨#[103, 114, 97, 110, 116, 32]⟩ : ByteArray) ++ a0_0) ++ (⟨#[32]⟩ : ByteArray)) ++ t148) ++ (⟨#[32]⟩ : ByteArray)) ++ t149) ++ (⟨#[32]⟩ : ByteArray)).size + t150.size ≤ 9223372036854775807
              · rw [if_pos c11] at H
                have c11b0 := eq_true c11
                have c11b1 : decide ((((((((⟨#[103, 114, 97, 110, 116, 32]⟩ : ByteArray) ++ a0_0) ++ (⟨#[32]⟩ : ByteArray)) ++ t148) ++ (⟨#[32]⟩ : ByteArray)) ++ t149) ++ (⟨#[32]⟩ : ByteArray)).size + t150.size ≤ 9223372036854775807) = true := decide_eq_true c11
                try have c11b2 : (9223372036854775807 < (((((((⟨#[103, 114, 97, 110, 116, 32]⟩ : ByteArray) ++ a0_0) ++ (⟨#[32]⟩ : ByteArray)) ++ t148) ++ (⟨#[32]⟩ : ByteArray)) ++ t149) ++ (⟨#[32]⟩ : ByteArray)).size + t150.size) = False := eq_false (Nat.not_lt.2 c11)
                (try have c11b3 := c11b2; simp only [ByteArray.size_append, show (⟨#[103, 114, 97, 110, 116, 32]⟩ : ByteArray).size = 6 from rfl, show (⟨#[32]⟩ : ByteArray).size = 1 from rfl] at c11b3)
                obtain rfl := Option.some.inj H
                go_enter Tryd.func19, Tryd.ntmps19
                try go_wp2_with (first | ((with_reducible refine gate_dst (N := 1) rfl ?_); refine zbx (N := 1) (cs := #[.string a0_0, .int .i64 a0_1, .int .i64 a0_2, .int .i64 a0_3]) (t := 23) ?_; intro gb147 hg w12 hbox hb; have BK147 := Aside0.mk (hbox); have GW147 := zw_ HB hg; have GE147 := zw_ HB hg; replace HB := zs_ HB hb; clear hb hbox hg))
                replace BK147 := Aside0.mk (blk_drew BK147.out)
                replace HB := Aside0.mk (below_drew1 HB.out)
                refine start_ (n := 19) (S := fun w' => w'.cell? ⟨gb147, 0, none⟩ = some (.string a0_0) ∧ w'.cell? ⟨gb147, 1, none⟩ = some (.int .i64 a0_1) ∧ w'.cell? ⟨gb147, 2, none⟩ = some (.int .i64 a0_2) ∧ w'.cell? ⟨gb147, 3, none⟩ = some (.int .i64 a0_3)) (ds := []) #[false, false, false, false, false, false, false, false, false, false, false, false, false, false, false, false, false, false, false] (by kernel_rfl) rfl rfl ⟨(blk_cell BK147.out 0).trans rfl, (blk_cell BK147.out 1).trans rfl, (blk_cell BK147.out 2).trans rfl, (blk_cell BK147.out 3).trans rfl⟩ (fun hHeld => ?_); refine with_tabW impl_grantText.tab1 impl_grantText.bits1 (fun HT_ HW_ => ?_)
                generalize w12.drew = w13 at BK147 HB hHeld ⊢
                refine zpu 0 (N := some 3) HT_ ?_
                refine zpu 4 (N := some 7) HT_ ?_
                refine zpu 9 (N := some 12) HT_ ?_
                refine zpu 14 (N := some 17) HT_ ?_
                refine ztk 1 (N := some 4) HT_ HW_ hHeld ?_
                refine zpu 2 (N := some 5) HT_ ?_
                refine zpu 3 (N := some 6) HT_ ?_
                refine ztk 5 (N := some 8) HT_ HW_ hHeld ?_
                refine ztk 10 (N := some 13) HT_ HW_ hHeld ?_
                refine ztk 15 (N := some 18) HT_ HW_ hHeld ?_
                refine zon 6 (N := some 9) HT_ (fun K hK => ?_)
                refine zgo Tryd.func33 #[.int .i64 a0_1] ?_
                with_reducible refine (strconv_Itoa.calls a0_1 t148 _ ?side1 A4.out).mono ?_
                (case side1 => exact HTD.out.on (zl_ HB))
                rintro e w14 ⟨rfl, hb⟩
                refine ⟨_, rfl, ?_⟩
                replace BK147 := zb BK147 hb
                replace HB := zs_ HB hb
                (try clear hb)
                (try clear hb2)
                (try clear hk)
                (try clear hi)
                refine hK.out _ _ ⟨(blk_cell BK147.out 0).trans rfl, (blk_cell BK147.out 1).trans rfl, (blk_cell BK147.out 2).trans rfl, (blk_cell BK147.out 3).trans rfl⟩ (fun hHeld => ?_)
                clear hK K
                refine norm_ (a' := ?_) ?_ ?_
                rotate_left
                · show Act.put _ (some 9) _ = _
                  simp only [Act.put, List.setIfInBounds_toArray, List.set_cons_zero, List.set_cons_succ, i64_w, i32_w]
                  rfl
                refine zpu 7 (N := some 10) HT_ ?_
                refine zpu 8 (N := some 11) HT_ ?_
                refine zon 11 (N := some 14) HT_ (fun K hK => ?_)
                refine zgo Tryd.func33 #[.int .i64 a0_2] ?_
                with_reducible refine (strconv_Itoa.calls a0_2 t149 _ ?side1 A7.out).mono ?_
                (case side1 => exact HTD.out.on (zl_ HB))
                rintro e w15 ⟨rfl, hb⟩
                refine ⟨_, rfl, ?_⟩
                replace BK147 := zb BK147 hb
                replace HB := zs_ HB hb
                (try clear hb)
                (try clear hb2)
                (try clear hk)
                (try clear hi)
                refine hK.out _ _ ⟨(blk_cell BK147.out 0).trans rfl, (blk_cell BK147.out 1).trans rfl, (blk_cell BK147.out 2).trans rfl, (blk_cell BK147.out 3).trans rfl⟩ (fun hHeld => ?_)
                clear hK K
                refine norm_ (a' := ?_) ?_ ?_
                rotate_left
                · show Act.put _ (some 14) _ = _
                  simp only [Act.put, List.setIfInBounds_toArray, List.set_cons_zero, List.set_cons_succ, i64_w, i32_w]
                  rfl
                refine zpu 12 (N := some 15) HT_ ?_
                refine zpu 13 (N := some 16) HT_ ?_
                refine zon 16 (N := some 19) HT_ (fun K hK => ?_)
                refine zgo Tryd.func33 #[.int .i64 a0_3] ?_
                with_reducible refine (strconv_Itoa.calls a0_3 t150 _ ?side1 A10.out).mono ?_
                (case side1 => exact HTD.out.on (zl_ HB))
                rintro e w16 ⟨rfl, hb⟩
                refine ⟨_, rfl, ?_⟩
                replace BK147 := zb BK147 hb
                replace HB := zs_ HB hb
                (try clear hb)
                (try clear hb2)
                (try clear hk)
                (try clear hi)
                refine hK.out _ _ ⟨(blk_cell BK147.out 0).trans rfl, (blk_cell BK147.out 1).trans rfl, (blk_cell BK147.out 2).trans rfl, (blk_cell BK147.out 3).trans rfl⟩ (fun hHeld => ?_)
                clear hK K
                refine norm_ (a' := ?_) ?_ ?_
                rotate_left
                · show Act.put _ (some 19) _ = _
                  simp only [Act.put, List.setIfInBounds_toArray, List.set_cons_zero, List.set_cons_succ, i64_w, i32_w]
                  rfl
                refine zpu 17 (N := some 20) HT_ ?_
                refine zpu 18 (N := some 2) HT_ ?_
                refine done_ (done_of HT_.out (by kernel_rfl)) ?_
                try go_wp2
                go_ret
                exact ⟨zt_, zl_ HB⟩
              · rw [if_neg c11] at H
                exact absurd H (by simp)
            · rw [if_neg c9] at H
              exact absurd H (by simp)
          · rw [if_neg c8] at H
            exact absurd H (by simp)
        · rw [if_neg c6] at H
          exact absurd H (by simp)
      · rw [if_neg c5] at H
        exact absurd H (by simp)
    · rw [if_neg c3] at H
      exact absurd H (by simp)
  · rw [if_neg c2] at H
    exact absurd H (by simp)
end Go.Proofs.YtioocldcdonlpaaDoor.A
end

section
namespace Go.Proofs.YtioocldcdonlpaaDoor.A
open Go.RowKit Go.Shelf Go.Proofs.YtioocldcdonlpaaDoorW.PrintWords
set_option maxRecDepth 100000
def atoiLays_ren : Go.Shelf.Ren := ⟨fun | 172 => 31 | 244 => 44 | 245 => 45 | 247 => 55 | 279 => 56 | 280 => 57 | 281 => 58 | 282 => 59 | 287 => 69 | 316 => 70 | 171 => 33 | 205 => 71 | 321 => 78 | 322 => 79 | 243 => 47 | 246 => 61 | 283 => 72 | 284 => 73 | 285 => 74 | 286 => 75 | 129 => 81 | 317 => 80 | 318 => 82 | 319 => 83 | 320 => 84 | 337 => 85 | 338 => 86 | n => n, fun | 9 => 9 | 3 => 3 | 75 => 54 | 76 => 55 | 4 => 4 | 5 => 5 | 167 => 74 | 37 => 28 | 0 => 0 | 85 => 75 | 2 => 2 | 168 => 77 | 53 => 83 | 175 => 84 | 46 => 82 | 210 => 88 | 127 => 103 | 145 => 106 | 143 => 104 | 21 => 21 | 171 => 90 | 173 => 93 | 212 => 108 | 51 => 99 | 20 => 20 | 213 => 109 | 232 => 112 | 233 => 113 | 80 => 114 | n => n, fun | 15 => 1 | 16 => 2 | 17 => 5 | 18 => 6 | 19 => 7 | n => n⟩
theorem atoiLays : Go.Proofs.LaysC.n172 Tryd.prog atoiLays_ren where
  mixed := by kernel_rfl
  f129 := Tryd.func81.trans (congrArg some (by kernel_rfl))
  f171 := Tryd.func33.trans (congrArg some (by kernel_rfl))
  f172 := Tryd.func31.trans (congrArg some (by kernel_rfl))
  f205 := Tryd.func71.trans (congrArg some (by kernel_rfl))
  f243 := Tryd.func47.trans (congrArg some (by kernel_rfl))
  f244 := Tryd.func44.trans (congrArg some (by kernel_rfl))
  f245 := Tryd.func45.trans (congrArg some (by kernel_rfl))
  f246 := Tryd.func61.trans (congrArg some (by kernel_rfl))
  f247 := Tryd.func55.trans (congrArg some (by kernel_rfl))
  f279 := Tryd.func56.trans (congrArg some (by kernel_rfl))
  f280 := Tryd.func57.trans (congrArg some (by kernel_rfl))
  f281 := Tryd.func58.trans (congrArg some (by kernel_rfl))
  f282 := Tryd.func59.trans (congrArg some (by kernel_rfl))
  f283 := Tryd.func72.trans (congrArg some (by kernel_rfl))
  f284 := Tryd.func73.trans (congrArg some (by kernel_rfl))
  f285 := Tryd.func74.trans (congrArg some (by kernel_rfl))
  f286 := Tryd.func75.trans (congrArg some (by kernel_rfl))
  f287 := Tryd.func69.trans (congrArg some (by kernel_rfl))
  f316 := Tryd.func70.trans (congrArg some (by kernel_rfl))
  f317 := Tryd.func80.trans (congrArg some (by kernel_rfl))
  f318 := Tryd.func82.trans (congrArg some (by kernel_rfl))
  f319 := Tryd.func83.trans (congrArg some (by kernel_rfl))
  f320 := Tryd.func84.trans (congrArg some (by kernel_rfl))
  f321 := Tryd.func78.trans (congrArg some (by kernel_rfl))
  f322 := Tryd.func79.trans (congrArg some (by kernel_rfl))
  f337 := Tryd.func85.trans (congrArg some (by kernel_rfl))
  f338 := Tryd.func86.trans (congrArg some (by kernel_rfl))
  t0 := Tryd.underlying0
  a0 := Tryd.isAgg0
  z0 := Tryd.sizeOf0
  v0 := Tryd.zeroValue0
  t2 := Tryd.underlying2
  a2 := Tryd.isAgg2
  z2 := Tryd.sizeOf2
  v2 := Tryd.zeroValue2
  t3 := Tryd.underlying3
  a3 := Tryd.isAgg3
  z3 := Tryd.sizeOf3
  v3 := Tryd.zeroValue3
  t4 := Tryd.underlying4
  a4 := Tryd.isAgg4
  z4 := Tryd.sizeOf4
  v4 := Tryd.zeroValue4
  t5 := Tryd.underlying5
  a5 := Tryd.isAgg5
  z5 := Tryd.sizeOf5
  v5 := Tryd.zeroValue5
  t9 := Tryd.underlying9
  a9 := Tryd.isAgg9
  z9 := Tryd.sizeOf9
  v9 := Tryd.zeroValue9
  t20 := Tryd.underlying20
  a20 := Tryd.isAgg20
  z20 := Tryd.sizeOf20
  v20 := Tryd.zeroValue20
  t21 := Tryd.underlying21
  a21 := Tryd.isAgg21
  z21 := Tryd.sizeOf21
  v21 := Tryd.zeroValue21
  t37 := Tryd.underlying28
  a37 := Tryd.isAgg28
  z37 := Tryd.sizeOf28
  v37 := Tryd.zeroValue28
  t46 := Tryd.underlying82
  a46 := Tryd.isAgg82
  z46 := Tryd.sizeOf82
  v46 := Tryd.zeroValue82
  t51 := Tryd.underlying99
  a51 := Tryd.isAgg99
  z51 := Tryd.sizeOf99
  v51 := Tryd.zeroValue99
  t53 := Tryd.underlying83
  a53 := Tryd.isAgg83
  z53 := Tryd.sizeOf83
  v53 := Tryd.zeroValue83
  t75 := Tryd.underlying54
  a75 := Tryd.isAgg54
  z75 := Tryd.sizeOf54
  v75 := Tryd.zeroValue54
  t76 := Tryd.underlying55
  a76 := Tryd.isAgg55
  z76 := Tryd.sizeOf55
  v76 := Tryd.zeroValue55
  t85 := Tryd.underlying75
  a85 := Tryd.isAgg75
  z85 := Tryd.sizeOf75
  v85 := Tryd.zeroValue75
  t127 := Tryd.underlying103
  a127 := Tryd.isAgg103
  z127 := Tryd.sizeOf103
  v127 := Tryd.zeroValue103
  t143 := Tryd.underlying104
  a143 := Tryd.isAgg104
  z143 := Tryd.sizeOf104
  v143 := Tryd.zeroValue104
  t145 := Tryd.underlying106
  a145 := Tryd.isAgg106
  z145 := Tryd.sizeOf106
  v145 := Tryd.zeroValue106
  t167 := Tryd.underlying74
  a167 := Tryd.isAgg74
  z167 := Tryd.sizeOf74
  v167 := Tryd.zeroValue74
  t168 := Tryd.underlying77
  a168 := Tryd.isAgg77
  z168 := Tryd.sizeOf77
  v168 := Tryd.zeroValue77
  t171 := Tryd.underlying90
  a171 := Tryd.isAgg90
  z171 := Tryd.sizeOf90
  v171 := Tryd.zeroValue90
  t173 := Tryd.underlying93
  a173 := Tryd.isAgg93
  z173 := Tryd.sizeOf93
  v173 := Tryd.zeroValue93
  t175 := Tryd.underlying84
  a175 := Tryd.isAgg84
  z175 := Tryd.sizeOf84
  v175 := Tryd.zeroValue84
  t210 := Tryd.underlying88
  a210 := Tryd.isAgg88
  z210 := Tryd.sizeOf88
  v210 := Tryd.zeroValue88
  t212 := Tryd.underlying108
  a212 := Tryd.isAgg108
  z212 := Tryd.sizeOf108
  v212 := Tryd.zeroValue108
  t213 := Tryd.underlying109
  a213 := Tryd.isAgg109
  z213 := Tryd.sizeOf109
  t232 := Tryd.underlying112
  a232 := Tryd.isAgg112
  z232 := Tryd.sizeOf112
  v232 := Tryd.zeroValue112
  t233 := Tryd.underlying113
  a233 := Tryd.isAgg113
  z233 := Tryd.sizeOf113
  v233 := Tryd.zeroValue113
  g15 := by kernel_rfl
  g16 := by kernel_rfl
  g17 := by kernel_rfl
  g18 := by kernel_rfl
  g19 := by kernel_rfl
  t80 := Tryd.underlying114
  a80 := Tryd.isAgg114
  z80 := Tryd.sizeOf114
  v80 := Tryd.zeroValue114
  i0 := by kernel_rfl
  i2 := by kernel_rfl
  i3 := by kernel_rfl
  i4 := by kernel_rfl
  i5 := by kernel_rfl
  i9 := by kernel_rfl
  i20 := by kernel_rfl
  i21 := by kernel_rfl
  i37 := by kernel_rfl
  i46 := by kernel_rfl
  i51 := by kernel_rfl
  i53 := by kernel_rfl
  i75 := by kernel_rfl
  i76 := by kernel_rfl
  i80 := by kernel_rfl
  i85 := by kernel_rfl
  i127 := by kernel_rfl
  i143 := by kernel_rfl
  i145 := by kernel_rfl
  i167 := by kernel_rfl
  i168 := by kernel_rfl
  i171 := by kernel_rfl
  i173 := by kernel_rfl
  i175 := by kernel_rfl
  i210 := by kernel_rfl
  i212 := by kernel_rfl
  i232 := by kernel_rfl
  i233 := by kernel_rfl
  m15 := by kernel_rfl
  m16 := by kernel_rfl
  m17 := by kernel_rfl
  m18 := by kernel_rfl
  m19 := by kernel_rfl
  c0 := by kernel_rfl
  c2 := by kernel_rfl
  c3 := by kernel_rfl
  c4 := by kernel_rfl
  c5 := by kernel_rfl
  c9 := by kernel_rfl
  c20 := by kernel_rfl
  c21 := by kernel_rfl
  c37 := by kernel_rfl
  c46 := by kernel_rfl
  c51 := by kernel_rfl
  c53 := by kernel_rfl
  c75 := by kernel_rfl
  c76 := by kernel_rfl
  c80 := by kernel_rfl
  c85 := by kernel_rfl
  c127 := by kernel_rfl
  c143 := by kernel_rfl
  c145 := by kernel_rfl
  c167 := by kernel_rfl
  c168 := by kernel_rfl
  c171 := by kernel_rfl
  c173 := by kernel_rfl
  c175 := by kernel_rfl
  c210 := by kernel_rfl
  c212 := by kernel_rfl
  c213 := by kernel_rfl
  c232 := by kernel_rfl
  c233 := by kernel_rfl
def trimLays_ren : Go.Shelf.Ren := ⟨fun | 101 => 32 | 208 => 46 | 206 => 60 | n => n, fun | 9 => 9 | 4 => 4 | 3 => 3 | n => n, fun | n => n⟩
theorem trimLays : Go.Proofs.Lays.n101 Tryd.prog trimLays_ren where
  mixed := by kernel_rfl
  f101 := Tryd.func32.trans (congrArg some (by kernel_rfl))
  f206 := Tryd.func60.trans (congrArg some (by kernel_rfl))
  f208 := Tryd.func46.trans (congrArg some (by kernel_rfl))
  t3 := Tryd.underlying3
  a3 := Tryd.isAgg3
  z3 := Tryd.sizeOf3
  v3 := Tryd.zeroValue3
  t4 := Tryd.underlying4
  a4 := Tryd.isAgg4
  z4 := Tryd.sizeOf4
  v4 := Tryd.zeroValue4
  t9 := Tryd.underlying9
  a9 := Tryd.isAgg9
  z9 := Tryd.sizeOf9
  v9 := Tryd.zeroValue9
theorem rnum_walk (a0 : ByteArray) (r1 : Int) (r2 : Bool) (w : World) (hT : LaidT w) (h : impl_readNumber.f a0 = some (r1, r2)) :
    Calls Tryd.prog 18 #[.string a0] w fun e w' => e = .returned (.tuple #[.int .i64 r1, .bool r2]) ∧ Below w.heap.size w w' := by
  unfold impl_readNumber.f at h
  by_cases c : a0.size ≤ 281474976710656
  · rw [if_pos c] at h
    have h := Option.some.inj h
    obtain ⟨at1, hat1⟩ : ∃ t, Lib.atoiAll a0.data.toList = t := ⟨_, rfl⟩
    rw [hat1] at h
    cases at1 with
    | ok v =>
      obtain ⟨rfl, rfl⟩ := Prod.mk.inj h
      obtain ⟨b0, b1⟩ := Lib.atoiAll_bounds hat1
      have hA := Any.strconv_Atoi_ok atoiLays a0 (by omega) v hat1 w
      clear h hat1
      obtain ⟨it, hit, eit⟩ : ∃ t, strconv_Itoa.f v = some t ∧ t = (⟨(itoaL v).toArray⟩ : ByteArray) := ⟨_, by unfold strconv_Itoa.f; rw [if_pos ⟨b0, b1⟩], rfl⟩
      rw [← eit]
      clear eit
      have hP := fun W => Any.strings_TrimPrefix trimLays a0 ⟨#[45]⟩ W
      obtain ⟨tp, etp⟩ : ∃ t : List UInt8, Lib.trimPrefix a0.data.toList [45] = t := ⟨_, rfl⟩
      have etp' : Lib.trimPrefix a0.data.toList (⟨#[45]⟩ : ByteArray).data.toList = tp := etp
      rw [etp'] at hP
      rw [etp]
      have hl0 : tp.length ≤ 281474976710656 := by
        rw [← etp]
        unfold Lib.trimPrefix
        have := Lib.size_eq a0
        split
        · rw [List.length_drop]
          omega
        · omega
      clear etp etp'
      go_enter Tryd.func18, Tryd.ntmps18
      go_wp2_with (go_at_call 31; refine hA.mono ?_; rintro e w1 ⟨rfl, hW⟩)
      have hb1 : Below w.heap.size w w1 := by
        rcases hW with rfl | ⟨t, rfl⟩
        · exact Below.refl _ _
        · exact Lib.bytesWorld_below _ _ _
      clear hW hA
      by_cases hl : tp.length ≤ 18
      · go_wp2_with (first | (go_at_call 32; refine (hP _).mono ?_; rintro e w2 ⟨rfl, rfl⟩) | (go_at_call 33; refine (itoa_walk v it _ (hT.on hb1) hit).mono ?_; rintro e w3 ⟨rfl, hb3⟩))
        go_ret2
        exact ⟨by simp [hl], hb1.trans (hb3.mono hb1.size)⟩
      · go_wp2_with (first | (go_at_call 32; refine (hP _).mono ?_; rintro e w2 ⟨rfl, rfl⟩))
        go_ret2
        exact ⟨by simp [hl], hb1⟩
    | «syntax» =>
      obtain ⟨rfl, rfl⟩ := Prod.mk.inj h
      obtain ⟨te, pe, he⟩ := hT.syn
      have hA := Any.strconv_Atoi_syntax atoiLays a0 c hat1 _ w he (.inr ⟨te, pe, rfl⟩)
      clear h hat1
      go_enter Tryd.func18, Tryd.ntmps18
      go_wp2_with (go_at_call 31; refine hA.mono ?_; rintro e w1 ⟨N, rfl, -, -, hb1⟩)
      go_wp2
      go_ret2
      exact ⟨rfl, hb1⟩
    | range =>
      obtain ⟨rfl, rfl⟩ := Prod.mk.inj h
      obtain ⟨te, pe, he⟩ := hT.rng
      have hA := Any.strconv_Atoi_range atoiLays a0 c hat1 _ w he (.inr ⟨te, pe, rfl⟩)
      obtain ⟨sb0, sb1⟩ := Lib.atoiSat_bounds a0.data.toList
      generalize Lib.atoiSat a0.data.toList = sat at hA sb0 sb1 ⊢
      clear h hat1
      go_enter Tryd.func18, Tryd.ntmps18
      go_wp2_with (go_at_call 31; refine hA.mono ?_; rintro e w1 ⟨N, rfl, -, -, hb1⟩)
      go_wp2
      go_ret2
      exact ⟨rfl, hb1⟩
  · rw [if_neg c] at h
    cases h
end Go.Proofs.YtioocldcdonlpaaDoor.A
end

section
namespace Go.Proofs.YtioocldcdonlpaaDoor.A
open Go.RowKit Go.Proofs.YtioocldcdonlpaaDoorW.PrintWords Go.Proofs.YtioocldcdonlpaaDoorW.PrintLast Go.Proofs.YtioocldcdonlpaaDoorW.PrintMore
attribute [local go_sem] max2_int min2_int max_two min_two max_three min_three max_four min_four
theorem impl_readNumber.calls (a0 : ByteArray) (r1 : Int) (r2 : Bool) (w : World) (hT : LaidT w) (h : impl_readNumber.f a0 = some (r1, r2)) :
    Calls Tryd.prog 18 #[.string a0] w fun e w' => e = .returned (.tuple #[.int .i64 r1, .bool r2]) ∧ Below w.heap.size w w' := rnum_walk a0 r1 r2 w hT h
end Go.Proofs.YtioocldcdonlpaaDoor.A
end

section
namespace Go.Proofs.YtioocldcdonlpaaDoor.A
open Go.RowKit Go.Shelf Go.Proofs.YtioocldcdonlpaaDoorW.PrintWords
set_option maxRecDepth 100000
def splitLays_ren : Go.Shelf.Ren := ⟨fun | 146 => 17 | 221 => 30 | 268 => 41 | 138 => 42 | 143 => 43 | 195 => 51 | 197 => 52 | 218 => 53 | 219 => 54 | 260 => 64 | 217 => 65 | 225 => 66 | 224 => 67 | 267 => 68 | 266 => 76 | 314 => 77 | n => n, fun | 9 => 9 | 31 => 36 | 3 => 3 | 4 => 4 | 0 => 0 | 105 => 71 | 21 => 21 | 5 => 5 | 46 => 82 | 119 => 95 | 139 => 98 | 138 => 97 | 146 => 100 | 51 => 99 | n => n, fun | 1 => 0 | 3 => 3 | 4 => 4 | n => n⟩
theorem splitLays : Go.Proofs.LaysM.n146 Tryd.prog splitLays_ren where
  mixed := by kernel_rfl
  f138 := Tryd.func42.trans (congrArg some (by kernel_rfl))
  f143 := Tryd.func43.trans (congrArg some (by kernel_rfl))
  f146 := Tryd.func17.trans (congrArg some (by kernel_rfl))
  f195 := Tryd.func51.trans (congrArg some (by kernel_rfl))
  f197 := Tryd.func52.trans (congrArg some (by kernel_rfl))
  f217 := Tryd.func65.trans (congrArg some (by kernel_rfl))
  f218 := Tryd.func53.trans (congrArg some (by kernel_rfl))
  f219 := Tryd.func54.trans (congrArg some (by kernel_rfl))
  f221 := Tryd.func30.trans (congrArg some (by kernel_rfl))
  f224 := Tryd.func67.trans (congrArg some (by kernel_rfl))
  f225 := Tryd.func66.trans (congrArg some (by kernel_rfl))
  f260 := Tryd.func64.trans (congrArg some (by kernel_rfl))
  f266 := Tryd.func76.trans (congrArg some (by kernel_rfl))
  f267 := Tryd.func68.trans (congrArg some (by kernel_rfl))
  f268 := Tryd.func41.trans (congrArg some (by kernel_rfl))
  f314 := Tryd.func77.trans (congrArg some (by kernel_rfl))
  t0 := Tryd.underlying0
  a0 := Tryd.isAgg0
  z0 := Tryd.sizeOf0
  v0 := Tryd.zeroValue0
  t3 := Tryd.underlying3
  a3 := Tryd.isAgg3
  z3 := Tryd.sizeOf3
  v3 := Tryd.zeroValue3
  t4 := Tryd.underlying4
  a4 := Tryd.isAgg4
  z4 := Tryd.sizeOf4
  v4 := Tryd.zeroValue4
  t5 := Tryd.underlying5
  a5 := Tryd.isAgg5
  z5 := Tryd.sizeOf5
  v5 := Tryd.zeroValue5
  t9 := Tryd.underlying9
  a9 := Tryd.isAgg9
  z9 := Tryd.sizeOf9
  v9 := Tryd.zeroValue9
  t21 := Tryd.underlying21
  a21 := Tryd.isAgg21
  z21 := Tryd.sizeOf21
  v21 := Tryd.zeroValue21
  t31 := Tryd.underlying36
  a31 := Tryd.isAgg36
  z31 := Tryd.sizeOf36
  v31 := Tryd.zeroValue36
  t46 := Tryd.underlying82
  a46 := Tryd.isAgg82
  z46 := Tryd.sizeOf82
  v46 := Tryd.zeroValue82
  t51 := Tryd.underlying99
  a51 := Tryd.isAgg99
  z51 := Tryd.sizeOf99
  v51 := Tryd.zeroValue99
  t105 := Tryd.underlying71
  a105 := Tryd.isAgg71
  z105 := Tryd.sizeOf71
  v105 := Tryd.zeroValue71
  t119 := Tryd.underlying95
  a119 := Tryd.isAgg95
  z119 := Tryd.sizeOf95
  t138 := Tryd.underlying97
  a138 := Tryd.isAgg97
  z138 := Tryd.sizeOf97
  v138 := Tryd.zeroValue97
  t139 := Tryd.underlying98
  a139 := Tryd.isAgg98
  z139 := Tryd.sizeOf98
  v139 := Tryd.zeroValue98
  t146 := Tryd.underlying100
  a146 := Tryd.isAgg100
  z146 := Tryd.sizeOf100
  v146 := Tryd.zeroValue100
  g1 := by kernel_rfl
  g3 := by kernel_rfl
  g4 := by kernel_rfl
  i0 := by kernel_rfl
  i3 := by kernel_rfl
  i4 := by kernel_rfl
  i5 := by kernel_rfl
  i9 := by kernel_rfl
  i21 := by kernel_rfl
  i31 := by kernel_rfl
  i46 := by kernel_rfl
  i51 := by kernel_rfl
  i105 := by kernel_rfl
  i138 := by kernel_rfl
  i139 := by kernel_rfl
  i146 := by kernel_rfl
  m1 := by kernel_rfl
  s1_3 := fun w h => Go.Proofs.cell_of_shapedOpen_int (zero := #[.int .i64 0]) (t := 3) h (of_decide_eq_true (by kernel_rfl)) (by kernel_rfl) rfl (by kernel_rfl) (by kernel_rfl) Tryd.underlying3
  m3 := by kernel_rfl
  m4 := by kernel_rfl
theorem split_cells {w : World} {t : Nat} (xs : List ByteArray) (hm : xs.length ≤ maxLen) :
    (w.alloc (.cells (xs.map Value.string).toArray t)).ownsRow w.heap.size t 1 (.slice (some ⟨w.heap.size, 0, none⟩) xs.length xs.length) xs.length (xs.map Value.string) :=
  ⟨by rw [List.length_map, Nat.mul_one], .inr ⟨w.heap.size, xs.length, (xs.map Value.string).toArray, rfl, Nat.le_refl _, Array.getElem?_push_size, Nat.le_refl _, hm, by rw [List.size_toArray, List.length_map, Nat.mul_one], by rw [Nat.mul_one]; exact List.take_of_length_le (by rw [List.length_map]; exact Nat.le_refl _)⟩⟩
theorem split_walk (a0 a1 : ByteArray) (r : List ByteArray) (w : World) (hT : LaidT w) (h : strings_Split.f a0 a1 = some r) :
    Calls Tryd.prog 17 #[.string a0, .string a1] w fun e w' => ∃ v0_ : Value, e = .returned v0_ ∧ Kd.R Kd.string 9 w' w.heap.size (fun _ => True) v0_ r ∧ Below w.heap.size w w' := by
  unfold strings_Split.f at h
  by_cases c : a0.size < 4294967281 ∧ 1 ≤ a1.size
  · rw [if_pos c] at h
    obtain rfl := Option.some.inj h
    obtain ⟨m, hm⟩ := hT.most
    refine Calls.mono (Any.strings_Split { splitLays with } splitLays.i9 a0 a1 m w c.1 hm c.2) fun e w' hh => ?_
    obtain ⟨rfl, rfl⟩ := hh
    have hl : (Lib.splitB a1 0 (Lib.countB a0 a1) a0).length = Lib.countB a0 a1 + 1 := Lib.splitB_all a1 c.2 0 _ _ rfl
    have hlen : Lib.countB a0 a1 + 1 ≤ maxLen := by
      have := Lib.countB_le a1 c.2 _ a0 (Nat.le_refl _)
      unfold maxLen
      omega
    refine ⟨_, rfl, ?_, below_alloc (Below.refl _ _) _⟩
    have ho := split_cells (w := w) (t := splitLays_ren.t 9) (Lib.splitB a1 0 (Lib.countB a0 a1) a0) (by rw [hl]; exact hlen)
    rw [hl] at ho
    have ho' : (w.alloc (.cells ((Lib.splitB a1 0 (Lib.countB a0 a1) a0).map Value.string).toArray (splitLays_ren.t 9))).ownsRow w.heap.size 9 1 (.slice (some ⟨w.heap.size, 0, none⟩) (Lib.countB a0 a1 + 1) (Lib.countB a0 a1 + 1)) (Lib.splitB a1 0 (Lib.countB a0 a1) a0).length (encs Value.string (Lib.splitB a1 0 (Lib.countB a0 a1) a0)) := by
      rw [hl]
      exact ho
    exact Kd.R_of_own (h1 := fun _ => rfl) ho' (fun _ _ => trivial)
  · rw [if_neg c] at h
    cases h
end Go.Proofs.YtioocldcdonlpaaDoor.A
end

section
namespace Go.Proofs.YtioocldcdonlpaaDoor.A
open Go.RowKit Go.Proofs.YtioocldcdonlpaaDoorW.PrintWords Go.Proofs.YtioocldcdonlpaaDoorW.PrintLast Go.Proofs.YtioocldcdonlpaaDoorW.PrintMore
attribute [local go_sem] max2_int min2_int max_two min_two max_three min_three max_four min_four
theorem strings_Split.calls (a0 : ByteArray) (a1 : ByteArray) (r : List ByteArray) (w : World) (hT : LaidT w) (h : strings_Split.f a0 a1 = some r) :
    Calls Tryd.prog 17 #[.string a0, .string a1] w fun e w' => ∃ v0_ : Value, e = .returned (v0_) ∧ Kd.R Kd.string 9 w' w.heap.size (fun _ => True) v0_ r ∧ Below w.heap.size w w' := split_walk a0 a1 r w hT h
end Go.Proofs.YtioocldcdonlpaaDoor.A
end

section
namespace Go.Proofs.YtioocldcdonlpaaDoor.A
open Go.RowKit Go.Proofs.YtioocldcdonlpaaDoorW.PrintWords Go.Proofs.YtioocldcdonlpaaDoorW.PrintLast Go.Proofs.YtioocldcdonlpaaDoorW.PrintMore
attribute [local go_sem] max2_int min2_int max_two min_two max_three min_three max_four min_four
set_option maxHeartbeats 8000000 in
set_option maxRecDepth 100000 in
theorem impl_ReadGrant.calls (k : Nat) (a0 : ByteArray) (r1 : ByteArray) (r2 : Int) (r3 : Int) (r4 : Int) (r5 : Int) (w : World) (hT : LaidT w) (h : impl_ReadGrant.f k a0 = some (r1, r2, r3, r4, r5)) :
    Calls Tryd.prog 6 #[.string a0] w fun e w' => e = .returned (.tuple #[.agg #[.string r1, .int .i64 r2, .int .i64 r3, .int .i64 r4], .int .i64 r5]) ∧ Below w.heap.size w w' := by
  have hu23 := Tryd.underlying23
  have HTD := Aside0.mk hT
  clear hT
  have HB := Aside0.mk (Below.refl w.heap.size w)
  have H : ((impl_areLong.f (([a0] : List ByteArray))).bind fun t155 => (if t155 = true then (some ((⟨#[]⟩ : ByteArray), 0, 0, 0, 2)) else ((strings_Split.f a0 (⟨#[32]⟩ : ByteArray)).bind fun t156 => (if (t156.length : Int) = 5 then (if 1 < (t156.length : Int) then (if 2 < (t156.length : Int) then ((impl_readNumber.f (rdOf ByteArray.empty t156 2)).bind fun bt162 => (if bt162.2 = true then (if 3 < (t156.length : Int) then ((impl_readNumber.f (rdOf ByteArray.empty t156 3)).bind fun bt165 => (if bt165.2 = true then (if 4 < (t156.length : Int) then ((impl_readNumber.f (rdOf ByteArray.empty t156 4)).bind fun bt168 => (if bt168.2 = true then ((impl_GrantOK.f k (rdOf ByteArray.empty t156 1) bt162.1 bt165.1 bt168.1).bind fun t170 => (if t170 = true then ((impl_grantText.f (rdOf ByteArray.empty t156 1) bt162.1 bt165.1 bt168.1).bind fun t171 => (if t171.toList = a0.toList then (some (rdOf ByteArray.empty t156 1, bt162.1, bt165.1, bt168.1, 0)) else (some ((⟨#[]⟩ : ByteArray), 0, 0, 0, 3)))) else (some ((⟨#[]⟩ : ByteArray), 0, 0, 0, 3)))) else (some ((⟨#[]⟩ : ByteArray), 0, 0, 0, 3)))) else (none)) else (some ((⟨#[]⟩ : ByteArray), 0, 0, 0, 3)))) else (none)) else (some ((⟨#[]⟩ : ByteArray), 0, 0, 0, 3)))) else (none)) else (none)) else (some ((⟨#[]⟩ : ByteArray), 0, 0, 0, 3)))))) = some (r1, r2, r3, r4, r5) := h
  clear h
  obtain ⟨y152, hy152⟩ : ∃ y_ : List ByteArray, y_ = (([a0] : List ByteArray)) := ⟨_, rfl⟩
  replace H : ((impl_areLong.f y152).bind fun t155 => (if t155 = true then (some ((⟨#[]⟩ : ByteArray), 0, 0, 0, 2)) else ((strings_Split.f a0 (⟨#[32]⟩ : ByteArray)).bind fun t156 => (if (t156.length : Int) = 5 then (if 1 < (t156.length : Int) then (if 2 < (t156.length : Int) then ((impl_readNumber.f (rdOf ByteArray.empty t156 2)).bind fun bt162 => (if bt162.2 = true then (if 3 < (t156.length : Int) then ((impl_readNumber.f (rdOf ByteArray.empty t156 3)).bind fun bt165 => (if bt165.2 = true then (if 4 < (t156.length : Int) then ((impl_readNumber.f (rdOf ByteArray.empty t156 4)).bind fun bt168 => (if bt168.2 = true then ((impl_GrantOK.f k (rdOf ByteArray.empty t156 1) bt162.1 bt165.1 bt168.1).bind fun t170 => (if t170 = true then ((impl_grantText.f (rdOf ByteArray.empty t156 1) bt162.1 bt165.1 bt168.1).bind fun t171 => (if t171.toList = a0.toList then (some (rdOf ByteArray.empty t156 1, bt162.1, bt165.1, bt168.1, 0)) else (some ((⟨#[]⟩ : ByteArray), 0, 0, 0, 3)))) else (some ((⟨#[]⟩ : ByteArray), 0, 0, 0, 3)))) else (some ((⟨#[]⟩ : ByteArray), 0, 0, 0, 3)))) else (none)) else (some ((⟨#[]⟩ : ByteArray), 0, 0, 0, 3)))) else (none)) else (some ((⟨#[]⟩ : ByteArray), 0, 0, 0, 3)))) else (none)) else (none)) else (some ((⟨#[]⟩ : ByteArray), 0, 0, 0, 3)))))) = some (r1, r2, r3, r4, r5) := by first | (rw [hy152]; with_reducible exact H) | (have H2_ := (Option.bind_some _ _).symm.trans H; rw [hy152]; with_reducible exact H2_) | (have H2_ := (Option.bind_some _ _).symm.trans H; with_reducible exact H2_) | with_reducible exact H | (rw [hy152]; exact H) | exact H
  have Ny152 := Aside0.mk hy152
  clear hy152
  replace H := Option.bind_eq_some_iff.mp H
  obtain ⟨t155, A20, H⟩ := H
  replace H : (if t155 = true then (some ((⟨#[]⟩ : ByteArray), 0, 0, 0, 2)) else ((strings_Split.f a0 (⟨#[32]⟩ : ByteArray)).bind fun t156 => (if (t156.length : Int) = 5 then (if 1 < (t156.length : Int) then (if 2 < (t156.length : Int) then ((impl_readNumber.f (rdOf ByteArray.empty t156 2)).bind fun bt162 => (if bt162.2 = true then (if 3 < (t156.length : Int) then ((impl_readNumber.f (rdOf ByteArray.empty t156 3)).bind fun bt165 => (if bt165.2 = true then (if 4 < (t156.length : Int) then ((impl_readNumber.f (rdOf ByteArray.empty t156 4)).bind fun bt168 => (if bt168.2 = true then ((impl_GrantOK.f k (rdOf ByteArray.empty t156 1) bt162.1 bt165.1 bt168.1).bind fun t170 => (if t170 = true then ((impl_grantText.f (rdOf ByteArray.empty t156 1) bt162.1 bt165.1 bt168.1).bind fun t171 => (if t171.toList = a0.toList then (some (rdOf ByteArray.empty t156 1, bt162.1, bt165.1, bt168.1, 0)) else (some ((⟨#[]⟩ : ByteArray), 0, 0, 0, 3)))) else (some ((⟨#[]⟩ : ByteArray), 0, 0, 0, 3)))) else (some ((⟨#[]⟩ : ByteArray), 0, 0, 0, 3)))) else (none)) else (some ((⟨#[]⟩ : ByteArray), 0, 0, 0, 3)))) else (none)) else (some ((⟨#[]⟩ : ByteArray), 0, 0, 0, 3)))) else (none)) else (none)) else (some ((⟨#[]⟩ : ByteArray), 0, 0, 0, 3))))) = some (r1, r2, r3, r4, r5) := H
  have A2 := Aside0.mk A20
  clear A20
  by_cases c3 : t155 = true
  · subst c3
    have H1 : (some ((⟨#[]⟩ : ByteArray), 0, 0, 0, 2)) = some (r1, r2, r3, r4, r5) := by rw [if_pos rfl] at H; exact H
    clear H
    have H := H1
    clear H1
    simp only [Option.some.injEq, Prod.mk.injEq] at H
    obtain ⟨rfl, rfl, rfl, rfl, rfl⟩ := H
    go_enter Tryd.func6, Tryd.ntmps6
    go_wp2_with (first | ((with_reducible refine gate_dst (N := 2) rfl ?_); refine zbx (N := 2) (cs := #[.string (⟨#[]⟩ : ByteArray), .int .i64 0, .int .i64 0, .int .i64 0]) (t := 23) ?_; intro gb151 hg w4 hbox hb; have BK151 := Aside0.mk (hbox); have GW151 := zw_ HB hg; have GE151 := zw_ HB hg; replace HB := zs_ HB hb; clear hb hbox hg) | ((with_reducible refine gate_dst (N := 11) rfl ?_); refine Kd.R_lit Kd.string _ 9 ?hg (N := 11) ?hd (xs := ([a0] : List ByteArray)) (inner := [.string a0]) (ok := fun _ => True) (okp := fun _ => True) ?hr ?hp (fun _ hk => hk) trivial (Below.refl _ _) (Nat.le_refl _) (by simp) ?_; (case hd => rfl); (case hg => rfl); (case hr => first | (go_simp; done) | (go_simp; rfl)); (case hp => exact (Reps.one (show Kd.M Kd.string _ _ _ a0 [.string a0] from rfl) (Reps.none _ _))); intro v153 w5 ho6 hb hg_ hnew_; clear hg_ hnew_; (first | rw [← Ny152.out] at ho6 | (simp only [Int.reduceToNat] at ho6; rw [← Ny152.out] at ho6)); have HO154 := Aside0.mk (Kd.R_lower ho6 (below_size (zl_ HB))); replace BK151 := zb BK151 hb; replace HB := zs_ HB hb; clear hb ho6; obtain ⟨Ao7, co7, eo7⟩ := Kd.R_slice HO154.out; subst eo7) | ((with_reducible refine gate_callee (f := 16) rfl ?_); refine zgl (some 12) Tryd.func16 #[.slice Ao7 y152.length co7] ?_; (with_reducible refine (impl_areLong.calls _ _ y152 true _ ?side1 ?side2 A2.out).mono ?_); (case side1 => repeat (first | exact (Kd.R_reads' HO154.out).2.2 | (with_reducible refine Kd.C_alloc ?_ _) | (with_reducible refine Kd.C_drewN ?_ _) | (with_reducible refine Kd.C_drew ?_))); (case side2 => exact (Kd.R_reads' HO154.out).2.1); rintro e w' ⟨rfl, ⟨nd, rfl⟩⟩; refine ⟨_, rfl, ?_⟩; (try (rw [drewN_self w5]; generalize hq_ : World.drewN w5 _ = w5; have n0_ : Aside0 (Kd.R Kd.string 9 w5 w.heap.size (fun _ => True) (.slice Ao7 y152.length co7) y152) := ⟨by rw [← hq_]; exact (zr HO154)⟩; have n1_ : Aside0 (w5.heap[gb151]? = some (.cells #[.string (⟨#[]⟩ : ByteArray), .int .i64 0, .int .i64 0, .int .i64 0] 23 (0, 0))) := ⟨by rw [← hq_]; exact (zk BK151)⟩; have n2_ : Aside0 (Below w.heap.size w w5) := ⟨by rw [← hq_]; exact (zl_ HB)⟩; clear HO154 BK151 HB hq_; have HO154 := n0_; have BK151 := n1_; have HB := n2_; clear n0_ n1_ n2_)); (try have hfu151_0 := blk_frozen BK151.out 0); (try have hcu151_0 : w5.cell? ⟨gb151, 0, none⟩ = some (.string (⟨#[]⟩ : ByteArray)) := (blk_cell BK151.out 0).trans rfl); (try have hfu151_1 := blk_frozen BK151.out 1); (try have hcu151_1 : w5.cell? ⟨gb151, 1, none⟩ = some (.int .i64 0) := (blk_cell BK151.out 1).trans rfl); (try have hfu151_2 := blk_frozen BK151.out 2); (try have hcu151_2 : w5.cell? ⟨gb151, 2, none⟩ = some (.int .i64 0) := (blk_cell BK151.out 2).trans rfl); (try have hfu151_3 := blk_frozen BK151.out 3); (try have hcu151_3 : w5.cell? ⟨gb151, 3, none⟩ = some (.int .i64 0) := (blk_cell BK151.out 3).trans rfl); obtain ⟨hcz8_0, hcz8_1, hcz8_2, hcz8_3, hfz8_0, hfz8_1, hfz8_2, hfz8_3⟩ := zc4 BK151))
    refine bodyPost_ret (results_ct rfl _ _ gb151 23 #[.string (⟨#[]⟩ : ByteArray), .int .i64 0, .int .i64 0, .int .i64 0] (0, 0) _ rfl (zq BK151) Tryd.underlying23 rfl (by kernel_rfl)) rfl ?_
    exact ⟨zt_, zl_ HB⟩
  · replace c3 := Bool.eq_false_iff.mpr c3
    subst c3
    have H1 : ((strings_Split.f a0 (⟨#[32]⟩ : ByteArray)).bind fun t156 => (if (t156.length : Int) = 5 then (if 1 < (t156.length : Int) then (if 2 < (t156.length : Int) then ((impl_readNumber.f (rdOf ByteArray.empty t156 2)).bind fun bt162 => (if bt162.2 = true then (if 3 < (t156.length : Int) then ((impl_readNumber.f (rdOf ByteArray.empty t156 3)).bind fun bt165 => (if bt165.2 = true then (if 4 < (t156.length : Int) then ((impl_readNumber.f (rdOf ByteArray.empty t156 4)).bind fun bt168 => (if bt168.2 = true then ((impl_GrantOK.f k (rdOf ByteArray.empty t156 1) bt162.1 bt165.1 bt168.1).bind fun t170 => (if t170 = true then ((impl_grantText.f (rdOf ByteArray.empty t156 1) bt162.1 bt165.1 bt168.1).bind fun t171 => (if t171.toList = a0.toList then (some (rdOf ByteArray.empty t156 1, bt162.1, bt165.1, bt168.1, 0)) else (some ((⟨#[]⟩ : ByteArray), 0, 0, 0, 3)))) else (some ((⟨#[]⟩ : ByteArray), 0, 0, 0, 3)))) else (some ((⟨#[]⟩ : ByteArray), 0, 0, 0, 3)))) else (none)) else (some ((⟨#[]⟩ : ByteArray), 0, 0, 0, 3)))) else (none)) else (some ((⟨#[]⟩ : ByteArray), 0, 0, 0, 3)))) else (none)) else (none)) else (some ((⟨#[]⟩ : ByteArray), 0, 0, 0, 3)))) = some (r1, r2, r3, r4, r5) := by rw [if_neg (show ¬ (false = true) by decide)] at H; exact H
    clear H
    have H := H1
    clear H1
    replace H := Option.bind_eq_some_iff.mp H
    obtain ⟨t156, A90, H⟩ := H
    replace H : (if (t156.length : Int) = 5 then (if 1 < (t156.length : Int) then (if 2 < (t156.length : Int) then ((impl_readNumber.f (rdOf ByteArray.empty t156 2)).bind fun bt162 => (if bt162.2 = true then (if 3 < (t156.length : Int) then ((impl_readNumber.f (rdOf ByteArray.empty t156 3)).bind fun bt165 => (if bt165.2 = true then (if 4 < (t156.length : Int) then ((impl_readNumber.f (rdOf ByteArray.empty t156 4)).bind fun bt168 => (if bt168.2 = true then ((impl_GrantOK.f k (rdOf ByteArray.empty t156 1) bt162.1 bt165.1 bt168.1).bind fun t170 => (if t170 = true then ((impl_grantText.f (rdOf ByteArray.empty t156 1) bt162.1 bt165.1 bt168.1).bind fun t171 => (if t171.toList = a0.toList then (some (rdOf ByteArray.empty t156 1, bt162.1, bt165.1, bt168.1, 0)) else (some ((⟨#[]⟩ : ByteArray), 0, 0, 0, 3)))) else (some ((⟨#[]⟩ : ByteArray), 0, 0, 0, 3)))) else (some ((⟨#[]⟩ : ByteArray), 0, 0, 0, 3)))) else (none)) else (some ((⟨#[]⟩ : ByteArray), 0, 0, 0, 3)))) else (none)) else (some ((⟨#[]⟩ : ByteArray), 0, 0, 0, 3)))) else (none)) else (none)) else (some ((⟨#[]⟩ : ByteArray), 0, 0, 0, 3))) = some (r1, r2, r3, r4, r5) := H
    have A9 := Aside0.mk A90
    clear A90
    by_cases c10 : (t156.length : Int) = 5
    · rw [if_pos c10] at H
      have c10b0 : ((t156.length : Int) == 5) = true := beq_iff_eq.mpr c10
      have c10b1 : ((t156.length : Int) != 5) = false := bne_eq_false_iff_eq.mpr c10
      clear c10
      by_cases c11 : 1 < (t156.length : Int)
      · rw [if_pos c11] at H
        have c11b0 : decide (1 < (t156.length : Int)) = true := decide_eq_true c11
        have c11b1 : decide (1 < t156.length) = true := decide_eq_true (by omega)
        clear c11
        by_cases c12 : 2 < (t156.length : Int)
        · rw [if_pos c12] at H
          have c12b0 : decide (2 < (t156.length : Int)) = true := decide_eq_true c12
          have c12b1 : decide (2 < t156.length) = true := decide_eq_true (by omega)
          clear c12
          replace H := Option.bind_eq_some_iff.mp H
          obtain ⟨⟨t162, t163⟩, A130, H⟩ := H
          replace H : (if t163 = true then (if 3 < (t156.length : Int) then ((impl_readNumber.f (rdOf ByteArray.empty t156 3)).bind fun bt165 => (if bt165.2 = true then (if 4 < (t156.length : Int) then ((impl_readNumber.f (rdOf ByteArray.empty t156 4)).bind fun bt168 => (if bt168.2 = true then ((impl_GrantOK.f k (rdOf ByteArray.empty t156 1) t162 bt165.1 bt168.1).bind fun t170 => (if t170 = true then ((impl_grantText.f (rdOf ByteArray.empty t156 1) t162 bt165.1 bt168.1).bind fun t171 => (if t171.toList = a0.toList then (some (rdOf ByteArray.empty t156 1, t162, bt165.1, bt168.1, 0)) else (some ((⟨#[]⟩ : ByteArray), 0, 0, 0, 3)))) else (some ((⟨#[]⟩ : ByteArray), 0, 0, 0, 3)))) else (some ((⟨#[]⟩ : ByteArray), 0, 0, 0, 3)))) else (none)) else (some ((⟨#[]⟩ : ByteArray), 0, 0, 0, 3)))) else (none)) else (some ((⟨#[]⟩ : ByteArray), 0, 0, 0, 3))) = some (r1, r2, r3, r4, r5) := H
          have A13 := Aside0.mk A130
          clear A130
          by_cases c14 : t163 = true
          · subst c14
            have H1 : (if 3 < (t156.length : Int) then ((impl_readNumber.f (rdOf ByteArray.empty t156 3)).bind fun bt165 => (if bt165.2 = true then (if 4 < (t156.length : Int) then ((impl_readNumber.f (rdOf ByteArray.empty t156 4)).bind fun bt168 => (if bt168.2 = true then ((impl_GrantOK.f k (rdOf ByteArray.empty t156 1) t162 bt165.1 bt168.1).bind fun t170 => (if t170 = true then ((impl_grantText.f (rdOf ByteArray.empty t156 1) t162 bt165.1 bt168.1).bind fun t171 => (if t171.toList = a0.toList then (some (rdOf ByteArray.empty t156 1, t162, bt165.1, bt168.1, 0)) else (some ((⟨#[]⟩ : ByteArray), 0, 0, 0, 3)))) else (some ((⟨#[]⟩ : ByteArray), 0, 0, 0, 3)))) else (some ((⟨#[]⟩ : ByteArray), 0, 0, 0, 3)))) else (none)) else (some ((⟨#[]⟩ : ByteArray), 0, 0, 0, 3)))) else (none)) = some (r1, r2, r3, r4, r5) := by rw [if_pos rfl] at H; exact H
            clear H
            have H := H1
            clear H1
            by_cases c15 : 3 < (t156.length : Int)
            · rw [if_pos c15] at H
              have c15b0 : decide (3 < (t156.length : Int)) = true := decide_eq_true c15
              have c15b1 : decide (3 < t156.length) = true := decide_eq_true (by omega)
              clear c15
              replace H := Option.bind_eq_some_iff.mp H
              obtain ⟨⟨t165, t166⟩, A160, H⟩ := H
              replace H : (if t166 = true then (if 4 < (t156.length : Int) then ((impl_readNumber.f (rdOf ByteArray.empty t156 4)).bind fun bt168 => (if bt168.2 = true then ((impl_GrantOK.f k (rdOf ByteArray.empty t156 1) t162 t165 bt168.1).bind fun t170 => (if t170 = true then ((impl_grantText.f (rdOf ByteArray.empty t156 1) t162 t165 bt168.1).bind fun t171 => (if t171.toList = a0.toList then (some (rdOf ByteArray.empty t156 1, t162, t165, bt168.1, 0)) else (some ((⟨#[]⟩ : ByteArray), 0, 0, 0, 3)))) else (some ((⟨#[]⟩ : ByteArray), 0, 0, 0, 3)))) else (some ((⟨#[]⟩ : ByteArray), 0, 0, 0, 3)))) else (none)) else (some ((⟨#[]⟩ : ByteArray), 0, 0, 0, 3))) = some (r1, r2, r3, r4, r5) := H
              have A16 := Aside0.mk A160
              clear A160
              by_cases c17 : t166 = true
              · subst c17
                have H1 : (if 4 < (t156.length : Int) then ((impl_readNumber.f (rdOf ByteArray.empty t156 4)).bind fun bt168 => (if bt168.2 = true then ((impl_GrantOK.f k (rdOf ByteArray.empty t156 1) t162 t165 bt168.1).bind fun t170 => (if t170 = true then ((impl_grantText.f (rdOf ByteArray.empty t156 1) t162 t165 bt168.1).bind fun t171 => (if t171.toList = a0.toList then (some (rdOf ByteArray.empty t156 1, t162, t165, bt168.1, 0)) else (some ((⟨#[]⟩ : ByteArray), 0, 0, 0, 3)))) else (some ((⟨#[]⟩ : ByteArray), 0, 0, 0, 3)))) else (some ((⟨#[]⟩ : ByteArray), 0, 0, 0, 3)))) else (none)) = some (r1, r2, r3, r4, r5) := by rw [if_pos rfl] at H; exact H
                clear H
                have H := H1
                clear H1
                by_cases c18 : 4 < (t156.length : Int)
                · rw [if_pos c18] at H
                  have c18b0 : decide (4 < (t156.length : Int)) = true := decide_eq_true c18
                  have c18b1 : decide (4 < t156.length) = true := decide_eq_true (by omega)
                  clear c18
                  replace H := Option.bind_eq_some_iff.mp H
                  obtain ⟨⟨t168, t169⟩, A190, H⟩ := H
                  replace H : (if t169 = true then ((impl_GrantOK.f k (rdOf ByteArray.empty t156 1) t162 t165 t168).bind fun t170 => (if t170 = true then ((impl_grantText.f (rdOf ByteArray.empty t156 1) t162 t165 t168).bind fun t171 => (if t171.toList = a0.toList then (some (rdOf ByteArray.empty t156 1, t162, t165, t168, 0)) else (some ((⟨#[]⟩ : ByteArray), 0, 0, 0, 3)))) else (some ((⟨#[]⟩ : ByteArray), 0, 0, 0, 3)))) else (some ((⟨#[]⟩ : ByteArray), 0, 0, 0, 3))) = some (r1, r2, r3, r4, r5) := H
                  have A19 := Aside0.mk A190
                  clear A190
                  by_cases c20 : t169 = true
                  · subst c20
                    have H1 : ((impl_GrantOK.f k (rdOf ByteArray.empty t156 1) t162 t165 t168).bind fun t170 => (if t170 = true then ((impl_grantText.f (rdOf ByteArray.empty t156 1) t162 t165 t168).bind fun t171 => (if t171.toList = a0.toList then (some (rdOf ByteArray.empty t156 1, t162, t165, t168, 0)) else (some ((⟨#[]⟩ : ByteArray), 0, 0, 0, 3)))) else (some ((⟨#[]⟩ : ByteArray), 0, 0, 0, 3)))) = some (r1, r2, r3, r4, r5) := by rw [if_pos rfl] at H; exact H
                    clear H
                    have H := H1
                    clear H1
                    replace H := Option.bind_eq_some_iff.mp H
                    obtain ⟨t170, A210, H⟩ := H
                    replace H : (if t170 = true then ((impl_grantText.f (rdOf ByteArray.empty t156 1) t162 t165 t168).bind fun t171 => (if t171.toList = a0.toList then (some (rdOf ByteArray.empty t156 1, t162, t165, t168, 0)) else (some ((⟨#[]⟩ : ByteArray), 0, 0, 0, 3)))) else (some ((⟨#[]⟩ : ByteArray), 0, 0, 0, 3))) = some (r1, r2, r3, r4, r5) := H
                    have A21 := Aside0.mk A210
                    clear A210
                    by_cases c22 : t170 = true
                    · subst c22
                      have H1 : ((impl_grantText.f (rdOf ByteArray.empty t156 1) t162 t165 t168).bind fun t171 => (if t171.toList = a0.toList then (some (rdOf ByteArray.empty t156 1, t162, t165, t168, 0)) else (some ((⟨#[]⟩ : ByteArray), 0, 0, 0, 3)))) = some (r1, r2, r3, r4, r5) := by rw [if_pos rfl] at H; exact H
                      clear H
                      have H := H1
                      clear H1
                      replace H := Option.bind_eq_some_iff.mp H
                      obtain ⟨t171, A230, H⟩ := H
                      replace H : (if t171.toList = a0.toList then (some (rdOf ByteArray.empty t156 1, t162, t165, t168, 0)) else (some ((⟨#[]⟩ : ByteArray), 0, 0, 0, 3))) = some (r1, r2, r3, r4, r5) := H
                      have A23 := Aside0.mk A230
                      clear A230
                      by_cases c24 : t171.toList = a0.toList
                      · rw [if_pos c24] at H
                        have c24b0 : (t171.toList == a0.toList) = true := beq_iff_eq.mpr c24
                        have c24b1 : (t171.toList != a0.toList) = false := bne_eq_false_iff_eq.mpr c24
                        clear c24
                        simp only [Option.some.injEq, Prod.mk.injEq] at H
                        obtain ⟨rfl, rfl, rfl, rfl, rfl⟩ := H
                        go_enter Tryd.func6, Tryd.ntmps6
                        go_wp2_with (first | ((with_reducible refine gate_dst (N := 2) rfl ?_); refine zbx (N := 2) (cs := #[.string (⟨#[]⟩ : ByteArray), .int .i64 0, .int .i64 0, .int .i64 0]) (t := 23) ?_; intro gb151 hg w25 hbox hb; have BK151 := Aside0.mk (hbox); have GW151 := zw_ HB hg; have GE151 := zw_ HB hg; replace HB := zs_ HB hb; clear hb hbox hg) | ((with_reducible refine gate_dst (N := 11) rfl ?_); refine Kd.R_lit Kd.string _ 9 ?hg (N := 11) ?hd (xs := ([a0] : List ByteArray)) (inner := [.string a0]) (ok := fun _ => True) (okp := fun _ => True) ?hr ?hp (fun _ hk => hk) trivial (Below.refl _ _) (Nat.le_refl _) (by simp) ?_; (case hd => rfl); (case hg => rfl); (case hr => first | (go_simp; done) | (go_simp; rfl)); (case hp => exact (Reps.one (show Kd.M Kd.string _ _ _ a0 [.string a0] from rfl) (Reps.none _ _))); intro v153 w26 ho27 hb hg_ hnew_; clear hg_ hnew_; (first | rw [← Ny152.out] at ho27 | (simp only [Int.reduceToNat] at ho27; rw [← Ny152.out] at ho27)); have HO154 := Aside0.mk (Kd.R_lower ho27 (below_size (zl_ HB))); replace BK151 := zb BK151 hb; replace HB := zs_ HB hb; clear hb ho27; obtain ⟨Ao28, co28, eo28⟩ := Kd.R_slice HO154.out; subst eo28) | ((with_reducible refine gate_callee (f := 16) rfl ?_); refine zgl (some 12) Tryd.func16 #[.slice Ao28 y152.length co28] ?_; (with_reducible refine (impl_areLong.calls _ _ y152 false _ ?side1 ?side2 A2.out).mono ?_); (case side1 => repeat (first | exact (Kd.R_reads' HO154.out).2.2 | (with_reducible refine Kd.C_alloc ?_ _) | (with_reducible refine Kd.C_drewN ?_ _) | (with_reducible refine Kd.C_drew ?_))); (case side2 => exact (Kd.R_reads' HO154.out).2.1); rintro e w' ⟨rfl, ⟨nd, rfl⟩⟩; refine ⟨_, rfl, ?_⟩; (try (rw [drewN_self w26]; generalize hq_ : World.drewN w26 _ = w26; have n0_ : Aside0 (Kd.R Kd.string 9 w26 w.heap.size (fun _ => True) (.slice Ao28 y152.length co28) y152) := ⟨by rw [← hq_]; exact (zr HO154)⟩; have n1_ : Aside0 (w26.heap[gb151]? = some (.cells #[.string (⟨#[]⟩ : ByteArray), .int .i64 0, .int .i64 0, .int .i64 0] 23 (0, 0))) := ⟨by rw [← hq_]; exact (zk BK151)⟩; have n2_ : Aside0 (Below w.heap.size w w26) := ⟨by rw [← hq_]; exact (zl_ HB)⟩; clear HO154 BK151 HB hq_; have HO154 := n0_; have BK151 := n1_; have HB := n2_; clear n0_ n1_ n2_)); (try have hfu151_0 := blk_frozen BK151.out 0); (try have hcu151_0 : w26.cell? ⟨gb151, 0, none⟩ = some (.string (⟨#[]⟩ : ByteArray)) := (blk_cell BK151.out 0).trans rfl); (try have hfu151_1 := blk_frozen BK151.out 1); (try have hcu151_1 : w26.cell? ⟨gb151, 1, none⟩ = some (.int .i64 0) := (blk_cell BK151.out 1).trans rfl); (try have hfu151_2 := blk_frozen BK151.out 2); (try have hcu151_2 : w26.cell? ⟨gb151, 2, none⟩ = some (.int .i64 0) := (blk_cell BK151.out 2).trans rfl); (try have hfu151_3 := blk_frozen BK151.out 3); (try have hcu151_3 : w26.cell? ⟨gb151, 3, none⟩ = some (.int .i64 0) := (blk_cell BK151.out 3).trans rfl)) | ((with_reducible refine gate_callee (f := 17) rfl ?_); refine zgl (some 15) Tryd.func17 #[.string a0, .string (⟨#[32]⟩ : ByteArray)] ?_; (with_reducible refine (strings_Split.calls a0 (⟨#[32]⟩ : ByteArray) t156 _ ?side1 A9.out).mono ?_); (case side1 => exact HTD.out.on (zl_ HB)); rintro e w29 ⟨v157, rfl, ho0, hb⟩; refine ⟨_, rfl, ?_⟩; have HO158 := Aside0.mk (Kd.R_lower (Kd.R_new' ho0 (Kd.R_lt (zr HO154))) (below_size (zl_ HB))); replace HO154 := Aside0.mk (Kd.R_elder' (zr HO154) (Kd.R_base ho0) hb); replace BK151 := zb BK151 hb; replace HB := zs_ HB hb; (try clear hb); (try clear hb2); (try clear hk); (try clear hi); (try clear ho0); obtain ⟨Ao30, co30, eo30⟩ := Kd.R_slice HO158.out; subst eo30; have p159 : 0 ≤ (1 : Int) := (by omega); have q159 : 1 < (t156.length : Int) := zo_; obtain ⟨ad159, e159, hx159_0⟩ := Kd.at_string (Kd.R_reads' HO158.out).2.2 1 p159 q159; cases e159; (try simp only [show (1 : Int).toNat = 1 from rfl, Nat.reduceMul, Nat.reduceEqDiff, Go.Addr.add, ↓reduceIte] at hx159_0); have qi159 : (1 < t156.length) = True := eq_true (by omega); (try rw [show ((1 : Int)).toNat = 1 from rfl] at hx159_0); replace p159 := eq_true p159; replace q159 := eq_true q159) | ((with_reducible refine gate_dst (N := 5) rfl ?_); refine zbx (N := 5) (cs := #[.string (⟨#[]⟩ : ByteArray), .int .i64 0, .int .i64 0, .int .i64 0]) (t := 23) ?_; intro gb160 hg w31 hbox hb; replace HO154 := zrb HO154 hb; replace HO158 := zrb HO158 hb; have BK160 := Aside0.mk (hbox); have GW160 := zw_ HB hg; have GE160 := zw_ HB hg; replace HB := zs_ HB hb; have NB151_160 := zl hg BK151; have NB160_151 := zg hg BK151; replace BK151 := zb BK151 hb; clear hb hbox hg; have hnb32 := NB160_151.out; have hnc32 := NB151_160.out; obtain ⟨hcz33_0, hcz33_1, hcz33_2, hcz33_3, hfz33_0, hfz33_1, hfz33_2, hfz33_3⟩ := zc4 BK160) | ((with_reducible refine gate_dst (N := 27) rfl ?_); refine zsl (n := 3) (cs := #[.pointer (some ⟨gb160, 1, none⟩), .pointer (some ⟨gb160, 2, none⟩), .pointer (some ⟨gb160, 3, none⟩)]) (t := 42) ?_; intro gp_ hgp_ wp_ hbox hb; have NBp1_ := znb hgp_ BK160; have NBp2_ : Aside0 (gp_ ≠ gb160) := ⟨fun e_ => NBp1_.out e_.symm⟩; have hnp1_ := NBp1_.out; have hnp2_ := NBp2_.out; replace HO154 := Aside0.mk (Kd.R_below (by (with_reducible repeat (first | apply Kd.R_alloc | apply Kd.R_drewN | apply Kd.R_drew)); exact (Kd.R_mono (zrf (Kd.R_types HO154.out BK160.out (by decide))) (fun _ h_ => h_.1))) hb); replace HO158 := Aside0.mk (Kd.R_below (by (with_reducible repeat (first | apply Kd.R_alloc | apply Kd.R_drewN | apply Kd.R_drew)); exact (Kd.R_mono (zrf (Kd.R_types HO158.out BK160.out (by decide))) (fun _ h_ => h_.1))) hb); replace BK151 := Aside0.mk (blk_below (g := gb151) (o := .cells #[.string (⟨#[]⟩ : ByteArray), .int .i64 0, .int .i64 0, .int .i64 0] 23 (0, 0)) (zq BK151) hb); replace BK160 := Aside0.mk (blk_below (g := gb160) (o := .cells #[.string (rdOf ByteArray.empty t156 1), .int .i64 0, .int .i64 0, .int .i64 0] 23 (0, 0)) (zq BK160) hb); replace HB := zs_ HB hb; have BKP_ := Aside0.mk hbox; clear hb hbox hgp_; have hcp0_ : wp_.cell? ⟨gp_, 0, none⟩ = some (.pointer (some ⟨gb160, 1, none⟩)) := (blk_cell BKP_.out 0).trans rfl; have p161 : 0 ≤ (2 : Int) := (by omega); have q161 : 2 < (t156.length : Int) := zo_; obtain ⟨ad161, e161, hx161_0⟩ := Kd.at_string (Kd.R_reads' HO158.out).2.2 2 p161 q161; obtain rfl : ad159 = ad161 := (by injection e161); (try simp only [show (2 : Int).toNat = 2 from rfl, Nat.reduceMul, Nat.reduceEqDiff, Go.Addr.add, ↓reduceIte] at hx161_0); have qi161 : (2 < t156.length) = True := eq_true (by omega); (try rw [show ((2 : Int)).toNat = 2 from rfl] at hx161_0); replace p161 := eq_true p161; replace q161 := eq_true q161))
                        refine wp_loop_rounds 4 ?_
                        rw [rounds_succ]
                        go_wp2_with (first | ((with_reducible refine gate_callee (f := 18) rfl ?_); refine zgl (some 40) Tryd.func18 #[.string (rdOf ByteArray.empty t156 2)] ?_; (with_reducible refine (impl_readNumber.calls (rdOf ByteArray.empty t156 2) t162 true _ ?side1 A13.out).mono ?_); (case side1 => exact HTD.out.on (zl_ HB)); rintro e w34 ⟨rfl, hb⟩; refine ⟨_, rfl, ?_⟩; replace HO154 := Aside0.mk (Kd.R_below (by (with_reducible repeat (first | apply Kd.R_alloc | apply Kd.R_drewN | apply Kd.R_drew)); exact (Kd.R_mono (zrf (Kd.R_types HO154.out BK160.out (by decide))) (fun _ h_ => h_.1))) hb); replace HO158 := Aside0.mk (Kd.R_below (by (with_reducible repeat (first | apply Kd.R_alloc | apply Kd.R_drewN | apply Kd.R_drew)); exact (Kd.R_mono (zrf (Kd.R_types HO158.out BK160.out (by decide))) (fun _ h_ => h_.1))) hb); replace BK151 := Aside0.mk (blk_below (g := gb151) (o := .cells #[.string (⟨#[]⟩ : ByteArray), .int .i64 0, .int .i64 0, .int .i64 0] 23 (0, 0)) (zq BK151) hb); replace BK160 := Aside0.mk (blk_below (g := gb160) (o := .cells #[.string (rdOf ByteArray.empty t156 1), .int .i64 0, .int .i64 0, .int .i64 0] 23 (0, 0)) (zq BK160) hb); replace BKP_ := Aside0.mk (blk_below (g := gp_) (o := .cells #[.pointer (some ⟨gb160, 1, none⟩), .pointer (some ⟨gb160, 2, none⟩), .pointer (some ⟨gb160, 3, none⟩)] 42 (0, 0)) (zq BKP_) hb); replace HB := zs_ HB hb; (try clear hb); (try clear hb2); (try clear hk); (try clear hi); obtain ⟨hcz35_0, hcz35_1, hcz35_2, hcz35_3, hfz35_0, hfz35_1, hfz35_2, hfz35_3⟩ := zc4 BK160; have p164 : 0 ≤ (3 : Int) := (by omega); have q164 : 3 < (t156.length : Int) := zo_; obtain ⟨ad164, e164, hx164_0⟩ := Kd.at_string (Kd.R_reads' HO158.out).2.2 3 p164 q164; obtain rfl : ad159 = ad164 := (by injection e164); (try simp only [show (3 : Int).toNat = 3 from rfl, Nat.reduceMul, Nat.reduceEqDiff, Go.Addr.add, ↓reduceIte] at hx164_0); have qi164 : (3 < t156.length) = True := eq_true (by omega); (try rw [show ((3 : Int)).toNat = 3 from rfl] at hx164_0); have hn164_0 : ad159.block ≠ gb160 := Kd.own_blk (Kd.R_ne HO158.out BK160.out (by decide)); replace hx164_0 := (cell_far (p := ⟨gb160, 1, none⟩) (by first | (rw [add_block]; exact hn164_0) | (show (Addr.add _ _).block ≠ _; rw [add_block]; exact hn164_0) | exact hn164_0) (.int .i64 t162)).trans hx164_0; clear hn164_0; replace p164 := eq_true p164; replace q164 := eq_true q164; have hcp1_ : (w34.setCell ⟨gb160, 1, none⟩ (.int .i64 t162)).cell? ⟨gp_, 1, none⟩ = some (.pointer (some ⟨gb160, 2, none⟩)) := (cell_far (p := ⟨gb160, 1, none⟩) hnp2_ (.int .i64 t162)).trans ((blk_cell BKP_.out 1).trans rfl)))
                        rw [rounds_succ]
                        go_wp2_with (first | ((with_reducible refine gate_callee (f := 18) rfl ?_); refine zgl (some 40) Tryd.func18 #[.string (rdOf ByteArray.empty t156 3)] ?_; (with_reducible refine (impl_readNumber.calls (rdOf ByteArray.empty t156 3) t165 true _ ?side1 A16.out).mono ?_); (case side1 => exact HTD.out.on (zl_ HB)); rintro e w36 ⟨rfl, hb⟩; refine ⟨_, rfl, ?_⟩; replace HO154 := Aside0.mk (Kd.R_below (by (with_reducible repeat (first | apply Kd.R_alloc | apply Kd.R_drewN | apply Kd.R_drew)); exact (Kd.R_mono (zrf (Kd.R_types HO154.out BK160.out (by decide))) (fun _ h_ => h_.1))) hb); replace HO158 := Aside0.mk (Kd.R_below (by (with_reducible repeat (first | apply Kd.R_alloc | apply Kd.R_drewN | apply Kd.R_drew)); exact (Kd.R_mono (zrf (Kd.R_types HO158.out BK160.out (by decide))) (fun _ h_ => h_.1))) hb); replace BK151 := Aside0.mk (blk_below (g := gb151) (o := .cells #[.string (⟨#[]⟩ : ByteArray), .int .i64 0, .int .i64 0, .int .i64 0] 23 (0, 0)) (zq BK151) hb); replace BK160 := Aside0.mk (blk_below (g := gb160) (o := .cells #[.string (rdOf ByteArray.empty t156 1), .int .i64 t162, .int .i64 0, .int .i64 0] 23 (0, 0)) (zq BK160) hb); replace BKP_ := Aside0.mk (blk_below (g := gp_) (o := .cells #[.pointer (some ⟨gb160, 1, none⟩), .pointer (some ⟨gb160, 2, none⟩), .pointer (some ⟨gb160, 3, none⟩)] 42 (0, 0)) (zq BKP_) hb); replace HB := zs_ HB hb; (try clear hb); (try clear hb2); (try clear hk); (try clear hi); obtain ⟨hcz37_0, hcz37_1, hcz37_2, hcz37_3, hfz37_0, hfz37_1, hfz37_2, hfz37_3⟩ := zc4 BK160; have p167 : 0 ≤ (4 : Int) := (by omega); have q167 : 4 < (t156.length : Int) := zo_; obtain ⟨ad167, e167, hx167_0⟩ := Kd.at_string (Kd.R_reads' HO158.out).2.2 4 p167 q167; obtain rfl : ad159 = ad167 := (by injection e167); (try simp only [show (4 : Int).toNat = 4 from rfl, Nat.reduceMul, Nat.reduceEqDiff, Go.Addr.add, ↓reduceIte] at hx167_0); have qi167 : (4 < t156.length) = True := eq_true (by omega); (try rw [show ((4 : Int)).toNat = 4 from rfl] at hx167_0); have hn167_0 : ad159.block ≠ gb160 := Kd.own_blk (Kd.R_ne HO158.out BK160.out (by decide)); replace hx167_0 := (cell_far (p := ⟨gb160, 2, none⟩) (by first | (rw [add_block]; exact hn167_0) | (show (Addr.add _ _).block ≠ _; rw [add_block]; exact hn167_0) | exact hn167_0) (.int .i64 t165)).trans hx167_0; clear hn167_0; replace p167 := eq_true p167; replace q167 := eq_true q167; have hcp2_ : (w36.setCell ⟨gb160, 2, none⟩ (.int .i64 t165)).cell? ⟨gp_, 2, none⟩ = some (.pointer (some ⟨gb160, 3, none⟩)) := (cell_far (p := ⟨gb160, 2, none⟩) hnp2_ (.int .i64 t165)).trans ((blk_cell BKP_.out 2).trans rfl)))
                        rw [rounds_succ]
                        go_wp2_with (first | ((with_reducible refine gate_callee (f := 18) rfl ?_); refine zgl (some 40) Tryd.func18 #[.string (rdOf ByteArray.empty t156 4)] ?_; (with_reducible refine (impl_readNumber.calls (rdOf ByteArray.empty t156 4) t168 true _ ?side1 A19.out).mono ?_); (case side1 => exact HTD.out.on (zl_ HB)); rintro e w38 ⟨rfl, hb⟩; refine ⟨_, rfl, ?_⟩; replace HO154 := Aside0.mk (Kd.R_below (by (with_reducible repeat (first | apply Kd.R_alloc | apply Kd.R_drewN | apply Kd.R_drew)); exact (Kd.R_mono (zrf (Kd.R_types HO154.out BK160.out (by decide))) (fun _ h_ => h_.1))) hb); replace HO158 := Aside0.mk (Kd.R_below (by (with_reducible repeat (first | apply Kd.R_alloc | apply Kd.R_drewN | apply Kd.R_drew)); exact (Kd.R_mono (zrf (Kd.R_types HO158.out BK160.out (by decide))) (fun _ h_ => h_.1))) hb); replace BK151 := Aside0.mk (blk_below (g := gb151) (o := .cells #[.string (⟨#[]⟩ : ByteArray), .int .i64 0, .int .i64 0, .int .i64 0] 23 (0, 0)) (zq BK151) hb); replace BK160 := Aside0.mk (blk_below (g := gb160) (o := .cells #[.string (rdOf ByteArray.empty t156 1), .int .i64 t162, .int .i64 t165, .int .i64 0] 23 (0, 0)) (zq BK160) hb); replace BKP_ := Aside0.mk (blk_below (g := gp_) (o := .cells #[.pointer (some ⟨gb160, 1, none⟩), .pointer (some ⟨gb160, 2, none⟩), .pointer (some ⟨gb160, 3, none⟩)] 42 (0, 0)) (zq BKP_) hb); replace HB := zs_ HB hb; (try clear hb); (try clear hb2); (try clear hk); (try clear hi); obtain ⟨hcz39_0, hcz39_1, hcz39_2, hcz39_3, hfz39_0, hfz39_1, hfz39_2, hfz39_3⟩ := zc4 BK160))
                        rw [rounds_succ]
                        go_wp2_with (first | ((with_reducible refine gate_callee (f := 11) rfl ?_); refine zgl (some 51) Tryd.func11 #[.agg #[.string (rdOf ByteArray.empty t156 1), .int .i64 t162, .int .i64 t165, .int .i64 t168]] ?_; (with_reducible refine (impl_GrantOK.calls k (rdOf ByteArray.empty t156 1) t162 t165 t168 true _ A21.out).mono ?_); rintro e w40 ⟨rfl, hb⟩; refine ⟨_, rfl, ?_⟩; replace HO154 := Aside0.mk (Kd.R_below (by (with_reducible repeat (first | apply Kd.R_alloc | apply Kd.R_drewN | apply Kd.R_drew)); exact (Kd.R_mono (zrf (Kd.R_types HO154.out BK160.out (by decide))) (fun _ h_ => h_.1))) hb); replace HO158 := Aside0.mk (Kd.R_below (by (with_reducible repeat (first | apply Kd.R_alloc | apply Kd.R_drewN | apply Kd.R_drew)); exact (Kd.R_mono (zrf (Kd.R_types HO158.out BK160.out (by decide))) (fun _ h_ => h_.1))) hb); replace BK151 := Aside0.mk (blk_below (g := gb151) (o := .cells #[.string (⟨#[]⟩ : ByteArray), .int .i64 0, .int .i64 0, .int .i64 0] 23 (0, 0)) (zq BK151) hb); replace BK160 := Aside0.mk (blk_below (g := gb160) (o := .cells #[.string (rdOf ByteArray.empty t156 1), .int .i64 t162, .int .i64 t165, .int .i64 t168] 23 (0, 0)) (zq BK160) hb); replace HB := zs_ HB hb; (try clear hb); (try clear hb2); (try clear hk); (try clear hi); obtain ⟨hcz41_0, hcz41_1, hcz41_2, hcz41_3, hfz41_0, hfz41_1, hfz41_2, hfz41_3⟩ := zc4 BK160) | (go_at_call 19; (with_reducible refine (impl_grantText.calls (rdOf ByteArray.empty t156 1) t162 t165 t168 t171 _ ?side1 A23.out).mono ?_); (case side1 => exact HTD.out.on (zl_ HB)); rintro e w42 ⟨rfl, hb⟩; replace HO154 := zrb HO154 hb; replace HO158 := zrb HO158 hb; replace BK151 := zb BK151 hb; replace BK160 := zb BK160 hb; replace HB := zs_ HB hb; (try clear hb); (try clear hb2); (try clear hk); (try clear hi); obtain ⟨hcz43_0, hcz43_1, hcz43_2, hcz43_3, hfz43_0, hfz43_1, hfz43_2, hfz43_3⟩ := zc4 BK160; obtain ⟨hcz44_0, hcz44_1, hcz44_2, hcz44_3, hfz44_0, hfz44_1, hfz44_2, hfz44_3⟩ := zc4 BK151))
                        refine bodyPost_ret (results_ct rfl _ _ gb151 23 #[.string (rdOf ByteArray.empty t156 1), .int .i64 t162, .int .i64 t165, .int .i64 t168] (0, 0) _ rfl (zq BK151) Tryd.underlying23 rfl (by kernel_rfl)) rfl ?_
                        exact ⟨zt_, zl_ HB⟩
                      · rw [if_neg c24] at H
                        have c24b0 : (t171.toList == a0.toList) = false := beq_eq_false_iff_ne.mpr c24
                        have c24b1 : (t171.toList != a0.toList) = true := bne_iff_ne.mpr c24
                        simp only [Option.some.injEq, Prod.mk.injEq] at H
                        obtain ⟨rfl, rfl, rfl, rfl, rfl⟩ := H
                        go_enter Tryd.func6, Tryd.ntmps6
                        go_wp2_with (first | ((with_reducible refine gate_dst (N := 2) rfl ?_); refine zbx (N := 2) (cs := #[.string (⟨#[]⟩ : ByteArray), .int .i64 0, .int .i64 0, .int .i64 0]) (t := 23) ?_; intro gb151 hg w45 hbox hb; have BK151 := Aside0.mk (hbox); have GW151 := zw_ HB hg; have GE151 := zw_ HB hg; replace HB := zs_ HB hb; clear hb hbox hg) | ((with_reducible refine gate_dst (N := 11) rfl ?_); refine Kd.R_lit Kd.string _ 9 ?hg (N := 11) ?hd (xs := ([a0] : List ByteArray)) (inner := [.string a0]) (ok := fun _ => True) (okp := fun _ => True) ?hr ?hp (fun _ hk => hk) trivial (Below.refl _ _) (Nat.le_refl _) (by simp) ?_; (case hd => rfl); (case hg => rfl); (case hr => first | (go_simp; done) | (go_simp; rfl)); (case hp => exact (Reps.one (show Kd.M Kd.string _ _ _ a0 [.string a0] from rfl) (Reps.none _ _))); intro v153 w46 ho47 hb hg_ hnew_; clear hg_ hnew_; (first | rw [← Ny152.out] at ho47 | (simp only [Int.reduceToNat] at ho47; rw [← Ny152.out] at ho47)); have HO154 := Aside0.mk (Kd.R_lower ho47 (below_size (zl_ HB))); replace BK151 := zb BK151 hb; replace HB := zs_ HB hb; clear hb ho47; obtain ⟨Ao48, co48, eo48⟩ := Kd.R_slice HO154.out; subst eo48) | ((with_reducible refine gate_callee (f := 16) rfl ?_); refine zgl (some 12) Tryd.func16 #[.slice Ao48 y152.length co48] ?_; (with_reducible refine (impl_areLong.calls _ _ y152 false _ ?side1 ?side2 A2.out).mono ?_); (case side1 => repeat (first | exact (Kd.R_reads' HO154.out).2.2 | (with_reducible refine Kd.C_alloc ?_ _) | (with_reducible refine Kd.C_drewN ?_ _) | (with_reducible refine Kd.C_drew ?_))); (case side2 => exact (Kd.R_reads' HO154.out).2.1); rintro e w' ⟨rfl, ⟨nd, rfl⟩⟩; refine ⟨_, rfl, ?_⟩; (try (rw [drewN_self w46]; generalize hq_ : World.drewN w46 _ = w46; have n0_ : Aside0 (Kd.R Kd.string 9 w46 w.heap.size (fun _ => True) (.slice Ao48 y152.length co48) y152) := ⟨by rw [← hq_]; exact (zr HO154)⟩; have n1_ : Aside0 (w46.heap[gb151]? = some (.cells #[.string (⟨#[]⟩ : ByteArray), .int .i64 0, .int .i64 0, .int .i64 0] 23 (0, 0))) := ⟨by rw [← hq_]; exact (zk BK151)⟩; have n2_ : Aside0 (Below w.heap.size w w46) := ⟨by rw [← hq_]; exact (zl_ HB)⟩; clear HO154 BK151 HB hq_; have HO154 := n0_; have BK151 := n1_; have HB := n2_; clear n0_ n1_ n2_)); (try have hfu151_0 := blk_frozen BK151.out 0); (try have hcu151_0 : w46.cell? ⟨gb151, 0, none⟩ = some (.string (⟨#[]⟩ : ByteArray)) := (blk_cell BK151.out 0).trans rfl); (try have hfu151_1 := blk_frozen BK151.out 1); (try have hcu151_1 : w46.cell? ⟨gb151, 1, none⟩ = some (.int .i64 0) := (blk_cell BK151.out 1).trans rfl); (try have hfu151_2 := blk_frozen BK151.out 2); (try have hcu151_2 : w46.cell? ⟨gb151, 2, none⟩ = some (.int .i64 0) := (blk_cell BK151.out 2).trans rfl); (try have hfu151_3 := blk_frozen BK151.out 3); (try have hcu151_3 : w46.cell? ⟨gb151, 3, none⟩ = some (.int .i64 0) := (blk_cell BK151.out 3).trans rfl)) | ((with_reducible refine gate_callee (f := 17) rfl ?_); refine zgl (some 15) Tryd.func17 #[.string a0, .string (⟨#[32]⟩ : ByteArray)] ?_; (with_reducible refine (strings_Split.calls a0 (⟨#[32]⟩ : ByteArray) t156 _ ?side1 A9.out).mono ?_); (case side1 => exact HTD.out.on (zl_ HB)); rintro e w49 ⟨v157, rfl, ho0, hb⟩; refine ⟨_, rfl, ?_⟩; have HO158 := Aside0.mk (Kd.R_lower (Kd.R_new' ho0 (Kd.R_lt (zr HO154))) (below_size (zl_ HB))); replace BK151 := zb BK151 hb; replace HB := zs_ HB hb; (try clear hb); (try clear hb2); (try clear hk); (try clear hi); (try clear ho0); obtain ⟨Ao50, co50, eo50⟩ := Kd.R_slice HO158.out; subst eo50; have p159 : 0 ≤ (1 : Int) := (by omega); have q159 : 1 < (t156.length : Int) := zo_; obtain ⟨ad159, e159, hx159_0⟩ := Kd.at_string (Kd.R_reads' HO158.out).2.2 1 p159 q159; cases e159; (try simp only [show (1 : Int).toNat = 1 from rfl, Nat.reduceMul, Nat.reduceEqDiff, Go.Addr.add, ↓reduceIte] at hx159_0); have qi159 : (1 < t156.length) = True := eq_true (by omega); (try rw [show ((1 : Int)).toNat = 1 from rfl] at hx159_0); replace p159 := eq_true p159; replace q159 := eq_true q159) | ((with_reducible refine gate_dst (N := 5) rfl ?_); refine zbx (N := 5) (cs := #[.string (⟨#[]⟩ : ByteArray), .int .i64 0, .int .i64 0, .int .i64 0]) (t := 23) ?_; intro gb160 hg w51 hbox hb; replace HO158 := zrb HO158 hb; have BK160 := Aside0.mk (hbox); have GW160 := zw_ HB hg; have GE160 := zw_ HB hg; replace HB := zs_ HB hb; have NB151_160 := zl hg BK151; have NB160_151 := zg hg BK151; replace BK151 := zb BK151 hb; clear hb hbox hg; have hnb52 := NB160_151.out; have hnc52 := NB151_160.out; obtain ⟨hcz53_0, hcz53_1, hcz53_2, hcz53_3, hfz53_0, hfz53_1, hfz53_2, hfz53_3⟩ := zc4 BK160) | ((with_reducible refine gate_dst (N := 27) rfl ?_); refine zsl (n := 3) (cs := #[.pointer (some ⟨gb160, 1, none⟩), .pointer (some ⟨gb160, 2, none⟩), .pointer (some ⟨gb160, 3, none⟩)]) (t := 42) ?_; intro gp_ hgp_ wp_ hbox hb; have NBp1_ := znb hgp_ BK160; have NBp2_ : Aside0 (gp_ ≠ gb160) := ⟨fun e_ => NBp1_.out e_.symm⟩; have hnp1_ := NBp1_.out; have hnp2_ := NBp2_.out; replace HO158 := Aside0.mk (Kd.R_below (by (with_reducible repeat (first | apply Kd.R_alloc | apply Kd.R_drewN | apply Kd.R_drew)); exact (Kd.R_mono (zrf (Kd.R_types HO158.out BK160.out (by decide))) (fun _ h_ => h_.1))) hb); replace BK151 := Aside0.mk (blk_below (g := gb151) (o := .cells #[.string (⟨#[]⟩ : ByteArray), .int .i64 0, .int .i64 0, .int .i64 0] 23 (0, 0)) (zq BK151) hb); replace BK160 := Aside0.mk (blk_below (g := gb160) (o := .cells #[.string (rdOf ByteArray.empty t156 1), .int .i64 0, .int .i64 0, .int .i64 0] 23 (0, 0)) (zq BK160) hb); replace HB := zs_ HB hb; have BKP_ := Aside0.mk hbox; clear hb hbox hgp_; have hcp0_ : wp_.cell? ⟨gp_, 0, none⟩ = some (.pointer (some ⟨gb160, 1, none⟩)) := (blk_cell BKP_.out 0).trans rfl; have p161 : 0 ≤ (2 : Int) := (by omega); have q161 : 2 < (t156.length : Int) := zo_; obtain ⟨ad161, e161, hx161_0⟩ := Kd.at_string (Kd.R_reads' HO158.out).2.2 2 p161 q161; obtain rfl : ad159 = ad161 := (by injection e161); (try simp only [show (2 : Int).toNat = 2 from rfl, Nat.reduceMul, Nat.reduceEqDiff, Go.Addr.add, ↓reduceIte] at hx161_0); have qi161 : (2 < t156.length) = True := eq_true (by omega); (try rw [show ((2 : Int)).toNat = 2 from rfl] at hx161_0); replace p161 := eq_true p161; replace q161 := eq_true q161))
                        refine wp_loop_rounds 4 ?_
                        rw [rounds_succ]
                        go_wp2_with (first | ((with_reducible refine gate_callee (f := 18) rfl ?_); refine zgl (some 40) Tryd.func18 #[.string (rdOf ByteArray.empty t156 2)] ?_; (with_reducible refine (impl_readNumber.calls (rdOf ByteArray.empty t156 2) t162 true _ ?side1 A13.out).mono ?_); (case side1 => exact HTD.out.on (zl_ HB)); rintro e w54 ⟨rfl, hb⟩; refine ⟨_, rfl, ?_⟩; replace HO158 := Aside0.mk (Kd.R_below (by (with_reducible repeat (first | apply Kd.R_alloc | apply Kd.R_drewN | apply Kd.R_drew)); exact (Kd.R_mono (zrf (Kd.R_types HO158.out BK160.out (by decide))) (fun _ h_ => h_.1))) hb); replace BK151 := Aside0.mk (blk_below (g := gb151) (o := .cells #[.string (⟨#[]⟩ : ByteArray), .int .i64 0, .int .i64 0, .int .i64 0] 23 (0, 0)) (zq BK151) hb); replace BK160 := Aside0.mk (blk_below (g := gb160) (o := .cells #[.string (rdOf ByteArray.empty t156 1), .int .i64 0, .int .i64 0, .int .i64 0] 23 (0, 0)) (zq BK160) hb); replace BKP_ := Aside0.mk (blk_below (g := gp_) (o := .cells #[.pointer (some ⟨gb160, 1, none⟩), .pointer (some ⟨gb160, 2, none⟩), .pointer (some ⟨gb160, 3, none⟩)] 42 (0, 0)) (zq BKP_) hb); replace HB := zs_ HB hb; (try clear hb); (try clear hb2); (try clear hk); (try clear hi); obtain ⟨hcz55_0, hcz55_1, hcz55_2, hcz55_3, hfz55_0, hfz55_1, hfz55_2, hfz55_3⟩ := zc4 BK160; have p164 : 0 ≤ (3 : Int) := (by omega); have q164 : 3 < (t156.length : Int) := zo_; obtain ⟨ad164, e164, hx164_0⟩ := Kd.at_string (Kd.R_reads' HO158.out).2.2 3 p164 q164; obtain rfl : ad159 = ad164 := (by injection e164); (try simp only [show (3 : Int).toNat = 3 from rfl, Nat.reduceMul, Nat.reduceEqDiff, Go.Addr.add, ↓reduceIte] at hx164_0); have qi164 : (3 < t156.length) = True := eq_true (by omega); (try rw [show ((3 : Int)).toNat = 3 from rfl] at hx164_0); have hn164_0 : ad159.block ≠ gb160 := Kd.own_blk (Kd.R_ne HO158.out BK160.out (by decide)); replace hx164_0 := (cell_far (p := ⟨gb160, 1, none⟩) (by first | (rw [add_block]; exact hn164_0) | (show (Addr.add _ _).block ≠ _; rw [add_block]; exact hn164_0) | exact hn164_0) (.int .i64 t162)).trans hx164_0; clear hn164_0; replace p164 := eq_true p164; replace q164 := eq_true q164; have hcp1_ : (w54.setCell ⟨gb160, 1, none⟩ (.int .i64 t162)).cell? ⟨gp_, 1, none⟩ = some (.pointer (some ⟨gb160, 2, none⟩)) := (cell_far (p := ⟨gb160, 1, none⟩) hnp2_ (.int .i64 t162)).trans ((blk_cell BKP_.out 1).trans rfl)))
                        rw [rounds_succ]
                        go_wp2_with (first | ((with_reducible refine gate_callee (f := 18) rfl ?_); refine zgl (some 40) Tryd.func18 #[.string (rdOf ByteArray.empty t156 3)] ?_; (with_reducible refine (impl_readNumber.calls (rdOf ByteArray.empty t156 3) t165 true _ ?side1 A16.out).mono ?_); (case side1 => exact HTD.out.on (zl_ HB)); rintro e w56 ⟨rfl, hb⟩; refine ⟨_, rfl, ?_⟩; replace HO158 := Aside0.mk (Kd.R_below (by (with_reducible repeat (first | apply Kd.R_alloc | apply Kd.R_drewN | apply Kd.R_drew)); exact (Kd.R_mono (zrf (Kd.R_types HO158.out BK160.out (by decide))) (fun _ h_ => h_.1))) hb); replace BK151 := Aside0.mk (blk_below (g := gb151) (o := .cells #[.string (⟨#[]⟩ : ByteArray), .int .i64 0, .int .i64 0, .int .i64 0] 23 (0, 0)) (zq BK151) hb); replace BK160 := Aside0.mk (blk_below (g := gb160) (o := .cells #[.string (rdOf ByteArray.empty t156 1), .int .i64 t162, .int .i64 0, .int .i64 0] 23 (0, 0)) (zq BK160) hb); replace BKP_ := Aside0.mk (blk_below (g := gp_) (o := .cells #[.pointer (some ⟨gb160, 1, none⟩), .pointer (some ⟨gb160, 2, none⟩), .pointer (some ⟨gb160, 3, none⟩)] 42 (0, 0)) (zq BKP_) hb); replace HB := zs_ HB hb; (try clear hb); (try clear hb2); (try clear hk); (try clear hi); obtain ⟨hcz57_0, hcz57_1, hcz57_2, hcz57_3, hfz57_0, hfz57_1, hfz57_2, hfz57_3⟩ := zc4 BK160; have p167 : 0 ≤ (4 : Int) := (by omega); have q167 : 4 < (t156.length : Int) := zo_; obtain ⟨ad167, e167, hx167_0⟩ := Kd.at_string (Kd.R_reads' HO158.out).2.2 4 p167 q167; obtain rfl : ad159 = ad167 := (by injection e167); (try simp only [show (4 : Int).toNat = 4 from rfl, Nat.reduceMul, Nat.reduceEqDiff, Go.Addr.add, ↓reduceIte] at hx167_0); have qi167 : (4 < t156.length) = True := eq_true (by omega); (try rw [show ((4 : Int)).toNat = 4 from rfl] at hx167_0); have hn167_0 : ad159.block ≠ gb160 := Kd.own_blk (Kd.R_ne HO158.out BK160.out (by decide)); replace hx167_0 := (cell_far (p := ⟨gb160, 2, none⟩) (by first | (rw [add_block]; exact hn167_0) | (show (Addr.add _ _).block ≠ _; rw [add_block]; exact hn167_0) | exact hn167_0) (.int .i64 t165)).trans hx167_0; clear hn167_0; replace p167 := eq_true p167; replace q167 := eq_true q167; have hcp2_ : (w56.setCell ⟨gb160, 2, none⟩ (.int .i64 t165)).cell? ⟨gp_, 2, none⟩ = some (.pointer (some ⟨gb160, 3, none⟩)) := (cell_far (p := ⟨gb160, 2, none⟩) hnp2_ (.int .i64 t165)).trans ((blk_cell BKP_.out 2).trans rfl)))
                        rw [rounds_succ]
                        go_wp2_with (first | ((with_reducible refine gate_callee (f := 18) rfl ?_); refine zgl (some 40) Tryd.func18 #[.string (rdOf ByteArray.empty t156 4)] ?_; (with_reducible refine (impl_readNumber.calls (rdOf ByteArray.empty t156 4) t168 true _ ?side1 A19.out).mono ?_); (case side1 => exact HTD.out.on (zl_ HB)); rintro e w58 ⟨rfl, hb⟩; refine ⟨_, rfl, ?_⟩; replace BK151 := Aside0.mk (blk_below (g := gb151) (o := .cells #[.string (⟨#[]⟩ : ByteArray), .int .i64 0, .int .i64 0, .int .i64 0] 23 (0, 0)) (zq BK151) hb); replace BK160 := Aside0.mk (blk_below (g := gb160) (o := .cells #[.string (rdOf ByteArray.empty t156 1), .int .i64 t162, .int .i64 t165, .int .i64 0] 23 (0, 0)) (zq BK160) hb); replace BKP_ := Aside0.mk (blk_below (g := gp_) (o := .cells #[.pointer (some ⟨gb160, 1, none⟩), .pointer (some ⟨gb160, 2, none⟩), .pointer (some ⟨gb160, 3, none⟩)] 42 (0, 0)) (zq BKP_) hb); replace HB := zs_ HB hb; (try clear hb); (try clear hb2); (try clear hk); (try clear hi); obtain ⟨hcz59_0, hcz59_1, hcz59_2, hcz59_3, hfz59_0, hfz59_1, hfz59_2, hfz59_3⟩ := zc4 BK160))
                        rw [rounds_succ]
                        go_wp2_with (first | ((with_reducible refine gate_callee (f := 11) rfl ?_); refine zgl (some 51) Tryd.func11 #[.agg #[.string (rdOf ByteArray.empty t156 1), .int .i64 t162, .int .i64 t165, .int .i64 t168]] ?_; (with_reducible refine (impl_GrantOK.calls k (rdOf ByteArray.empty t156 1) t162 t165 t168 true _ A21.out).mono ?_); rintro e w60 ⟨rfl, hb⟩; refine ⟨_, rfl, ?_⟩; replace BK151 := Aside0.mk (blk_below (g := gb151) (o := .cells #[.string (⟨#[]⟩ : ByteArray), .int .i64 0, .int .i64 0, .int .i64 0] 23 (0, 0)) (zq BK151) hb); replace BK160 := Aside0.mk (blk_below (g := gb160) (o := .cells #[.string (rdOf ByteArray.empty t156 1), .int .i64 t162, .int .i64 t165, .int .i64 t168] 23 (0, 0)) (zq BK160) hb); replace HB := zs_ HB hb; (try clear hb); (try clear hb2); (try clear hk); (try clear hi); obtain ⟨hcz61_0, hcz61_1, hcz61_2, hcz61_3, hfz61_0, hfz61_1, hfz61_2, hfz61_3⟩ := zc4 BK160) | (go_at_call 19; (with_reducible refine (impl_grantText.calls (rdOf ByteArray.empty t156 1) t162 t165 t168 t171 _ ?side1 A23.out).mono ?_); (case side1 => exact HTD.out.on (zl_ HB)); rintro e w62 ⟨rfl, hb⟩; replace BK151 := zb BK151 hb; replace HB := zs_ HB hb; (try clear hb); (try clear hb2); (try clear hk); (try clear hi); obtain ⟨hcz63_0, hcz63_1, hcz63_2, hcz63_3, hfz63_0, hfz63_1, hfz63_2, hfz63_3⟩ := zc4 BK151))
                        refine bodyPost_ret (results_ct rfl _ _ gb151 23 #[.string (⟨#[]⟩ : ByteArray), .int .i64 0, .int .i64 0, .int .i64 0] (0, 0) _ rfl (zq BK151) Tryd.underlying23 rfl (by kernel_rfl)) rfl ?_
                        exact ⟨zt_, zl_ HB⟩
                    · replace c22 := Bool.eq_false_iff.mpr c22
                      subst c22
                      have H1 : (some ((⟨#[]⟩ : ByteArray), 0, 0, 0, 3)) = some (r1, r2, r3, r4, r5) := by rw [if_neg (show ¬ (false = true) by decide)] at H; exact H
                      clear H
                      have H := H1
                      clear H1
                      simp only [Option.some.injEq, Prod.mk.injEq] at H
                      obtain ⟨rfl, rfl, rfl, rfl, rfl⟩ := H
                      go_enter Tryd.func6, Tryd.ntmps6
                      go_wp2_with (first | ((with_reducible refine gate_dst (N := 2) rfl ?_); refine zbx (N := 2) (cs := #[.string (⟨#[]⟩ : ByteArray), .int .i64 0, .int .i64 0, .int .i64 0]) (t := 23) ?_; intro gb151 hg w64 hbox hb; have BK151 := Aside0.mk (hbox); have GW151 := zw_ HB hg; have GE151 := zw_ HB hg; replace HB := zs_ HB hb; clear hb hbox hg) | ((with_reducible refine gate_dst (N := 11) rfl ?_); refine Kd.R_lit Kd.string _ 9 ?hg (N := 11) ?hd (xs := ([a0] : List ByteArray)) (inner := [.string a0]) (ok := fun _ => True) (okp := fun _ => True) ?hr ?hp (fun _ hk => hk) trivial (Below.refl _ _) (Nat.le_refl _) (by simp) ?_; (case hd => rfl); (case hg => rfl); (case hr => first | (go_simp; done) | (go_simp; rfl)); (case hp => exact (Reps.one (show Kd.M Kd.string _ _ _ a0 [.string a0] from rfl) (Reps.none _ _))); intro v153 w65 ho66 hb hg_ hnew_; clear hg_ hnew_; (first | rw [← Ny152.out] at ho66 | (simp only [Int.reduceToNat] at ho66; rw [← Ny152.out] at ho66)); have HO154 := Aside0.mk (Kd.R_lower ho66 (below_size (zl_ HB))); replace BK151 := zb BK151 hb; replace HB := zs_ HB hb; clear hb ho66; obtain ⟨Ao67, co67, eo67⟩ := Kd.R_slice HO154.out; subst eo67) | ((with_reducible refine gate_callee (f := 16) rfl ?_); refine zgl (some 12) Tryd.func16 #[.slice Ao67 y152.length co67] ?_; (with_reducible refine (impl_areLong.calls _ _ y152 false _ ?side1 ?side2 A2.out).mono ?_); (case side1 => repeat (first | exact (Kd.R_reads' HO154.out).2.2 | (with_reducible refine Kd.C_alloc ?_ _) | (with_reducible refine Kd.C_drewN ?_ _) | (with_reducible refine Kd.C_drew ?_))); (case side2 => exact (Kd.R_reads' HO154.out).2.1); rintro e w' ⟨rfl, ⟨nd, rfl⟩⟩; refine ⟨_, rfl, ?_⟩; (try (rw [drewN_self w65]; generalize hq_ : World.drewN w65 _ = w65; have n0_ : Aside0 (Kd.R Kd.string 9 w65 w.heap.size (fun _ => True) (.slice Ao67 y152.length co67) y152) := ⟨by rw [← hq_]; exact (zr HO154)⟩; have n1_ : Aside0 (w65.heap[gb151]? = some (.cells #[.string (⟨#[]⟩ : ByteArray), .int .i64 0, .int .i64 0, .int .i64 0] 23 (0, 0))) := ⟨by rw [← hq_]; exact (zk BK151)⟩; have n2_ : Aside0 (Below w.heap.size w w65) := ⟨by rw [← hq_]; exact (zl_ HB)⟩; clear HO154 BK151 HB hq_; have HO154 := n0_; have BK151 := n1_; have HB := n2_; clear n0_ n1_ n2_)); (try have hfu151_0 := blk_frozen BK151.out 0); (try have hcu151_0 : w65.cell? ⟨gb151, 0, none⟩ = some (.string (⟨#[]⟩ : ByteArray)) := (blk_cell BK151.out 0).trans rfl); (try have hfu151_1 := blk_frozen BK151.out 1); (try have hcu151_1 : w65.cell? ⟨gb151, 1, none⟩ = some (.int .i64 0) := (blk_cell BK151.out 1).trans rfl); (try have hfu151_2 := blk_frozen BK151.out 2); (try have hcu151_2 : w65.cell? ⟨gb151, 2, none⟩ = some (.int .i64 0) := (blk_cell BK151.out 2).trans rfl); (try have hfu151_3 := blk_frozen BK151.out 3); (try have hcu151_3 : w65.cell? ⟨gb151, 3, none⟩ = some (.int .i64 0) := (blk_cell BK151.out 3).trans rfl)) | ((with_reducible refine gate_callee (f := 17) rfl ?_); refine zgl (some 15) Tryd.func17 #[.string a0, .string (⟨#[32]⟩ : ByteArray)] ?_; (with_reducible refine (strings_Split.calls a0 (⟨#[32]⟩ : ByteArray) t156 _ ?side1 A9.out).mono ?_); (case side1 => exact HTD.out.on (zl_ HB)); rintro e w68 ⟨v157, rfl, ho0, hb⟩; refine ⟨_, rfl, ?_⟩; have HO158 := Aside0.mk (Kd.R_lower (Kd.R_new' ho0 (Kd.R_lt (zr HO154))) (below_size (zl_ HB))); replace BK151 := zb BK151 hb; replace HB := zs_ HB hb; (try clear hb); (try clear hb2); (try clear hk); (try clear hi); (try clear ho0); obtain ⟨Ao69, co69, eo69⟩ := Kd.R_slice HO158.out; subst eo69; have p159 : 0 ≤ (1 : Int) := (by omega); have q159 : 1 < (t156.length : Int) := zo_; obtain ⟨ad159, e159, hx159_0⟩ := Kd.at_string (Kd.R_reads' HO158.out).2.2 1 p159 q159; cases e159; (try simp only [show (1 : Int).toNat = 1 from rfl, Nat.reduceMul, Nat.reduceEqDiff, Go.Addr.add, ↓reduceIte] at hx159_0); have qi159 : (1 < t156.length) = True := eq_true (by omega); (try rw [show ((1 : Int)).toNat = 1 from rfl] at hx159_0); replace p159 := eq_true p159; replace q159 := eq_true q159) | ((with_reducible refine gate_dst (N := 5) rfl ?_); refine zbx (N := 5) (cs := #[.string (⟨#[]⟩ : ByteArray), .int .i64 0, .int .i64 0, .int .i64 0]) (t := 23) ?_; intro gb160 hg w70 hbox hb; replace HO158 := zrb HO158 hb; have BK160 := Aside0.mk (hbox); have GW160 := zw_ HB hg; have GE160 := zw_ HB hg; replace HB := zs_ HB hb; have NB151_160 := zl hg BK151; have NB160_151 := zg hg BK151; replace BK151 := zb BK151 hb; clear hb hbox hg; have hnb71 := NB160_151.out; have hnc71 := NB151_160.out; obtain ⟨hcz72_0, hcz72_1, hcz72_2, hcz72_3, hfz72_0, hfz72_1, hfz72_2, hfz72_3⟩ := zc4 BK160) | ((with_reducible refine gate_dst (N := 27) rfl ?_); refine zsl (n := 3) (cs := #[.pointer (some ⟨gb160, 1, none⟩), .pointer (some ⟨gb160, 2, none⟩), .pointer (some ⟨gb160, 3, none⟩)]) (t := 42) ?_; intro gp_ hgp_ wp_ hbox hb; have NBp1_ := znb hgp_ BK160; have NBp2_ : Aside0 (gp_ ≠ gb160) := ⟨fun e_ => NBp1_.out e_.symm⟩; have hnp1_ := NBp1_.out; have hnp2_ := NBp2_.out; replace HO158 := Aside0.mk (Kd.R_below (by (with_reducible repeat (first | apply Kd.R_alloc | apply Kd.R_drewN | apply Kd.R_drew)); exact (Kd.R_mono (zrf (Kd.R_types HO158.out BK160.out (by decide))) (fun _ h_ => h_.1))) hb); replace BK151 := Aside0.mk (blk_below (g := gb151) (o := .cells #[.string (⟨#[]⟩ : ByteArray), .int .i64 0, .int .i64 0, .int .i64 0] 23 (0, 0)) (zq BK151) hb); replace BK160 := Aside0.mk (blk_below (g := gb160) (o := .cells #[.string (rdOf ByteArray.empty t156 1), .int .i64 0, .int .i64 0, .int .i64 0] 23 (0, 0)) (zq BK160) hb); replace HB := zs_ HB hb; have BKP_ := Aside0.mk hbox; clear hb hbox hgp_; have hcp0_ : wp_.cell? ⟨gp_, 0, none⟩ = some (.pointer (some ⟨gb160, 1, none⟩)) := (blk_cell BKP_.out 0).trans rfl; have p161 : 0 ≤ (2 : Int) := (by omega); have q161 : 2 < (t156.length : Int) := zo_; obtain ⟨ad161, e161, hx161_0⟩ := Kd.at_string (Kd.R_reads' HO158.out).2.2 2 p161 q161; obtain rfl : ad159 = ad161 := (by injection e161); (try simp only [show (2 : Int).toNat = 2 from rfl, Nat.reduceMul, Nat.reduceEqDiff, Go.Addr.add, ↓reduceIte] at hx161_0); have qi161 : (2 < t156.length) = True := eq_true (by omega); (try rw [show ((2 : Int)).toNat = 2 from rfl] at hx161_0); replace p161 := eq_true p161; replace q161 := eq_true q161))
                      refine wp_loop_rounds 4 ?_
                      rw [rounds_succ]
                      go_wp2_with (first | ((with_reducible refine gate_callee (f := 18) rfl ?_); refine zgl (some 40) Tryd.func18 #[.string (rdOf ByteArray.empty t156 2)] ?_; (with_reducible refine (impl_readNumber.calls (rdOf ByteArray.empty t156 2) t162 true _ ?side1 A13.out).mono ?_); (case side1 => exact HTD.out.on (zl_ HB)); rintro e w73 ⟨rfl, hb⟩; refine ⟨_, rfl, ?_⟩; replace HO158 := Aside0.mk (Kd.R_below (by (with_reducible repeat (first | apply Kd.R_alloc | apply Kd.R_drewN | apply Kd.R_drew)); exact (Kd.R_mono (zrf (Kd.R_types HO158.out BK160.out (by decide))) (fun _ h_ => h_.1))) hb); replace BK151 := Aside0.mk (blk_below (g := gb151) (o := .cells #[.string (⟨#[]⟩ : ByteArray), .int .i64 0, .int .i64 0, .int .i64 0] 23 (0, 0)) (zq BK151) hb); replace BK160 := Aside0.mk (blk_below (g := gb160) (o := .cells #[.string (rdOf ByteArray.empty t156 1), .int .i64 0, .int .i64 0, .int .i64 0] 23 (0, 0)) (zq BK160) hb); replace BKP_ := Aside0.mk (blk_below (g := gp_) (o := .cells #[.pointer (some ⟨gb160, 1, none⟩), .pointer (some ⟨gb160, 2, none⟩), .pointer (some ⟨gb160, 3, none⟩)] 42 (0, 0)) (zq BKP_) hb); replace HB := zs_ HB hb; (try clear hb); (try clear hb2); (try clear hk); (try clear hi); obtain ⟨hcz74_0, hcz74_1, hcz74_2, hcz74_3, hfz74_0, hfz74_1, hfz74_2, hfz74_3⟩ := zc4 BK160; have p164 : 0 ≤ (3 : Int) := (by omega); have q164 : 3 < (t156.length : Int) := zo_; obtain ⟨ad164, e164, hx164_0⟩ := Kd.at_string (Kd.R_reads' HO158.out).2.2 3 p164 q164; obtain rfl : ad159 = ad164 := (by injection e164); (try simp only [show (3 : Int).toNat = 3 from rfl, Nat.reduceMul, Nat.reduceEqDiff, Go.Addr.add, ↓reduceIte] at hx164_0); have qi164 : (3 < t156.length) = True := eq_true (by omega); (try rw [show ((3 : Int)).toNat = 3 from rfl] at hx164_0); have hn164_0 : ad159.block ≠ gb160 := Kd.own_blk (Kd.R_ne HO158.out BK160.out (by decide)); replace hx164_0 := (cell_far (p := ⟨gb160, 1, none⟩) (by first | (rw [add_block]; exact hn164_0) | (show (Addr.add _ _).block ≠ _; rw [add_block]; exact hn164_0) | exact hn164_0) (.int .i64 t162)).trans hx164_0; clear hn164_0; replace p164 := eq_true p164; replace q164 := eq_true q164; have hcp1_ : (w73.setCell ⟨gb160, 1, none⟩ (.int .i64 t162)).cell? ⟨gp_, 1, none⟩ = some (.pointer (some ⟨gb160, 2, none⟩)) := (cell_far (p := ⟨gb160, 1, none⟩) hnp2_ (.int .i64 t162)).trans ((blk_cell BKP_.out 1).trans rfl)))
                      rw [rounds_succ]
                      go_wp2_with (first | ((with_reducible refine gate_callee (f := 18) rfl ?_); refine zgl (some 40) Tryd.func18 #[.string (rdOf ByteArray.empty t156 3)] ?_; (with_reducible refine (impl_readNumber.calls (rdOf ByteArray.empty t156 3) t165 true _ ?side1 A16.out).mono ?_); (case side1 => exact HTD.out.on (zl_ HB)); rintro e w75 ⟨rfl, hb⟩; refine ⟨_, rfl, ?_⟩; replace HO158 := Aside0.mk (Kd.R_below (by (with_reducible repeat (first | apply Kd.R_alloc | apply Kd.R_drewN | apply Kd.R_drew)); exact (Kd.R_mono (zrf (Kd.R_types HO158.out BK160.out (by decide))) (fun _ h_ => h_.1))) hb); replace BK151 := Aside0.mk (blk_below (g := gb151) (o := .cells #[.string (⟨#[]⟩ : ByteArray), .int .i64 0, .int .i64 0, .int .i64 0] 23 (0, 0)) (zq BK151) hb); replace BK160 := Aside0.mk (blk_below (g := gb160) (o := .cells #[.string (rdOf ByteArray.empty t156 1), .int .i64 t162, .int .i64 0, .int .i64 0] 23 (0, 0)) (zq BK160) hb); replace BKP_ := Aside0.mk (blk_below (g := gp_) (o := .cells #[.pointer (some ⟨gb160, 1, none⟩), .pointer (some ⟨gb160, 2, none⟩), .pointer (some ⟨gb160, 3, none⟩)] 42 (0, 0)) (zq BKP_) hb); replace HB := zs_ HB hb; (try clear hb); (try clear hb2); (try clear hk); (try clear hi); obtain ⟨hcz76_0, hcz76_1, hcz76_2, hcz76_3, hfz76_0, hfz76_1, hfz76_2, hfz76_3⟩ := zc4 BK160; have p167 : 0 ≤ (4 : Int) := (by omega); have q167 : 4 < (t156.length : Int) := zo_; obtain ⟨ad167, e167, hx167_0⟩ := Kd.at_string (Kd.R_reads' HO158.out).2.2 4 p167 q167; obtain rfl : ad159 = ad167 := (by injection e167); (try simp only [show (4 : Int).toNat = 4 from rfl, Nat.reduceMul, Nat.reduceEqDiff, Go.Addr.add, ↓reduceIte] at hx167_0); have qi167 : (4 < t156.length) = True := eq_true (by omega); (try rw [show ((4 : Int)).toNat = 4 from rfl] at hx167_0); have hn167_0 : ad159.block ≠ gb160 := Kd.own_blk (Kd.R_ne HO158.out BK160.out (by decide)); replace hx167_0 := (cell_far (p := ⟨gb160, 2, none⟩) (by first | (rw [add_block]; exact hn167_0) | (show (Addr.add _ _).block ≠ _; rw [add_block]; exact hn167_0) | exact hn167_0) (.int .i64 t165)).trans hx167_0; clear hn167_0; replace p167 := eq_true p167; replace q167 := eq_true q167; have hcp2_ : (w75.setCell ⟨gb160, 2, none⟩ (.int .i64 t165)).cell? ⟨gp_, 2, none⟩ = some (.pointer (some ⟨gb160, 3, none⟩)) := (cell_far (p := ⟨gb160, 2, none⟩) hnp2_ (.int .i64 t165)).trans ((blk_cell BKP_.out 2).trans rfl)))
                      rw [rounds_succ]
                      go_wp2_with (first | ((with_reducible refine gate_callee (f := 18) rfl ?_); refine zgl (some 40) Tryd.func18 #[.string (rdOf ByteArray.empty t156 4)] ?_; (with_reducible refine (impl_readNumber.calls (rdOf ByteArray.empty t156 4) t168 true _ ?side1 A19.out).mono ?_); (case side1 => exact HTD.out.on (zl_ HB)); rintro e w77 ⟨rfl, hb⟩; refine ⟨_, rfl, ?_⟩; replace BK151 := Aside0.mk (blk_below (g := gb151) (o := .cells #[.string (⟨#[]⟩ : ByteArray), .int .i64 0, .int .i64 0, .int .i64 0] 23 (0, 0)) (zq BK151) hb); replace BK160 := Aside0.mk (blk_below (g := gb160) (o := .cells #[.string (rdOf ByteArray.empty t156 1), .int .i64 t162, .int .i64 t165, .int .i64 0] 23 (0, 0)) (zq BK160) hb); replace BKP_ := Aside0.mk (blk_below (g := gp_) (o := .cells #[.pointer (some ⟨gb160, 1, none⟩), .pointer (some ⟨gb160, 2, none⟩), .pointer (some ⟨gb160, 3, none⟩)] 42 (0, 0)) (zq BKP_) hb); replace HB := zs_ HB hb; (try clear hb); (try clear hb2); (try clear hk); (try clear hi); obtain ⟨hcz78_0, hcz78_1, hcz78_2, hcz78_3, hfz78_0, hfz78_1, hfz78_2, hfz78_3⟩ := zc4 BK160))
                      rw [rounds_succ]
                      go_wp2_with (first | ((with_reducible refine gate_callee (f := 11) rfl ?_); refine zgl (some 51) Tryd.func11 #[.agg #[.string (rdOf ByteArray.empty t156 1), .int .i64 t162, .int .i64 t165, .int .i64 t168]] ?_; (with_reducible refine (impl_GrantOK.calls k (rdOf ByteArray.empty t156 1) t162 t165 t168 false _ A21.out).mono ?_); rintro e w79 ⟨rfl, hb⟩; refine ⟨_, rfl, ?_⟩; replace BK151 := Aside0.mk (blk_below (g := gb151) (o := .cells #[.string (⟨#[]⟩ : ByteArray), .int .i64 0, .int .i64 0, .int .i64 0] 23 (0, 0)) (zq BK151) hb); replace HB := zs_ HB hb; (try clear hb); (try clear hb2); (try clear hk); (try clear hi); obtain ⟨hcz80_0, hcz80_1, hcz80_2, hcz80_3, hfz80_0, hfz80_1, hfz80_2, hfz80_3⟩ := zc4 BK151))
                      refine bodyPost_ret (results_ct rfl _ _ gb151 23 #[.string (⟨#[]⟩ : ByteArray), .int .i64 0, .int .i64 0, .int .i64 0] (0, 0) _ rfl (zq BK151) Tryd.underlying23 rfl (by kernel_rfl)) rfl ?_
                      exact ⟨zt_, zl_ HB⟩
                  · replace c20 := Bool.eq_false_iff.mpr c20
                    subst c20
                    have H1 : (some ((⟨#[]⟩ : ByteArray), 0, 0, 0, 3)) = some (r1, r2, r3, r4, r5) := by rw [if_neg (show ¬ (false = true) by decide)] at H; exact H
                    clear H
                    have H := H1
                    clear H1
                    simp only [Option.some.injEq, Prod.mk.injEq] at H
                    obtain ⟨rfl, rfl, rfl, rfl, rfl⟩ := H
                    go_enter Tryd.func6, Tryd.ntmps6
                    go_wp2_with (first | ((with_reducible refine gate_dst (N := 2) rfl ?_); refine zbx (N := 2) (cs := #[.string (⟨#[]⟩ : ByteArray), .int .i64 0, .int .i64 0, .int .i64 0]) (t := 23) ?_; intro gb151 hg w81 hbox hb; have BK151 := Aside0.mk (hbox); have GW151 := zw_ HB hg; have GE151 := zw_ HB hg; replace HB := zs_ HB hb; clear hb hbox hg) | ((with_reducible refine gate_dst (N := 11) rfl ?_); refine Kd.R_lit Kd.string _ 9 ?hg (N := 11) ?hd (xs := ([a0] : List ByteArray)) (inner := [.string a0]) (ok := fun _ => True) (okp := fun _ => True) ?hr ?hp (fun _ hk => hk) trivial (Below.refl _ _) (Nat.le_refl _) (by simp) ?_; (case hd => rfl); (case hg => rfl); (case hr => first | (go_simp; done) | (go_simp; rfl)); (case hp => exact (Reps.one (show Kd.M Kd.string _ _ _ a0 [.string a0] from rfl) (Reps.none _ _))); intro v153 w82 ho83 hb hg_ hnew_; clear hg_ hnew_; (first | rw [← Ny152.out] at ho83 | (simp only [Int.reduceToNat] at ho83; rw [← Ny152.out] at ho83)); have HO154 := Aside0.mk (Kd.R_lower ho83 (below_size (zl_ HB))); replace BK151 := zb BK151 hb; replace HB := zs_ HB hb; clear hb ho83; obtain ⟨Ao84, co84, eo84⟩ := Kd.R_slice HO154.out; subst eo84) | ((with_reducible refine gate_callee (f := 16) rfl ?_); refine zgl (some 12) Tryd.func16 #[.slice Ao84 y152.length co84] ?_; (with_reducible refine (impl_areLong.calls _ _ y152 false _ ?side1 ?side2 A2.out).mono ?_); (case side1 => repeat (first | exact (Kd.R_reads' HO154.out).2.2 | (with_reducible refine Kd.C_alloc ?_ _) | (with_reducible refine Kd.C_drewN ?_ _) | (with_reducible refine Kd.C_drew ?_))); (case side2 => exact (Kd.R_reads' HO154.out).2.1); rintro e w' ⟨rfl, ⟨nd, rfl⟩⟩; refine ⟨_, rfl, ?_⟩; (try (rw [drewN_self w82]; generalize hq_ : World.drewN w82 _ = w82; have n0_ : Aside0 (Kd.R Kd.string 9 w82 w.heap.size (fun _ => True) (.slice Ao84 y152.length co84) y152) := ⟨by rw [← hq_]; exact (zr HO154)⟩; have n1_ : Aside0 (w82.heap[gb151]? = some (.cells #[.string (⟨#[]⟩ : ByteArray), .int .i64 0, .int .i64 0, .int .i64 0] 23 (0, 0))) := ⟨by rw [← hq_]; exact (zk BK151)⟩; have n2_ : Aside0 (Below w.heap.size w w82) := ⟨by rw [← hq_]; exact (zl_ HB)⟩; clear HO154 BK151 HB hq_; have HO154 := n0_; have BK151 := n1_; have HB := n2_; clear n0_ n1_ n2_)); (try have hfu151_0 := blk_frozen BK151.out 0); (try have hcu151_0 : w82.cell? ⟨gb151, 0, none⟩ = some (.string (⟨#[]⟩ : ByteArray)) := (blk_cell BK151.out 0).trans rfl); (try have hfu151_1 := blk_frozen BK151.out 1); (try have hcu151_1 : w82.cell? ⟨gb151, 1, none⟩ = some (.int .i64 0) := (blk_cell BK151.out 1).trans rfl); (try have hfu151_2 := blk_frozen BK151.out 2); (try have hcu151_2 : w82.cell? ⟨gb151, 2, none⟩ = some (.int .i64 0) := (blk_cell BK151.out 2).trans rfl); (try have hfu151_3 := blk_frozen BK151.out 3); (try have hcu151_3 : w82.cell? ⟨gb151, 3, none⟩ = some (.int .i64 0) := (blk_cell BK151.out 3).trans rfl)) | ((with_reducible refine gate_callee (f := 17) rfl ?_); refine zgl (some 15) Tryd.func17 #[.string a0, .string (⟨#[32]⟩ : ByteArray)] ?_; (with_reducible refine (strings_Split.calls a0 (⟨#[32]⟩ : ByteArray) t156 _ ?side1 A9.out).mono ?_); (case side1 => exact HTD.out.on (zl_ HB)); rintro e w85 ⟨v157, rfl, ho0, hb⟩; refine ⟨_, rfl, ?_⟩; have HO158 := Aside0.mk (Kd.R_lower (Kd.R_new' ho0 (Kd.R_lt (zr HO154))) (below_size (zl_ HB))); replace BK151 := zb BK151 hb; replace HB := zs_ HB hb; (try clear hb); (try clear hb2); (try clear hk); (try clear hi); (try clear ho0); obtain ⟨Ao86, co86, eo86⟩ := Kd.R_slice HO158.out; subst eo86; have p159 : 0 ≤ (1 : Int) := (by omega); have q159 : 1 < (t156.length : Int) := zo_; obtain ⟨ad159, e159, hx159_0⟩ := Kd.at_string (Kd.R_reads' HO158.out).2.2 1 p159 q159; cases e159; (try simp only [show (1 : Int).toNat = 1 from rfl, Nat.reduceMul, Nat.reduceEqDiff, Go.Addr.add, ↓reduceIte] at hx159_0); have qi159 : (1 < t156.length) = True := eq_true (by omega); (try rw [show ((1 : Int)).toNat = 1 from rfl] at hx159_0); replace p159 := eq_true p159; replace q159 := eq_true q159) | ((with_reducible refine gate_dst (N := 5) rfl ?_); refine zbx (N := 5) (cs := #[.string (⟨#[]⟩ : ByteArray), .int .i64 0, .int .i64 0, .int .i64 0]) (t := 23) ?_; intro gb160 hg w87 hbox hb; replace HO158 := zrb HO158 hb; have BK160 := Aside0.mk (hbox); have GW160 := zw_ HB hg; have GE160 := zw_ HB hg; replace HB := zs_ HB hb; have NB151_160 := zl hg BK151; have NB160_151 := zg hg BK151; replace BK151 := zb BK151 hb; clear hb hbox hg; have hnb88 := NB160_151.out; have hnc88 := NB151_160.out; obtain ⟨hcz89_0, hcz89_1, hcz89_2, hcz89_3, hfz89_0, hfz89_1, hfz89_2, hfz89_3⟩ := zc4 BK160) | ((with_reducible refine gate_dst (N := 27) rfl ?_); refine zsl (n := 3) (cs := #[.pointer (some ⟨gb160, 1, none⟩), .pointer (some ⟨gb160, 2, none⟩), .pointer (some ⟨gb160, 3, none⟩)]) (t := 42) ?_; intro gp_ hgp_ wp_ hbox hb; have NBp1_ := znb hgp_ BK160; have NBp2_ : Aside0 (gp_ ≠ gb160) := ⟨fun e_ => NBp1_.out e_.symm⟩; have hnp1_ := NBp1_.out; have hnp2_ := NBp2_.out; replace HO158 := Aside0.mk (Kd.R_below (by (with_reducible repeat (first | apply Kd.R_alloc | apply Kd.R_drewN | apply Kd.R_drew)); exact (Kd.R_mono (zrf (Kd.R_types HO158.out BK160.out (by decide))) (fun _ h_ => h_.1))) hb); replace BK151 := Aside0.mk (blk_below (g := gb151) (o := .cells #[.string (⟨#[]⟩ : ByteArray), .int .i64 0, .int .i64 0, .int .i64 0] 23 (0, 0)) (zq BK151) hb); replace BK160 := Aside0.mk (blk_below (g := gb160) (o := .cells #[.string (rdOf ByteArray.empty t156 1), .int .i64 0, .int .i64 0, .int .i64 0] 23 (0, 0)) (zq BK160) hb); replace HB := zs_ HB hb; have BKP_ := Aside0.mk hbox; clear hb hbox hgp_; have hcp0_ : wp_.cell? ⟨gp_, 0, none⟩ = some (.pointer (some ⟨gb160, 1, none⟩)) := (blk_cell BKP_.out 0).trans rfl; have p161 : 0 ≤ (2 : Int) := (by omega); have q161 : 2 < (t156.length : Int) := zo_; obtain ⟨ad161, e161, hx161_0⟩ := Kd.at_string (Kd.R_reads' HO158.out).2.2 2 p161 q161; obtain rfl : ad159 = ad161 := (by injection e161); (try simp only [show (2 : Int).toNat = 2 from rfl, Nat.reduceMul, Nat.reduceEqDiff, Go.Addr.add, ↓reduceIte] at hx161_0); have qi161 : (2 < t156.length) = True := eq_true (by omega); (try rw [show ((2 : Int)).toNat = 2 from rfl] at hx161_0); replace p161 := eq_true p161; replace q161 := eq_true q161))
                    refine wp_loop_rounds 4 ?_
                    rw [rounds_succ]
                    go_wp2_with (first | ((with_reducible refine gate_callee (f := 18) rfl ?_); refine zgl (some 40) Tryd.func18 #[.string (rdOf ByteArray.empty t156 2)] ?_; (with_reducible refine (impl_readNumber.calls (rdOf ByteArray.empty t156 2) t162 true _ ?side1 A13.out).mono ?_); (case side1 => exact HTD.out.on (zl_ HB)); rintro e w90 ⟨rfl, hb⟩; refine ⟨_, rfl, ?_⟩; replace HO158 := Aside0.mk (Kd.R_below (by (with_reducible repeat (first | apply Kd.R_alloc | apply Kd.R_drewN | apply Kd.R_drew)); exact (Kd.R_mono (zrf (Kd.R_types HO158.out BK160.out (by decide))) (fun _ h_ => h_.1))) hb); replace BK151 := Aside0.mk (blk_below (g := gb151) (o := .cells #[.string (⟨#[]⟩ : ByteArray), .int .i64 0, .int .i64 0, .int .i64 0] 23 (0, 0)) (zq BK151) hb); replace BK160 := Aside0.mk (blk_below (g := gb160) (o := .cells #[.string (rdOf ByteArray.empty t156 1), .int .i64 0, .int .i64 0, .int .i64 0] 23 (0, 0)) (zq BK160) hb); replace BKP_ := Aside0.mk (blk_below (g := gp_) (o := .cells #[.pointer (some ⟨gb160, 1, none⟩), .pointer (some ⟨gb160, 2, none⟩), .pointer (some ⟨gb160, 3, none⟩)] 42 (0, 0)) (zq BKP_) hb); replace HB := zs_ HB hb; (try clear hb); (try clear hb2); (try clear hk); (try clear hi); obtain ⟨hcz91_0, hcz91_1, hcz91_2, hcz91_3, hfz91_0, hfz91_1, hfz91_2, hfz91_3⟩ := zc4 BK160; have p164 : 0 ≤ (3 : Int) := (by omega); have q164 : 3 < (t156.length : Int) := zo_; obtain ⟨ad164, e164, hx164_0⟩ := Kd.at_string (Kd.R_reads' HO158.out).2.2 3 p164 q164; obtain rfl : ad159 = ad164 := (by injection e164); (try simp only [show (3 : Int).toNat = 3 from rfl, Nat.reduceMul, Nat.reduceEqDiff, Go.Addr.add, ↓reduceIte] at hx164_0); have qi164 : (3 < t156.length) = True := eq_true (by omega); (try rw [show ((3 : Int)).toNat = 3 from rfl] at hx164_0); have hn164_0 : ad159.block ≠ gb160 := Kd.own_blk (Kd.R_ne HO158.out BK160.out (by decide)); replace hx164_0 := (cell_far (p := ⟨gb160, 1, none⟩) (by first | (rw [add_block]; exact hn164_0) | (show (Addr.add _ _).block ≠ _; rw [add_block]; exact hn164_0) | exact hn164_0) (.int .i64 t162)).trans hx164_0; clear hn164_0; replace p164 := eq_true p164; replace q164 := eq_true q164; have hcp1_ : (w90.setCell ⟨gb160, 1, none⟩ (.int .i64 t162)).cell? ⟨gp_, 1, none⟩ = some (.pointer (some ⟨gb160, 2, none⟩)) := (cell_far (p := ⟨gb160, 1, none⟩) hnp2_ (.int .i64 t162)).trans ((blk_cell BKP_.out 1).trans rfl)))
                    rw [rounds_succ]
                    go_wp2_with (first | ((with_reducible refine gate_callee (f := 18) rfl ?_); refine zgl (some 40) Tryd.func18 #[.string (rdOf ByteArray.empty t156 3)] ?_; (with_reducible refine (impl_readNumber.calls (rdOf ByteArray.empty t156 3) t165 true _ ?side1 A16.out).mono ?_); (case side1 => exact HTD.out.on (zl_ HB)); rintro e w92 ⟨rfl, hb⟩; refine ⟨_, rfl, ?_⟩; replace HO158 := Aside0.mk (Kd.R_below (by (with_reducible repeat (first | apply Kd.R_alloc | apply Kd.R_drewN | apply Kd.R_drew)); exact (Kd.R_mono (zrf (Kd.R_types HO158.out BK160.out (by decide))) (fun _ h_ => h_.1))) hb); replace BK151 := Aside0.mk (blk_below (g := gb151) (o := .cells #[.string (⟨#[]⟩ : ByteArray), .int .i64 0, .int .i64 0, .int .i64 0] 23 (0, 0)) (zq BK151) hb); replace BK160 := Aside0.mk (blk_below (g := gb160) (o := .cells #[.string (rdOf ByteArray.empty t156 1), .int .i64 t162, .int .i64 0, .int .i64 0] 23 (0, 0)) (zq BK160) hb); replace BKP_ := Aside0.mk (blk_below (g := gp_) (o := .cells #[.pointer (some ⟨gb160, 1, none⟩), .pointer (some ⟨gb160, 2, none⟩), .pointer (some ⟨gb160, 3, none⟩)] 42 (0, 0)) (zq BKP_) hb); replace HB := zs_ HB hb; (try clear hb); (try clear hb2); (try clear hk); (try clear hi); obtain ⟨hcz93_0, hcz93_1, hcz93_2, hcz93_3, hfz93_0, hfz93_1, hfz93_2, hfz93_3⟩ := zc4 BK160; have p167 : 0 ≤ (4 : Int) := (by omega); have q167 : 4 < (t156.length : Int) := zo_; obtain ⟨ad167, e167, hx167_0⟩ := Kd.at_string (Kd.R_reads' HO158.out).2.2 4 p167 q167; obtain rfl : ad159 = ad167 := (by injection e167); (try simp only [show (4 : Int).toNat = 4 from rfl, Nat.reduceMul, Nat.reduceEqDiff, Go.Addr.add, ↓reduceIte] at hx167_0); have qi167 : (4 < t156.length) = True := eq_true (by omega); (try rw [show ((4 : Int)).toNat = 4 from rfl] at hx167_0); have hn167_0 : ad159.block ≠ gb160 := Kd.own_blk (Kd.R_ne HO158.out BK160.out (by decide)); replace hx167_0 := (cell_far (p := ⟨gb160, 2, none⟩) (by first | (rw [add_block]; exact hn167_0) | (show (Addr.add _ _).block ≠ _; rw [add_block]; exact hn167_0) | exact hn167_0) (.int .i64 t165)).trans hx167_0; clear hn167_0; replace p167 := eq_true p167; replace q167 := eq_true q167; have hcp2_ : (w92.setCell ⟨gb160, 2, none⟩ (.int .i64 t165)).cell? ⟨gp_, 2, none⟩ = some (.pointer (some ⟨gb160, 3, none⟩)) := (cell_far (p := ⟨gb160, 2, none⟩) hnp2_ (.int .i64 t165)).trans ((blk_cell BKP_.out 2).trans rfl)))
                    rw [rounds_succ]
                    go_wp2_with (first | ((with_reducible refine gate_callee (f := 18) rfl ?_); refine zgl (some 40) Tryd.func18 #[.string (rdOf ByteArray.empty t156 4)] ?_; (with_reducible refine (impl_readNumber.calls (rdOf ByteArray.empty t156 4) t168 false _ ?side1 A19.out).mono ?_); (case side1 => exact HTD.out.on (zl_ HB)); rintro e w94 ⟨rfl, hb⟩; refine ⟨_, rfl, ?_⟩; replace BK151 := Aside0.mk (blk_below (g := gb151) (o := .cells #[.string (⟨#[]⟩ : ByteArray), .int .i64 0, .int .i64 0, .int .i64 0] 23 (0, 0)) (zq BK151) hb); replace BKP_ := Aside0.mk (blk_below (g := gp_) (o := .cells #[.pointer (some ⟨gb160, 1, none⟩), .pointer (some ⟨gb160, 2, none⟩), .pointer (some ⟨gb160, 3, none⟩)] 42 (0, 0)) (zq BKP_) hb); replace HB := zs_ HB hb; (try clear hb); (try clear hb2); (try clear hk); (try clear hi); obtain ⟨hcz95_0, hcz95_1, hcz95_2, hcz95_3, hfz95_0, hfz95_1, hfz95_2, hfz95_3⟩ := zc4 BK151))
                    refine bodyPost_ret (results_ct rfl _ _ gb151 23 #[.string (⟨#[]⟩ : ByteArray), .int .i64 0, .int .i64 0, .int .i64 0] (0, 0) _ rfl (zq BK151) Tryd.underlying23 rfl (by kernel_rfl)) rfl ?_
                    exact ⟨zt_, zl_ HB⟩
                · rw [if_neg c18] at H
                  exact absurd H (by simp)
              · replace c17 := Bool.eq_false_iff.mpr c17
                subst c17
                have H1 : (some ((⟨#[]⟩ : ByteArray), 0, 0, 0, 3)) = some (r1, r2, r3, r4, r5) := by rw [if_neg (show ¬ (false = true) by decide)] at H; exact H
                clear H
                have H := H1
                clear H1
                simp only [Option.some.injEq, Prod.mk.injEq] at H
                obtain ⟨rfl, rfl, rfl, rfl, rfl⟩ := H
                go_enter Tryd.func6, Tryd.ntmps6
                go_wp2_with (first | ((with_reducible refine gate_dst (N := 2) rfl ?_); refine zbx (N := 2) (cs := #[.string (⟨#[]⟩ : ByteArray), .int .i64 0, .int .i64 0, .int .i64 0]) (t := 23) ?_; intro gb151 hg w96 hbox hb; have BK151 := Aside0.mk (hbox); have GW151 := zw_ HB hg; have GE151 := zw_ HB hg; replace HB := zs_ HB hb; clear hb hbox hg) | ((with_reducible refine gate_dst (N := 11) rfl ?_); refine Kd.R_lit Kd.string _ 9 ?hg (N := 11) ?hd (xs := ([a0] : List ByteArray)) (inner := [.string a0]) (ok := fun _ => True) (okp := fun _ => True) ?hr ?hp (fun _ hk => hk) trivial (Below.refl _ _) (Nat.le_refl _) (by simp) ?_; (case hd => rfl); (case hg => rfl); (case hr => first | (go_simp; done) | (go_simp; rfl)); (case hp => exact (Reps.one (show Kd.M Kd.string _ _ _ a0 [.string a0] from rfl) (Reps.none _ _))); intro v153 w97 ho98 hb hg_ hnew_; clear hg_ hnew_; (first | rw [← Ny152.out] at ho98 | (simp only [Int.reduceToNat] at ho98; rw [← Ny152.out] at ho98)); have HO154 := Aside0.mk (Kd.R_lower ho98 (below_size (zl_ HB))); replace BK151 := zb BK151 hb; replace HB := zs_ HB hb; clear hb ho98; obtain ⟨Ao99, co99, eo99⟩ := Kd.R_slice HO154.out; subst eo99) | ((with_reducible refine gate_callee (f := 16) rfl ?_); refine zgl (some 12) Tryd.func16 #[.slice Ao99 y152.length co99] ?_; (with_reducible refine (impl_areLong.calls _ _ y152 false _ ?side1 ?side2 A2.out).mono ?_); (case side1 => repeat (first | exact (Kd.R_reads' HO154.out).2.2 | (with_reducible refine Kd.C_alloc ?_ _) | (with_reducible refine Kd.C_drewN ?_ _) | (with_reducible refine Kd.C_drew ?_))); (case side2 => exact (Kd.R_reads' HO154.out).2.1); rintro e w' ⟨rfl, ⟨nd, rfl⟩⟩; refine ⟨_, rfl, ?_⟩; (try (rw [drewN_self w97]; generalize hq_ : World.drewN w97 _ = w97; have n0_ : Aside0 (Kd.R Kd.string 9 w97 w.heap.size (fun _ => True) (.slice Ao99 y152.length co99) y152) := ⟨by rw [← hq_]; exact (zr HO154)⟩; have n1_ : Aside0 (w97.heap[gb151]? = some (.cells #[.string (⟨#[]⟩ : ByteArray), .int .i64 0, .int .i64 0, .int .i64 0] 23 (0, 0))) := ⟨by rw [← hq_]; exact (zk BK151)⟩; have n2_ : Aside0 (Below w.heap.size w w97) := ⟨by rw [← hq_]; exact (zl_ HB)⟩; clear HO154 BK151 HB hq_; have HO154 := n0_; have BK151 := n1_; have HB := n2_; clear n0_ n1_ n2_)); (try have hfu151_0 := blk_frozen BK151.out 0); (try have hcu151_0 : w97.cell? ⟨gb151, 0, none⟩ = some (.string (⟨#[]⟩ : ByteArray)) := (blk_cell BK151.out 0).trans rfl); (try have hfu151_1 := blk_frozen BK151.out 1); (try have hcu151_1 : w97.cell? ⟨gb151, 1, none⟩ = some (.int .i64 0) := (blk_cell BK151.out 1).trans rfl); (try have hfu151_2 := blk_frozen BK151.out 2); (try have hcu151_2 : w97.cell? ⟨gb151, 2, none⟩ = some (.int .i64 0) := (blk_cell BK151.out 2).trans rfl); (try have hfu151_3 := blk_frozen BK151.out 3); (try have hcu151_3 : w97.cell? ⟨gb151, 3, none⟩ = some (.int .i64 0) := (blk_cell BK151.out 3).trans rfl)) | ((with_reducible refine gate_callee (f := 17) rfl ?_); refine zgl (some 15) Tryd.func17 #[.string a0, .string (⟨#[32]⟩ : ByteArray)] ?_; (with_reducible refine (strings_Split.calls a0 (⟨#[32]⟩ : ByteArray) t156 _ ?side1 A9.out).mono ?_); (case side1 => exact HTD.out.on (zl_ HB)); rintro e w100 ⟨v157, rfl, ho0, hb⟩; refine ⟨_, rfl, ?_⟩; have HO158 := Aside0.mk (Kd.R_lower (Kd.R_new' ho0 (Kd.R_lt (zr HO154))) (below_size (zl_ HB))); replace BK151 := zb BK151 hb; replace HB := zs_ HB hb; (try clear hb); (try clear hb2); (try clear hk); (try clear hi); (try clear ho0); obtain ⟨Ao101, co101, eo101⟩ := Kd.R_slice HO158.out; subst eo101; have p159 : 0 ≤ (1 : Int) := (by omega); have q159 : 1 < (t156.length : Int) := zo_; obtain ⟨ad159, e159, hx159_0⟩ := Kd.at_string (Kd.R_reads' HO158.out).2.2 1 p159 q159; cases e159; (try simp only [show (1 : Int).toNat = 1 from rfl, Nat.reduceMul, Nat.reduceEqDiff, Go.Addr.add, ↓reduceIte] at hx159_0); have qi159 : (1 < t156.length) = True := eq_true (by omega); (try rw [show ((1 : Int)).toNat = 1 from rfl] at hx159_0); replace p159 := eq_true p159; replace q159 := eq_true q159) | ((with_reducible refine gate_dst (N := 5) rfl ?_); refine zbx (N := 5) (cs := #[.string (⟨#[]⟩ : ByteArray), .int .i64 0, .int .i64 0, .int .i64 0]) (t := 23) ?_; intro gb160 hg w102 hbox hb; replace HO158 := zrb HO158 hb; have BK160 := Aside0.mk (hbox); have GW160 := zw_ HB hg; have GE160 := zw_ HB hg; replace HB := zs_ HB hb; have NB151_160 := zl hg BK151; have NB160_151 := zg hg BK151; replace BK151 := zb BK151 hb; clear hb hbox hg; have hnb103 := NB160_151.out; have hnc103 := NB151_160.out; obtain ⟨hcz104_0, hcz104_1, hcz104_2, hcz104_3, hfz104_0, hfz104_1, hfz104_2, hfz104_3⟩ := zc4 BK160) | ((with_reducible refine gate_dst (N := 27) rfl ?_); refine zsl (n := 3) (cs := #[.pointer (some ⟨gb160, 1, none⟩), .pointer (some ⟨gb160, 2, none⟩), .pointer (some ⟨gb160, 3, none⟩)]) (t := 42) ?_; intro gp_ hgp_ wp_ hbox hb; have NBp1_ := znb hgp_ BK160; have NBp2_ : Aside0 (gp_ ≠ gb160) := ⟨fun e_ => NBp1_.out e_.symm⟩; have hnp1_ := NBp1_.out; have hnp2_ := NBp2_.out; replace HO158 := Aside0.mk (Kd.R_below (by (with_reducible repeat (first | apply Kd.R_alloc | apply Kd.R_drewN | apply Kd.R_drew)); exact (Kd.R_mono (zrf (Kd.R_types HO158.out BK160.out (by decide))) (fun _ h_ => h_.1))) hb); replace BK151 := Aside0.mk (blk_below (g := gb151) (o := .cells #[.string (⟨#[]⟩ : ByteArray), .int .i64 0, .int .i64 0, .int .i64 0] 23 (0, 0)) (zq BK151) hb); replace BK160 := Aside0.mk (blk_below (g := gb160) (o := .cells #[.string (rdOf ByteArray.empty t156 1), .int .i64 0, .int .i64 0, .int .i64 0] 23 (0, 0)) (zq BK160) hb); replace HB := zs_ HB hb; have BKP_ := Aside0.mk hbox; clear hb hbox hgp_; have hcp0_ : wp_.cell? ⟨gp_, 0, none⟩ = some (.pointer (some ⟨gb160, 1, none⟩)) := (blk_cell BKP_.out 0).trans rfl; have p161 : 0 ≤ (2 : Int) := (by omega); have q161 : 2 < (t156.length : Int) := zo_; obtain ⟨ad161, e161, hx161_0⟩ := Kd.at_string (Kd.R_reads' HO158.out).2.2 2 p161 q161; obtain rfl : ad159 = ad161 := (by injection e161); (try simp only [show (2 : Int).toNat = 2 from rfl, Nat.reduceMul, Nat.reduceEqDiff, Go.Addr.add, ↓reduceIte] at hx161_0); have qi161 : (2 < t156.length) = True := eq_true (by omega); (try rw [show ((2 : Int)).toNat = 2 from rfl] at hx161_0); replace p161 := eq_true p161; replace q161 := eq_true q161))
                refine wp_loop_rounds 4 ?_
                rw [rounds_succ]
                go_wp2_with (first | ((with_reducible refine gate_callee (f := 18) rfl ?_); refine zgl (some 40) Tryd.func18 #[.string (rdOf ByteArray.empty t156 2)] ?_; (with_reducible refine (impl_readNumber.calls (rdOf ByteArray.empty t156 2) t162 true _ ?side1 A13.out).mono ?_); (case side1 => exact HTD.out.on (zl_ HB)); rintro e w105 ⟨rfl, hb⟩; refine ⟨_, rfl, ?_⟩; replace HO158 := Aside0.mk (Kd.R_below (by (with_reducible repeat (first | apply Kd.R_alloc | apply Kd.R_drewN | apply Kd.R_drew)); exact (Kd.R_mono (zrf (Kd.R_types HO158.out BK160.out (by decide))) (fun _ h_ => h_.1))) hb); replace BK151 := Aside0.mk (blk_below (g := gb151) (o := .cells #[.string (⟨#[]⟩ : ByteArray), .int .i64 0, .int .i64 0, .int .i64 0] 23 (0, 0)) (zq BK151) hb); replace BK160 := Aside0.mk (blk_below (g := gb160) (o := .cells #[.string (rdOf ByteArray.empty t156 1), .int .i64 0, .int .i64 0, .int .i64 0] 23 (0, 0)) (zq BK160) hb); replace BKP_ := Aside0.mk (blk_below (g := gp_) (o := .cells #[.pointer (some ⟨gb160, 1, none⟩), .pointer (some ⟨gb160, 2, none⟩), .pointer (some ⟨gb160, 3, none⟩)] 42 (0, 0)) (zq BKP_) hb); replace HB := zs_ HB hb; (try clear hb); (try clear hb2); (try clear hk); (try clear hi); obtain ⟨hcz106_0, hcz106_1, hcz106_2, hcz106_3, hfz106_0, hfz106_1, hfz106_2, hfz106_3⟩ := zc4 BK160; have p164 : 0 ≤ (3 : Int) := (by omega); have q164 : 3 < (t156.length : Int) := zo_; obtain ⟨ad164, e164, hx164_0⟩ := Kd.at_string (Kd.R_reads' HO158.out).2.2 3 p164 q164; obtain rfl : ad159 = ad164 := (by injection e164); (try simp only [show (3 : Int).toNat = 3 from rfl, Nat.reduceMul, Nat.reduceEqDiff, Go.Addr.add, ↓reduceIte] at hx164_0); have qi164 : (3 < t156.length) = True := eq_true (by omega); (try rw [show ((3 : Int)).toNat = 3 from rfl] at hx164_0); have hn164_0 : ad159.block ≠ gb160 := Kd.own_blk (Kd.R_ne HO158.out BK160.out (by decide)); replace hx164_0 := (cell_far (p := ⟨gb160, 1, none⟩) (by first | (rw [add_block]; exact hn164_0) | (show (Addr.add _ _).block ≠ _; rw [add_block]; exact hn164_0) | exact hn164_0) (.int .i64 t162)).trans hx164_0; clear hn164_0; replace p164 := eq_true p164; replace q164 := eq_true q164; have hcp1_ : (w105.setCell ⟨gb160, 1, none⟩ (.int .i64 t162)).cell? ⟨gp_, 1, none⟩ = some (.pointer (some ⟨gb160, 2, none⟩)) := (cell_far (p := ⟨gb160, 1, none⟩) hnp2_ (.int .i64 t162)).trans ((blk_cell BKP_.out 1).trans rfl)))
                rw [rounds_succ]
                go_wp2_with (first | ((with_reducible refine gate_callee (f := 18) rfl ?_); refine zgl (some 40) Tryd.func18 #[.string (rdOf ByteArray.empty t156 3)] ?_; (with_reducible refine (impl_readNumber.calls (rdOf ByteArray.empty t156 3) t165 false _ ?side1 A16.out).mono ?_); (case side1 => exact HTD.out.on (zl_ HB)); rintro e w107 ⟨rfl, hb⟩; refine ⟨_, rfl, ?_⟩; replace BK151 := Aside0.mk (blk_below (g := gb151) (o := .cells #[.string (⟨#[]⟩ : ByteArray), .int .i64 0, .int .i64 0, .int .i64 0] 23 (0, 0)) (zq BK151) hb); replace BKP_ := Aside0.mk (blk_below (g := gp_) (o := .cells #[.pointer (some ⟨gb160, 1, none⟩), .pointer (some ⟨gb160, 2, none⟩), .pointer (some ⟨gb160, 3, none⟩)] 42 (0, 0)) (zq BKP_) hb); replace HB := zs_ HB hb; (try clear hb); (try clear hb2); (try clear hk); (try clear hi); obtain ⟨hcz108_0, hcz108_1, hcz108_2, hcz108_3, hfz108_0, hfz108_1, hfz108_2, hfz108_3⟩ := zc4 BK151))
                refine bodyPost_ret (results_ct rfl _ _ gb151 23 #[.string (⟨#[]⟩ : ByteArray), .int .i64 0, .int .i64 0, .int .i64 0] (0, 0) _ rfl (zq BK151) Tryd.underlying23 rfl (by kernel_rfl)) rfl ?_
                exact ⟨zt_, zl_ HB⟩
            · rw [if_neg c15] at H
              exact absurd H (by simp)
          · replace c14 := Bool.eq_false_iff.mpr c14
            subst c14
            have H1 : (some ((⟨#[]⟩ : ByteArray), 0, 0, 0, 3)) = some (r1, r2, r3, r4, r5) := by rw [if_neg (show ¬ (false = true) by decide)] at H; exact H
            clear H
            have H := H1
            clear H1
            simp only [Option.some.injEq, Prod.mk.injEq] at H
            obtain ⟨rfl, rfl, rfl, rfl, rfl⟩ := H
            go_enter Tryd.func6, Tryd.ntmps6
            go_wp2_with (first | ((with_reducible refine gate_dst (N := 2) rfl ?_); refine zbx (N := 2) (cs := #[.string (⟨#[]⟩ : ByteArray), .int .i64 0, .int .i64 0, .int .i64 0]) (t := 23) ?_; intro gb151 hg w109 hbox hb; have BK151 := Aside0.mk (hbox); have GW151 := zw_ HB hg; have GE151 := zw_ HB hg; replace HB := zs_ HB hb; clear hb hbox hg) | ((with_reducible refine gate_dst (N := 11) rfl ?_); refine Kd.R_lit Kd.string _ 9 ?hg (N := 11) ?hd (xs := ([a0] : List ByteArray)) (inner := [.string a0]) (ok := fun _ => True) (okp := fun _ => True) ?hr ?hp (fun _ hk => hk) trivial (Below.refl _ _) (Nat.le_refl _) (by simp) ?_; (case hd => rfl); (case hg => rfl); (case hr => first | (go_simp; done) | (go_simp; rfl)); (case hp => exact (Reps.one (show Kd.M Kd.string _ _ _ a0 [.string a0] from rfl) (Reps.none _ _))); intro v153 w110 ho111 hb hg_ hnew_; clear hg_ hnew_; (first | rw [← Ny152.out] at ho111 | (simp only [Int.reduceToNat] at ho111; rw [← Ny152.out] at ho111)); have HO154 := Aside0.mk (Kd.R_lower ho111 (below_size (zl_ HB))); replace BK151 := zb BK151 hb; replace HB := zs_ HB hb; clear hb ho111; obtain ⟨Ao112, co112, eo112⟩ := Kd.R_slice HO154.out; subst eo112) | ((with_reducible refine gate_callee (f := 16) rfl ?_); refine zgl (some 12) Tryd.func16 #[.slice Ao112 y152.length co112] ?_; (with_reducible refine (impl_areLong.calls _ _ y152 false _ ?side1 ?side2 A2.out).mono ?_); (case side1 => repeat (first | exact (Kd.R_reads' HO154.out).2.2 | (with_reducible refine Kd.C_alloc ?_ _) | (with_reducible refine Kd.C_drewN ?_ _) | (with_reducible refine Kd.C_drew ?_))); (case side2 => exact (Kd.R_reads' HO154.out).2.1); rintro e w' ⟨rfl, ⟨nd, rfl⟩⟩; refine ⟨_, rfl, ?_⟩; (try (rw [drewN_self w110]; generalize hq_ : World.drewN w110 _ = w110; have n0_ : Aside0 (Kd.R Kd.string 9 w110 w.heap.size (fun _ => True) (.slice Ao112 y152.length co112) y152) := ⟨by rw [← hq_]; exact (zr HO154)⟩; have n1_ : Aside0 (w110.heap[gb151]? = some (.cells #[.string (⟨#[]⟩ : ByteArray), .int .i64 0, .int .i64 0, .int .i64 0] 23 (0, 0))) := ⟨by rw [← hq_]; exact (zk BK151)⟩; have n2_ : Aside0 (Below w.heap.size w w110) := ⟨by rw [← hq_]; exact (zl_ HB)⟩; clear HO154 BK151 HB hq_; have HO154 := n0_; have BK151 := n1_; have HB := n2_; clear n0_ n1_ n2_)); (try have hfu151_0 := blk_frozen BK151.out 0); (try have hcu151_0 : w110.cell? ⟨gb151, 0, none⟩ = some (.string (⟨#[]⟩ : ByteArray)) := (blk_cell BK151.out 0).trans rfl); (try have hfu151_1 := blk_frozen BK151.out 1); (try have hcu151_1 : w110.cell? ⟨gb151, 1, none⟩ = some (.int .i64 0) := (blk_cell BK151.out 1).trans rfl); (try have hfu151_2 := blk_frozen BK151.out 2); (try have hcu151_2 : w110.cell? ⟨gb151, 2, none⟩ = some (.int .i64 0) := (blk_cell BK151.out 2).trans rfl); (try have hfu151_3 := blk_frozen BK151.out 3); (try have hcu151_3 : w110.cell? ⟨gb151, 3, none⟩ = some (.int .i64 0) := (blk_cell BK151.out 3).trans rfl)) | ((with_reducible refine gate_callee (f := 17) rfl ?_); refine zgl (some 15) Tryd.func17 #[.string a0, .string (⟨#[32]⟩ : ByteArray)] ?_; (with_reducible refine (strings_Split.calls a0 (⟨#[32]⟩ : ByteArray) t156 _ ?side1 A9.out).mono ?_); (case side1 => exact HTD.out.on (zl_ HB)); rintro e w113 ⟨v157, rfl, ho0, hb⟩; refine ⟨_, rfl, ?_⟩; have HO158 := Aside0.mk (Kd.R_lower (Kd.R_new' ho0 (Kd.R_lt (zr HO154))) (below_size (zl_ HB))); replace BK151 := zb BK151 hb; replace HB := zs_ HB hb; (try clear hb); (try clear hb2); (try clear hk); (try clear hi); (try clear ho0); obtain ⟨Ao114, co114, eo114⟩ := Kd.R_slice HO158.out; subst eo114; have p159 : 0 ≤ (1 : Int) := (by omega); have q159 : 1 < (t156.length : Int) := zo_; obtain ⟨ad159, e159, hx159_0⟩ := Kd.at_string (Kd.R_reads' HO158.out).2.2 1 p159 q159; cases e159; (try simp only [show (1 : Int).toNat = 1 from rfl, Nat.reduceMul, Nat.reduceEqDiff, Go.Addr.add, ↓reduceIte] at hx159_0); have qi159 : (1 < t156.length) = True := eq_true (by omega); (try rw [show ((1 : Int)).toNat = 1 from rfl] at hx159_0); replace p159 := eq_true p159; replace q159 := eq_true q159) | ((with_reducible refine gate_dst (N := 5) rfl ?_); refine zbx (N := 5) (cs := #[.string (⟨#[]⟩ : ByteArray), .int .i64 0, .int .i64 0, .int .i64 0]) (t := 23) ?_; intro gb160 hg w115 hbox hb; replace HO158 := zrb HO158 hb; have BK160 := Aside0.mk (hbox); have GW160 := zw_ HB hg; have GE160 := zw_ HB hg; replace HB := zs_ HB hb; have NB151_160 := zl hg BK151; have NB160_151 := zg hg BK151; replace BK151 := zb BK151 hb; clear hb hbox hg; have hnb116 := NB160_151.out; have hnc116 := NB151_160.out; obtain ⟨hcz117_0, hcz117_1, hcz117_2, hcz117_3, hfz117_0, hfz117_1, hfz117_2, hfz117_3⟩ := zc4 BK160) | ((with_reducible refine gate_dst (N := 27) rfl ?_); refine zsl (n := 3) (cs := #[.pointer (some ⟨gb160, 1, none⟩), .pointer (some ⟨gb160, 2, none⟩), .pointer (some ⟨gb160, 3, none⟩)]) (t := 42) ?_; intro gp_ hgp_ wp_ hbox hb; have NBp1_ := znb hgp_ BK160; have NBp2_ : Aside0 (gp_ ≠ gb160) := ⟨fun e_ => NBp1_.out e_.symm⟩; have hnp1_ := NBp1_.out; have hnp2_ := NBp2_.out; replace HO158 := Aside0.mk (Kd.R_below (by (with_reducible repeat (first | apply Kd.R_alloc | apply Kd.R_drewN | apply Kd.R_drew)); exact (Kd.R_mono (zrf (Kd.R_types HO158.out BK160.out (by decide))) (fun _ h_ => h_.1))) hb); replace BK151 := Aside0.mk (blk_below (g := gb151) (o := .cells #[.string (⟨#[]⟩ : ByteArray), .int .i64 0, .int .i64 0, .int .i64 0] 23 (0, 0)) (zq BK151) hb); replace BK160 := Aside0.mk (blk_below (g := gb160) (o := .cells #[.string (rdOf ByteArray.empty t156 1), .int .i64 0, .int .i64 0, .int .i64 0] 23 (0, 0)) (zq BK160) hb); replace HB := zs_ HB hb; have BKP_ := Aside0.mk hbox; clear hb hbox hgp_; have hcp0_ : wp_.cell? ⟨gp_, 0, none⟩ = some (.pointer (some ⟨gb160, 1, none⟩)) := (blk_cell BKP_.out 0).trans rfl; have p161 : 0 ≤ (2 : Int) := (by omega); have q161 : 2 < (t156.length : Int) := zo_; obtain ⟨ad161, e161, hx161_0⟩ := Kd.at_string (Kd.R_reads' HO158.out).2.2 2 p161 q161; obtain rfl : ad159 = ad161 := (by injection e161); (try simp only [show (2 : Int).toNat = 2 from rfl, Nat.reduceMul, Nat.reduceEqDiff, Go.Addr.add, ↓reduceIte] at hx161_0); have qi161 : (2 < t156.length) = True := eq_true (by omega); (try rw [show ((2 : Int)).toNat = 2 from rfl] at hx161_0); replace p161 := eq_true p161; replace q161 := eq_true q161))
            refine wp_loop_rounds 4 ?_
            rw [rounds_succ]
            go_wp2_with (first | ((with_reducible refine gate_callee (f := 18) rfl ?_); refine zgl (some 40) Tryd.func18 #[.string (rdOf ByteArray.empty t156 2)] ?_; (with_reducible refine (impl_readNumber.calls (rdOf ByteArray.empty t156 2) t162 false _ ?side1 A13.out).mono ?_); (case side1 => exact HTD.out.on (zl_ HB)); rintro e w118 ⟨rfl, hb⟩; refine ⟨_, rfl, ?_⟩; replace BK151 := Aside0.mk (blk_below (g := gb151) (o := .cells #[.string (⟨#[]⟩ : ByteArray), .int .i64 0, .int .i64 0, .int .i64 0] 23 (0, 0)) (zq BK151) hb); replace BKP_ := Aside0.mk (blk_below (g := gp_) (o := .cells #[.pointer (some ⟨gb160, 1, none⟩), .pointer (some ⟨gb160, 2, none⟩), .pointer (some ⟨gb160, 3, none⟩)] 42 (0, 0)) (zq BKP_) hb); replace HB := zs_ HB hb; (try clear hb); (try clear hb2); (try clear hk); (try clear hi); obtain ⟨hcz119_0, hcz119_1, hcz119_2, hcz119_3, hfz119_0, hfz119_1, hfz119_2, hfz119_3⟩ := zc4 BK151))
            refine bodyPost_ret (results_ct rfl _ _ gb151 23 #[.string (⟨#[]⟩ : ByteArray), .int .i64 0, .int .i64 0, .int .i64 0] (0, 0) _ rfl (zq BK151) Tryd.underlying23 rfl (by kernel_rfl)) rfl ?_
            exact ⟨zt_, zl_ HB⟩
        · rw [if_neg c12] at H
          exact absurd H (by simp)
      · rw [if_neg c11] at H
        exact absurd H (by simp)
    · rw [if_neg c10] at H
      have c10b0 : ((t156.length : Int) == 5) = false := beq_eq_false_iff_ne.mpr c10
      have c10b1 : ((t156.length : Int) != 5) = true := bne_iff_ne.mpr c10
      simp only [Option.some.injEq, Prod.mk.injEq] at H
      obtain ⟨rfl, rfl, rfl, rfl, rfl⟩ := H
      go_enter Tryd.func6, Tryd.ntmps6
      go_wp2_with (first | ((with_reducible refine gate_dst (N := 2) rfl ?_); refine zbx (N := 2) (cs := #[.string (⟨#[]⟩ : ByteArray), .int .i64 0, .int .i64 0, .int .i64 0]) (t := 23) ?_; intro gb151 hg w120 hbox hb; have BK151 := Aside0.mk (hbox); have GW151 := zw_ HB hg; have GE151 := zw_ HB hg; replace HB := zs_ HB hb; clear hb hbox hg) | ((with_reducible refine gate_dst (N := 11) rfl ?_); refine Kd.R_lit Kd.string _ 9 ?hg (N := 11) ?hd (xs := ([a0] : List ByteArray)) (inner := [.string a0]) (ok := fun _ => True) (okp := fun _ => True) ?hr ?hp (fun _ hk => hk) trivial (Below.refl _ _) (Nat.le_refl _) (by simp) ?_; (case hd => rfl); (case hg => rfl); (case hr => first | (go_simp; done) | (go_simp; rfl)); (case hp => exact (Reps.one (show Kd.M Kd.string _ _ _ a0 [.string a0] from rfl) (Reps.none _ _))); intro v153 w121 ho122 hb hg_ hnew_; clear hg_ hnew_; (first | rw [← Ny152.out] at ho122 | (simp only [Int.reduceToNat] at ho122; rw [← Ny152.out] at ho122)); have HO154 := Aside0.mk (Kd.R_lower ho122 (below_size (zl_ HB))); replace BK151 := zb BK151 hb; replace HB := zs_ HB hb; clear hb ho122; obtain ⟨Ao123, co123, eo123⟩ := Kd.R_slice HO154.out; subst eo123) | ((with_reducible refine gate_callee (f := 16) rfl ?_); refine zgl (some 12) Tryd.func16 #[.slice Ao123 y152.length co123] ?_; (with_reducible refine (impl_areLong.calls _ _ y152 false _ ?side1 ?side2 A2.out).mono ?_); (case side1 => repeat (first | exact (Kd.R_reads' HO154.out).2.2 | (with_reducible refine Kd.C_alloc ?_ _) | (with_reducible refine Kd.C_drewN ?_ _) | (with_reducible refine Kd.C_drew ?_))); (case side2 => exact (Kd.R_reads' HO154.out).2.1); rintro e w' ⟨rfl, ⟨nd, rfl⟩⟩; refine ⟨_, rfl, ?_⟩; (try (rw [drewN_self w121]; generalize hq_ : World.drewN w121 _ = w121; have n0_ : Aside0 (Kd.R Kd.string 9 w121 w.heap.size (fun _ => True) (.slice Ao123 y152.length co123) y152) := ⟨by rw [← hq_]; exact (zr HO154)⟩; have n1_ : Aside0 (w121.heap[gb151]? = some (.cells #[.string (⟨#[]⟩ : ByteArray), .int .i64 0, .int .i64 0, .int .i64 0] 23 (0, 0))) := ⟨by rw [← hq_]; exact (zk BK151)⟩; have n2_ : Aside0 (Below w.heap.size w w121) := ⟨by rw [← hq_]; exact (zl_ HB)⟩; clear HO154 BK151 HB hq_; have HO154 := n0_; have BK151 := n1_; have HB := n2_; clear n0_ n1_ n2_)); (try have hfu151_0 := blk_frozen BK151.out 0); (try have hcu151_0 : w121.cell? ⟨gb151, 0, none⟩ = some (.string (⟨#[]⟩ : ByteArray)) := (blk_cell BK151.out 0).trans rfl); (try have hfu151_1 := blk_frozen BK151.out 1); (try have hcu151_1 : w121.cell? ⟨gb151, 1, none⟩ = some (.int .i64 0) := (blk_cell BK151.out 1).trans rfl); (try have hfu151_2 := blk_frozen BK151.out 2); (try have hcu151_2 : w121.cell? ⟨gb151, 2, none⟩ = some (.int .i64 0) := (blk_cell BK151.out 2).trans rfl); (try have hfu151_3 := blk_frozen BK151.out 3); (try have hcu151_3 : w121.cell? ⟨gb151, 3, none⟩ = some (.int .i64 0) := (blk_cell BK151.out 3).trans rfl)) | ((with_reducible refine gate_callee (f := 17) rfl ?_); refine zgl (some 15) Tryd.func17 #[.string a0, .string (⟨#[32]⟩ : ByteArray)] ?_; (with_reducible refine (strings_Split.calls a0 (⟨#[32]⟩ : ByteArray) t156 _ ?side1 A9.out).mono ?_); (case side1 => exact HTD.out.on (zl_ HB)); rintro e w124 ⟨v157, rfl, ho0, hb⟩; refine ⟨_, rfl, ?_⟩; have HO158 := Aside0.mk (Kd.R_lower (Kd.R_new' ho0 (Kd.R_lt (zr HO154))) (below_size (zl_ HB))); replace BK151 := zb BK151 hb; replace HB := zs_ HB hb; (try clear hb); (try clear hb2); (try clear hk); (try clear hi); (try clear ho0); obtain ⟨Ao125, co125, eo125⟩ := Kd.R_slice HO158.out; subst eo125; obtain ⟨hcz126_0, hcz126_1, hcz126_2, hcz126_3, hfz126_0, hfz126_1, hfz126_2, hfz126_3⟩ := zc4 BK151))
      refine bodyPost_ret (results_ct rfl _ _ gb151 23 #[.string (⟨#[]⟩ : ByteArray), .int .i64 0, .int .i64 0, .int .i64 0] (0, 0) _ rfl (zq BK151) Tryd.underlying23 rfl (by kernel_rfl)) rfl ?_
      exact ⟨zt_, zl_ HB⟩
end Go.Proofs.YtioocldcdonlpaaDoor.A
end

section
namespace Go.Proofs.YtioocldcdonlpaaDoor.A
open Go.RowKit Go.Proofs.YtioocldcdonlpaaDoorW.PrintWords Go.Proofs.YtioocldcdonlpaaDoorW.PrintLast Go.Proofs.YtioocldcdonlpaaDoorW.PrintMore
attribute [local go_sem] max2_int min2_int max_two min_two max_three min_three max_four min_four
set_option maxHeartbeats 8000000 in
set_option maxRecDepth 100000 in
theorem laws_eqGrant.calls (a0_0 : ByteArray) (a0_1 : Int) (a0_2 : Int) (a0_3 : Int) (a1_0 : ByteArray) (a1_1 : Int) (a1_2 : Int) (a1_3 : Int) (r : Bool) (w : World) (h : laws_eqGrant.f a0_0 a0_1 a0_2 a0_3 a1_0 a1_1 a1_2 a1_3 = some r) :
    Calls Tryd.prog 7 #[.agg #[.string a0_0, .int .i64 a0_1, .int .i64 a0_2, .int .i64 a0_3], .agg #[.string a1_0, .int .i64 a1_1, .int .i64 a1_2, .int .i64 a1_3]] w fun e w' => e = .returned (.bool r) ∧ Below w.heap.size w w' := by
  have hu23 := Tryd.underlying23
  have HB := Aside0.mk (Below.refl w.heap.size w)
  have H : (if a0_0.toList = a1_0.toList then (if a0_1 = a1_1 then (if a0_2 = a1_2 then (if a0_3 = a1_3 then (some true) else (some false)) else (some false)) else (some false)) else (some false)) = some r := h
  clear h
  by_cases c3 : a0_0.toList = a1_0.toList
  · rw [if_pos c3] at H
    have c3b0 : (a0_0.toList == a1_0.toList) = true := beq_iff_eq.mpr c3
    have c3b1 : (a0_0.toList != a1_0.toList) = false := bne_eq_false_iff_eq.mpr c3
    clear c3
    by_cases c4 : a0_1 = a1_1
    · rw [if_pos c4] at H
      have c4b0 : (a0_1 == a1_1) = true := beq_iff_eq.mpr c4
      have c4b1 : (a0_1 != a1_1) = false := bne_eq_false_iff_eq.mpr c4
      clear c4
      by_cases c5 : a0_2 = a1_2
      · rw [if_pos c5] at H
        have c5b0 : (a0_2 == a1_2) = true := beq_iff_eq.mpr c5
        have c5b1 : (a0_2 != a1_2) = false := bne_eq_false_iff_eq.mpr c5
        clear c5
        by_cases c6 : a0_3 = a1_3
        · rw [if_pos c6] at H
          have c6b0 : (a0_3 == a1_3) = true := beq_iff_eq.mpr c6
          have c6b1 : (a0_3 != a1_3) = false := bne_eq_false_iff_eq.mpr c6
          clear c6
          obtain rfl := Option.some.inj H
          go_enter Tryd.func7, Tryd.ntmps7
          go_wp2_with (first | ((with_reducible refine gate_dst (N := 2) rfl ?_); refine zbx (N := 2) (cs := #[.string a0_0, .int .i64 a0_1, .int .i64 a0_2, .int .i64 a0_3]) (t := 23) ?_; intro gb172 hg w7 hbox hb; have BK172 := Aside0.mk (hbox); have GW172 := zw_ HB hg; have GE172 := zw_ HB hg; replace HB := zs_ HB hb; clear hb hbox hg) | ((with_reducible refine gate_dst (N := 3) rfl ?_); refine zbx (N := 3) (cs := #[.string a1_0, .int .i64 a1_1, .int .i64 a1_2, .int .i64 a1_3]) (t := 23) ?_; intro gb173 hg w8 hbox hb; have BK173 := Aside0.mk (hbox); have GW173 := zw_ HB hg; have GE173 := zw_ HB hg; replace HB := zs_ HB hb; have NB172_173 := zl hg BK172; have NB173_172 := zg hg BK172; replace BK172 := zb BK172 hb; clear hb hbox hg; have hnb9 := NB172_173.out; have hnc9 := NB173_172.out; obtain ⟨hcz10_0, hcz10_1, hcz10_2, hcz10_3, hfz10_0, hfz10_1, hfz10_2, hfz10_3⟩ := zc4 BK172; obtain ⟨hcz11_0, hcz11_1, hcz11_2, hcz11_3, hfz11_0, hfz11_1, hfz11_2, hfz11_3⟩ := zc4 BK173))
          go_ret
          exact ⟨zt_, zl_ HB⟩
        · rw [if_neg c6] at H
          have c6b0 : (a0_3 == a1_3) = false := beq_eq_false_iff_ne.mpr c6
          have c6b1 : (a0_3 != a1_3) = true := bne_iff_ne.mpr c6
          obtain rfl := Option.some.inj H
          go_enter Tryd.func7, Tryd.ntmps7
          go_wp2_with (first | ((with_reducible refine gate_dst (N := 2) rfl ?_); refine zbx (N := 2) (cs := #[.string a0_0, .int .i64 a0_1, .int .i64 a0_2, .int .i64 a0_3]) (t := 23) ?_; intro gb172 hg w12 hbox hb; have BK172 := Aside0.mk (hbox); have GW172 := zw_ HB hg; have GE172 := zw_ HB hg; replace HB := zs_ HB hb; clear hb hbox hg) | ((with_reducible refine gate_dst (N := 3) rfl ?_); refine zbx (N := 3) (cs := #[.string a1_0, .int .i64 a1_1, .int .i64 a1_2, .int .i64 a1_3]) (t := 23) ?_; intro gb173 hg w13 hbox hb; have BK173 := Aside0.mk (hbox); have GW173 := zw_ HB hg; have GE173 := zw_ HB hg; replace HB := zs_ HB hb; have NB172_173 := zl hg BK172; have NB173_172 := zg hg BK172; replace BK172 := zb BK172 hb; clear hb hbox hg; have hnb14 := NB172_173.out; have hnc14 := NB173_172.out; obtain ⟨hcz15_0, hcz15_1, hcz15_2, hcz15_3, hfz15_0, hfz15_1, hfz15_2, hfz15_3⟩ := zc4 BK172; obtain ⟨hcz16_0, hcz16_1, hcz16_2, hcz16_3, hfz16_0, hfz16_1, hfz16_2, hfz16_3⟩ := zc4 BK173))
          go_ret
          exact ⟨zt_, zl_ HB⟩
      · rw [if_neg c5] at H
        have c5b0 : (a0_2 == a1_2) = false := beq_eq_false_iff_ne.mpr c5
        have c5b1 : (a0_2 != a1_2) = true := bne_iff_ne.mpr c5
        obtain rfl := Option.some.inj H
        go_enter Tryd.func7, Tryd.ntmps7
        go_wp2_with (first | ((with_reducible refine gate_dst (N := 2) rfl ?_); refine zbx (N := 2) (cs := #[.string a0_0, .int .i64 a0_1, .int .i64 a0_2, .int .i64 a0_3]) (t := 23) ?_; intro gb172 hg w17 hbox hb; have BK172 := Aside0.mk (hbox); have GW172 := zw_ HB hg; have GE172 := zw_ HB hg; replace HB := zs_ HB hb; clear hb hbox hg) | ((with_reducible refine gate_dst (N := 3) rfl ?_); refine zbx (N := 3) (cs := #[.string a1_0, .int .i64 a1_1, .int .i64 a1_2, .int .i64 a1_3]) (t := 23) ?_; intro gb173 hg w18 hbox hb; have BK173 := Aside0.mk (hbox); have GW173 := zw_ HB hg; have GE173 := zw_ HB hg; replace HB := zs_ HB hb; have NB172_173 := zl hg BK172; have NB173_172 := zg hg BK172; replace BK172 := zb BK172 hb; clear hb hbox hg; have hnb19 := NB172_173.out; have hnc19 := NB173_172.out; obtain ⟨hcz20_0, hcz20_1, hcz20_2, hcz20_3, hfz20_0, hfz20_1, hfz20_2, hfz20_3⟩ := zc4 BK172; obtain ⟨hcz21_0, hcz21_1, hcz21_2, hcz21_3, hfz21_0, hfz21_1, hfz21_2, hfz21_3⟩ := zc4 BK173))
        go_ret
        exact ⟨zt_, zl_ HB⟩
    · rw [if_neg c4] at H
      have c4b0 : (a0_1 == a1_1) = false := beq_eq_false_iff_ne.mpr c4
      have c4b1 : (a0_1 != a1_1) = true := bne_iff_ne.mpr c4
      obtain rfl := Option.some.inj H
      go_enter Tryd.func7, Tryd.ntmps7
      go_wp2_with (first | ((with_reducible refine gate_dst (N := 2) rfl ?_); refine zbx (N := 2) (cs := #[.string a0_0, .int .i64 a0_1, .int .i64 a0_2, .int .i64 a0_3]) (t := 23) ?_; intro gb172 hg w22 hbox hb; have BK172 := Aside0.mk (hbox); have GW172 := zw_ HB hg; have GE172 := zw_ HB hg; replace HB := zs_ HB hb; clear hb hbox hg) | ((with_reducible refine gate_dst (N := 3) rfl ?_); refine zbx (N := 3) (cs := #[.string a1_0, .int .i64 a1_1, .int .i64 a1_2, .int .i64 a1_3]) (t := 23) ?_; intro gb173 hg w23 hbox hb; have BK173 := Aside0.mk (hbox); have GW173 := zw_ HB hg; have GE173 := zw_ HB hg; replace HB := zs_ HB hb; have NB172_173 := zl hg BK172; have NB173_172 := zg hg BK172; replace BK172 := zb BK172 hb; clear hb hbox hg; have hnb24 := NB172_173.out; have hnc24 := NB173_172.out; obtain ⟨hcz25_0, hcz25_1, hcz25_2, hcz25_3, hfz25_0, hfz25_1, hfz25_2, hfz25_3⟩ := zc4 BK172; obtain ⟨hcz26_0, hcz26_1, hcz26_2, hcz26_3, hfz26_0, hfz26_1, hfz26_2, hfz26_3⟩ := zc4 BK173))
      go_ret
      exact ⟨zt_, zl_ HB⟩
  · rw [if_neg c3] at H
    have c3b0 : (a0_0.toList == a1_0.toList) = false := beq_eq_false_iff_ne.mpr c3
    have c3b1 : (a0_0.toList != a1_0.toList) = true := bne_iff_ne.mpr c3
    obtain rfl := Option.some.inj H
    go_enter Tryd.func7, Tryd.ntmps7
    go_wp2_with (first | ((with_reducible refine gate_dst (N := 2) rfl ?_); refine zbx (N := 2) (cs := #[.string a0_0, .int .i64 a0_1, .int .i64 a0_2, .int .i64 a0_3]) (t := 23) ?_; intro gb172 hg w27 hbox hb; have BK172 := Aside0.mk (hbox); have GW172 := zw_ HB hg; have GE172 := zw_ HB hg; replace HB := zs_ HB hb; clear hb hbox hg) | ((with_reducible refine gate_dst (N := 3) rfl ?_); refine zbx (N := 3) (cs := #[.string a1_0, .int .i64 a1_1, .int .i64 a1_2, .int .i64 a1_3]) (t := 23) ?_; intro gb173 hg w28 hbox hb; have BK173 := Aside0.mk (hbox); have GW173 := zw_ HB hg; have GE173 := zw_ HB hg; replace HB := zs_ HB hb; have NB172_173 := zl hg BK172; have NB173_172 := zg hg BK172; replace BK172 := zb BK172 hb; clear hb hbox hg; have hnb29 := NB172_173.out; have hnc29 := NB173_172.out; obtain ⟨hcz30_0, hcz30_1, hcz30_2, hcz30_3, hfz30_0, hfz30_1, hfz30_2, hfz30_3⟩ := zc4 BK172; obtain ⟨hcz31_0, hcz31_1, hcz31_2, hcz31_3, hfz31_0, hfz31_1, hfz31_2, hfz31_3⟩ := zc4 BK173))
    go_ret
    exact ⟨zt_, zl_ HB⟩
end Go.Proofs.YtioocldcdonlpaaDoor.A
end

section
namespace Go.Proofs.YtioocldcdonlpaaDoor.A
open Go.RowKit Go.Proofs.YtioocldcdonlpaaDoorW.PrintWords Go.Proofs.YtioocldcdonlpaaDoorW.PrintLast Go.Proofs.YtioocldcdonlpaaDoorW.PrintMore
attribute [local go_sem] max2_int min2_int max_two min_two max_three min_three max_four min_four
set_option maxHeartbeats 8000000 in
set_option maxRecDepth 100000 in
theorem spec_l01In.calls (a0 : Int) (a1 : Int) (a2 : Int) (r : Bool) (w : World) (h : spec_l01In.f a0 a1 a2 = some r) :
    Calls Tryd.prog 27 #[.int .i64 a0, .int .i64 a1, .int .i64 a2] w fun e w' => e = .returned (.bool r) ∧ Drawn0 w w' := by
  have H : (if a0 ≥ a1 then (some (decide (a0 ≤ a2))) else (some false)) = some r := h
  clear h
  by_cases c4 : a0 ≥ a1
  · rw [if_pos c4] at H
    have c4b0 : decide (a1 ≤ a0) = true := decide_eq_true c4
    clear c4
    obtain rfl := Option.some.inj H
    go_enter Tryd.func27, Tryd.ntmps27
    go_wp2
    go_ret
    exact ⟨by first | rfl | (simp; done) | (simp [*]; done), by repeat (first | exact Drawn0.refl _ | apply Drawn0.step)⟩
  · rw [if_neg c4] at H
    have c4b0 : decide (a1 ≤ a0) = false := decide_eq_false c4
    clear c4
    obtain rfl := Option.some.inj H
    go_enter Tryd.func27, Tryd.ntmps27
    go_wp2
    go_ret
    exact ⟨by first | rfl | (simp; done) | (simp [*]; done), by repeat (first | exact Drawn0.refl _ | apply Drawn0.step)⟩
end Go.Proofs.YtioocldcdonlpaaDoor.A
end

section
namespace Go.Proofs.YtioocldcdonlpaaDoor.A
open Go.RowKit Go.Proofs.YtioocldcdonlpaaDoorW.PrintWords Go.Proofs.YtioocldcdonlpaaDoorW.PrintLast Go.Proofs.YtioocldcdonlpaaDoorW.PrintMore
attribute [local go_sem] max2_int min2_int max_two min_two max_three min_three max_four min_four
set_option maxHeartbeats 8000000 in
set_option maxRecDepth 100000 in
theorem spec_l00Digit.calls (a0 : Int) (r : Bool) (w : World) (h : spec_l00Digit.f a0 = some r) :
    Calls Tryd.prog 63 #[.int .u8 a0] w fun e w' => e = .returned (.bool r) ∧ Drawn0 w w' := by
  have H : (if a0 ≥ 48 then (some (decide (a0 ≤ 57))) else (some false)) = some r := h
  clear h
  by_cases c2 : a0 ≥ 48
  · rw [if_pos c2] at H
    have c2b0 : decide (48 ≤ a0) = true := decide_eq_true c2
    clear c2
    obtain rfl := Option.some.inj H
    go_enter Tryd.func63, Tryd.ntmps63
    go_wp2
    go_ret
    exact ⟨by first | rfl | (simp; done) | (simp [*]; done), by repeat (first | exact Drawn0.refl _ | apply Drawn0.step)⟩
  · rw [if_neg c2] at H
    have c2b0 : decide (48 ≤ a0) = false := decide_eq_false c2
    clear c2
    obtain rfl := Option.some.inj H
    go_enter Tryd.func63, Tryd.ntmps63
    go_wp2
    go_ret
    exact ⟨by first | rfl | (simp; done) | (simp [*]; done), by repeat (first | exact Drawn0.refl _ | apply Drawn0.step)⟩
end Go.Proofs.YtioocldcdonlpaaDoor.A
end

section
namespace Go.Proofs.YtioocldcdonlpaaDoor.A
open Go.RowKit Go.Proofs.YtioocldcdonlpaaDoorW.PrintWords Go.Proofs.YtioocldcdonlpaaDoorW.PrintLast Go.Proofs.YtioocldcdonlpaaDoorW.PrintMore
attribute [local go_sem] max2_int min2_int max_two min_two max_three min_three max_four min_four
set_option maxHeartbeats 8000000 in
set_option maxRecDepth 100000 in
theorem spec_l00Letter.calls (a0 : Int) (r : Bool) (w : World) (h : spec_l00Letter.f a0 = some r) :
    Calls Tryd.prog 62 #[.int .u8 a0] w fun e w' => e = .returned (.bool r) ∧ Drawn0 w w' := by
  have H : (if a0 ≥ 97 then (if a0 ≤ 122 then (some true) else (if a0 ≥ 65 then (if a0 ≤ 90 then (some true) else (some (a0 == 95))) else (some (a0 == 95)))) else (if a0 ≥ 65 then (if a0 ≤ 90 then (some true) else (some (a0 == 95))) else (some (a0 == 95)))) = some r := h
  clear h
  by_cases c2 : a0 ≥ 97
  · rw [if_pos c2] at H
    have c2b0 : decide (97 ≤ a0) = true := decide_eq_true c2
    clear c2
    by_cases c3 : a0 ≤ 122
    · rw [if_pos c3] at H
      have c3b0 : decide (a0 ≤ 122) = true := decide_eq_true c3
      clear c3
      obtain rfl := Option.some.inj H
      go_enter Tryd.func62, Tryd.ntmps62
      go_wp2
      go_ret
      exact ⟨by first | rfl | (simp; done) | (simp [*]; done), by repeat (first | exact Drawn0.refl _ | apply Drawn0.step)⟩
    · rw [if_neg c3] at H
      have c3b0 : decide (a0 ≤ 122) = false := decide_eq_false c3
      clear c3
      by_cases c4 : a0 ≥ 65
      · rw [if_pos c4] at H
        have c4b0 : decide (65 ≤ a0) = true := decide_eq_true c4
        clear c4
        by_cases c5 : a0 ≤ 90
        · rw [if_pos c5] at H
          have c5b0 : decide (a0 ≤ 90) = true := decide_eq_true c5
          clear c5
          obtain rfl := Option.some.inj H
          go_enter Tryd.func62, Tryd.ntmps62
          go_wp2
          go_ret
          exact ⟨by first | rfl | (simp; done) | (simp [*]; done), by repeat (first | exact Drawn0.refl _ | apply Drawn0.step)⟩
        · rw [if_neg c5] at H
          have c5b0 : decide (a0 ≤ 90) = false := decide_eq_false c5
          clear c5
          obtain rfl := Option.some.inj H
          go_enter Tryd.func62, Tryd.ntmps62
          go_wp2
          go_ret
          exact ⟨by first | rfl | (simp; done) | (simp [*]; done), by repeat (first | exact Drawn0.refl _ | apply Drawn0.step)⟩
      · rw [if_neg c4] at H
        have c4b0 : decide (65 ≤ a0) = false := decide_eq_false c4
        clear c4
        obtain rfl := Option.some.inj H
        go_enter Tryd.func62, Tryd.ntmps62
        go_wp2
        go_ret
        exact ⟨by first | rfl | (simp; done) | (simp [*]; done), by repeat (first | exact Drawn0.refl _ | apply Drawn0.step)⟩
  · rw [if_neg c2] at H
    have c2b0 : decide (97 ≤ a0) = false := decide_eq_false c2
    clear c2
    by_cases c6 : a0 ≥ 65
    · rw [if_pos c6] at H
      have c6b0 : decide (65 ≤ a0) = true := decide_eq_true c6
      clear c6
      by_cases c7 : a0 ≤ 90
      · rw [if_pos c7] at H
        have c7b0 : decide (a0 ≤ 90) = true := decide_eq_true c7
        clear c7
        obtain rfl := Option.some.inj H
        go_enter Tryd.func62, Tryd.ntmps62
        go_wp2
        go_ret
        exact ⟨by first | rfl | (simp; done) | (simp [*]; done), by repeat (first | exact Drawn0.refl _ | apply Drawn0.step)⟩
      · rw [if_neg c7] at H
        have c7b0 : decide (a0 ≤ 90) = false := decide_eq_false c7
        clear c7
        obtain rfl := Option.some.inj H
        go_enter Tryd.func62, Tryd.ntmps62
        go_wp2
        go_ret
        exact ⟨by first | rfl | (simp; done) | (simp [*]; done), by repeat (first | exact Drawn0.refl _ | apply Drawn0.step)⟩
    · rw [if_neg c6] at H
      have c6b0 : decide (65 ≤ a0) = false := decide_eq_false c6
      clear c6
      obtain rfl := Option.some.inj H
      go_enter Tryd.func62, Tryd.ntmps62
      go_wp2
      go_ret
      exact ⟨by first | rfl | (simp; done) | (simp [*]; done), by repeat (first | exact Drawn0.refl _ | apply Drawn0.step)⟩
end Go.Proofs.YtioocldcdonlpaaDoor.A
end

section
namespace Go.Proofs.YtioocldcdonlpaaDoor.A
open Go.RowKit Go.Proofs.YtioocldcdonlpaaDoorW.PrintWords Go.Proofs.YtioocldcdonlpaaDoorW.PrintLast Go.Proofs.YtioocldcdonlpaaDoorW.PrintMore
attribute [local go_sem] max2_int min2_int max_two min_two max_three min_three max_four min_four
set_option maxHeartbeats 8000000 in
set_option maxRecDepth 100000 in
theorem spec_l00Word.calls (k : Nat) (a0 : ByteArray) (r : Bool) (w : World) (h : spec_l00Word.f k a0 = some r) :
    Calls Tryd.prog 50 #[.string a0] w fun e w' => e = .returned (.bool r) ∧ Drawn0 w w' := by
  have H : (if (a0.size : Int) < 1 then (spec_l00Word.j0 k a0 true) else (if (a0.size : Int) > 40 then (spec_l00Word.j0 k a0 true) else (if 0 < (a0.size : Int) then ((spec_l00Letter.f (bt a0 0)).bind fun t110 => (spec_l00Word.j0 k a0 (!t110))) else (none)))) = some r := h
  clear h
  have HC2 := Aside0.mk H
  clear H
  go_enter Tryd.func50, Tryd.ntmps50
  go_upto_region 1 with (fail)
  go_cut [17] (fun v17 wc => ∃ (kq : Nat) (x17_1 : Bool), v17 = .bool x17_1 ∧ Aside0 (spec_l00Word.j0 kq a0 x17_1 = some r) ∧ Aside0 (kq ≤ k) ∧ Drawn0 w wc)
  case first =>
    have H := HC2.out
    clear HC2
    by_cases c3 : (a0.size : Int) < 1
    · rw [if_pos c3] at H
      have c3b0 : decide ((a0.size : Int) < 1) = true := decide_eq_true c3
      have c3b1 : decide (a0.size < 1) = true := decide_eq_true (by omega)
      clear c3
      (first | rw [c3b0] | (simp only [i64_w, i32_w]; rw [c3b0]) | skip)
      have H' := Aside0.mk H
      clear H
      go_wp2
      go_meet
      case rel => exact ⟨_, (true), (by first | rfl | (simp; done) | (simp [*]; done)), H', ⟨by first | omega | exact Nat.le_refl _⟩, by repeat (first | exact Drawn0.refl _ | apply Drawn0.step)⟩
    · rw [if_neg c3] at H
      have c3b0 : decide ((a0.size : Int) < 1) = false := decide_eq_false c3
      have c3b1 : decide (a0.size < 1) = false := decide_eq_false (by omega)
      clear c3
      (first | rw [c3b0] | (simp only [i64_w, i32_w]; rw [c3b0]) | skip)
      by_cases c4 : (a0.size : Int) > 40
      · rw [if_pos c4] at H
        have c4b0 : decide (40 < (a0.size : Int)) = true := decide_eq_true c4
        have c4b1 : decide (40 < a0.size) = true := decide_eq_true (by omega)
        clear c4
        have H' := Aside0.mk H
        clear H
        go_wp2
        go_meet
        case rel => exact ⟨_, (true), (by first | rfl | (simp; done) | (simp [*]; done)), H', ⟨by first | omega | exact Nat.le_refl _⟩, by repeat (first | exact Drawn0.refl _ | apply Drawn0.step)⟩
      · rw [if_neg c4] at H
        have c4b0 : decide (40 < (a0.size : Int)) = false := decide_eq_false c4
        have c4b1 : decide (40 < a0.size) = false := decide_eq_false (by omega)
        clear c4
        by_cases c5 : 0 < (a0.size : Int)
        · rw [if_pos c5] at H
          have c5b0 : decide (0 < (a0.size : Int)) = true := decide_eq_true c5
          have c5b1 : decide (0 < a0.size) = true := decide_eq_true (by omega)
          clear c5
          replace H := Option.bind_eq_some_iff.mp H
          obtain ⟨t110, A70, H⟩ := H
          replace H : (spec_l00Word.j0 k a0 (!t110)) = some r := H
          have A7 := Aside0.mk A70
          clear A70
          have H' := Aside0.mk H
          clear H
          have p6 : 0 ≤ (0 : Int) := (by omega)
          have q6 : 0 < a0.size := (by have : (0 : Int) < (a0.size : Int) := zo_; omega)
          have hx6 : ∀ h : 0 < a0.size, ((a0[0]'h).toNat : Int) = bt a0 0 := bt_at a0 0
          clear p6
          have qi6 : (0 < (a0.size : Int)) = True := eq_true (zo_)
          replace q6 := eq_true q6
          go_wp2_with (first | (go_at_call 62; (with_reducible refine (spec_l00Letter.calls (bt a0 0) t110 _ A7.out).mono ?_); rintro e w' ⟨rfl, ⟨nd, rfl⟩⟩))
          go_meet
          case rel => exact ⟨_, (!t110), (by first | rfl | (simp; done) | (simp [*]; done)), H', ⟨by first | omega | exact Nat.le_refl _⟩, by repeat (first | exact Drawn0.refl _ | apply Drawn0.step)⟩
        · rw [if_neg c5] at H
          exact absurd H (by simp)
  case rest =>
    clear HC2
    try clear p2
    try clear c3
    try clear c3b0
    try clear c3b1
    try clear c4
    try clear c4b0
    try clear c4b1
    try clear c5
    try clear c5b0
    try clear c5b1
    try clear p6
    try clear q6
    try clear hx6
    try clear qi6
    try clear p6
    try clear q6
    obtain ⟨kq, x17_1, rfl, HA, HJ1, ⟨mc1, rfl⟩⟩ := hcut
    cases kq with
    | zero => exact absurd HA.out (by simp [spec_l00Word.j0])
    | succ kj1 =>
      have H := HA.out
      clear HA
      simp only [spec_l00Word.j0] at H
      by_cases c8 : x17_1 = true
      · subst c8
        have H1 : (some false) = some r := by rw [if_pos rfl] at H; exact H
        clear H
        have H := H1
        clear H1
        obtain rfl := Option.some.inj H
        go_wp2
        go_ret
        exact ⟨by first | rfl | (simp; done) | (simp [*]; done), by repeat (first | exact Drawn0.refl _ | apply Drawn0.step)⟩
      · replace c8 := Bool.eq_false_iff.mpr c8
        subst c8
        have H1 : (spec_l00Word.l0 kj1 a0 1) = some r := by rw [if_neg (show ¬ (false = true) by decide)] at H; exact H
        clear H
        have H := H1
        clear H1
        have H' := Aside0.mk H
        clear H
        go_wp2
        go_loopg [3] kj1 (fun kq v3 w' => ∃ (x3_2 : Int), v3 = .int .i64 x3_2 ∧ Aside0 (spec_l00Word.l0 kq a0 x3_2 = some r) ∧ Aside0 (kq ≤ kj1) ∧ Drawn0 w w')
        case atStart => exact ⟨(1), (by first | rfl | (simp; done) | (simp [*]; done)), H', ⟨Nat.le_refl _⟩, by repeat (first | exact Drawn0.refl _ | apply Drawn0.step)⟩
        case round =>
          clear H'
          try clear c1
          try clear p2
          try clear c3
          try clear c3b0
          try clear c3b1
          try clear c4
          try clear c4b0
          try clear c4b1
          try clear c5
          try clear c5b0
          try clear c5b1
          try clear p6
          try clear q6
          try clear hx6
          try clear qi6
          try clear c8
          try clear p2
          try clear p6
          try clear q6
          obtain ⟨x3_2, rfl, HA, HK2, ⟨m2, rfl⟩⟩ := hrel
          cases gk with
          | zero => exact absurd HA.out (by simp [spec_l00Word.l0])
          | succ k2 =>
            have H := HA.out
            clear HA
            simp only [spec_l00Word.l0] at H
            by_cases c9 : x3_2 < (a0.size : Int)
            · rw [if_pos c9] at H
              have c9b0 : decide (x3_2 < (a0.size : Int)) = true := decide_eq_true c9
              clear c9
              by_cases c10 : 0 ≤ x3_2
              · rw [if_pos c10] at H
                have c10b0 : decide (0 ≤ x3_2) = true := decide_eq_true c10
                clear c10
                replace H := Option.bind_eq_some_iff.mp H
                obtain ⟨t111, A120, H⟩ := H
                replace H : (if t111 = true then (spec_l00Word.l0 k2 a0 (wrap64 (x3_2 + 1))) else ((spec_l00Digit.f (bt a0 x3_2)).bind fun t112 => (if t112 = true then (spec_l00Word.l0 k2 a0 (wrap64 (x3_2 + 1))) else (some false)))) = some r := H
                have A12 := Aside0.mk A120
                clear A120
                by_cases c13 : t111 = true
                · subst c13
                  have H1 : (spec_l00Word.l0 k2 a0 (wrap64 (x3_2 + 1))) = some r := by rw [if_pos rfl] at H; exact H
                  clear H
                  have H := H1
                  clear H1
                  have H' := Aside0.mk H
                  clear H
                  have p11 : 0 ≤ (x3_2 : Int) := zo_
                  have q11 : x3_2 < (a0.size : Int) := zo_
                  have hx11 := bt_at a0 x3_2
                  replace p11 := eq_true p11
                  replace q11 := eq_true q11
                  go_wp2_with (first | ((with_reducible refine gate_callee (f := 62) rfl ?_); refine zgl (some 27) Tryd.func62 #[.int .u8 (bt a0 x3_2)] ?_; (with_reducible refine (spec_l00Letter.calls (bt a0 x3_2) true _ A12.out).mono ?_); rintro e w' ⟨rfl, ⟨nd, rfl⟩⟩; refine ⟨_, rfl, ?_⟩))
                  go_roundg k2
                  case measure => have := HJ1.out; have := HK2.out; omega
                  case rel => exact ⟨(wrap64 (x3_2 + 1)), (by first | rfl | (simp; done) | (simp [*]; done)), H', ⟨by have := HJ1.out; have := HK2.out; omega⟩, by repeat (first | exact Drawn0.refl _ | apply Drawn0.step)⟩
                · replace c13 := Bool.eq_false_iff.mpr c13
                  subst c13
                  have H1 : ((spec_l00Digit.f (bt a0 x3_2)).bind fun t112 => (if t112 = true then (spec_l00Word.l0 k2 a0 (wrap64 (x3_2 + 1))) else (some false))) = some r := by rw [if_neg (show ¬ (false = true) by decide)] at H; exact H
                  clear H
                  have H := H1
                  clear H1
                  replace H := Option.bind_eq_some_iff.mp H
                  obtain ⟨t112, A150, H⟩ := H
                  replace H : (if t112 = true then (spec_l00Word.l0 k2 a0 (wrap64 (x3_2 + 1))) else (some false)) = some r := H
                  have A15 := Aside0.mk A150
                  clear A150
                  by_cases c16 : t112 = true
                  · subst c16
                    have H1 : (spec_l00Word.l0 k2 a0 (wrap64 (x3_2 + 1))) = some r := by rw [if_pos rfl] at H; exact H
                    clear H
                    have H := H1
                    clear H1
                    have H' := Aside0.mk H
                    clear H
                    have p11 : 0 ≤ (x3_2 : Int) := zo_
                    have q11 : x3_2 < (a0.size : Int) := zo_
                    have hx11 := bt_at a0 x3_2
                    replace p11 := eq_true p11
                    replace q11 := eq_true q11
                    go_wp2_with (first | ((with_reducible refine gate_callee (f := 62) rfl ?_); refine zgl (some 27) Tryd.func62 #[.int .u8 (bt a0 x3_2)] ?_; (with_reducible refine (spec_l00Letter.calls (bt a0 x3_2) false _ A12.out).mono ?_); rintro e w' ⟨rfl, ⟨nd, rfl⟩⟩; refine ⟨_, rfl, ?_⟩; have p14 : 0 ≤ (x3_2 : Int) := zo_; have q14 : x3_2 < (a0.size : Int) := zo_; have hx14 := bt_at a0 x3_2; replace p14 := eq_true p14; replace q14 := eq_true q14) | (go_at_call 63; (with_reducible refine (spec_l00Digit.calls (bt a0 x3_2) true _ A15.out).mono ?_); rintro e w' ⟨rfl, ⟨nd, rfl⟩⟩))
                    go_roundg k2
                    case measure => have := HJ1.out; have := HK2.out; omega
                    case rel => exact ⟨(wrap64 (x3_2 + 1)), (by first | rfl | (simp; done) | (simp [*]; done)), H', ⟨by have := HJ1.out; have := HK2.out; omega⟩, by repeat (first | exact Drawn0.refl _ | apply Drawn0.step)⟩
                  · replace c16 := Bool.eq_false_iff.mpr c16
                    subst c16
                    have H1 : (some false) = some r := by rw [if_neg (show ¬ (false = true) by decide)] at H; exact H
                    clear H
                    have H := H1
                    clear H1
                    obtain rfl := Option.some.inj H
                    have p11 : 0 ≤ (x3_2 : Int) := zo_
                    have q11 : x3_2 < (a0.size : Int) := zo_
                    have hx11 := bt_at a0 x3_2
                    replace p11 := eq_true p11
                    replace q11 := eq_true q11
                    go_wp2_with (first | ((with_reducible refine gate_callee (f := 62) rfl ?_); refine zgl (some 27) Tryd.func62 #[.int .u8 (bt a0 x3_2)] ?_; (with_reducible refine (spec_l00Letter.calls (bt a0 x3_2) false _ A12.out).mono ?_); rintro e w' ⟨rfl, ⟨nd, rfl⟩⟩; refine ⟨_, rfl, ?_⟩; have p14 : 0 ≤ (x3_2 : Int) := zo_; have q14 : x3_2 < (a0.size : Int) := zo_; have hx14 := bt_at a0 x3_2; replace p14 := eq_true p14; replace q14 := eq_true q14) | (go_at_call 63; (with_reducible refine (spec_l00Digit.calls (bt a0 x3_2) false _ A15.out).mono ?_); rintro e w' ⟨rfl, ⟨nd, rfl⟩⟩))
                    go_ret
                    exact ⟨by first | rfl | (simp; done) | (simp [*]; done), by repeat (first | exact Drawn0.refl _ | apply Drawn0.step)⟩
              · rw [if_neg c10] at H
                exact absurd H (by simp)
            · rw [if_neg c9] at H
              have c9b0 : decide (x3_2 < (a0.size : Int)) = false := decide_eq_false c9
              clear c9
              obtain rfl := Option.some.inj H
              go_wp2
              go_ret
              exact ⟨by first | rfl | (simp; done) | (simp [*]; done), by repeat (first | exact Drawn0.refl _ | apply Drawn0.step)⟩
end Go.Proofs.YtioocldcdonlpaaDoor.A
end

section
namespace Go.Proofs.YtioocldcdonlpaaDoor.A
open Go.RowKit Go.Proofs.YtioocldcdonlpaaDoorW.PrintWords Go.Proofs.YtioocldcdonlpaaDoorW.PrintLast Go.Proofs.YtioocldcdonlpaaDoorW.PrintMore
attribute [local go_sem] max2_int min2_int max_two min_two max_three min_three max_four min_four
set_option maxHeartbeats 8000000 in
set_option maxRecDepth 100000 in
theorem spec_NameOK.calls (k : Nat) (a0 : ByteArray) (r : Bool) (w : World) (h : spec_NameOK.f k a0 = some r) :
    Calls Tryd.prog 39 #[.string a0] w fun e w' => e = .returned (.bool r) ∧ Drawn0 w w' := by
  have H : ((spec_l00Word.f k a0).bind fun t113 => (some t113)) = some r := h
  clear h
  replace H := Option.bind_eq_some_iff.mp H
  obtain ⟨t113, A20, H⟩ := H
  replace H : (some t113) = some r := H
  have A2 := Aside0.mk A20
  clear A20
  obtain rfl := Option.some.inj H
  go_enter Tryd.func39, Tryd.ntmps39
  go_wp2_with (first | ((with_reducible refine gate_callee (f := 50) rfl ?_); refine zgl (some 4) Tryd.func50 #[.string a0] ?_; (with_reducible refine (spec_l00Word.calls k a0 t113 _ A2.out).mono ?_); rintro e w' ⟨rfl, ⟨nd, rfl⟩⟩; refine ⟨_, rfl, ?_⟩))
  go_ret
  exact ⟨by first | rfl | (simp; done) | (simp [*]; done), by repeat (first | exact Drawn0.refl _ | apply Drawn0.step)⟩
end Go.Proofs.YtioocldcdonlpaaDoor.A
end

section
namespace Go.Proofs.YtioocldcdonlpaaDoor.A
open Go.RowKit Go.Proofs.YtioocldcdonlpaaDoorW.PrintWords Go.Proofs.YtioocldcdonlpaaDoorW.PrintLast Go.Proofs.YtioocldcdonlpaaDoorW.PrintMore
attribute [local go_sem] max2_int min2_int max_two min_two max_three min_three max_four min_four
set_option maxHeartbeats 8000000 in
set_option maxRecDepth 100000 in
theorem spec_l02Text.calls (k : Nat) (a0 : ByteArray) (a1 : Int) (r : Bool) (w : World) (h : spec_l02Text.f k a0 a1 = some r) :
    Calls Tryd.prog 26 #[.string a0, .int .i64 a1] w fun e w' => e = .returned (.bool r) ∧ Drawn0 w w' := by
  have H : ((spec_l01In.f (a0.size : Int) 1 a1).bind fun t114 => (if t114 = true then ((spec_NameOK.f k a0).bind fun t115 => (some t115)) else (some false))) = some r := h
  clear h
  replace H := Option.bind_eq_some_iff.mp H
  obtain ⟨t114, A30, H⟩ := H
  replace H : (if t114 = true then ((spec_NameOK.f k a0).bind fun t115 => (some t115)) else (some false)) = some r := H
  have A3 := Aside0.mk A30
  clear A30
  by_cases c4 : t114 = true
  · subst c4
    have H1 : ((spec_NameOK.f k a0).bind fun t115 => (some t115)) = some r := by rw [if_pos rfl] at H; exact H
    clear H
    have H := H1
    clear H1
    replace H := Option.bind_eq_some_iff.mp H
    obtain ⟨t115, A50, H⟩ := H
    replace H : (some t115) = some r := H
    have A5 := Aside0.mk A50
    clear A50
    obtain rfl := Option.some.inj H
    go_enter Tryd.func26, Tryd.ntmps26
    go_wp2_with (first | ((with_reducible refine gate_callee (f := 27) rfl ?_); refine zgl (some 8) Tryd.func27 #[.int .i64 (a0.size : Int), .int .i64 1, .int .i64 a1] ?_; (with_reducible refine (spec_l01In.calls (a0.size : Int) 1 a1 true _ A3.out).mono ?_); rintro e w' ⟨rfl, ⟨nd, rfl⟩⟩; refine ⟨_, rfl, ?_⟩) | (go_at_call 39; (with_reducible refine (spec_NameOK.calls k a0 t115 _ A5.out).mono ?_); rintro e w' ⟨rfl, ⟨nd, rfl⟩⟩))
    go_ret
    exact ⟨by first | rfl | (simp; done) | (simp [*]; done), by repeat (first | exact Drawn0.refl _ | apply Drawn0.step)⟩
  · replace c4 := Bool.eq_false_iff.mpr c4
    subst c4
    have H1 : (some false) = some r := by rw [if_neg (show ¬ (false = true) by decide)] at H; exact H
    clear H
    have H := H1
    clear H1
    obtain rfl := Option.some.inj H
    go_enter Tryd.func26, Tryd.ntmps26
    go_wp2_with (first | ((with_reducible refine gate_callee (f := 27) rfl ?_); refine zgl (some 8) Tryd.func27 #[.int .i64 (a0.size : Int), .int .i64 1, .int .i64 a1] ?_; (with_reducible refine (spec_l01In.calls (a0.size : Int) 1 a1 false _ A3.out).mono ?_); rintro e w' ⟨rfl, ⟨nd, rfl⟩⟩; refine ⟨_, rfl, ?_⟩))
    go_ret
    exact ⟨by first | rfl | (simp; done) | (simp [*]; done), by repeat (first | exact Drawn0.refl _ | apply Drawn0.step)⟩
end Go.Proofs.YtioocldcdonlpaaDoor.A
end

section
namespace Go.Proofs.YtioocldcdonlpaaDoor.A
open Go.RowKit Go.Proofs.YtioocldcdonlpaaDoorW.PrintWords Go.Proofs.YtioocldcdonlpaaDoorW.PrintLast Go.Proofs.YtioocldcdonlpaaDoorW.PrintMore
attribute [local go_sem] max2_int min2_int max_two min_two max_three min_three max_four min_four
set_option maxHeartbeats 8000000 in
set_option maxRecDepth 100000 in
theorem spec_GrantOK.calls (k : Nat) (a0_0 : ByteArray) (a0_1 : Int) (a0_2 : Int) (a0_3 : Int) (r : Bool) (w : World) (h : spec_GrantOK.f k a0_0 a0_1 a0_2 a0_3 = some r) :
    Calls Tryd.prog 15 #[.agg #[.string a0_0, .int .i64 a0_1, .int .i64 a0_2, .int .i64 a0_3]] w fun e w' => e = .returned (.bool r) ∧ Below w.heap.size w w' := by
  have hu23 := Tryd.underlying23
  have HB := Aside0.mk (Below.refl w.heap.size w)
  have H : ((spec_l02Text.f k a0_0 12).bind fun t117 => (if t117 = true then ((spec_l01In.f a0_1 0 255).bind fun t118 => (if t118 = true then ((spec_l01In.f a0_2 1 1000000).bind fun t119 => (if t119 = true then ((spec_l01In.f a0_3 0 2000000000).bind fun t120 => (some t120)) else (some false))) else (some false))) else (some false))) = some r := h
  clear h
  replace H := Option.bind_eq_some_iff.mp H
  obtain ⟨t117, A20, H⟩ := H
  replace H : (if t117 = true then ((spec_l01In.f a0_1 0 255).bind fun t118 => (if t118 = true then ((spec_l01In.f a0_2 1 1000000).bind fun t119 => (if t119 = true then ((spec_l01In.f a0_3 0 2000000000).bind fun t120 => (some t120)) else (some false))) else (some false))) else (some false)) = some r := H
  have A2 := Aside0.mk A20
  clear A20
  by_cases c3 : t117 = true
  · subst c3
    have H1 : ((spec_l01In.f a0_1 0 255).bind fun t118 => (if t118 = true then ((spec_l01In.f a0_2 1 1000000).bind fun t119 => (if t119 = true then ((spec_l01In.f a0_3 0 2000000000).bind fun t120 => (some t120)) else (some false))) else (some false))) = some r := by rw [if_pos rfl] at H; exact H
    clear H
    have H := H1
    clear H1
    replace H := Option.bind_eq_some_iff.mp H
    obtain ⟨t118, A40, H⟩ := H
    replace H : (if t118 = true then ((spec_l01In.f a0_2 1 1000000).bind fun t119 => (if t119 = true then ((spec_l01In.f a0_3 0 2000000000).bind fun t120 => (some t120)) else (some false))) else (some false)) = some r := H
    have A4 := Aside0.mk A40
    clear A40
    by_cases c5 : t118 = true
    · subst c5
      have H1 : ((spec_l01In.f a0_2 1 1000000).bind fun t119 => (if t119 = true then ((spec_l01In.f a0_3 0 2000000000).bind fun t120 => (some t120)) else (some false))) = some r := by rw [if_pos rfl] at H; exact H
      clear H
      have H := H1
      clear H1
      replace H := Option.bind_eq_some_iff.mp H
      obtain ⟨t119, A60, H⟩ := H
      replace H : (if t119 = true then ((spec_l01In.f a0_3 0 2000000000).bind fun t120 => (some t120)) else (some false)) = some r := H
      have A6 := Aside0.mk A60
      clear A60
      by_cases c7 : t119 = true
      · subst c7
        have H1 : ((spec_l01In.f a0_3 0 2000000000).bind fun t120 => (some t120)) = some r := by rw [if_pos rfl] at H; exact H
        clear H
        have H := H1
        clear H1
        replace H := Option.bind_eq_some_iff.mp H
        obtain ⟨t120, A80, H⟩ := H
        replace H : (some t120) = some r := H
        have A8 := Aside0.mk A80
        clear A80
        obtain rfl := Option.some.inj H
        go_enter Tryd.func15, Tryd.ntmps15
        go_wp2_with (first | ((with_reducible refine gate_dst (N := 1) rfl ?_); refine zbx (N := 1) (cs := #[.string a0_0, .int .i64 a0_1, .int .i64 a0_2, .int .i64 a0_3]) (t := 23) ?_; intro gb116 hg w9 hbox hb; have BK116 := Aside0.mk (hbox); have GW116 := zw_ HB hg; have GE116 := zw_ HB hg; replace HB := zs_ HB hb; clear hb hbox hg; obtain ⟨hcz10_0, hcz10_1, hcz10_2, hcz10_3, hfz10_0, hfz10_1, hfz10_2, hfz10_3⟩ := zc4 BK116) | ((with_reducible refine gate_callee (f := 26) rfl ?_); refine zgl (some 5) Tryd.func26 #[.string a0_0, .int .i64 12] ?_; (with_reducible refine (spec_l02Text.calls k a0_0 12 true _ A2.out).mono ?_); rintro e w' ⟨rfl, ⟨nd, rfl⟩⟩; refine ⟨_, rfl, ?_⟩) | (go_at_call 27; (with_reducible refine (spec_l01In.calls a0_1 0 255 true _ A4.out).mono ?_); rintro e w' ⟨rfl, ⟨nd, rfl⟩⟩) | (go_at_call 27; (with_reducible refine (spec_l01In.calls a0_2 1 1000000 true _ A6.out).mono ?_); rintro e w' ⟨rfl, ⟨nd, rfl⟩⟩) | (go_at_call 27; (with_reducible refine (spec_l01In.calls a0_3 0 2000000000 t120 _ A8.out).mono ?_); rintro e w' ⟨rfl, ⟨nd, rfl⟩⟩))
        go_ret
        exact ⟨zt_, zl_ HB⟩
      · replace c7 := Bool.eq_false_iff.mpr c7
        subst c7
        have H1 : (some false) = some r := by rw [if_neg (show ¬ (false = true) by decide)] at H; exact H
        clear H
        have H := H1
        clear H1
        obtain rfl := Option.some.inj H
        go_enter Tryd.func15, Tryd.ntmps15
        go_wp2_with (first | ((with_reducible refine gate_dst (N := 1) rfl ?_); refine zbx (N := 1) (cs := #[.string a0_0, .int .i64 a0_1, .int .i64 a0_2, .int .i64 a0_3]) (t := 23) ?_; intro gb116 hg w11 hbox hb; have BK116 := Aside0.mk (hbox); have GW116 := zw_ HB hg; have GE116 := zw_ HB hg; replace HB := zs_ HB hb; clear hb hbox hg; obtain ⟨hcz12_0, hcz12_1, hcz12_2, hcz12_3, hfz12_0, hfz12_1, hfz12_2, hfz12_3⟩ := zc4 BK116) | ((with_reducible refine gate_callee (f := 26) rfl ?_); refine zgl (some 5) Tryd.func26 #[.string a0_0, .int .i64 12] ?_; (with_reducible refine (spec_l02Text.calls k a0_0 12 true _ A2.out).mono ?_); rintro e w' ⟨rfl, ⟨nd, rfl⟩⟩; refine ⟨_, rfl, ?_⟩) | (go_at_call 27; (with_reducible refine (spec_l01In.calls a0_1 0 255 true _ A4.out).mono ?_); rintro e w' ⟨rfl, ⟨nd, rfl⟩⟩) | (go_at_call 27; (with_reducible refine (spec_l01In.calls a0_2 1 1000000 false _ A6.out).mono ?_); rintro e w' ⟨rfl, ⟨nd, rfl⟩⟩))
        go_ret
        exact ⟨zt_, zl_ HB⟩
    · replace c5 := Bool.eq_false_iff.mpr c5
      subst c5
      have H1 : (some false) = some r := by rw [if_neg (show ¬ (false = true) by decide)] at H; exact H
      clear H
      have H := H1
      clear H1
      obtain rfl := Option.some.inj H
      go_enter Tryd.func15, Tryd.ntmps15
      go_wp2_with (first | ((with_reducible refine gate_dst (N := 1) rfl ?_); refine zbx (N := 1) (cs := #[.string a0_0, .int .i64 a0_1, .int .i64 a0_2, .int .i64 a0_3]) (t := 23) ?_; intro gb116 hg w13 hbox hb; have BK116 := Aside0.mk (hbox); have GW116 := zw_ HB hg; have GE116 := zw_ HB hg; replace HB := zs_ HB hb; clear hb hbox hg; obtain ⟨hcz14_0, hcz14_1, hcz14_2, hcz14_3, hfz14_0, hfz14_1, hfz14_2, hfz14_3⟩ := zc4 BK116) | ((with_reducible refine gate_callee (f := 26) rfl ?_); refine zgl (some 5) Tryd.func26 #[.string a0_0, .int .i64 12] ?_; (with_reducible refine (spec_l02Text.calls k a0_0 12 true _ A2.out).mono ?_); rintro e w' ⟨rfl, ⟨nd, rfl⟩⟩; refine ⟨_, rfl, ?_⟩) | (go_at_call 27; (with_reducible refine (spec_l01In.calls a0_1 0 255 false _ A4.out).mono ?_); rintro e w' ⟨rfl, ⟨nd, rfl⟩⟩))
      go_ret
      exact ⟨zt_, zl_ HB⟩
  · replace c3 := Bool.eq_false_iff.mpr c3
    subst c3
    have H1 : (some false) = some r := by rw [if_neg (show ¬ (false = true) by decide)] at H; exact H
    clear H
    have H := H1
    clear H1
    obtain rfl := Option.some.inj H
    go_enter Tryd.func15, Tryd.ntmps15
    go_wp2_with (first | ((with_reducible refine gate_dst (N := 1) rfl ?_); refine zbx (N := 1) (cs := #[.string a0_0, .int .i64 a0_1, .int .i64 a0_2, .int .i64 a0_3]) (t := 23) ?_; intro gb116 hg w15 hbox hb; have BK116 := Aside0.mk (hbox); have GW116 := zw_ HB hg; have GE116 := zw_ HB hg; replace HB := zs_ HB hb; clear hb hbox hg; obtain ⟨hcz16_0, hcz16_1, hcz16_2, hcz16_3, hfz16_0, hfz16_1, hfz16_2, hfz16_3⟩ := zc4 BK116) | ((with_reducible refine gate_callee (f := 26) rfl ?_); refine zgl (some 5) Tryd.func26 #[.string a0_0, .int .i64 12] ?_; (with_reducible refine (spec_l02Text.calls k a0_0 12 false _ A2.out).mono ?_); rintro e w' ⟨rfl, ⟨nd, rfl⟩⟩; refine ⟨_, rfl, ?_⟩))
    go_ret
    exact ⟨zt_, zl_ HB⟩
end Go.Proofs.YtioocldcdonlpaaDoor.A
end

section
namespace Go.Proofs.YtioocldcdonlpaaDoor.A
open Go.RowKit Go.Proofs.YtioocldcdonlpaaDoorW.PrintWords Go.Proofs.YtioocldcdonlpaaDoorW.PrintLast Go.Proofs.YtioocldcdonlpaaDoorW.PrintMore
attribute [local go_sem] max2_int min2_int max_two min_two max_three min_three max_four min_four
set_option maxHeartbeats 8000000 in
set_option maxRecDepth 100000 in
theorem spec_l00Cut.calls (k : Nat) (a0 : ByteArray) (a1 : Int) (r : List ByteArray) (w : World) (h : spec_l00Cut.f k a0 a1 = some r) :
    Calls Tryd.prog 13 #[.string a0, .int .u8 a1] w fun e w' => ∃ v0_ : Value, e = .returned (v0_) ∧ Kd.R Kd.string 9 w' w.heap.size (fun _ => True) v0_ r ∧ Below w.heap.size w w' := by
  have HB := Aside0.mk (Below.refl w.heap.size w)
  have H : (spec_l00Cut.l0 k a0 a1 (([] : List ByteArray)) 0 0) = some r := h
  clear h
  obtain ⟨y101, hy101⟩ : ∃ y_ : List ByteArray, y_ = (([] : List ByteArray)) := ⟨_, rfl⟩
  replace H : (spec_l00Cut.l0 k a0 a1 y101 0 0) = some r := by first | (rw [hy101]; with_reducible exact H) | (have H2_ := (Option.bind_some _ _).symm.trans H; rw [hy101]; with_reducible exact H2_) | (have H2_ := (Option.bind_some _ _).symm.trans H; with_reducible exact H2_) | with_reducible exact H | (rw [hy101]; exact H) | exact H
  have Ny101 := Aside0.mk hy101
  clear hy101
  have H' := Aside0.mk H
  clear H
  go_enter Tryd.func13, Tryd.ntmps13
  go_wp2_with (first | ((with_reducible refine gate_dst (N := 8) rfl ?_); refine Kd.R_lit Kd.string _ 9 ?hg (N := 8) ?hd (xs := ([] : List ByteArray)) (inner := []) (ok := fun _ => True) (okp := fun _ => True) ?hr ?hp (fun _ hk => hk) trivial (Below.refl _ _) (Nat.le_refl _) (by simp) ?_; (case hd => rfl); (case hg => rfl); (case hr => first | (go_simp; done) | (go_simp; rfl)); (case hp => exact (Reps.none _ _)); intro v102 w3 ho4 hb hg_ hnew_; clear hg_ hnew_; (first | rw [← Ny101.out] at ho4 | (simp only [Int.reduceToNat] at ho4; rw [← Ny101.out] at ho4)); have HO103 := Aside0.mk (Kd.R_lower ho4 (below_size (zl_ HB))); replace HB := zs_ HB hb; clear hb ho4))
  go_loopg [5, 6, 7] k (fun kq v5 v6 v7 w' => ∃ (x5_1 : List ByteArray) (x6_1 : Int) (x7_1 : Int), v6 = .int .i64 x6_1 ∧ v7 = .int .i64 x7_1 ∧ Aside0 (spec_l00Cut.l0 kq a0 a1 x5_1 x6_1 x7_1 = some r) ∧ Aside0 (kq ≤ k) ∧ Aside0 (Kd.R Kd.string 9 w' w.heap.size (fun _ => True) v5 x5_1) ∧ Aside0 (Below w.heap.size w w'))
  case atStart => exact ⟨(y101), (0), (0), (by first | rfl | (simp; done) | (simp [*]; done)), (by first | rfl | (simp; done) | (simp [*]; done)), H', ⟨Nat.le_refl _⟩, ⟨zr HO103⟩, ⟨zl_ HB⟩⟩
  case round =>
    clear H'
    try clear c1
    try clear p2
    obtain ⟨x5_1, x6_1, x7_1, rfl, rfl, HA, HK1, HO_5, HB⟩ := hrel
    cases gk with
    | zero => exact absurd HA.out (by simp [spec_l00Cut.l0])
    | succ k1 =>
      have H := HA.out
      clear HA
      simp only [spec_l00Cut.l0] at H
      by_cases c5 : x7_1 < (a0.size : Int)
      · rw [if_pos c5] at H
        have c5b0 : decide (x7_1 < (a0.size : Int)) = true := decide_eq_true c5
        clear c5
        by_cases c6 : 0 ≤ x7_1
        · rw [if_pos c6] at H
          have c6b0 : decide (0 ≤ x7_1) = true := decide_eq_true c6
          clear c6
          by_cases c8 : (bt a0 x7_1) = a1
          · rw [if_pos c8] at H
            have c8b0 : ((bt a0 x7_1) == a1) = true := beq_iff_eq.mpr c8
            have c8b1 : ((bt a0 x7_1) != a1) = false := bne_eq_false_iff_eq.mpr c8
            clear c8
            by_cases c9 : 0 ≤ x6_1
            · rw [if_pos c9] at H
              have c9b0 := eq_true c9
              have c9b1 : decide (0 ≤ x6_1) = true := decide_eq_true c9
              clear c9
              by_cases c10 : x6_1 ≤ x7_1
              · rw [if_pos c10] at H
                have c10b0 := eq_true c10
                have c10b1 : decide (x6_1 ≤ x7_1) = true := decide_eq_true c10
                clear c10
                by_cases c11 : x7_1 ≤ (a0.size : Int)
                · rw [if_pos c11] at H
                  have c11b0 := eq_true c11
                  have c11b1 : decide (x7_1 ≤ (a0.size : Int)) = true := decide_eq_true c11
                  clear c11
                  by_cases c12 : x5_1.length < 8796093022208
                  · rw [if_pos c12] at H
                    have LMc12 := Aside0.mk c12
                    clear c12
                    obtain ⟨y104, hy104⟩ : ∃ y_ : List ByteArray, y_ = (x5_1 ++ [a0.extract (x6_1 : Int).toNat (x7_1 : Int).toNat]) := ⟨_, rfl⟩
                    replace H : (spec_l00Cut.l0 k1 a0 a1 y104 (wrap64 (x7_1 + 1)) (wrap64 (x7_1 + 1))) = some r := by first | (rw [hy104]; with_reducible exact H) | (have H2_ := (Option.bind_some _ _).symm.trans H; rw [hy104]; with_reducible exact H2_) | (have H2_ := (Option.bind_some _ _).symm.trans H; with_reducible exact H2_) | with_reducible exact H | (rw [hy104]; exact H) | exact H
                    have Ny104 := Aside0.mk hy104
                    clear hy104
                    have H' := Aside0.mk H
                    clear H
                    have p7 : 0 ≤ (x7_1 : Int) := zo_
                    have q7 : x7_1 < (a0.size : Int) := zo_
                    have hx7 := bt_at a0 x7_1
                    replace p7 := eq_true p7
                    replace q7 := eq_true q7
                    go_wp2_with (first | ((with_reducible refine gate_builtin (b := .append) (xs := #[.tmp 20, .tmp 25]) rfl ?_); at_builtin; refine Kd.R_append Kd.string (w0 := w) w.heap.size rfl (.tmp 20) (.tmp 25) 36 9 (.string ⟨#[]⟩) 16 rfl Tryd.underlying36 info9 rfl (by decide) (by omega) u5 x5_1 (a0.extract (x6_1 : Int).toNat (x7_1 : Int).toNat) [.string (a0.extract (x6_1 : Int).toNat (x7_1 : Int).toNat)] (fun _ => True) (fun _ => False) rfl rfl ?aP (fun _ hk => hk.elim) ?aF ?aO ?aB ?aS ?aL ?_; (case aP => exact rfl); (case aB => exact (zl_ HB)); (case aF => exact (fun _ _ => trivial)); (case aO => exact (zr HO_5)); (case aS => exact (below_size (zl_ HB))); (case aL => have := LMc12.out; omega); intro v105 w13 ho hb hg hat; rw [← Ny104.out] at ho; replace HB := Aside0.mk (hb); have HO106 := Aside0.mk (ho); clear HO_5; clear ho hb hg hat))
                    go_roundg k1
                    case measure => have := HK1.out; omega
                    case rel => exact ⟨(y104), (wrap64 (x7_1 + 1)), (wrap64 (x7_1 + 1)), (by first | rfl | (simp; done) | (simp [*]; done)), (by first | rfl | (simp; done) | (simp [*]; done)), H', ⟨by have := HK1.out; omega⟩, ⟨zr HO106⟩, ⟨zl_ HB⟩⟩
                  · rw [if_neg c12] at H
                    exact absurd H (by simp)
                · rw [if_neg c11] at H
                  exact absurd H (by simp)
              · rw [if_neg c10] at H
                exact absurd H (by simp)
            · rw [if_neg c9] at H
              exact absurd H (by simp)
          · rw [if_neg c8] at H
            have c8b0 : ((bt a0 x7_1) == a1) = false := beq_eq_false_iff_ne.mpr c8
            have c8b1 : ((bt a0 x7_1) != a1) = true := bne_iff_ne.mpr c8
            have H' := Aside0.mk H
            clear H
            have p7 : 0 ≤ (x7_1 : Int) := zo_
            have q7 : x7_1 < (a0.size : Int) := zo_
            have hx7 := bt_at a0 x7_1
            replace p7 := eq_true p7
            replace q7 := eq_true q7
            go_wp2
            go_roundg k1
            case measure => have := HK1.out; omega
            case rel => exact ⟨(x5_1), (x6_1), (wrap64 (x7_1 + 1)), (by first | rfl | (simp; done) | (simp [*]; done)), (by first | rfl | (simp; done) | (simp [*]; done)), H', ⟨by have := HK1.out; omega⟩, ⟨zr HO_5⟩, ⟨zl_ HB⟩⟩
        · rw [if_neg c6] at H
          exact absurd H (by simp)
      · rw [if_neg c5] at H
        have c5b0 : decide (x7_1 < (a0.size : Int)) = false := decide_eq_false c5
        clear c5
        by_cases c14 : 0 ≤ x6_1
        · rw [if_pos c14] at H
          have c14b0 := eq_true c14
          have c14b1 : decide (0 ≤ x6_1) = true := decide_eq_true c14
          clear c14
          by_cases c15 : x6_1 ≤ (a0.size : Int)
          · rw [if_pos c15] at H
            have c15b0 := eq_true c15
            have c15b1 : decide (x6_1 ≤ (a0.size : Int)) = true := decide_eq_true c15
            clear c15
            by_cases c16 : x5_1.length < 8796093022208
            · rw [if_pos c16] at H
              have LMc16 := Aside0.mk c16
              clear c16
              obtain ⟨y107, hy107⟩ : ∃ y_ : List ByteArray, y_ = (x5_1 ++ [a0.extract (x6_1 : Int).toNat a0.size]) := ⟨_, rfl⟩
              replace H : (some y107) = some r := by first | (rw [hy107]; with_reducible exact H) | (have H2_ := (Option.bind_some _ _).symm.trans H; rw [hy107]; with_reducible exact H2_) | (have H2_ := (Option.bind_some _ _).symm.trans H; with_reducible exact H2_) | with_reducible exact H | (rw [hy107]; exact H) | exact H
              have Ny107 := Aside0.mk hy107
              clear hy107
              obtain rfl := Option.some.inj H
              go_wp2_with (first | ((with_reducible refine gate_builtin (b := .append) (xs := #[.tmp 29, .tmp 33]) rfl ?_); at_builtin; refine Kd.R_append Kd.string (w0 := w) w.heap.size rfl (.tmp 29) (.tmp 33) 36 9 (.string ⟨#[]⟩) 16 rfl Tryd.underlying36 info9 rfl (by decide) (by omega) u5 x5_1 (a0.extract (x6_1 : Int).toNat a0.size) [.string (a0.extract (x6_1 : Int).toNat a0.size)] (fun _ => True) (fun _ => False) rfl rfl ?aP (fun _ hk => hk.elim) ?aF ?aO ?aB ?aS ?aL ?_; (case aP => exact rfl); (case aB => exact (zl_ HB)); (case aF => exact (fun _ _ => trivial)); (case aO => exact (zr HO_5)); (case aS => exact (below_size (zl_ HB))); (case aL => have := LMc16.out; omega); intro v108 w17 ho hb hg hat; rw [← Ny107.out] at ho; replace HB := Aside0.mk (hb); have HO109 := Aside0.mk (ho); clear HO_5; clear ho hb hg hat))
              go_ret
              exact ⟨_, zt_, zr HO109, zl_ HB⟩
            · rw [if_neg c16] at H
              exact absurd H (by simp)
          · rw [if_neg c15] at H
            exact absurd H (by simp)
        · rw [if_neg c14] at H
          exact absurd H (by simp)
end Go.Proofs.YtioocldcdonlpaaDoor.A
end

section
namespace Go.Proofs.YtioocldcdonlpaaDoor.A
open Go.RowKit Go.Proofs.YtioocldcdonlpaaDoorW.PrintWords Go.Proofs.YtioocldcdonlpaaDoorW.PrintLast Go.Proofs.YtioocldcdonlpaaDoorW.PrintMore
attribute [local go_sem] max2_int min2_int max_two min_two max_three min_three max_four min_four
set_option maxHeartbeats 8000000 in
set_option maxRecDepth 100000 in
theorem spec_l00Number.calls (k : Nat) (a0 : ByteArray) (r1 : Int) (r2 : Bool) (w : World) (h : spec_l00Number.f k a0 = some (r1, r2)) :
    Calls Tryd.prog 14 #[.string a0] w fun e w' => e = .returned (.tuple #[.int .i64 r1, .bool r2]) ∧ Drawn0 w w' := by
  have H : (if (a0.size : Int) > 0 then (if 0 < (a0.size : Int) then (spec_l00Number.j0 k a0 1 ((bt a0 0) == 45)) else (none)) else (spec_l00Number.j0 k a0 1 false)) = some (r1, r2) := h
  clear h
  have HC2 := Aside0.mk H
  clear H
  go_enter Tryd.func14, Tryd.ntmps14
  go_upto_region 2 with (fail)
  go_cut [14] (fun v14 wc => ∃ (kq : Nat) (x14_1 : Bool), v14 = .bool x14_1 ∧ Aside0 (spec_l00Number.j0 kq a0 1 x14_1 = some (r1, r2)) ∧ Aside0 (kq ≤ k) ∧ Drawn0 w wc)
  case first =>
    have H := HC2.out
    clear HC2
    by_cases c3 : (a0.size : Int) > 0
    · rw [if_pos c3] at H
      have c3b0 : decide (0 < (a0.size : Int)) = true := decide_eq_true c3
      have c3b1 : decide (0 < a0.size) = true := decide_eq_true (by omega)
      clear c3
      (first | rw [c3b0] | (simp only [i64_w, i32_w]; rw [c3b0]) | skip)
      by_cases c4 : 0 < (a0.size : Int)
      · rw [if_pos c4] at H
        have c4b0 : decide (0 < (a0.size : Int)) = true := decide_eq_true c4
        have c4b1 : decide (0 < a0.size) = true := decide_eq_true (by omega)
        clear c4
        have H' := Aside0.mk H
        clear H
        have p5 : 0 ≤ (0 : Int) := (by omega)
        have q5 : 0 < a0.size := (by have : (0 : Int) < (a0.size : Int) := zo_; omega)
        have hx5 : ∀ h : 0 < a0.size, ((a0[0]'h).toNat : Int) = bt a0 0 := bt_at a0 0
        clear p5
        have qi5 : (0 < (a0.size : Int)) = True := eq_true (zo_)
        replace q5 := eq_true q5
        go_wp2
        go_meet
        case rel => exact ⟨_, (((bt a0 0) == 45)), (by first | rfl | (simp; done) | (simp [*]; done)), H', ⟨by first | omega | exact Nat.le_refl _⟩, by repeat (first | exact Drawn0.refl _ | apply Drawn0.step)⟩
      · rw [if_neg c4] at H
        exact absurd H (by simp)
    · rw [if_neg c3] at H
      have c3b0 : decide (0 < (a0.size : Int)) = false := decide_eq_false c3
      have c3b1 : decide (0 < a0.size) = false := decide_eq_false (by omega)
      clear c3
      (first | rw [c3b0] | (simp only [i64_w, i32_w]; rw [c3b0]) | skip)
      have H' := Aside0.mk H
      clear H
      go_wp2
      go_meet
      case rel => exact ⟨_, (false), (by first | rfl | (simp; done) | (simp [*]; done)), H', ⟨by first | omega | exact Nat.le_refl _⟩, by repeat (first | exact Drawn0.refl _ | apply Drawn0.step)⟩
  case rest =>
    clear HC2
    try clear c1
    try clear p2
    try clear c3
    try clear c3b0
    try clear c3b1
    try clear c4
    try clear c4b0
    try clear c4b1
    try clear p5
    try clear q5
    try clear hx5
    try clear qi5
    try clear p5
    try clear q5
    obtain ⟨kq, x14_1, rfl, HA, HJ1, ⟨mc1, rfl⟩⟩ := hcut
    cases kq with
    | zero => exact absurd HA.out (by simp [spec_l00Number.j0])
    | succ kj1 =>
      have H := HA.out
      clear HA
      simp only [spec_l00Number.j0] at H
      have HC6 := Aside0.mk H
      clear H
      go_upto_if 14 with (fail)
      go_cut [0, 4] (fun v0 v4 wc => ∃ (kq : Nat) (x0_5 : ByteArray) (x4_5 : Int), v0 = .string x0_5 ∧ v4 = .int .i64 x4_5 ∧ Aside0 (spec_l00Number.j1 kq x0_5 x4_5 = some (r1, r2)) ∧ Aside0 (kq ≤ kj1) ∧ Drawn0 w wc)
      case first =>
        have H := HC6.out
        clear HC6
        by_cases c7 : x14_1 = true
        · subst c7
          have H1 : (if 1 ≤ (a0.size : Int) then (spec_l00Number.j1 kj1 (a0.extract 1 a0.size) (-1)) else (none)) = some (r1, r2) := by rw [if_pos rfl] at H; exact H
          clear H
          have H := H1
          clear H1
          by_cases c8 : 1 ≤ (a0.size : Int)
          · rw [if_pos c8] at H
            have c8b0 := eq_true c8
            have c8b1 : decide (1 ≤ (a0.size : Int)) = true := decide_eq_true c8
            clear c8
            have H' := Aside0.mk H
            clear H
            go_wp2
            go_meet
            case rel => exact ⟨_, (a0.extract 1 a0.size), ((-1)), (by first | rfl | (simp; done) | (simp [*]; done)), (by first | rfl | (simp; done) | (simp [*]; done)), H', ⟨by have := HJ1.out; first | omega | exact Nat.le_refl _⟩, by repeat (first | exact Drawn0.refl _ | apply Drawn0.step)⟩
          · rw [if_neg c8] at H
            exact absurd H (by simp)
        · replace c7 := Bool.eq_false_iff.mpr c7
          subst c7
          have H1 : (spec_l00Number.j1 kj1 a0 1) = some (r1, r2) := by rw [if_neg (show ¬ (false = true) by decide)] at H; exact H
          clear H
          have H := H1
          clear H1
          have H' := Aside0.mk H
          clear H
          go_wp2
          go_meet
          case rel => exact ⟨_, (a0), (1), (by first | rfl | (simp; done) | (simp [*]; done)), (by first | rfl | (simp; done) | (simp [*]; done)), H', ⟨by have := HJ1.out; first | omega | exact Nat.le_refl _⟩, by repeat (first | exact Drawn0.refl _ | apply Drawn0.step)⟩
      case rest =>
        clear HC6
        try clear c1
        try clear p2
        try clear c3
        try clear c3b0
        try clear c3b1
        try clear c4
        try clear c4b0
        try clear c4b1
        try clear p5
        try clear q5
        try clear hx5
        try clear qi5
        try clear c7
        try clear c8
        try clear c8b0
        try clear c8b1
        try clear p2
        try clear p5
        try clear q5
        obtain ⟨kq, x0_5, x4_5, rfl, rfl, HA, HJ5, ⟨mc5, rfl⟩⟩ := hcut
        cases kq with
        | zero => exact absurd HA.out (by simp [spec_l00Number.j1])
        | succ kj5 =>
          have H := HA.out
          clear HA
          simp only [spec_l00Number.j1] at H
          have HC9 := Aside0.mk H
          clear H
          go_upto_region 5 with (fail)
          go_cut [38] (fun v38 wc => ∃ (kq : Nat) (x38_8 : Bool), v38 = .bool x38_8 ∧ Aside0 (spec_l00Number.j2 kq x0_5 x4_5 x38_8 = some (r1, r2)) ∧ Aside0 (kq ≤ kj5) ∧ Drawn0 w wc)
          case first =>
            have H := HC9.out
            clear HC9
            by_cases c10 : (x0_5.size : Int) = 0
            · rw [if_pos c10] at H
              have c10b0 : ((x0_5.size : Int) == 0) = true := beq_iff_eq.mpr c10
              have c10b1 : ((x0_5.size : Int) != 0) = false := bne_eq_false_iff_eq.mpr c10
              clear c10
              (first | rw [c10b0] | (simp only [i64_w, i32_w]; rw [c10b0]) | skip)
              have H' := Aside0.mk H
              clear H
              go_wp2
              go_meet
              case rel => exact ⟨_, (true), (by first | rfl | (simp; done) | (simp [*]; done)), H', ⟨by have := HJ1.out; have := HJ5.out; first | omega | exact Nat.le_refl _⟩, by repeat (first | exact Drawn0.refl _ | apply Drawn0.step)⟩
            · rw [if_neg c10] at H
              have c10b0 : ((x0_5.size : Int) == 0) = false := beq_eq_false_iff_ne.mpr c10
              have c10b1 : ((x0_5.size : Int) != 0) = true := bne_iff_ne.mpr c10
              (first | rw [c10b0] | (simp only [i64_w, i32_w]; rw [c10b0]) | skip)
              by_cases c11 : (x0_5.size : Int) > 18
              · rw [if_pos c11] at H
                have c11b0 : decide (18 < (x0_5.size : Int)) = true := decide_eq_true c11
                have c11b1 : decide (18 < x0_5.size) = true := decide_eq_true (by omega)
                clear c11
                have H' := Aside0.mk H
                clear H
                go_wp2
                go_meet
                case rel => exact ⟨_, (true), (by first | rfl | (simp; done) | (simp [*]; done)), H', ⟨by have := HJ1.out; have := HJ5.out; first | omega | exact Nat.le_refl _⟩, by repeat (first | exact Drawn0.refl _ | apply Drawn0.step)⟩
              · rw [if_neg c11] at H
                have c11b0 : decide (18 < (x0_5.size : Int)) = false := decide_eq_false c11
                have c11b1 : decide (18 < x0_5.size) = false := decide_eq_false (by omega)
                clear c11
                by_cases c12 : 0 < (x0_5.size : Int)
                · rw [if_pos c12] at H
                  have c12b0 : decide (0 < (x0_5.size : Int)) = true := decide_eq_true c12
                  have c12b1 : decide (0 < x0_5.size) = true := decide_eq_true (by omega)
                  clear c12
                  by_cases c14 : (bt x0_5 0) = 48
                  · rw [if_pos c14] at H
                    have c14b0 : ((bt x0_5 0) == 48) = true := beq_iff_eq.mpr c14
                    have c14b1 : ((bt x0_5 0) != 48) = false := bne_eq_false_iff_eq.mpr c14
                    clear c14
                    by_cases c15 : (x0_5.size : Int) > 1
                    · rw [if_pos c15] at H
                      have c15b0 : decide (1 < (x0_5.size : Int)) = true := decide_eq_true c15
                      have c15b1 : decide (1 < x0_5.size) = true := decide_eq_true (by omega)
                      clear c15
                      have H' := Aside0.mk H
                      clear H
                      have p13 : 0 ≤ (0 : Int) := (by omega)
                      have q13 : 0 < x0_5.size := (by have : (0 : Int) < (x0_5.size : Int) := zo_; omega)
                      have hx13 : ∀ h : 0 < x0_5.size, ((x0_5[0]'h).toNat : Int) = bt x0_5 0 := bt_at x0_5 0
                      clear p13
                      have qi13 : (0 < (x0_5.size : Int)) = True := eq_true (zo_)
                      replace q13 := eq_true q13
                      go_wp2
                      go_meet
                      case rel => exact ⟨_, (true), (by first | rfl | (simp; done) | (simp [*]; done)), H', ⟨by have := HJ1.out; have := HJ5.out; first | omega | exact Nat.le_refl _⟩, by repeat (first | exact Drawn0.refl _ | apply Drawn0.step)⟩
                    · rw [if_neg c15] at H
                      have c15b0 : decide (1 < (x0_5.size : Int)) = false := decide_eq_false c15
                      have c15b1 : decide (1 < x0_5.size) = false := decide_eq_false (by omega)
                      clear c15
                      have H' := Aside0.mk H
                      clear H
                      have p13 : 0 ≤ (0 : Int) := (by omega)
                      have q13 : 0 < x0_5.size := (by have : (0 : Int) < (x0_5.size : Int) := zo_; omega)
                      have hx13 : ∀ h : 0 < x0_5.size, ((x0_5[0]'h).toNat : Int) = bt x0_5 0 := bt_at x0_5 0
                      clear p13
                      have qi13 : (0 < (x0_5.size : Int)) = True := eq_true (zo_)
                      replace q13 := eq_true q13
                      go_wp2
                      go_meet
                      case rel => exact ⟨_, (decide (x4_5 < 0)), (by first | rfl | (simp; done) | (simp [*]; done)), H', ⟨by have := HJ1.out; have := HJ5.out; first | omega | exact Nat.le_refl _⟩, by repeat (first | exact Drawn0.refl _ | apply Drawn0.step)⟩
                  · rw [if_neg c14] at H
                    have c14b0 : ((bt x0_5 0) == 48) = false := beq_eq_false_iff_ne.mpr c14
                    have c14b1 : ((bt x0_5 0) != 48) = true := bne_iff_ne.mpr c14
                    have H' := Aside0.mk H
                    clear H
                    have p13 : 0 ≤ (0 : Int) := (by omega)
                    have q13 : 0 < x0_5.size := (by have : (0 : Int) < (x0_5.size : Int) := zo_; omega)
                    have hx13 : ∀ h : 0 < x0_5.size, ((x0_5[0]'h).toNat : Int) = bt x0_5 0 := bt_at x0_5 0
                    clear p13
                    have qi13 : (0 < (x0_5.size : Int)) = True := eq_true (zo_)
                    replace q13 := eq_true q13
                    go_wp2
                    go_meet
                    case rel => exact ⟨_, (false), (by first | rfl | (simp; done) | (simp [*]; done)), H', ⟨by have := HJ1.out; have := HJ5.out; first | omega | exact Nat.le_refl _⟩, by repeat (first | exact Drawn0.refl _ | apply Drawn0.step)⟩
                · rw [if_neg c12] at H
                  exact absurd H (by simp)
          case rest =>
            clear HC9
            try clear c1
            try clear p1
            try clear q1
            try clear hx1
            try clear qi1
            try clear p2
            try clear c3
            try clear c3b0
            try clear c3b1
            try clear c4
            try clear c4b0
            try clear c4b1
            try clear c5
            try clear p5
            try clear q5
            try clear hx5
            try clear qi5
            try clear c7
            try clear c8
            try clear c8b0
            try clear c8b1
            try clear c10
            try clear c10b0
            try clear c10b1
            try clear c11
            try clear c11b0
            try clear c11b1
            try clear c12
            try clear c12b0
            try clear c12b1
            try clear p13
            try clear q13
            try clear hx13
            try clear qi13
            try clear c14
            try clear c14b0
            try clear c14b1
            try clear c15
            try clear c15b0
            try clear c15b1
            try clear p13
            try clear p2
            try clear p5
            try clear q13
            try clear q5
            obtain ⟨kq, x38_8, rfl, HA, HJ8, ⟨mc8, rfl⟩⟩ := hcut
            cases kq with
            | zero => exact absurd HA.out (by simp [spec_l00Number.j2])
            | succ kj8 =>
              have H := HA.out
              clear HA
              simp only [spec_l00Number.j2] at H
              by_cases c16 : x38_8 = true
              · subst c16
                have H1 : (some (0, false)) = some (r1, r2) := by rw [if_pos rfl] at H; exact H
                clear H
                have H := H1
                clear H1
                simp only [Option.some.injEq, Prod.mk.injEq] at H
                obtain ⟨rfl, rfl⟩ := H
                go_wp2
                go_ret2
                exact ⟨by first | rfl | (simp; done) | (simp [*]; done), by repeat (first | exact Drawn0.refl _ | apply Drawn0.step)⟩
              · replace c16 := Bool.eq_false_iff.mpr c16
                subst c16
                have H1 : (spec_l00Number.l0 kj8 x0_5 x4_5 0 0) = some (r1, r2) := by rw [if_neg (show ¬ (false = true) by decide)] at H; exact H
                clear H
                have H := H1
                clear H1
                have H' := Aside0.mk H
                clear H
                go_wp2
                go_loopg [5, 6] kj8 (fun kq v5 v6 w' => ∃ (x5_4 : Int) (x6_4 : Int), v5 = .int .i64 x5_4 ∧ v6 = .int .i64 x6_4 ∧ Aside0 (spec_l00Number.l0 kq x0_5 x4_5 x5_4 x6_4 = some (r1, r2)) ∧ Aside0 (kq ≤ kj8) ∧ Drawn0 w w')
                case atStart => exact ⟨(0), (0), (by first | rfl | (simp; done) | (simp [*]; done)), (by first | rfl | (simp; done) | (simp [*]; done)), H', ⟨Nat.le_refl _⟩, by repeat (first | exact Drawn0.refl _ | apply Drawn0.step)⟩
                case round =>
                  clear H'
                  try clear c1
                  try clear p1
                  try clear q1
                  try clear hx1
                  try clear qi1
                  try clear p2
                  try clear c3
                  try clear c3b0
                  try clear c3b1
                  try clear c4
                  try clear c4b0
                  try clear c4b1
                  try clear c5
                  try clear p5
                  try clear q5
                  try clear hx5
                  try clear qi5
                  try clear c7
                  try clear c8
                  try clear c8b0
                  try clear c8b1
                  try clear c10
                  try clear c10b0
                  try clear c10b1
                  try clear c11
                  try clear c11b0
                  try clear c11b1
                  try clear c12
                  try clear c12b0
                  try clear c12b1
                  try clear p13
                  try clear q13
                  try clear hx13
                  try clear qi13
                  try clear c14
                  try clear c14b0
                  try clear c14b1
                  try clear c15
                  try clear c15b0
                  try clear c15b1
                  try clear c16
                  try clear p1
                  try clear p13
                  try clear p2
                  try clear p5
                  try clear q1
                  try clear q13
                  try clear q5
                  obtain ⟨x5_4, x6_4, rfl, rfl, HA, HK4, ⟨m4, rfl⟩⟩ := hrel
                  cases gk with
                  | zero => exact absurd HA.out (by simp [spec_l00Number.l0])
                  | succ k4 =>
                    have H := HA.out
                    clear HA
                    simp only [spec_l00Number.l0] at H
                    by_cases c17 : x6_4 < (x0_5.size : Int)
                    · rw [if_pos c17] at H
                      have c17b0 : decide (x6_4 < (x0_5.size : Int)) = true := decide_eq_true c17
                      clear c17
                      by_cases c18 : 0 ≤ x6_4
                      · rw [if_pos c18] at H
                        have c18b0 : decide (0 ≤ x6_4) = true := decide_eq_true c18
                        clear c18
                        by_cases c20 : (bt x0_5 x6_4) < 48
                        · rw [if_pos c20] at H
                          have c20b0 : decide ((bt x0_5 x6_4) < 48) = true := decide_eq_true c20
                          clear c20
                          simp only [Option.some.injEq, Prod.mk.injEq] at H
                          obtain ⟨rfl, rfl⟩ := H
                          have p19 : 0 ≤ (x6_4 : Int) := zo_
                          have q19 : x6_4 < (x0_5.size : Int) := zo_
                          have hx19 := bt_at x0_5 x6_4
                          replace p19 := eq_true p19
                          replace q19 := eq_true q19
                          go_wp2
                          go_ret2
                          exact ⟨by first | rfl | (simp; done) | (simp [*]; done), by repeat (first | exact Drawn0.refl _ | apply Drawn0.step)⟩
                        · rw [if_neg c20] at H
                          have c20b0 : decide ((bt x0_5 x6_4) < 48) = false := decide_eq_false c20
                          clear c20
                          by_cases c22 : (bt x0_5 x6_4) > 57
                          · rw [if_pos c22] at H
                            have c22b0 : decide (57 < (bt x0_5 x6_4)) = true := decide_eq_true c22
                            clear c22
                            simp only [Option.some.injEq, Prod.mk.injEq] at H
                            obtain ⟨rfl, rfl⟩ := H
                            have p19 : 0 ≤ (x6_4 : Int) := zo_
                            have q19 : x6_4 < (x0_5.size : Int) := zo_
                            have hx19 := bt_at x0_5 x6_4
                            replace p19 := eq_true p19
                            replace q19 := eq_true q19
                            have p21 : 0 ≤ (x6_4 : Int) := zo_
                            have q21 : x6_4 < (x0_5.size : Int) := zo_
                            have hx21 := bt_at x0_5 x6_4
                            replace p21 := eq_true p21
                            replace q21 := eq_true q21
                            go_wp2
                            go_ret2
                            exact ⟨by first | rfl | (simp; done) | (simp [*]; done), by repeat (first | exact Drawn0.refl _ | apply Drawn0.step)⟩
                          · rw [if_neg c22] at H
                            have c22b0 : decide (57 < (bt x0_5 x6_4)) = false := decide_eq_false c22
                            clear c22
                            have H' := Aside0.mk H
                            clear H
                            have p19 : 0 ≤ (x6_4 : Int) := zo_
                            have q19 : x6_4 < (x0_5.size : Int) := zo_
                            have hx19 := bt_at x0_5 x6_4
                            replace p19 := eq_true p19
                            replace q19 := eq_true q19
                            have p21 : 0 ≤ (x6_4 : Int) := zo_
                            have q21 : x6_4 < (x0_5.size : Int) := zo_
                            have hx21 := bt_at x0_5 x6_4
                            replace p21 := eq_true p21
                            replace q21 := eq_true q21
                            have p23 : 0 ≤ (x6_4 : Int) := zo_
                            have q23 : x6_4 < (x0_5.size : Int) := zo_
                            have hx23 := bt_at x0_5 x6_4
                            replace p23 := eq_true p23
                            replace q23 := eq_true q23
                            go_wp2
                            go_roundg k4
                            case measure => have := HJ1.out; have := HJ5.out; have := HJ8.out; have := HK4.out; omega
                            case rel => exact ⟨(wrap64 ((wrap64 ((wrap64 (x5_4 * 10)) + (wrap64 (bt x0_5 x6_4)))) - 48)), (wrap64 (x6_4 + 1)), (by first | rfl | (simp; done) | (simp [*]; done)), (by first | rfl | (simp; done) | (simp [*]; done)), H', ⟨by have := HJ1.out; have := HJ5.out; have := HJ8.out; have := HK4.out; omega⟩, by repeat (first | exact Drawn0.refl _ | apply Drawn0.step)⟩
                      · rw [if_neg c18] at H
                        exact absurd H (by simp)
                    · rw [if_neg c17] at H
                      have c17b0 : decide (x6_4 < (x0_5.size : Int)) = false := decide_eq_false c17
                      clear c17
                      simp only [Option.some.injEq, Prod.mk.injEq] at H
                      obtain ⟨rfl, rfl⟩ := H
                      go_wp2
                      go_ret2
                      exact ⟨by first | rfl | (simp; done) | (simp [*]; done), by repeat (first | exact Drawn0.refl _ | apply Drawn0.step)⟩
end Go.Proofs.YtioocldcdonlpaaDoor.A
end
