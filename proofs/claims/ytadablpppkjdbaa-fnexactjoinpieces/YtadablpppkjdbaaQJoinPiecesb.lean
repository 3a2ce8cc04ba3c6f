/- A part of the proof that FnExactJoinPieces returns true at every input: plain functions, contracts and lemmas. No conditions. -/
import Derived.Test.YtadablpppkjdbaaQJoinPiecesa
import Derived.Lib.SlBy
import Derived.Lib.Walk
import Derived.Shelf.Strings.OnBuilder
set_option linter.unusedVariables false
set_option linter.unusedSimpArgs false
set_option linter.unusedSectionVars false
section
namespace Go.Proofs.Ytadablpppkjdbaa.A
open Go.RowKit Go.Proofs.YtadablpppkjdbaaW.PrintWords Go.Proofs.YtadablpppkjdbaaW.PrintLast Go.Proofs.YtadablpppkjdbaaW.PrintMore
abbrev r1_ := @Kd.R_alloc
abbrev r2_ := @Kd.R_drewN
abbrev r3_ := @Kd.R_drew
theorem d1_ {α : Type _} (l : List α) (i : Nat) : (l.drop i).length = l.length - i := List.length_drop
theorem d2_ {α : Type _} (l : List α) (i : Nat) : (l.take i).length = min i l.length := List.length_take
theorem o1_ {p : Prop} [Decidable p] (h : decide p = true) : p := of_decide_eq_true h
theorem e3_ (l : List UInt8) : (l == []) = l.isEmpty := mp_beq_nil l
theorem e4_ (l : List UInt8) : (l != []) = !l.isEmpty := mp_bne_nil l
theorem am_ {p : Prop} (h : p) : Aside0 p := ⟨h⟩
theorem p1_ {α : Type _} (l : List α) (i : Nat) (a : α) : l.toArray.setIfInBounds i a = (l.set i a).toArray := List.setIfInBounds_toArray ..
theorem p2_ {α : Type _} (x : α) (xs : List α) (a : α) : (x :: xs).set 0 a = a :: xs := List.set_cons_zero
theorem p3_ {α : Type _} (x : α) (xs : List α) (i : Nat) (a : α) : (x :: xs).set (i + 1) a = x :: xs.set i a := List.set_cons_succ
theorem m1_ {α β : Type _} (f : α → β) (l : List α) : l.toArray.map f = (l.map f).toArray := List.map_toArray
theorem m2_ {α β : Type _} (f : α → β) (a : α) (l : List α) : (a :: l).map f = f a :: l.map f := List.map_cons
theorem m3_ {α β : Type _} (f : α → β) : ([] : List α).map f = [] := List.map_nil
attribute [local go_sem] max2_int min2_int max_two min_two max_three min_three max_four min_four
def errW : Option Int → Value
  | none => .nilIface
  | some c => .iface 0 (.int .i64 c)
theorem errW_none : errW none = .nilIface := rfl
theorem errW_some (c : Int) : errW (some c) = .iface 0 (.int .i64 c) := rfl
theorem info5 : (Try.prog.info? 5).map (fun i => (i.zero, i.size, i.bytes)) = some (some (.int .u8 0), 1, 1) := by kernel_rfl
theorem info9 : (Try.prog.info? 9).map (fun i => (i.zero, i.size, i.bytes)) = some (some (.string ⟨#[]⟩), 1, 16) := by kernel_rfl
/-- A state of type 112 at block g of W; what its slices lead to came in by w0. -/
def IsS112 (w0 W : World) (g : Nat) (f0 : ByteArray) (f1 : Bool) : Prop := W.heap[g]? = some (.cells #[.string f0, .bool f1] 112 (0, 0)) ∧ w0.heap.size ≤ g
theorem IsS112.grown {w0 W : World} {g : Nat} {f0 : ByteArray} {f1 : Bool} {W1 : World} {row : Option Nat} (h : IsS112 w0 W g f0 f1) (hw : W.grownBy W1 row) (hne : some g ≠ row) : IsS112 w0 W1 g f0 f1 := by
  obtain ⟨hb, hg⟩ := h
  exact ⟨blk_grown hb hw hne, hg⟩
theorem IsS112.kept {w0 W : World} {g : Nat} {f0 : ByteArray} {f1 : Bool} {W1 : World} {S : Nat → Prop} (h : IsS112 w0 W g f0 f1) (hk : Kept W W1 S) (hne : ¬ S g) : IsS112 w0 W1 g f0 f1 := by
  obtain ⟨hb, hg⟩ := h
  exact ⟨blk_kept hb hk hne, hg⟩
theorem IsS112.below {w0 W : World} {g : Nat} {f0 : ByteArray} {f1 : Bool} {W1 : World} (h : IsS112 w0 W g f0 f1) (hw : Below W.heap.size W W1) : IsS112 w0 W1 g f0 f1 := h.grown (grown_of_below hw none) (by simp)
theorem IsS112.alloc {w0 W : World} {g : Nat} {f0 : ByteArray} {f1 : Bool} (h : IsS112 w0 W g f0 f1) (o : Obj) : IsS112 w0 (W.alloc o) g f0 f1 := h.below (below_alloc (Below.refl _ _) o)
theorem IsS112.drewN {w0 W : World} {g : Nat} {f0 : ByteArray} {f1 : Bool} (h : IsS112 w0 W g f0 f1) (m : Nat) : IsS112 w0 (W.drewN m) g f0 f1 := h
theorem IsS112.drew {w0 W : World} {g : Nat} {f0 : ByteArray} {f1 : Bool} (h : IsS112 w0 W g f0 f1) : IsS112 w0 W.drew g f0 f1 := h
theorem IsS112.at_ {w0 W : World} {g : Nat} {f0 : ByteArray} {f1 : Bool} {w' : World} {m : Nat} (hq : W.drewN m = w') (h : IsS112 w0 W g f0 f1) : IsS112 w0 w' g f0 f1 := by subst hq; exact IsS112.drewN h m
theorem IsS112.ge {w0 W : World} {g : Nat} {f0 : ByteArray} {f1 : Bool} (h : IsS112 w0 W g f0 f1) : w0.heap.size ≤ g := by
  obtain ⟨hb, hg⟩ := h
  exact hg
theorem zl_ {w W0 W : World} (b : Aside0 (Below w.heap.size w W0)) (h : Below w.heap.size w W := by repeat (first | (with_reducible first | exact HB.out | apply below_alloc | apply pw_below_drewN | apply below_drew1 | refine below_set ?_ (Aside0.out (by with_reducible assumption)) | refine below_set ?_ (IsS112.ge (Aside0.out (by with_reducible assumption)))) | exact HB.out)) : Below w.heap.size w W := h
theorem zs_ {w W0 W W1 : World} (b : Aside0 (Below w.heap.size w W0)) (hb : Below W.heap.size W W1) (h : Below w.heap.size w W := by repeat (first | (with_reducible first | exact HB.out | apply below_alloc | apply pw_below_drewN | apply below_drew1 | refine below_set ?_ (Aside0.out (by with_reducible assumption)) | refine below_set ?_ (IsS112.ge (Aside0.out (by with_reducible assumption)))) | exact HB.out)) : Aside0 (Below w.heap.size w W1) := ⟨below_step h hb⟩
theorem zt_ {p : Prop} (h : p := by first | rfl | (simp [errW_none, errW_some] <;> rfl) | (simp [*, errW_none, errW_some] <;> rfl) | (simp [mp_beq_nil, mp_bne_nil]; done) | (simp [*, mp_beq_nil, mp_bne_nil]; done)) : p := h
end Go.Proofs.Ytadablpppkjdbaa.A
end

section
namespace Go.Proofs.Ytadablpppkjdbaa.A
open Go.RowKit Go.Proofs.YtadablpppkjdbaaW.PrintWords Go.Proofs.YtadablpppkjdbaaW.PrintLast Go.Proofs.YtadablpppkjdbaaW.PrintMore
attribute [local go_sem] max2_int min2_int max_two min_two max_three min_three max_four min_four
set_option maxHeartbeats 8000000 in
set_option maxRecDepth 100000 in
theorem impl_cut.calls (k : Nat) (a0 : ByteArray) (r : List ByteArray) (w : World) (h : impl_cut.f k a0 = some r) :
  Calls Try.prog 60 #[.string a0] w fun e w' => ∃ v0_ : Value,e = .returned (v0_) ∧ Kd.R Kd.string 9 w' w.heap.size (fun _ => True) v0_ r ∧ Below w.heap.size w w' := by
 have HB := am_ (Below.refl w.heap.size w)
 have H : (impl_cut.l0 k a0 ([] : List ByteArray)) = some r := h
 clear h
 have H' := am_ H
 clear H
 go_enter Try.func60,Try.ntmps60
 go_wp2
 go_loopg [0,3] k (fun kq v0 v3 w' => ∃ (x0_1 : ByteArray) (x3_1 : List ByteArray),v0 = .string x0_1 ∧ Aside0 (impl_cut.l0 kq x0_1 x3_1 = some r) ∧ Aside0 (kq ≤ k) ∧ Aside0 (Kd.R Kd.string 9 w' w.heap.size (fun _ => True) v3 x3_1) ∧ Aside0 (Below w.heap.size w w'))
 case atStart => exact ⟨(a0),(([] : List ByteArray)),(by first | rfl | (simp;done) | (simp [*];done)),H',⟨Nat.le_refl _⟩,⟨by first | exact Kd.R_nil _ _ _ _ _ | exact Kd.N_nil _ _ _ _ _ | exact Kd.V_nil _ _ _ _ _ | exact Kd.Q_nil _ _ _ _ _ | exact Kd.S_nil _ _ _ _ _⟩,⟨zl_ HB⟩⟩
 case round =>
  clear H'
  obtain ⟨x0_1,x3_1,rfl,HA,HK1,HO_3,HB⟩ := hrel
  cases gk with
  | zero => exact absurd HA.out (by simp [impl_cut.l0])
  | succ k1 =>
   have H := HA.out
   clear HA
   simp only [impl_cut.l0] at H
   by_cases c2 : x0_1.toList = ([] : List UInt8)
   ·rw [if_pos c2] at H
    have c2b0 : (x0_1.toList == ([] : List UInt8)) = true := beq_iff_eq.mpr c2
    have c2b1 : (x0_1.toList != ([] : List UInt8)) = false := bne_eq_false_iff_eq.mpr c2
    (try have c2e0 := c2b0;simp only [e3_,e4_] at c2e0)
    (try have c2e1 := c2b1;simp only [e3_,e4_] at c2e1)
    clear c2
    obtain rfl := Option.some.inj H
    go_wp2
    go_ret
    exact ⟨_,zt_,zr HO_3,zl_ HB⟩
   ·rw [if_neg c2] at H
    have c2b0 : (x0_1.toList == ([] : List UInt8)) = false := beq_eq_false_iff_ne.mpr c2
    have c2b1 : (x0_1.toList != ([] : List UInt8)) = true := bne_iff_ne.mpr c2
    (try have c2e0 := c2b0;simp only [e3_,e4_] at c2e0)
    (try have c2e1 := c2b1;simp only [e3_,e4_] at c2e1)
    obtain ⟨ji3,hji3⟩ : ∃ j_ : Int,(mn (x0_1.size : Int) 32) = j_ := ⟨_,rfl⟩
    replace H : (if 0 ≤ (ji3) then (if (ji3) ≤ (x0_1.size : Int) then (if x3_1.length < 8796093022208 then (impl_cut.l0 k1 (x0_1.extract ((ji3) : Int).toNat x0_1.size) (x3_1 ++ [x0_1.extract 0 ((ji3) : Int).toNat])) else (none)) else (none)) else (none)) = some r := by first | (rw [hji3] at H;exact H) | (simp only [hji3] at H ⊢;exact H)
    have hji3_ : (if 32 < (x0_1.size : Int) then 32 else (x0_1.size : Int)) = ji3 := hji3
    by_cases c4 : 0 ≤ (ji3)
    ·rw [if_pos c4] at H
     have c4b0 := eq_true c4
     have c4b1 : decide (0 ≤ (ji3)) = true := decide_eq_true c4
     clear c4
     by_cases c5 : (ji3) ≤ (x0_1.size : Int)
     ·rw [if_pos c5] at H
      have c5b0 := eq_true c5
      have c5b1 : decide ((ji3) ≤ (x0_1.size : Int)) = true := decide_eq_true c5
      clear c5
      by_cases c6 : x3_1.length < 8796093022208
      ·rw [if_pos c6] at H
       have LMc6 := am_ c6
       clear c6
       obtain ⟨y129,hy129⟩ : ∃ y_ : List ByteArray,y_ = (x3_1 ++ [x0_1.extract 0 ((ji3) : Int).toNat]) := ⟨_,rfl⟩
       replace H : (impl_cut.l0 k1 (x0_1.extract ((ji3) : Int).toNat x0_1.size) y129) = some r := by first | (rw [hy129];with_reducible exact H) | (have H2_ := (Option.bind_some _ _).symm.trans H;rw [hy129];with_reducible exact H2_) | (have H2_ := (Option.bind_some _ _).symm.trans H;with_reducible exact H2_) | with_reducible exact H | (rw [hy129];exact H) | exact H
       have Ny129 := am_ hy129
       clear hy129
       have c7b0 := eq_true (zo_ : 0 ≤ (ji3))
       have c8b0 := eq_true (zo_ : (ji3) ≤ (x0_1.size : Int))
       have H' := am_ H
       clear H
       go_wp2_with (first | ((with_reducible refine gate_builtin (b := .append) (xs := #[.tmp 10,.tmp 14]) rfl ?_);at_builtin;refine Kd.R_append Kd.string (w0 := w) w.heap.size rfl (.tmp 10) (.tmp 14) 22 9 (.string ⟨#[]⟩) 16 rfl Try.underlying22 info9 rfl (by decide) (by omega) u3 x3_1 (x0_1.extract 0 ((ji3) : Int).toNat) [.string (x0_1.extract 0 ((ji3) : Int).toNat)] (fun _ => True) (fun _ => False) rfl rfl ?aP (fun _ hk => hk.elim) ?aF ?aO ?aB ?aS ?aL ?_;(case aP => exact rfl);(case aB => exact (zl_ HB));(case aF => exact (fun _ _ => trivial));(case aO => exact (zr HO_3));(case aS => exact (below_size (zl_ HB)));(case aL => have := LMc6.out;omega);intro v130 w9 ho hb hg hat;rw [← Ny129.out] at ho;replace HB := am_ (hb);have HO131 := am_ (ho);clear HO_3;clear ho hb hg hat))
       go_roundg k1
       case measure => have := HK1.out;omega
       case rel => exact ⟨(x0_1.extract ((ji3) : Int).toNat x0_1.size),(y129),(by first | rfl | (simp;done) | (simp only [← hji3] <;> (first | rfl | simp)) | (simp [*];done)),H',⟨by have := HK1.out;omega⟩,⟨zr HO131⟩,⟨zl_ HB⟩⟩
      ·rw [if_neg c6] at H
       exact absurd H (by simp)
     ·rw [if_neg c5] at H
      exact absurd H (by simp)
    ·rw [if_neg c4] at H
     exact absurd H (by simp)
set_option maxHeartbeats 8000000 in
set_option maxRecDepth 100000 in
theorem slices_Equal_string_string.calls (k : Nat) (A0 : Option Addr) (c0 : Nat) (l0 : List ByteArray) (A1 : Option Addr) (c1 : Nat) (l1 : List ByteArray) (r : Bool) (w : World) (hr0 : Kd.C Kd.string w A0 l0.length l0) (hc0 : l0.length ≤ c0) (hr1 : Kd.C Kd.string w A1 l1.length l1) (hc1 : l1.length ≤ c1) (h : slices_Equal_string_string.f k l0 l1 = some r) :
  Calls Try.prog 59 #[.slice A0 l0.length c0,.slice A1 l1.length c1] w fun e w' => e = .returned (.bool r) ∧ Drawn0 w w' := by
 have HR0 := am_ hr0
 have HC0 := am_ hc0
 clear hr0 hc0
 have HR1 := am_ hr1
 have HC1 := am_ hc1
 clear hr1 hc1
 have H : (if (l0.length : Int) = (l1.length : Int) then (slices_Equal_string_string.l0 k l0 l1 (l0.length : Int) 0) else (some false)) = some r := h
 clear h
 by_cases c3 : (l0.length : Int) = (l1.length : Int)
 ·rw [if_pos c3] at H
  have c3b0 : ((l0.length : Int) == (l1.length : Int)) = true := beq_iff_eq.mpr c3
  have c3b1 : ((l0.length : Int) != (l1.length : Int)) = false := bne_eq_false_iff_eq.mpr c3
  have c3b2 : (l0.length == l1.length) = true := by first | simpa using c3 | (simp at c3 ⊢;omega)
  clear c3
  have H' := am_ H
  clear H
  go_enter Try.func59,Try.ntmps59
  go_wp2
  repeat (go_quiet (fail);try go_wp2)
  go_loopg [13] k (fun kq v13 w' => ∃ (x13_1 : Int),v13 = .int .i64 x13_1 ∧ Aside0 (slices_Equal_string_string.l0 kq l0 l1 (l0.length : Int) x13_1 = some r) ∧ Aside0 (kq ≤ k) ∧ Drawn0 w w')
  case atStart => exact ⟨(0),(by first | rfl | (simp;done) | (simp [*];done)),H',⟨Nat.le_refl _⟩,by repeat (first | exact Drawn0.refl _ | apply Drawn0.step)⟩
  case round =>
   clear H'
   try clear c1
   try clear p2
   try clear c3
   try clear c3b0
   try clear c3b1
   try clear c3b2
   obtain ⟨x13_1,rfl,HA,HK1,⟨m1,rfl⟩⟩ := hrel
   cases gk with
   | zero => exact absurd HA.out (by simp [slices_Equal_string_string.l0])
   | succ k1 =>
    have H := HA.out
    clear HA
    simp only [slices_Equal_string_string.l0] at H
    by_cases c4 : x13_1 < (l0.length : Int)
    ·rw [if_pos c4] at H
     have c4b0 : decide (x13_1 < (l0.length : Int)) = true := decide_eq_true c4
     clear c4
     by_cases c5 : 0 ≤ x13_1
     ·rw [if_pos c5] at H
      have c5b0 : decide (0 ≤ x13_1) = true := decide_eq_true c5
      clear c5
      by_cases c6 : x13_1 < (l0.length : Int)
      ·rw [if_pos c6] at H
       have c6b0 : decide (x13_1 < (l0.length : Int)) = true := decide_eq_true c6
       clear c6
       by_cases c7 : x13_1 < (l1.length : Int)
       ·rw [if_pos c7] at H
        have c7b0 : decide (x13_1 < (l1.length : Int)) = true := decide_eq_true c7
        clear c7
        by_cases c8 : (rdOf ByteArray.empty l0 x13_1).toList = (rdOf ByteArray.empty l1 x13_1).toList
        ·rw [if_pos c8] at H
         have c8b0 : ((rdOf ByteArray.empty l0 x13_1).toList == (rdOf ByteArray.empty l1 x13_1).toList) = true := beq_iff_eq.mpr c8
         have c8b1 : ((rdOf ByteArray.empty l0 x13_1).toList != (rdOf ByteArray.empty l1 x13_1).toList) = false := bne_eq_false_iff_eq.mpr c8
         clear c8
         have H' := am_ H
         clear H
         have p127 : 0 ≤ (x13_1 : Int) := zo_
         have q127 : x13_1 < (l0.length : Int) := zo_
         obtain ⟨ad127,e127,hx127_0⟩ := Kd.at_string HR0.out x13_1 p127 q127
         cases e127
         replace p127 := eq_true p127
         replace q127 := eq_true q127
         have p128 : 0 ≤ (x13_1 : Int) := zo_
         have q128 : x13_1 < (l1.length : Int) := zo_
         obtain ⟨ad128,e128,hx128_0⟩ := Kd.at_string HR1.out x13_1 p128 q128
         cases e128
         replace p128 := eq_true p128
         replace q128 := eq_true q128
         go_wp2
         repeat (go_quiet (fail);try go_wp2)
         go_roundg k1
         case measure => have := HK1.out;omega
         case rel => exact ⟨(wrap64 (x13_1 + 1)),(by first | rfl | (simp;done) | (simp [*];done)),H',⟨by have := HK1.out;omega⟩,by repeat (first | exact Drawn0.refl _ | apply Drawn0.step)⟩
        ·rw [if_neg c8] at H
         have c8b0 : ((rdOf ByteArray.empty l0 x13_1).toList == (rdOf ByteArray.empty l1 x13_1).toList) = false := beq_eq_false_iff_ne.mpr c8
         have c8b1 : ((rdOf ByteArray.empty l0 x13_1).toList != (rdOf ByteArray.empty l1 x13_1).toList) = true := bne_iff_ne.mpr c8
         obtain rfl := Option.some.inj H
         have p127 : 0 ≤ (x13_1 : Int) := zo_
         have q127 : x13_1 < (l0.length : Int) := zo_
         obtain ⟨ad127,e127,hx127_0⟩ := Kd.at_string HR0.out x13_1 p127 q127
         cases e127
         replace p127 := eq_true p127
         replace q127 := eq_true q127
         have p128 : 0 ≤ (x13_1 : Int) := zo_
         have q128 : x13_1 < (l1.length : Int) := zo_
         obtain ⟨ad128,e128,hx128_0⟩ := Kd.at_string HR1.out x13_1 p128 q128
         cases e128
         replace p128 := eq_true p128
         replace q128 := eq_true q128
         go_wp2
         repeat (go_quiet (fail);try go_wp2)
         go_ret
         exact ⟨by first | rfl | (simp;done) | (simp [*];done),by repeat (first | exact Drawn0.refl _ | apply Drawn0.step)⟩
       ·rw [if_neg c7] at H
        exact absurd H (by simp)
      ·rw [if_neg c6] at H
       exact absurd H (by simp)
     ·rw [if_neg c5] at H
      exact absurd H (by simp)
    ·rw [if_neg c4] at H
     have c4b0 : decide (x13_1 < (l0.length : Int)) = false := decide_eq_false c4
     clear c4
     obtain rfl := Option.some.inj H
     go_wp2
     repeat (go_quiet (fail);try go_wp2)
     go_ret
     exact ⟨by first | rfl | (simp;done) | (simp [*];done),by repeat (first | exact Drawn0.refl _ | apply Drawn0.step)⟩
 ·rw [if_neg c3] at H
  have c3b0 : ((l0.length : Int) == (l1.length : Int)) = false := beq_eq_false_iff_ne.mpr c3
  have c3b1 : ((l0.length : Int) != (l1.length : Int)) = true := bne_iff_ne.mpr c3
  have c3b2 : (l0.length == l1.length) = false := by first | simpa using c3 | (simp at c3 ⊢;omega)
  obtain rfl := Option.some.inj H
  go_enter Try.func59,Try.ntmps59
  go_wp2
  repeat (go_quiet (fail);try go_wp2)
  go_ret
  exact ⟨by first | rfl | (simp;done) | (simp [*];done),by repeat (first | exact Drawn0.refl _ | apply Drawn0.step)⟩
end Go.Proofs.Ytadablpppkjdbaa.A
end

section
namespace Go.Proofs.Ytadablpppkjdbaa.A
open Go.RowKit Go.Shelf Go.Proofs.YtadablpppkjdbaaW.PrintWords
set_option maxRecDepth 100000
def joinLays_ren : Go.Shelf.Ren := ⟨fun | 156 => 35 | 165 => 61 | 166 => 62 | 169 => 63 | 240 => 79 | 241 => 80 | 276 => 93 | 277 => 94 | n => n, fun | 31 => 22 | 9 => 9 | 3 => 3 | 4 => 4 | 0 => 0 | 20 => 20 | 72 => 82 | 76 => 86 | 70 => 80 | 37 => 24 | 75 => 85 | 127 => 106 | 164 => 117 | 5 => 5 | 80 => 88 | n => n, fun | n => n⟩
theorem joinLays : Go.Proofs.Lays.n156 Try.prog joinLays_ren where
  mixed := by kernel_rfl
  f156 := Try.func35.trans (congrArg some (by kernel_rfl))
  f165 := Try.func61.trans (congrArg some (by kernel_rfl))
  f166 := Try.func62.trans (congrArg some (by kernel_rfl))
  f169 := Try.func63.trans (congrArg some (by kernel_rfl))
  f240 := Try.func79.trans (congrArg some (by kernel_rfl))
  f241 := Try.func80.trans (congrArg some (by kernel_rfl))
  f276 := Try.func93.trans (congrArg some (by kernel_rfl))
  f277 := Try.func94.trans (congrArg some (by kernel_rfl))
  t0 := Try.underlying0
  a0 := Try.isAgg0
  z0 := Try.sizeOf0
  v0 := Try.zeroValue0
  t3 := Try.underlying3
  a3 := Try.isAgg3
  z3 := Try.sizeOf3
  v3 := Try.zeroValue3
  t4 := Try.underlying4
  a4 := Try.isAgg4
  z4 := Try.sizeOf4
  v4 := Try.zeroValue4
  t9 := Try.underlying9
  a9 := Try.isAgg9
  z9 := Try.sizeOf9
  v9 := Try.zeroValue9
  t20 := Try.underlying20
  a20 := Try.isAgg20
  z20 := Try.sizeOf20
  v20 := Try.zeroValue20
  t31 := Try.underlying22
  a31 := Try.isAgg22
  z31 := Try.sizeOf22
  v31 := Try.zeroValue22
  t37 := Try.underlying24
  a37 := Try.isAgg24
  z37 := Try.sizeOf24
  v37 := Try.zeroValue24
  t70 := Try.underlying80
  a70 := Try.isAgg80
  z70 := Try.sizeOf80
  v70 := Try.zeroValue80
  t72 := Try.underlying82
  a72 := Try.isAgg82
  z72 := Try.sizeOf82
  v72 := Try.zeroValue82
  t75 := Try.underlying85
  a75 := Try.isAgg85
  z75 := Try.sizeOf85
  v75 := Try.zeroValue85
  t76 := Try.underlying86
  a76 := Try.isAgg86
  z76 := Try.sizeOf86
  v76 := Try.zeroValue86
  t127 := Try.underlying106
  a127 := Try.isAgg106
  z127 := Try.sizeOf106
  v127 := Try.zeroValue106
  t164 := Try.underlying117
  a164 := Try.isAgg117
  z164 := Try.sizeOf117
  v164 := Try.zeroValue117
theorem joinExtra : Builder.Extra Try.prog joinLays_ren where
  sizeBuilder := by kernel_rfl
  liesBuilder := by kernel_rfl
  t5 := Try.underlying5
  a5 := Try.isAgg5
  z5 := Try.sizeOf5
  v5 := Try.zeroValue5
  infoByte := by kernel_rfl
  cellsByte := by kernel_rfl
  sizeByte := by kernel_rfl
  neB5 := by decide
theorem join_walk (A0 : Option Addr) (c0 : Nat) (l0 : List ByteArray) (a1 r : ByteArray) (w : World) (hr0 : Kd.C Kd.string w A0 l0.length l0) (hc0 : l0.length ≤ c0) (h : strings_Join.f l0 a1 = some r) :
    Calls Try.prog 35 #[.slice A0 l0.length c0, .string a1] w fun e w' => e = .returned (.string r) ∧ Below w.heap.size w w' := by
  unfold strings_Join.f at h
  by_cases c : (joinL l0 a1).size ≤ 140737488355328 ∧ l0.length ≤ 140737488355328
  · rw [if_pos c] at h
    obtain rfl := Option.some.inj h
    cases l0 with
    | nil => exact Calls.mono (Any.strings_Join_none joinLays joinExtra A0 c0 a1 w) fun e w' hh => ⟨hh.1, hh.2 ▸ Below.refl _ _⟩
    | cons x t =>
      have hcell : ∀ j (hj : j < (x :: t).length), ∃ ad, A0 = some ad ∧ w.cell? (ad.add j) = some (.string ((x :: t)[j])) := fun j hj => by
        obtain ⟨ad, e0, hc⟩ := Kd.at_string hr0 (j : Int) (by omega) (by omega)
        refine ⟨ad, e0, ?_⟩
        rw [Int.toNat_natCast] at hc
        rw [hc]
        simp [rdOf, List.getD_eq_getElem?_getD, List.getElem?_eq_getElem hj]
      obtain ⟨ad, rfl, h0⟩ := hcell 0 (by simp)
      obtain ⟨bk, o, sp⟩ := ad
      have hbk : bk < w.heap.size := World.block_lt_of_cell? w _ h0
      have hsp : sp = none := by
        cases sp with
        | none => rfl
        | some z =>
          have h1 : w.cell? ((⟨bk, o, some z⟩ : Addr).add 0) = none := by
            simp only [World.cell?, Addr.add, if_pos]
            split <;> simp
          rw [h1] at h0
          cases h0
      subst hsp
      refine Calls.mono (Any.strings_Join joinLays joinExtra bk o c0 (x :: t) a1 w (fun j y hy => ?_) hbk c.2 hc0 c.1) fun e w' hh => hh
      obtain ⟨hj, rfl⟩ := List.getElem?_eq_some_iff.1 hy
      obtain ⟨ad, e, hc⟩ := hcell j hj
      obtain rfl := Option.some.inj e
      have ha : (⟨bk, o, none⟩ : Addr).add j = ⟨bk, o + j, none⟩ := by
        unfold Addr.add
        split
        · rename_i h; rw [h]; rfl
        · rfl
      rw [ha] at hc
      exact hc
  · rw [if_neg c] at h
    cases h
end Go.Proofs.Ytadablpppkjdbaa.A
end

section
namespace Go.Proofs.Ytadablpppkjdbaa.A
open Go.RowKit Go.Proofs.YtadablpppkjdbaaW.PrintWords Go.Proofs.YtadablpppkjdbaaW.PrintLast Go.Proofs.YtadablpppkjdbaaW.PrintMore
attribute [local go_sem] max2_int min2_int max_two min_two max_three min_three max_four min_four
theorem strings_Join.calls (A0 : Option Addr) (c0 : Nat) (l0 : List ByteArray) (a1 : ByteArray) (r : ByteArray) (w : World) (hr0 : Kd.C Kd.string w A0 l0.length l0) (hc0 : l0.length ≤ c0) (h : strings_Join.f l0 a1 = some r) :
  Calls Try.prog 35 #[.slice A0 l0.length c0,.string a1] w fun e w' => e = .returned (.string r) ∧ Below w.heap.size w w' := join_walk A0 c0 l0 a1 r w hr0 hc0 h
set_option maxHeartbeats 8000000 in
set_option maxRecDepth 100000 in
theorem impl_arePieces.calls (k : Nat) (A0 : Option Addr) (c0 : Nat) (l0 : List ByteArray) (r : Bool) (w : World) (hr0 : Kd.C Kd.string w A0 l0.length l0) (hc0 : l0.length ≤ c0) (h : impl_arePieces.f k l0 = some r) :
  Calls Try.prog 34 #[.slice A0 l0.length c0] w fun e w' => e = .returned (.bool r) ∧ Below w.heap.size w w' := by
 have HR0 := am_ hr0
 have HC0 := am_ hc0
 clear hr0 hc0
 have HB := am_ (Below.refl w.heap.size w)
 have H : (if (l0.length : Int) ≤ 64 then ((strings_Join.f l0 (⟨#[]⟩ : ByteArray)).bind fun t132 => ((impl_cut.f k t132).bind fun t133 => ((slices_Equal_string_string.f k t133 l0).bind fun t136 => (some t136)))) else (some false)) = some r := h
 clear h
 by_cases c2 : (l0.length : Int) ≤ 64
 ·rw [if_pos c2] at H
  have c2b0 : decide ((l0.length : Int) ≤ 64) = true := decide_eq_true c2
  have c2b1 : decide (l0.length ≤ 64) = true := decide_eq_true (by omega)
  clear c2
  replace H := Option.bind_eq_some_iff.mp H
  obtain ⟨t132,A30,H⟩ := H
  try dsimp only at H
  have A3 := am_ A30
  clear A30
  replace H := Option.bind_eq_some_iff.mp H
  obtain ⟨t133,A40,H⟩ := H
  try dsimp only at H
  have A4 := am_ A40
  clear A40
  replace H := Option.bind_eq_some_iff.mp H
  obtain ⟨t136,A50,H⟩ := H
  try dsimp only at H
  have A5 := am_ A50
  clear A50
  obtain rfl := Option.some.inj H
  go_enter Try.func34,Try.ntmps34
  go_wp2_with (first | (go_at_call 35;(with_reducible refine (strings_Join.calls _ _ l0 (⟨#[]⟩ : ByteArray) t132 _ ?side1 ?side2 A3.out).mono ?_);(case side1 => repeat (first | exact HR0.out | (with_reducible refine Kd.C_alloc ?_ _) | (with_reducible refine Kd.C_drewN ?_ _) | (with_reducible refine Kd.C_drew ?_)));(case side2 => exact HC0.out);rintro e w6 ⟨rfl,hb⟩;replace HB := zs_ HB hb;(try clear hb);(try clear hb2);(try clear hk);(try clear hi)) | (go_at_call 60;(with_reducible refine (impl_cut.calls k t132 t133 _ A4.out).mono ?_);rintro e w7 ⟨v134,rfl,ho0,hb⟩;have HO135 := am_ (Kd.R_lower ho0 (below_size (zl_ HB)));replace HB := zs_ HB hb;(try clear hb);(try clear hb2);(try clear hk);(try clear hi);(try clear ho0);obtain ⟨Ao8,co8,eo8⟩ := Kd.R_slice HO135.out;subst eo8) | (go_at_call 59;(with_reducible refine (slices_Equal_string_string.calls k _ _ t133 _ _ l0 t136 _ ?side1 ?side2 ?side3 ?side4 A5.out).mono ?_);(case side1 => repeat (first | exact (Kd.R_reads' HO135.out).2.2 | (with_reducible refine Kd.C_alloc ?_ _) | (with_reducible refine Kd.C_drewN ?_ _) | (with_reducible refine Kd.C_drew ?_)));(case side2 => exact (Kd.R_reads' HO135.out).2.1);(case side3 => exact zc_ HR0 HB);(case side4 => exact HC0.out);rintro e w' ⟨rfl,⟨nd,rfl⟩⟩))
  go_ret
  exact ⟨zt_,zl_ HB⟩
 ·rw [if_neg c2] at H
  have c2b0 : decide ((l0.length : Int) ≤ 64) = false := decide_eq_false c2
  have c2b1 : decide (l0.length ≤ 64) = false := decide_eq_false (by omega)
  clear c2
  obtain rfl := Option.some.inj H
  go_enter Try.func34,Try.ntmps34
  go_wp2
  go_ret
  exact ⟨zt_,zl_ HB⟩
set_option maxHeartbeats 8000000 in
set_option maxRecDepth 100000 in
theorem impl_isLongList_string.calls (A0 : Option Addr) (c0 : Nat) (l0 : List ByteArray) (r : Bool) (w : World) (hr0 : Kd.C Kd.string w A0 l0.length l0) (hc0 : l0.length ≤ c0) (h : impl_isLongList_string.f l0 = some r) :
  Calls Try.prog 33 #[.slice A0 l0.length c0] w fun e w' => e = .returned (.bool r) ∧ Drawn0 w w' := by
 have HR0 := am_ hr0
 have HC0 := am_ hc0
 clear hr0 hc0
 have H : (some (decide ((l0.length : Int) > 4096))) = some r := h
 clear h
 obtain rfl := Option.some.inj H
 go_enter Try.func33,Try.ntmps33
 go_wp2
 go_ret
 exact ⟨by first | rfl | (simp;done) | (simp [*];done),by repeat (first | exact Drawn0.refl _ | apply Drawn0.step)⟩
set_option maxHeartbeats 8000000 in
set_option maxRecDepth 100000 in
theorem impl_JoinPieces.calls (k : Nat) (A0 : Option Addr) (c0 : Nat) (l0 : List ByteArray) (r1 : List Int) (r2 : Int) (w : World) (hr0 : Kd.C Kd.string w A0 l0.length l0) (hc0 : l0.length ≤ c0) (h : impl_JoinPieces.f k l0 = some (r1,r2)) :
  Calls Try.prog 10 #[.slice A0 l0.length c0] w fun e w' => ∃ v0_ : Value,e = .returned (.tuple #[v0_,.int .i64 r2]) ∧ Kd.B 5 w' w.heap.size (fun k_ => (w.heap.size ≤ k_)) v0_ r1 ∧ Below w.heap.size w w' := by
 have HR0 := am_ hr0
 have HC0 := am_ hc0
 clear hr0 hc0
 have HB := am_ (Below.refl w.heap.size w)
 have H : ((impl_isLongList_string.f l0).bind fun t137 => (if t137 = true then (some (([] : List Int),2)) else ((impl_arePieces.f k l0).bind fun t138 => (if t138 = true then ((strings_Join.f l0 (⟨#[]⟩ : ByteArray)).bind fun t139 => (if t139.size ≤ 140737488355328 then (some ((bytesOf t139),0)) else (none))) else (some (([] : List Int),1)))))) = some (r1,r2) := h
 clear h
 replace H := Option.bind_eq_some_iff.mp H
 obtain ⟨t137,A20,H⟩ := H
 try dsimp only at H
 have A2 := am_ A20
 clear A20
 by_cases c3 : t137 = true
 ·subst c3
  have H1 : (some (([] : List Int),2)) = some (r1,r2) := by rw [if_pos rfl] at H;exact H
  clear H
  have H := H1
  clear H1
  simp only [Option.some.injEq,Prod.mk.injEq] at H
  obtain ⟨rfl,rfl⟩ := H
  go_enter Try.func10,Try.ntmps10
  go_wp2_with (first | ((with_reducible refine gate_callee (f := 33) rfl ?_);refine zgl (some 5) Try.func33 #[.slice A0 l0.length c0] ?_;(with_reducible refine (impl_isLongList_string.calls _ _ l0 true _ ?side1 ?side2 A2.out).mono ?_);(case side1 => repeat (first | exact HR0.out | (with_reducible refine Kd.C_alloc ?_ _) | (with_reducible refine Kd.C_drewN ?_ _) | (with_reducible refine Kd.C_drew ?_)));(case side2 => exact HC0.out);rintro e w' ⟨rfl,⟨nd,rfl⟩⟩;refine ⟨_,rfl,?_⟩))
  go_ret2
  exact ⟨_,zt_,(Kd.B_nil _ _ _ _),zl_ HB⟩
 ·replace c3 := Bool.eq_false_iff.mpr c3
  subst c3
  have H1 : ((impl_arePieces.f k l0).bind fun t138 => (if t138 = true then ((strings_Join.f l0 (⟨#[]⟩ : ByteArray)).bind fun t139 => (if t139.size ≤ 140737488355328 then (some ((bytesOf t139),0)) else (none))) else (some (([] : List Int),1)))) = some (r1,r2) := by rw [if_neg (show ¬ (false = true) by decide)] at H;exact H
  clear H
  have H := H1
  clear H1
  replace H := Option.bind_eq_some_iff.mp H
  obtain ⟨t138,A40,H⟩ := H
  try dsimp only at H
  have A4 := am_ A40
  clear A40
  by_cases c5 : t138 = true
  ·subst c5
   have H1 : ((strings_Join.f l0 (⟨#[]⟩ : ByteArray)).bind fun t139 => (if t139.size ≤ 140737488355328 then (some ((bytesOf t139),0)) else (none))) = some (r1,r2) := by rw [if_pos rfl] at H;exact H
   clear H
   have H := H1
   clear H1
   replace H := Option.bind_eq_some_iff.mp H
   obtain ⟨t139,A60,H⟩ := H
   try dsimp only at H
   have A6 := am_ A60
   clear A60
   by_cases c7 : t139.size ≤ 140737488355328
   ·rw [if_pos c7] at H
    have c7b0 := eq_true c7
    have c7b1 : decide (t139.size ≤ 140737488355328) = true := decide_eq_true c7
    clear c7
    obtain ⟨y140,hy140⟩ : ∃ y_ : List Int,y_ = (bytesOf t139) := ⟨_,rfl⟩
    replace H : (some (y140,0)) = some (r1,r2) := by first | (rw [hy140];with_reducible exact H) | (have H2_ := (Option.bind_some _ _).symm.trans H;rw [hy140];with_reducible exact H2_) | (have H2_ := (Option.bind_some _ _).symm.trans H;with_reducible exact H2_) | with_reducible exact H | (rw [hy140];exact H) | exact H
    have Ny140 := am_ hy140
    clear hy140
    simp only [Option.some.injEq,Prod.mk.injEq] at H
    obtain ⟨rfl,rfl⟩ := H
    go_enter Try.func10,Try.ntmps10
    go_wp2_with (first | ((with_reducible refine gate_callee (f := 33) rfl ?_);refine zgl (some 5) Try.func33 #[.slice A0 l0.length c0] ?_;(with_reducible refine (impl_isLongList_string.calls _ _ l0 false _ ?side1 ?side2 A2.out).mono ?_);(case side1 => repeat (first | exact HR0.out | (with_reducible refine Kd.C_alloc ?_ _) | (with_reducible refine Kd.C_drewN ?_ _) | (with_reducible refine Kd.C_drew ?_)));(case side2 => exact HC0.out);rintro e w' ⟨rfl,⟨nd,rfl⟩⟩;refine ⟨_,rfl,?_⟩) | ((with_reducible refine gate_callee (f := 34) rfl ?_);refine zgl (some 7) Try.func34 #[.slice A0 l0.length c0] ?_;(with_reducible refine (impl_arePieces.calls k _ _ l0 true _ ?side1 ?side2 A4.out).mono ?_);(case side1 => repeat (first | exact HR0.out | (with_reducible refine Kd.C_alloc ?_ _) | (with_reducible refine Kd.C_drewN ?_ _) | (with_reducible refine Kd.C_drew ?_)));(case side2 => exact HC0.out);rintro e w8 ⟨rfl,hb⟩;refine ⟨_,rfl,?_⟩;replace HB := zs_ HB hb;(try clear hb);(try clear hb2);(try clear hk);(try clear hi)) | ((with_reducible refine gate_callee (f := 35) rfl ?_);refine zgl (some 10) Try.func35 #[.slice A0 l0.length c0,.string ⟨#[]⟩] ?_;(with_reducible refine (strings_Join.calls _ _ l0 (⟨#[]⟩ : ByteArray) t139 _ ?side1 ?side2 A6.out).mono ?_);(case side1 => exact zc_ HR0 HB);(case side2 => exact HC0.out);rintro e w9 ⟨rfl,hb⟩;refine ⟨_,rfl,?_⟩;replace HB := zs_ HB hb;(try clear hb);(try clear hb2);(try clear hk);(try clear hi)) | ((with_reducible refine gate_dst (N := 11) rfl ?_);refine Kd.B_conv (Kd.int .u8) rfl _ 5 rfl (N := 11) rfl 9 24 _ rfl t139 rfl Try.underlying9 Try.underlying24 Try.underlying5 (ok := fun k_ => w9.heap.size ≤ k_) (okp := fun _ => False) (fun _ hk => hk.elim) (Nat.le_refl _) (by have := o1_ (by first | (with_reducible assumption) | assumption : decide (t139.size ≤ 140737488355328) = true);omega) (Below.refl _ _) (Nat.le_refl _) ?_;intro v141 w10 ho11 hb hg_ hnew_;clear hg_ hnew_;(first | rw [← Ny140.out] at ho11 | (simp only [Int.reduceToNat] at ho11;rw [← Ny140.out] at ho11));have HO142 := am_ (Kd.B_lower (Kd.B_mono (ok' := fun k_ => (w.heap.size ≤ k_)) ho11 (fun k_ hk_ => (Nat.le_trans (below_size (zl_ HB)) hk_))) (below_size (zl_ HB)));replace HB := zs_ HB hb;clear hb ho11))
    go_ret2
    exact ⟨_,zt_,by (with_reducible repeat (first | apply Kd.B_alloc | apply Kd.B_drewN | apply Kd.B_drew));exact HO142.out,zl_ HB⟩
   ·rw [if_neg c7] at H
    exact absurd H (by simp)
  ·replace c5 := Bool.eq_false_iff.mpr c5
   subst c5
   have H1 : (some (([] : List Int),1)) = some (r1,r2) := by rw [if_neg (show ¬ (false = true) by decide)] at H;exact H
   clear H
   have H := H1
   clear H1
   simp only [Option.some.injEq,Prod.mk.injEq] at H
   obtain ⟨rfl,rfl⟩ := H
   go_enter Try.func10,Try.ntmps10
   go_wp2_with (first | ((with_reducible refine gate_callee (f := 33) rfl ?_);refine zgl (some 5) Try.func33 #[.slice A0 l0.length c0] ?_;(with_reducible refine (impl_isLongList_string.calls _ _ l0 false _ ?side1 ?side2 A2.out).mono ?_);(case side1 => repeat (first | exact HR0.out | (with_reducible refine Kd.C_alloc ?_ _) | (with_reducible refine Kd.C_drewN ?_ _) | (with_reducible refine Kd.C_drew ?_)));(case side2 => exact HC0.out);rintro e w' ⟨rfl,⟨nd,rfl⟩⟩;refine ⟨_,rfl,?_⟩) | ((with_reducible refine gate_callee (f := 34) rfl ?_);refine zgl (some 7) Try.func34 #[.slice A0 l0.length c0] ?_;(with_reducible refine (impl_arePieces.calls k _ _ l0 false _ ?side1 ?side2 A4.out).mono ?_);(case side1 => repeat (first | exact HR0.out | (with_reducible refine Kd.C_alloc ?_ _) | (with_reducible refine Kd.C_drewN ?_ _) | (with_reducible refine Kd.C_drew ?_)));(case side2 => exact HC0.out);rintro e w12 ⟨rfl,hb⟩;refine ⟨_,rfl,?_⟩;replace HB := zs_ HB hb;(try clear hb);(try clear hb2);(try clear hk);(try clear hi)))
   go_ret2
   exact ⟨_,zt_,(Kd.B_nil _ _ _ _),zl_ HB⟩
set_option maxHeartbeats 8000000 in
set_option maxRecDepth 100000 in
theorem laws_eqByteS.calls (k : Nat) (A0 : Option Addr) (c0 : Nat) (l0 : List Int) (A1 : Option Addr) (c1 : Nat) (l1 : List Int) (r : Bool) (w : World) (hr0 : Kd.C (Kd.int .u8) w A0 l0.length l0) (hc0 : l0.length ≤ c0) (hr1 : Kd.C (Kd.int .u8) w A1 l1.length l1) (hc1 : l1.length ≤ c1) (h : laws_eqByteS.f k l0 l1 = some r) :
  Calls Try.prog 11 #[.slice A0 l0.length c0,.slice A1 l1.length c1] w fun e w' => e = .returned (.bool r) ∧ Drawn0 w w' := by
 have HR0 := am_ hr0
 have HC0 := am_ hc0
 clear hr0 hc0
 have HR1 := am_ hr1
 have HC1 := am_ hc1
 clear hr1 hc1
 have H : (if (l0.length : Int) = (l1.length : Int) then (laws_eqByteS.l0 k l0 l1 0) else (some false)) = some r := h
 clear h
 by_cases c3 : (l0.length : Int) = (l1.length : Int)
 ·rw [if_pos c3] at H
  have c3b0 : ((l0.length : Int) == (l1.length : Int)) = true := beq_iff_eq.mpr c3
  have c3b1 : ((l0.length : Int) != (l1.length : Int)) = false := bne_eq_false_iff_eq.mpr c3
  have c3b2 : (l0.length == l1.length) = true := by first | simpa using c3 | (simp at c3 ⊢;omega)
  clear c3
  have H' := am_ H
  clear H
  go_enter Try.func11,Try.ntmps11
  go_wp2
  repeat (go_quiet (fail);try go_wp2)
  go_loopg [5] k (fun kq v5 w' => ∃ (x5_1 : Int),v5 = .int .i64 x5_1 ∧ Aside0 (laws_eqByteS.l0 kq l0 l1 x5_1 = some r) ∧ Aside0 (kq ≤ k) ∧ Drawn0 w w')
  case atStart => exact ⟨(0),(by first | rfl | (simp;done) | (simp [*];done)),H',⟨Nat.le_refl _⟩,by repeat (first | exact Drawn0.refl _ | apply Drawn0.step)⟩
  case round =>
   clear H'
   try clear c1
   try clear p2
   try clear c3
   try clear c3b0
   try clear c3b1
   try clear c3b2
   obtain ⟨x5_1,rfl,HA,HK1,⟨m1,rfl⟩⟩ := hrel
   cases gk with
   | zero => exact absurd HA.out (by simp [laws_eqByteS.l0])
   | succ k1 =>
    have H := HA.out
    clear HA
    simp only [laws_eqByteS.l0] at H
    by_cases c4 : x5_1 < (l0.length : Int)
    ·rw [if_pos c4] at H
     have c4b0 : decide (x5_1 < (l0.length : Int)) = true := decide_eq_true c4
     clear c4
     by_cases c5 : 0 ≤ x5_1
     ·rw [if_pos c5] at H
      have c5b0 : decide (0 ≤ x5_1) = true := decide_eq_true c5
      clear c5
      by_cases c6 : x5_1 < (l1.length : Int)
      ·rw [if_pos c6] at H
       have c6b0 : decide (x5_1 < (l1.length : Int)) = true := decide_eq_true c6
       clear c6
       by_cases c7 : (rd l0 x5_1) = (rd l1 x5_1)
       ·rw [if_pos c7] at H
        have c7b0 : ((rd l0 x5_1) == (rd l1 x5_1)) = true := beq_iff_eq.mpr c7
        have c7b1 : ((rd l0 x5_1) != (rd l1 x5_1)) = false := bne_eq_false_iff_eq.mpr c7
        clear c7
        have H' := am_ H
        clear H
        have p143 : 0 ≤ (x5_1 : Int) := zo_
        have q143 : x5_1 < (l0.length : Int) := zo_
        obtain ⟨ad143,e143,hx143_0⟩ := Kd.at_int HR0.out x5_1 p143 q143
        cases e143
        replace p143 := eq_true p143
        replace q143 := eq_true q143
        have p144 : 0 ≤ (x5_1 : Int) := zo_
        have q144 : x5_1 < (l1.length : Int) := zo_
        obtain ⟨ad144,e144,hx144_0⟩ := Kd.at_int HR1.out x5_1 p144 q144
        cases e144
        replace p144 := eq_true p144
        replace q144 := eq_true q144
        go_wp2
        repeat (go_quiet (fail);try go_wp2)
        go_roundg k1
        case measure => have := HK1.out;omega
        case rel => exact ⟨(wrap64 (x5_1 + 1)),(by first | rfl | (simp;done) | (simp [*];done)),H',⟨by have := HK1.out;omega⟩,by repeat (first | exact Drawn0.refl _ | apply Drawn0.step)⟩
       ·rw [if_neg c7] at H
        have c7b0 : ((rd l0 x5_1) == (rd l1 x5_1)) = false := beq_eq_false_iff_ne.mpr c7
        have c7b1 : ((rd l0 x5_1) != (rd l1 x5_1)) = true := bne_iff_ne.mpr c7
        obtain rfl := Option.some.inj H
        have p143 : 0 ≤ (x5_1 : Int) := zo_
        have q143 : x5_1 < (l0.length : Int) := zo_
        obtain ⟨ad143,e143,hx143_0⟩ := Kd.at_int HR0.out x5_1 p143 q143
        cases e143
        replace p143 := eq_true p143
        replace q143 := eq_true q143
        have p144 : 0 ≤ (x5_1 : Int) := zo_
        have q144 : x5_1 < (l1.length : Int) := zo_
        obtain ⟨ad144,e144,hx144_0⟩ := Kd.at_int HR1.out x5_1 p144 q144
        cases e144
        replace p144 := eq_true p144
        replace q144 := eq_true q144
        go_wp2
        repeat (go_quiet (fail);try go_wp2)
        go_ret
        exact ⟨by first | rfl | (simp;done) | (simp [*];done),by repeat (first | exact Drawn0.refl _ | apply Drawn0.step)⟩
      ·rw [if_neg c6] at H
       exact absurd H (by simp)
     ·rw [if_neg c5] at H
      exact absurd H (by simp)
    ·rw [if_neg c4] at H
     have c4b0 : decide (x5_1 < (l0.length : Int)) = false := decide_eq_false c4
     clear c4
     obtain rfl := Option.some.inj H
     go_wp2
     repeat (go_quiet (fail);try go_wp2)
     go_ret
     exact ⟨by first | rfl | (simp;done) | (simp [*];done),by repeat (first | exact Drawn0.refl _ | apply Drawn0.step)⟩
 ·rw [if_neg c3] at H
  have c3b0 : ((l0.length : Int) == (l1.length : Int)) = false := beq_eq_false_iff_ne.mpr c3
  have c3b1 : ((l0.length : Int) != (l1.length : Int)) = true := bne_iff_ne.mpr c3
  have c3b2 : (l0.length == l1.length) = false := by first | simpa using c3 | (simp at c3 ⊢;omega)
  obtain rfl := Option.some.inj H
  go_enter Try.func11,Try.ntmps11
  go_wp2
  repeat (go_quiet (fail);try go_wp2)
  go_ret
  exact ⟨by first | rfl | (simp;done) | (simp [*];done),by repeat (first | exact Drawn0.refl _ | apply Drawn0.step)⟩
set_option maxHeartbeats 8000000 in
set_option maxRecDepth 100000 in
theorem laws_eqStringS.calls (k : Nat) (A0 : Option Addr) (c0 : Nat) (l0 : List ByteArray) (A1 : Option Addr) (c1 : Nat) (l1 : List ByteArray) (r : Bool) (w : World) (hr0 : Kd.C Kd.string w A0 l0.length l0) (hc0 : l0.length ≤ c0) (hr1 : Kd.C Kd.string w A1 l1.length l1) (hc1 : l1.length ≤ c1) (h : laws_eqStringS.f k l0 l1 = some r) :
  Calls Try.prog 12 #[.slice A0 l0.length c0,.slice A1 l1.length c1] w fun e w' => e = .returned (.bool r) ∧ Drawn0 w w' := by
 have HR0 := am_ hr0
 have HC0 := am_ hc0
 clear hr0 hc0
 have HR1 := am_ hr1
 have HC1 := am_ hc1
 clear hr1 hc1
 have H : (if (l0.length : Int) = (l1.length : Int) then (laws_eqStringS.l0 k l0 l1 0) else (some false)) = some r := h
 clear h
 by_cases c3 : (l0.length : Int) = (l1.length : Int)
 ·rw [if_pos c3] at H
  have c3b0 : ((l0.length : Int) == (l1.length : Int)) = true := beq_iff_eq.mpr c3
  have c3b1 : ((l0.length : Int) != (l1.length : Int)) = false := bne_eq_false_iff_eq.mpr c3
  have c3b2 : (l0.length == l1.length) = true := by first | simpa using c3 | (simp at c3 ⊢;omega)
  clear c3
  have H' := am_ H
  clear H
  go_enter Try.func12,Try.ntmps12
  go_wp2
  repeat (go_quiet (fail);try go_wp2)
  go_loopg [5] k (fun kq v5 w' => ∃ (x5_1 : Int),v5 = .int .i64 x5_1 ∧ Aside0 (laws_eqStringS.l0 kq l0 l1 x5_1 = some r) ∧ Aside0 (kq ≤ k) ∧ Drawn0 w w')
  case atStart => exact ⟨(0),(by first | rfl | (simp;done) | (simp [*];done)),H',⟨Nat.le_refl _⟩,by repeat (first | exact Drawn0.refl _ | apply Drawn0.step)⟩
  case round =>
   clear H'
   try clear c1
   try clear p2
   try clear c3
   try clear c3b0
   try clear c3b1
   try clear c3b2
   obtain ⟨x5_1,rfl,HA,HK1,⟨m1,rfl⟩⟩ := hrel
   cases gk with
   | zero => exact absurd HA.out (by simp [laws_eqStringS.l0])
   | succ k1 =>
    have H := HA.out
    clear HA
    simp only [laws_eqStringS.l0] at H
    by_cases c4 : x5_1 < (l0.length : Int)
    ·rw [if_pos c4] at H
     have c4b0 : decide (x5_1 < (l0.length : Int)) = true := decide_eq_true c4
     clear c4
     by_cases c5 : 0 ≤ x5_1
     ·rw [if_pos c5] at H
      have c5b0 : decide (0 ≤ x5_1) = true := decide_eq_true c5
      clear c5
      by_cases c6 : x5_1 < (l1.length : Int)
      ·rw [if_pos c6] at H
       have c6b0 : decide (x5_1 < (l1.length : Int)) = true := decide_eq_true c6
       clear c6
       by_cases c7 : (rdOf ByteArray.empty l0 x5_1).toList = (rdOf ByteArray.empty l1 x5_1).toList
       ·rw [if_pos c7] at H
        have c7b0 : ((rdOf ByteArray.empty l0 x5_1).toList == (rdOf ByteArray.empty l1 x5_1).toList) = true := beq_iff_eq.mpr c7
        have c7b1 : ((rdOf ByteArray.empty l0 x5_1).toList != (rdOf ByteArray.empty l1 x5_1).toList) = false := bne_eq_false_iff_eq.mpr c7
        clear c7
        have H' := am_ H
        clear H
        have p145 : 0 ≤ (x5_1 : Int) := zo_
        have q145 : x5_1 < (l0.length : Int) := zo_
        obtain ⟨ad145,e145,hx145_0⟩ := Kd.at_string HR0.out x5_1 p145 q145
        cases e145
        replace p145 := eq_true p145
        replace q145 := eq_true q145
        have p146 : 0 ≤ (x5_1 : Int) := zo_
        have q146 : x5_1 < (l1.length : Int) := zo_
        obtain ⟨ad146,e146,hx146_0⟩ := Kd.at_string HR1.out x5_1 p146 q146
        cases e146
        replace p146 := eq_true p146
        replace q146 := eq_true q146
        go_wp2
        repeat (go_quiet (fail);try go_wp2)
        go_roundg k1
        case measure => have := HK1.out;omega
        case rel => exact ⟨(wrap64 (x5_1 + 1)),(by first | rfl | (simp;done) | (simp [*];done)),H',⟨by have := HK1.out;omega⟩,by repeat (first | exact Drawn0.refl _ | apply Drawn0.step)⟩
       ·rw [if_neg c7] at H
        have c7b0 : ((rdOf ByteArray.empty l0 x5_1).toList == (rdOf ByteArray.empty l1 x5_1).toList) = false := beq_eq_false_iff_ne.mpr c7
        have c7b1 : ((rdOf ByteArray.empty l0 x5_1).toList != (rdOf ByteArray.empty l1 x5_1).toList) = true := bne_iff_ne.mpr c7
        obtain rfl := Option.some.inj H
        have p145 : 0 ≤ (x5_1 : Int) := zo_
        have q145 : x5_1 < (l0.length : Int) := zo_
        obtain ⟨ad145,e145,hx145_0⟩ := Kd.at_string HR0.out x5_1 p145 q145
        cases e145
        replace p145 := eq_true p145
        replace q145 := eq_true q145
        have p146 : 0 ≤ (x5_1 : Int) := zo_
        have q146 : x5_1 < (l1.length : Int) := zo_
        obtain ⟨ad146,e146,hx146_0⟩ := Kd.at_string HR1.out x5_1 p146 q146
        cases e146
        replace p146 := eq_true p146
        replace q146 := eq_true q146
        go_wp2
        repeat (go_quiet (fail);try go_wp2)
        go_ret
        exact ⟨by first | rfl | (simp;done) | (simp [*];done),by repeat (first | exact Drawn0.refl _ | apply Drawn0.step)⟩
      ·rw [if_neg c6] at H
       exact absurd H (by simp)
     ·rw [if_neg c5] at H
      exact absurd H (by simp)
    ·rw [if_neg c4] at H
     have c4b0 : decide (x5_1 < (l0.length : Int)) = false := decide_eq_false c4
     clear c4
     obtain rfl := Option.some.inj H
     go_wp2
     repeat (go_quiet (fail);try go_wp2)
     go_ret
     exact ⟨by first | rfl | (simp;done) | (simp [*];done),by repeat (first | exact Drawn0.refl _ | apply Drawn0.step)⟩
 ·rw [if_neg c3] at H
  have c3b0 : ((l0.length : Int) == (l1.length : Int)) = false := beq_eq_false_iff_ne.mpr c3
  have c3b1 : ((l0.length : Int) != (l1.length : Int)) = true := bne_iff_ne.mpr c3
  have c3b2 : (l0.length == l1.length) = false := by first | simpa using c3 | (simp at c3 ⊢;omega)
  obtain rfl := Option.some.inj H
  go_enter Try.func12,Try.ntmps12
  go_wp2
  repeat (go_quiet (fail);try go_wp2)
  go_ret
  exact ⟨by first | rfl | (simp;done) | (simp [*];done),by repeat (first | exact Drawn0.refl _ | apply Drawn0.step)⟩
set_option maxHeartbeats 8000000 in
set_option maxRecDepth 100000 in
theorem laws_heldByteS.calls (k : Nat) (A0 : Option Addr) (c0 : Nat) (l0 : List Int) (a1 : Int) (r : Int) (w : World) (hr0 : Kd.C (Kd.int .u8) w A0 l0.length l0) (hc0 : l0.length ≤ c0) (h : laws_heldByteS.f k l0 a1 = some r) :
  Calls Try.prog 15 #[.slice A0 l0.length c0,.int .i64 a1] w fun e w' => e = .returned (.int .i64 r) ∧ Drawn0 w w' := by
 have HR0 := am_ hr0
 have HC0 := am_ hc0
 clear hr0 hc0
 have H : (laws_heldByteS.l0 k l0 a1 0) = some r := h
 clear h
 have H' := am_ H
 clear H
 go_enter Try.func15,Try.ntmps15
 go_wp2
 go_loopg [1,5] k (fun kq v1 v5 w' => ∃ (x1_1 : Int) (x5_1 : Int),v1 = .int .i64 x1_1 ∧ v5 = .int .i64 x5_1 ∧ Aside0 (laws_heldByteS.l0 kq l0 x1_1 x5_1 = some r) ∧ Aside0 (kq ≤ k) ∧ Drawn0 w w')
 case atStart => exact ⟨(a1),(0),(by first | rfl | (simp;done) | (simp [*];done)),(by first | rfl | (simp;done) | (simp [*];done)),H',⟨Nat.le_refl _⟩,by repeat (first | exact Drawn0.refl _ | apply Drawn0.step)⟩
 case round =>
  clear H'
  try clear c1
  try clear p2
  obtain ⟨x1_1,x5_1,rfl,rfl,HA,HK1,⟨m1,rfl⟩⟩ := hrel
  cases gk with
  | zero => exact absurd HA.out (by simp [laws_heldByteS.l0])
  | succ k1 =>
   have H := HA.out
   clear HA
   simp only [laws_heldByteS.l0] at H
   by_cases c3 : x5_1 < (l0.length : Int)
   ·rw [if_pos c3] at H
    have c3b0 : decide (x5_1 < (l0.length : Int)) = true := decide_eq_true c3
    clear c3
    by_cases c4 : 0 ≤ x5_1
    ·rw [if_pos c4] at H
     have c4b0 : decide (0 ≤ x5_1) = true := decide_eq_true c4
     clear c4
     by_cases c5 : (rd l0 x5_1) = ((x1_1) % 256)
     ·rw [if_pos c5] at H
      have c5b0 : ((rd l0 x5_1) == ((x1_1) % 256)) = true := beq_iff_eq.mpr c5
      have c5b1 : ((rd l0 x5_1) != ((x1_1) % 256)) = false := bne_eq_false_iff_eq.mpr c5
      clear c5
      have H' := am_ H
      clear H
      have p153 : 0 ≤ (x5_1 : Int) := zo_
      have q153 : x5_1 < (l0.length : Int) := zo_
      obtain ⟨ad153,e153,hx153_0⟩ := Kd.at_int HR0.out x5_1 p153 q153
      cases e153
      replace p153 := eq_true p153
      replace q153 := eq_true q153
      go_wp2
      go_roundg k1
      case measure => have := HK1.out;omega
      case rel => exact ⟨(wrap64 (x1_1 + 1)),(wrap64 (x5_1 + 1)),(by first | rfl | (simp;done) | (simp [*];done)),(by first | rfl | (simp;done) | (simp [*];done)),H',⟨by have := HK1.out;omega⟩,by repeat (first | exact Drawn0.refl _ | apply Drawn0.step)⟩
     ·rw [if_neg c5] at H
      have c5b0 : ((rd l0 x5_1) == ((x1_1) % 256)) = false := beq_eq_false_iff_ne.mpr c5
      have c5b1 : ((rd l0 x5_1) != ((x1_1) % 256)) = true := bne_iff_ne.mpr c5
      obtain rfl := Option.some.inj H
      have p153 : 0 ≤ (x5_1 : Int) := zo_
      have q153 : x5_1 < (l0.length : Int) := zo_
      obtain ⟨ad153,e153,hx153_0⟩ := Kd.at_int HR0.out x5_1 p153 q153
      cases e153
      replace p153 := eq_true p153
      replace q153 := eq_true q153
      go_wp2
      go_ret
      exact ⟨by first | rfl | (simp;done) | (simp [*];done),by repeat (first | exact Drawn0.refl _ | apply Drawn0.step)⟩
    ·rw [if_neg c4] at H
     exact absurd H (by simp)
   ·rw [if_neg c3] at H
    have c3b0 : decide (x5_1 < (l0.length : Int)) = false := decide_eq_false c3
    clear c3
    obtain rfl := Option.some.inj H
    go_wp2
    go_ret
    exact ⟨by first | rfl | (simp;done) | (simp [*];done),by repeat (first | exact Drawn0.refl _ | apply Drawn0.step)⟩
set_option maxHeartbeats 8000000 in
set_option maxRecDepth 100000 in
theorem laws_markByteS.callsB (k : Nat) (P0_ : Nat → Prop) (u9000_ : Value) (l0 : List Int) (a1 : Int) (r1 : Int) (r2 : List Int) (w0 w : World) (hB : Below w0.heap.size w0 w) (ho0 : Kd.B 5 w w0.heap.size P0_ u9000_ l0) (h : laws_markByteS.f k l0 a1 = some (r1,r2)) :
  Calls Try.prog 14 #[u9000_,.int .i64 a1] w fun e w' => e = .returned (.int .i64 r1) ∧ Kd.B 5 w' w0.heap.size (fun k_ => (P0_ k_ ∨ w.heap.size ≤ k_)) u9000_ r2 ∧ Below w0.heap.size w0 w' ∧ Kept w w' (fun k_ => P0_ k_) := by
 have HO0 := am_ (show Kd.B 5 w w0.heap.size (fun k_ => (P0_ k_ ∨ w.heap.size ≤ k_)) u9000_ l0 from Kd.B_mono ho0 (fun k_ hk => (.inl hk)))
 have HK := am_ (Kept.refl w (fun k_ => P0_ k_))
 have HW0 := am_ hB.size
 have HB := am_ hB
 clear hB
 have H : (laws_markByteS.l0 k l0 a1 0) = some (r1,r2) := h
 clear h
 have H' := am_ H
 clear H
 go_enter Try.func14,Try.ntmps14
 go_wp2
 go_loopg [1,5] k (fun kq v1 v5 w' => ∃ (x0_1 : List Int) (x1_1 : Int) (x5_1 : Int),v1 = .int .i64 x1_1 ∧ v5 = .int .i64 x5_1 ∧ Aside0 (laws_markByteS.l0 kq x0_1 x1_1 x5_1 = some (r1,r2)) ∧ Aside0 (kq ≤ k) ∧ Aside0 (Kd.B 5 w' w0.heap.size (fun k_ => (P0_ k_ ∨ w.heap.size ≤ k_)) u9000_ x0_1) ∧ Aside0 (Kept w w' (fun k_ => P0_ k_)) ∧ Aside0 (Below w0.heap.size w0 w'))
 case atStart => exact ⟨(l0),(a1),(0),(by first | rfl | (simp;done) | (simp [*];done)),(by first | rfl | (simp;done) | (simp [*];done)),H',⟨Nat.le_refl _⟩,⟨Kd.zrB HO0⟩,⟨by repeat (first | (with_reducible first | exact HK.out | apply Kept.alloc | apply Kept.drewN | apply Kept.drew) | exact HK.out)⟩,⟨zl_ HB⟩⟩
 case round =>
  clear H'
  try clear c1
  try clear p2
  obtain ⟨x0_1,x1_1,x5_1,rfl,rfl,HA,HK1,HO_0,HK,HB⟩ := hrel
  cases gk with
  | zero => exact absurd HA.out (by simp [laws_markByteS.l0])
  | succ k1 =>
   have H := HA.out
   clear HA
   simp only [laws_markByteS.l0] at H
   by_cases c3 : x5_1 < (x0_1.length : Int)
   ·rw [if_pos c3] at H
    have c3b0 : decide (x5_1 < (x0_1.length : Int)) = true := decide_eq_true c3
    clear c3
    by_cases c4 : 0 ≤ x5_1
    ·rw [if_pos c4] at H
     have c4b0 : decide (0 ≤ x5_1) = true := decide_eq_true c4
     clear c4
     obtain ⟨y152,hy152⟩ : ∃ y_ : List Int,y_ = (x0_1.set (x5_1 : Int).toNat ((x1_1) % 256)) := ⟨_,rfl⟩
     replace H : (laws_markByteS.l0 k1 y152 (wrap64 (x1_1 + 1)) (wrap64 (x5_1 + 1))) = some (r1,r2) := by first | (rw [hy152];with_reducible exact H) | (have H2_ := (Option.bind_some _ _).symm.trans H;rw [hy152];with_reducible exact H2_) | (have H2_ := (Option.bind_some _ _).symm.trans H;with_reducible exact H2_) | with_reducible exact H | (rw [hy152];exact H) | exact H
     have Ny152 := am_ hy152
     clear hy152
     have H' := am_ H
     clear H
     obtain ⟨Ao6,co6,eo6⟩ := Kd.B_slice HO_0.out
     subst eo6
     have p5 : 0 ≤ (x5_1 : Int) := zo_
     have q5 : (x5_1 : Int) < ((x0_1.length : Int) : Int) := zo_
     obtain ⟨go5,co5,eo5,gb5,gl5⟩ := Kd.B_form HO_0.out (by omega)
     (first | cases eo5 | (injection eo5 with ea_ en_ ec_;(first | subst ea_ | (injection ea_ with ea_;subst ea_));subst ec_;clear en_))
     have GB5 := am_ gb5
     clear gb5 gl5
     have HMgo5 := am_ (show (P0_ go5 ∨ w.heap.size ≤ go5) from (HO_0.out.1 _ rfl))
     obtain ⟨hx5_0,hf5_0⟩ := Kd.B_celln HO_0.out (x5_1 : Int) p5 q5
     replace p5 := eq_true p5
     replace q5 := eq_true q5
     have HP7 := Kd.B_putg HO_0.out (x5_1 : Int) ((x1_1) % 256)
     go_wp2_with (first | ((with_reducible refine gate_store (t := 5) (p := 16) rfl ?_);refine store_event (t := 5) (p := 16) (v := ?vo_w8) (w1 := (wr.setCell ⟨go5,(x5_1 : Int).toNat,none⟩ (.int .u8 ((x1_1) % 256)))) ?hg ?ho ?hn ?hr ?_;(case ho => rfl);(case hg => rfl);(case hn => rfl);(case hr => first | (go_simp;done) | (go_simp;rfl));intro w8 hw;have hg : wr.grownBy w8 (some go5) := (by rw [hw];exact HP7.2);have hp_ : Kd.B 5 w8 w0.heap.size (fun k_ => (P0_ k_ ∨ w.heap.size ≤ k_)) (.slice (some ⟨go5,0,none⟩) x0_1.length co6) y152 := (by rw [hw,Ny152.out];exact HP7.1);clear HP7;replace HB := am_ ((by rw [hw];exact below_set (HB.out) GB5.out : Below w0.heap.size w0 w8));replace HK := am_ (Kept.of_grown (S := (fun k_ => P0_ k_)) hg (by repeat (first | (with_reducible first | exact HK.out | apply Kept.alloc | apply Kept.drewN | apply Kept.drew) | exact HK.out)) (fun k_ e_ => (HO_0.out.1 k_ e_)));replace HO_0 := am_ (hp_);clear hg hw hp_))
     go_roundg k1
     case measure => have := HK1.out;omega
     case rel => exact ⟨(y152),(wrap64 (x1_1 + 1)),(wrap64 (x5_1 + 1)),(by first | rfl | (simp;done) | (simp [*];done)),(by first | rfl | (simp;done) | (simp [*];done)),H',⟨by have := HK1.out;omega⟩,⟨Kd.zrB HO_0⟩,⟨by repeat (first | (with_reducible first | exact HK.out | apply Kept.alloc | apply Kept.drewN | apply Kept.drew) | exact HK.out)⟩,⟨zl_ HB⟩⟩
    ·rw [if_neg c4] at H
     exact absurd H (by simp)
   ·rw [if_neg c3] at H
    have c3b0 : decide (x5_1 < (x0_1.length : Int)) = false := decide_eq_false c3
    clear c3
    simp only [Option.some.injEq,Prod.mk.injEq] at H
    obtain ⟨rfl,rfl⟩ := H
    obtain ⟨Ao9,co9,eo9⟩ := Kd.B_slice HO_0.out
    subst eo9
    go_wp2
    go_ret
    exact ⟨zt_,Kd.zrB HO_0,zl_ HB,by repeat (first | (with_reducible first | exact HK.out | apply Kept.alloc | apply Kept.drewN | apply Kept.drew) | exact HK.out)⟩
set_option maxHeartbeats 8000000 in
set_option maxRecDepth 100000 in
theorem laws_markText.calls (k : Nat) (a0 : Int) (r : ByteArray) (w : World) (h : laws_markText.f k a0 = some r) :
  Calls Try.prog 36 #[.int .i64 a0] w fun e w' => e = .returned (.string r) ∧ Below w.heap.size w w' := by
 have HB := am_ (Below.refl w.heap.size w)
 have H : (if a0 ≤ 0 then (some (⟨#[109,48]⟩ : ByteArray)) else (laws_markText.l0 k a0 (⟨#[]⟩ : ByteArray))) = some r := h
 clear h
 by_cases c2 : a0 ≤ 0
 ·rw [if_pos c2] at H
  have c2b0 : decide (a0 ≤ 0) = true := decide_eq_true c2
  clear c2
  obtain rfl := Option.some.inj H
  go_enter Try.func36,Try.ntmps36
  go_wp2
  go_ret
  exact ⟨zt_,zl_ HB⟩
 ·rw [if_neg c2] at H
  have c2b0 : decide (a0 ≤ 0) = false := decide_eq_false c2
  clear c2
  have H' := am_ H
  clear H
  go_enter Try.func36,Try.ntmps36
  go_wp2
  go_loopg [0,3] k (fun kq v0 v3 w' => ∃ (x0_1 : Int) (x3_1 : ByteArray),v0 = .int .i64 x0_1 ∧ v3 = .string x3_1 ∧ Aside0 (laws_markText.l0 kq x0_1 x3_1 = some r) ∧ Aside0 (kq ≤ k) ∧ Aside0 (Below w.heap.size w w'))
  case atStart => exact ⟨(a0),((⟨#[]⟩ : ByteArray)),(by first | rfl | (simp;done) | (simp [*];done)),(by first | rfl | (simp;done) | (simp [*];done)),H',⟨Nat.le_refl _⟩,⟨zl_ HB⟩⟩
  case round =>
   clear H'
   try clear c2
   try clear c2b0
   try clear p2
   obtain ⟨x0_1,x3_1,rfl,rfl,HA,HK1,HB⟩ := hrel
   cases gk with
   | zero => exact absurd HA.out (by simp [laws_markText.l0])
   | succ k1 =>
    have H := HA.out
    clear HA
    simp only [laws_markText.l0] at H
    by_cases c3 : x0_1 > 0
    ·rw [if_pos c3] at H
     have c3b0 : decide (0 < x0_1) = true := decide_eq_true c3
     clear c3
     obtain ⟨y147,hy147⟩ : ∃ y_ : List Int,y_ = (([(wrap64 (48 + (Int.tmod x0_1 10))) % 256] : List Int)) := ⟨_,rfl⟩
     replace H : (if (strOfNums y147).size + x3_1.size ≤ 9223372036854775807 then (laws_markText.l0 k1 (wrap64 (Int.tdiv x0_1 10)) ((strOfNums y147) ++ x3_1)) else (none)) = some r := by first | (rw [hy147];with_reducible exact H) | (have H2_ := (Option.bind_some _ _).symm.trans H;rw [hy147];with_reducible exact H2_) | (have H2_ := (Option.bind_some _ _).symm.trans H;with_reducible exact H2_) | with_reducible exact H | (rw [hy147];exact H) | exact H
     have Ny147 := am_ hy147
     clear hy147
     by_cases c4 : (strOfNums y147).size + x3_1.size ≤ 9223372036854775807
     ·rw [if_pos c4] at H
      have c4b0 := eq_true c4
      have c4b1 : decide ((strOfNums y147).size + x3_1.size ≤ 9223372036854775807) = true := decide_eq_true c4
      try have c4b2 : (9223372036854775807 < (strOfNums y147).size + x3_1.size) = False := eq_false (Nat.not_lt.2 c4)
      have H' := am_ H
      clear H
      go_wp2_with (first | ((with_reducible refine gate_dst (N := 12) rfl ?_);refine Kd.R_lit (Kd.int .u8) _ 5 ?hg (N := 12) ?hd (xs := ([(wrap64 (48 + (Int.tmod x0_1 10))) % 256] : List Int)) (inner := [.int .u8 ((wrap64 (48 + (Int.tmod x0_1 10))) % 256)]) (ok := fun _ => True) (okp := fun _ => True) ?hr ?hp (fun _ hk => hk) trivial (Below.refl _ _) (Nat.le_refl _) (by simp) ?_;(case hd => rfl);(case hg => rfl);(case hr => first | (go_simp;done) | (go_simp;rfl));(case hp => exact (Reps.one (show Kd.M (Kd.int .u8) _ _ _ ((wrap64 (48 + (Int.tmod x0_1 10))) % 256) [.int .u8 ((wrap64 (48 + (Int.tmod x0_1 10))) % 256)] from rfl) (Reps.none _ _)));intro v148 w5 ho6 hb hg_ hnew_;clear hg_ hnew_;(first | rw [← Ny147.out] at ho6 | (simp only [Int.reduceToNat] at ho6;rw [← Ny147.out] at ho6));have HO149 := am_ (Kd.R_lower ho6 (below_size (zl_ HB)));replace HB := zs_ HB hb;clear hb ho6;have hcv7 := own_string (P := Try.prog) Try.underlying24 Try.underlying5 Try.underlying9 (Kd.own_of_R HO149.out)))
      go_roundg k1
      case measure => have := HK1.out;omega
      case rel => exact ⟨(wrap64 (Int.tdiv x0_1 10)),((strOfNums y147) ++ x3_1),(by first | rfl | (simp;done) | (simp [*];done)),(by first | rfl | (simp;done) | (simp [*];done)),H',⟨by have := HK1.out;omega⟩,⟨zl_ HB⟩⟩
     ·rw [if_neg c4] at H
      exact absurd H (by simp)
    ·rw [if_neg c3] at H
     have c3b0 : decide (0 < x0_1) = false := decide_eq_false c3
     clear c3
     by_cases c8 : 1 + x3_1.size ≤ 9223372036854775807
     ·rw [if_pos c8] at H
      have c8b0 := eq_true c8
      have c8b1 : decide (1 + x3_1.size ≤ 9223372036854775807) = true := decide_eq_true c8
      try have c8b2 : (9223372036854775807 < 1 + x3_1.size) = False := eq_false (Nat.not_lt.2 c8)
      obtain rfl := Option.some.inj H
      go_wp2
      go_ret
      exact ⟨zt_,zl_ HB⟩
     ·rw [if_neg c8] at H
      exact absurd H (by simp)
set_option maxHeartbeats 8000000 in
set_option maxRecDepth 100000 in
theorem laws_markStringS.calls (k : Nat) (P0_ : Nat → Prop) (u9000_ : Value) (l0 : List ByteArray) (a1 : Int) (r1 : Int) (r2 : List ByteArray) (w0 w : World) (hB : Below w0.heap.size w0 w) (ho0 : Kd.R Kd.string 9 w w0.heap.size P0_ u9000_ l0) (h : laws_markStringS.f k l0 a1 = some (r1,r2)) :
  Calls Try.prog 13 #[u9000_,.int .i64 a1] w fun e w' => e = .returned (.int .i64 r1) ∧ Kd.R Kd.string 9 w' w0.heap.size (fun k_ => (P0_ k_ ∨ w.heap.size ≤ k_)) u9000_ r2 ∧ Below w0.heap.size w0 w' ∧ Kept w w' (fun k_ => P0_ k_) := by
 have HO0 := am_ (show Kd.R Kd.string 9 w w0.heap.size (fun k_ => (P0_ k_ ∨ w.heap.size ≤ k_)) u9000_ l0 from Kd.R_mono ho0 (fun k_ hk => (.inl hk)))
 have HK := am_ (Kept.refl w (fun k_ => P0_ k_))
 have HW0 := am_ hB.size
 have HB := am_ hB
 clear hB
 have H : (laws_markStringS.l0 k l0 a1 0) = some (r1,r2) := h
 clear h
 have H' := am_ H
 clear H
 go_enter Try.func13,Try.ntmps13
 go_wp2
 go_loopg [1,5] k (fun kq v1 v5 w' => ∃ (x0_1 : List ByteArray) (x1_1 : Int) (x5_1 : Int),v1 = .int .i64 x1_1 ∧ v5 = .int .i64 x5_1 ∧ Aside0 (laws_markStringS.l0 kq x0_1 x1_1 x5_1 = some (r1,r2)) ∧ Aside0 (kq ≤ k) ∧ Aside0 (Kd.R Kd.string 9 w' w0.heap.size (fun k_ => (P0_ k_ ∨ w.heap.size ≤ k_)) u9000_ x0_1) ∧ Aside0 (Kept w w' (fun k_ => P0_ k_)) ∧ Aside0 (Below w0.heap.size w0 w'))
 case atStart => exact ⟨(l0),(a1),(0),(by first | rfl | (simp;done) | (simp [*];done)),(by first | rfl | (simp;done) | (simp [*];done)),H',⟨Nat.le_refl _⟩,⟨zr HO0⟩,⟨by repeat (first | (with_reducible first | exact HK.out | apply Kept.alloc | apply Kept.drewN | apply Kept.drew) | exact HK.out)⟩,⟨zl_ HB⟩⟩
 case round =>
  clear H'
  try clear c1
  try clear p2
  obtain ⟨x0_1,x1_1,x5_1,rfl,rfl,HA,HK1,HO_0,HK,HB⟩ := hrel
  cases gk with
  | zero => exact absurd HA.out (by simp [laws_markStringS.l0])
  | succ k1 =>
   have H := HA.out
   clear HA
   simp only [laws_markStringS.l0] at H
   by_cases c3 : x5_1 < (x0_1.length : Int)
   ·rw [if_pos c3] at H
    have c3b0 : decide (x5_1 < (x0_1.length : Int)) = true := decide_eq_true c3
    clear c3
    replace H := Option.bind_eq_some_iff.mp H
    obtain ⟨t150,A40,H⟩ := H
    try dsimp only at H
    have A4 := am_ A40
    clear A40
    by_cases c5 : 0 ≤ x5_1
    ·rw [if_pos c5] at H
     have c5b0 : decide (0 ≤ x5_1) = true := decide_eq_true c5
     clear c5
     obtain ⟨y151,hy151⟩ : ∃ y_ : List ByteArray,y_ = (x0_1.set (x5_1 : Int).toNat t150) := ⟨_,rfl⟩
     replace H : (laws_markStringS.l0 k1 y151 (wrap64 (x1_1 + 1)) (wrap64 (x5_1 + 1))) = some (r1,r2) := by first | (rw [hy151];with_reducible exact H) | (have H2_ := (Option.bind_some _ _).symm.trans H;rw [hy151];with_reducible exact H2_) | (have H2_ := (Option.bind_some _ _).symm.trans H;with_reducible exact H2_) | with_reducible exact H | (rw [hy151];exact H) | exact H
     have Ny151 := am_ hy151
     clear hy151
     have H' := am_ H
     clear H
     obtain ⟨Ao7,co7,eo7⟩ := Kd.R_slice HO_0.out
     subst eo7
     go_wp2_with (first | ((with_reducible refine gate_callee (f := 36) rfl ?_);refine zgl (some 15) Try.func36 #[.int .i64 x1_1] ?_;(with_reducible refine (laws_markText.calls k1 x1_1 t150 _ A4.out).mono ?_);rintro e w8 ⟨rfl,hb⟩;refine ⟨_,rfl,?_⟩;replace HO_0 := zrb HO_0 hb;replace HK := am_ (Kept.below (S := (fun k_ => P0_ k_)) (by repeat (first | (with_reducible first | exact HK.out | apply Kept.alloc | apply Kept.drewN | apply Kept.drew) | exact HK.out)) hb);replace HB := zs_ HB hb;(try clear hb);(try clear hb2);(try clear hk);(try clear hi);have p6 : 0 ≤ (x5_1 : Int) := zo_;have q6 : (x5_1 : Int) < ((x0_1.length : Int) : Int) := zo_;obtain ⟨go6,co6,eo6,gb6,gl6,cl6,HG6⟩ := Kd.R_form HO_0.out (by omega);(first | cases eo6 | (injection eo6 with ea_ en_ ec_;(first | subst ea_ | (injection ea_ with ea_;subst ea_));subst ec_;clear en_));have GB6 := am_ gb6;have GG6 := am_ HG6;clear gb6 gl6 HG6;have HMgo6 := am_ (show (P0_ go6 ∨ w.heap.size ≤ go6) from (HO_0.out.1 _ rfl));obtain ⟨hx6_0,hf6_0⟩ := Kd.R_celln (⟨#[]⟩ : ByteArray) HO_0.out (x5_1 : Int) p6 q6;replace p6 := eq_true p6;replace q6 := eq_true q6;obtain ⟨hy9_,hz9_⟩ := Kd.R_celln (⟨#[]⟩ : ByteArray) HO_0.out (x5_1 : Int) (zo_) (zo_);have HP9 := Kd.R_putg HO_0.out (x5_1 : Int) t150) | ((with_reducible refine gate_store (t := 9) (p := 16) rfl ?_);refine store_event (t := 9) (p := 16) (v := ?vo_w10) (w1 := (w8.setCell ⟨go6,(x5_1 : Int).toNat,none⟩ (.string t150))) ?hg ?ho ?hn ?hr ?_;(case ho => rfl);(case hg => rfl);(case hn => rfl);(case hr => first | (go_simp;done) | (go_simp;rfl));intro w10 hw;have hg : w8.grownBy w10 (some go6) := (by rw [hw];exact HP9.2);have hp_ : Kd.R Kd.string 9 w10 w0.heap.size (fun k_ => (P0_ k_ ∨ w.heap.size ≤ k_)) (.slice (some ⟨go6,0,none⟩) x0_1.length co7) y151 := (by rw [hw,Ny151.out];exact HP9.1);clear HP9;replace HB := am_ ((by rw [hw];exact below_set (HB.out) GB6.out : Below w0.heap.size w0 w10));replace HK := am_ (Kept.of_grown (S := (fun k_ => P0_ k_)) hg (by repeat (first | (with_reducible first | exact HK.out | apply Kept.alloc | apply Kept.drewN | apply Kept.drew) | exact HK.out)) (fun k_ e_ => (HO_0.out.1 k_ e_)));replace HO_0 := am_ (hp_);clear hg hw hp_))
     go_roundg k1
     case measure => have := HK1.out;omega
     case rel => exact ⟨(y151),(wrap64 (x1_1 + 1)),(wrap64 (x5_1 + 1)),(by first | rfl | (simp;done) | (simp [*];done)),(by first | rfl | (simp;done) | (simp [*];done)),H',⟨by have := HK1.out;omega⟩,⟨zr HO_0⟩,⟨by repeat (first | (with_reducible first | exact HK.out | apply Kept.alloc | apply Kept.drewN | apply Kept.drew) | exact HK.out)⟩,⟨zl_ HB⟩⟩
    ·rw [if_neg c5] at H
     exact absurd H (by simp)
   ·rw [if_neg c3] at H
    have c3b0 : decide (x5_1 < (x0_1.length : Int)) = false := decide_eq_false c3
    clear c3
    simp only [Option.some.injEq,Prod.mk.injEq] at H
    obtain ⟨rfl,rfl⟩ := H
    obtain ⟨Ao11,co11,eo11⟩ := Kd.R_slice HO_0.out
    subst eo11
    go_wp2
    go_ret
    exact ⟨zt_,zr HO_0,zl_ HB,by repeat (first | (with_reducible first | exact HK.out | apply Kept.alloc | apply Kept.drewN | apply Kept.drew) | exact HK.out)⟩
set_option maxHeartbeats 8000000 in
set_option maxRecDepth 100000 in
theorem laws_szStringS.calls (k : Nat) (A0 : Option Addr) (c0 : Nat) (l0 : List ByteArray) (a1 : Int) (r : Int) (w : World) (hr0 : Kd.C Kd.string w A0 l0.length l0) (hc0 : l0.length ≤ c0) (h : laws_szStringS.f k l0 a1 = some r) :
  Calls Try.prog 7 #[.slice A0 l0.length c0,.int .i64 a1] w fun e w' => e = .returned (.int .i64 r) ∧ Drawn0 w w' := by
 have HR0 := am_ hr0
 have HC0 := am_ hc0
 clear hr0 hc0
 have H : (if (wrap64 (a1 - (l0.length : Int))) < 0 then (some (-1)) else (laws_szStringS.l0 k l0 (wrap64 (a1 - (l0.length : Int))) 0)) = some r := h
 clear h
 by_cases c3 : (wrap64 (a1 - (l0.length : Int))) < 0
 ·rw [if_pos c3] at H
  have c3b0 : decide ((wrap64 (a1 - (l0.length : Int))) < 0) = true := decide_eq_true c3
  clear c3
  obtain rfl := Option.some.inj H
  go_enter Try.func7,Try.ntmps7
  go_wp2
  go_ret
  exact ⟨by first | rfl | (simp;done) | (simp [*];done),by repeat (first | exact Drawn0.refl _ | apply Drawn0.step)⟩
 ·rw [if_neg c3] at H
  have c3b0 : decide ((wrap64 (a1 - (l0.length : Int))) < 0) = false := decide_eq_false c3
  clear c3
  have H' := am_ H
  clear H
  go_enter Try.func7,Try.ntmps7
  go_wp2
  go_loopg [1,5] k (fun kq v1 v5 w' => ∃ (x1_1 : Int) (x5_1 : Int),v1 = .int .i64 x1_1 ∧ v5 = .int .i64 x5_1 ∧ Aside0 (laws_szStringS.l0 kq l0 x1_1 x5_1 = some r) ∧ Aside0 (kq ≤ k) ∧ Drawn0 w w')
  case atStart => exact ⟨(wrap64 (a1 - (l0.length : Int))),(0),(by first | rfl | (simp;done) | (simp [*];done)),(by first | rfl | (simp;done) | (simp [*];done)),H',⟨Nat.le_refl _⟩,by repeat (first | exact Drawn0.refl _ | apply Drawn0.step)⟩
  case round =>
   clear H'
   try clear p2
   try clear c3
   try clear c3b0
   obtain ⟨x1_1,x5_1,rfl,rfl,HA,HK1,⟨m1,rfl⟩⟩ := hrel
   cases gk with
   | zero => exact absurd HA.out (by simp [laws_szStringS.l0])
   | succ k1 =>
    have H := HA.out
    clear HA
    simp only [laws_szStringS.l0] at H
    by_cases c4 : x5_1 < (l0.length : Int)
    ·rw [if_pos c4] at H
     have c4b0 : decide (x5_1 < (l0.length : Int)) = true := decide_eq_true c4
     clear c4
     by_cases c5 : 0 ≤ x5_1
     ·rw [if_pos c5] at H
      have c5b0 : decide (0 ≤ x5_1) = true := decide_eq_true c5
      clear c5
      by_cases c6 : (wrap64 (x1_1 - ((rdOf ByteArray.empty l0 x5_1).size : Int))) < 0
      ·rw [if_pos c6] at H
       have c6b0 : decide ((wrap64 (x1_1 - ((rdOf ByteArray.empty l0 x5_1).size : Int))) < 0) = true := decide_eq_true c6
       clear c6
       obtain rfl := Option.some.inj H
       have p101 : 0 ≤ (x5_1 : Int) := zo_
       have q101 : x5_1 < (l0.length : Int) := zo_
       obtain ⟨ad101,e101,hx101_0⟩ := Kd.at_string HR0.out x5_1 p101 q101
       cases e101
       replace p101 := eq_true p101
       replace q101 := eq_true q101
       go_wp2
       go_ret
       exact ⟨by first | rfl | (simp;done) | (simp [*];done),by repeat (first | exact Drawn0.refl _ | apply Drawn0.step)⟩
      ·rw [if_neg c6] at H
       have c6b0 : decide ((wrap64 (x1_1 - ((rdOf ByteArray.empty l0 x5_1).size : Int))) < 0) = false := decide_eq_false c6
       clear c6
       have H' := am_ H
       clear H
       have p101 : 0 ≤ (x5_1 : Int) := zo_
       have q101 : x5_1 < (l0.length : Int) := zo_
       obtain ⟨ad101,e101,hx101_0⟩ := Kd.at_string HR0.out x5_1 p101 q101
       cases e101
       replace p101 := eq_true p101
       replace q101 := eq_true q101
       go_wp2
       go_roundg k1
       case measure => have := HK1.out;omega
       case rel => exact ⟨(wrap64 (x1_1 - ((rdOf ByteArray.empty l0 x5_1).size : Int))),(wrap64 (x5_1 + 1)),(by first | rfl | (simp;done) | (simp [*];done)),(by first | rfl | (simp;done) | (simp [*];done)),H',⟨by have := HK1.out;omega⟩,by repeat (first | exact Drawn0.refl _ | apply Drawn0.step)⟩
     ·rw [if_neg c5] at H
      exact absurd H (by simp)
    ·rw [if_neg c4] at H
     have c4b0 : decide (x5_1 < (l0.length : Int)) = false := decide_eq_false c4
     clear c4
     obtain rfl := Option.some.inj H
     go_wp2
     go_ret
     exact ⟨by first | rfl | (simp;done) | (simp [*];done),by repeat (first | exact Drawn0.refl _ | apply Drawn0.step)⟩
set_option maxHeartbeats 8000000 in
set_option maxRecDepth 100000 in
theorem laws_toStringS.calls (k : Nat) (A0 : Option Addr) (c0 : Nat) (l0 : List ByteArray) (r : List ByteArray) (w : World) (hr0 : Kd.C Kd.string w A0 l0.length l0) (hc0 : l0.length ≤ c0) (h : laws_toStringS.f k l0 = some r) :
  Calls Try.prog 9 #[.slice A0 l0.length c0] w fun e w' => ∃ v0_ : Value,e = .returned (v0_) ∧ Kd.R Kd.string 9 w' w.heap.size (fun _ => True) v0_ r ∧ Below w.heap.size w w' := by
 have HR0 := am_ hr0
 have HC0 := am_ hc0
 clear hr0 hc0
 have HB := am_ (Below.refl w.heap.size w)
 have H : (if 0 ≤ (l0.length : Int) then (if ((l0.length : Int) : Int).toNat ≤ 17592186044416 then (laws_toStringS.l0 k l0 (List.replicate ((l0.length : Int) : Int).toNat (⟨#[]⟩ : ByteArray)) 0) else (none)) else (none)) = some r := h
 clear h
 by_cases c2 : 0 ≤ (l0.length : Int)
 ·rw [if_pos c2] at H
  have c2b0 := eq_true c2
  have c2b1 : decide (0 ≤ (l0.length : Int)) = true := decide_eq_true c2
  clear c2
  by_cases c3 : ((l0.length : Int) : Int).toNat ≤ 17592186044416
  ·rw [if_pos c3] at H
   have c3b0 := eq_true c3
   have c3b1 : decide (((l0.length : Int) : Int).toNat ≤ 17592186044416) = true := decide_eq_true c3
   clear c3
   obtain ⟨y122,hy122⟩ : ∃ y_ : List ByteArray,y_ = (List.replicate ((l0.length : Int) : Int).toNat (⟨#[]⟩ : ByteArray)) := ⟨_,rfl⟩
   replace H : (laws_toStringS.l0 k l0 y122 0) = some r := by first | (rw [hy122];with_reducible exact H) | (have H2_ := (Option.bind_some _ _).symm.trans H;rw [hy122];with_reducible exact H2_) | (have H2_ := (Option.bind_some _ _).symm.trans H;with_reducible exact H2_) | with_reducible exact H | (rw [hy122];exact H) | exact H
   have Ny122 := am_ hy122
   clear hy122
   have H' := am_ H
   clear H
   go_enter Try.func9,Try.ntmps9
   go_wp2_with (first | ((with_reducible refine gate_dst (N := 7) rfl ?_);refine Kd.R_make Kd.string _ 9 rfl (N := 7) rfl 22 _ _ rfl (l0.length : Int) rfl rfl Try.underlying22 (.string ⟨#[]⟩) 16 info9 rfl (by decide) (by omega) (⟨#[]⟩ : ByteArray) (ok := fun _ => True) (okp := fun _ => True) rfl (fun _ hk => hk) trivial (zo_) (Nat.le_trans (Nat.mul_le_mul_right _ (zo_ : (l0.length : Int).toNat ≤ 17592186044416)) (by omega)) (Below.refl _ _) (Nat.le_refl _) ?_;intro v123 w4 ho5 hb hg_ hnew_;clear hg_ hnew_;(first | rw [← Ny122.out] at ho5 | (simp only [Int.reduceToNat] at ho5;rw [← Ny122.out] at ho5));have HO124 := am_ (Kd.R_lower ho5 (below_size (zl_ HB)));replace HB := zs_ HB hb;clear hb ho5))
   go_loopg [4] k (fun kq v4 w' => ∃ (x3_1 : List ByteArray) (x4_1 : Int),v4 = .int .i64 x4_1 ∧ Aside0 (laws_toStringS.l0 kq l0 x3_1 x4_1 = some r) ∧ Aside0 (kq ≤ k) ∧ Aside0 (Kd.R Kd.string 9 w' w.heap.size (fun _ => True) v123 x3_1) ∧ Aside0 (Below w.heap.size w w'))
   case atStart => exact ⟨(y122),(0),(by first | rfl | (simp;done) | (simp [*];done)),H',⟨Nat.le_refl _⟩,⟨zr HO124⟩,⟨zl_ HB⟩⟩
   case round =>
    clear H'
    try clear c2
    try clear c2b0
    try clear c2b1
    try clear p2
    try clear c3
    try clear c3b0
    try clear c3b1
    obtain ⟨x3_1,x4_1,rfl,HA,HK1,HO_3,HB⟩ := hrel
    cases gk with
    | zero => exact absurd HA.out (by simp [laws_toStringS.l0])
    | succ k1 =>
     have H := HA.out
     clear HA
     simp only [laws_toStringS.l0] at H
     by_cases c6 : x4_1 < (l0.length : Int)
     ·rw [if_pos c6] at H
      have c6b0 : decide (x4_1 < (l0.length : Int)) = true := decide_eq_true c6
      clear c6
      by_cases c7 : 0 ≤ x4_1
      ·rw [if_pos c7] at H
       have c7b0 : decide (0 ≤ x4_1) = true := decide_eq_true c7
       clear c7
       by_cases c8 : x4_1 < (x3_1.length : Int)
       ·rw [if_pos c8] at H
        have c8b0 : decide (x4_1 < (x3_1.length : Int)) = true := decide_eq_true c8
        clear c8
        obtain ⟨y126,hy126⟩ : ∃ y_ : List ByteArray,y_ = (x3_1.set (x4_1 : Int).toNat (rdOf ByteArray.empty l0 x4_1)) := ⟨_,rfl⟩
        replace H : (laws_toStringS.l0 k1 l0 y126 (wrap64 (x4_1 + 1))) = some r := by first | (rw [hy126];with_reducible exact H) | (have H2_ := (Option.bind_some _ _).symm.trans H;rw [hy126];with_reducible exact H2_) | (have H2_ := (Option.bind_some _ _).symm.trans H;with_reducible exact H2_) | with_reducible exact H | (rw [hy126];exact H) | exact H
        have Ny126 := am_ hy126
        clear hy126
        have H' := am_ H
        clear H
        have p125 : 0 ≤ (x4_1 : Int) := zo_
        have q125 : x4_1 < (l0.length : Int) := zo_
        obtain ⟨ad125,e125,hx125_0⟩ := Kd.at_string HR0.out x4_1 p125 q125
        cases e125
        replace hx125_0 := zx_ HB hx125_0
        replace p125 := eq_true p125
        replace q125 := eq_true q125
        have p9 : 0 ≤ (x4_1 : Int) := zo_
        have q9 : (x4_1 : Int) < ((x3_1.length : Int) : Int) := zo_
        obtain ⟨go9,co9,eo9,gb9,gl9,cl9,HG9⟩ := Kd.R_form HO_3.out (by omega)
        (first | cases eo9 | (injection eo9 with ea_ en_ ec_;(first | subst ea_ | (injection ea_ with ea_;subst ea_));subst ec_;clear en_))
        have GB9 := am_ gb9
        have GG9 := am_ HG9
        clear gb9 gl9 HG9
        obtain ⟨hx9_0,hf9_0⟩ := Kd.R_celln (⟨#[]⟩ : ByteArray) HO_3.out (x4_1 : Int) p9 q9
        replace p9 := eq_true p9
        replace q9 := eq_true q9
        have HP10 := Kd.R_putg HO_3.out (x4_1 : Int) (rdOf ByteArray.empty l0 x4_1)
        go_wp2_with (first | ((with_reducible refine gate_store (t := 9) (p := 20) rfl ?_);refine store_event (t := 9) (p := 20) (v := ?vo_w11) (w1 := (wr.setCell ⟨go9,(x4_1 : Int).toNat,none⟩ (.string (rdOf ByteArray.empty l0 x4_1)))) ?hg ?ho ?hn ?hr ?_;(case ho => rfl);(case hg => rfl);(case hn => rfl);(case hr => first | (go_simp;done) | (go_simp;rfl));intro w11 hw;have hg : wr.grownBy w11 (some go9) := (by rw [hw];exact HP10.2);have hp_ : Kd.R Kd.string 9 w11 w.heap.size (fun _ => True) (.slice (some ⟨go9,0,none⟩) x3_1.length co9) y126 := (by rw [hw,Ny126.out];exact HP10.1);clear HP10;replace HO_3 := am_ (hp_);replace HB := am_ ((by rw [hw];exact below_set (HB.out) GB9.out : Below w.heap.size w w11));clear hg hw hp_))
        go_roundg k1
        case measure => have := HK1.out;omega
        case rel => exact ⟨(y126),(wrap64 (x4_1 + 1)),(by first | rfl | (simp;done) | (simp [*];done)),H',⟨by have := HK1.out;omega⟩,⟨zr HO_3⟩,⟨zl_ HB⟩⟩
       ·rw [if_neg c8] at H
        exact absurd H (by simp)
      ·rw [if_neg c7] at H
       exact absurd H (by simp)
     ·rw [if_neg c6] at H
      have c6b0 : decide (x4_1 < (l0.length : Int)) = false := decide_eq_false c6
      clear c6
      obtain rfl := Option.some.inj H
      go_wp2
      go_ret
      exact ⟨_,zt_,zr HO_3,zl_ HB⟩
  ·rw [if_neg c3] at H
   exact absurd H (by simp)
 ·rw [if_neg c2] at H
  exact absurd H (by simp)
set_option maxHeartbeats 8000000 in
set_option maxRecDepth 100000 in
theorem spec_l09Join.calls (k : Nat) (A0 : Option Addr) (c0 : Nat) (l0 : List ByteArray) (r : List Int) (w : World) (hr0 : Kd.C Kd.string w A0 l0.length l0) (hc0 : l0.length ≤ c0) (h : spec_l09Join.f k l0 = some r) :
  Calls Try.prog 32 #[.slice A0 l0.length c0] w fun e w' => ∃ v0_ : Value,e = .returned (v0_) ∧ Kd.R (Kd.int .u8) 5 w' w.heap.size (fun _ => True) v0_ r ∧ Below w.heap.size w w' := by
 have HR0 := am_ hr0
 have HC0 := am_ hc0
 clear hr0 hc0
 have HB := am_ (Below.refl w.heap.size w)
 have H : (spec_l09Join.l0 k l0 (([] : List Int)) 0) = some r := h
 clear h
 obtain ⟨y105,hy105⟩ : ∃ y_ : List Int,y_ = (([] : List Int)) := ⟨_,rfl⟩
 replace H : (spec_l09Join.l0 k l0 y105 0) = some r := by first | (rw [hy105];with_reducible exact H) | (have H2_ := (Option.bind_some _ _).symm.trans H;rw [hy105];with_reducible exact H2_) | (have H2_ := (Option.bind_some _ _).symm.trans H;with_reducible exact H2_) | with_reducible exact H | (rw [hy105];exact H) | exact H
 have Ny105 := am_ hy105
 clear hy105
 have H' := am_ H
 clear H
 go_enter Try.func32,Try.ntmps32
 go_wp2_with (first | ((with_reducible refine gate_dst (N := 5) rfl ?_);refine Kd.R_lit (Kd.int .u8) _ 5 ?hg (N := 5) ?hd (xs := ([] : List Int)) (inner := []) (ok := fun _ => True) (okp := fun _ => True) ?hr ?hp (fun _ hk => hk) trivial (Below.refl _ _) (Nat.le_refl _) (by simp) ?_;(case hd => rfl);(case hg => rfl);(case hr => first | (go_simp;done) | (go_simp;rfl));(case hp => exact (Reps.none _ _));intro v106 w2 ho3 hb hg_ hnew_;clear hg_ hnew_;(first | rw [← Ny105.out] at ho3 | (simp only [Int.reduceToNat] at ho3;rw [← Ny105.out] at ho3));have HO107 := am_ (Kd.R_lower ho3 (below_size (zl_ HB)));replace HB := zs_ HB hb;clear hb ho3))
 go_loopg [3,4] k (fun kq v3 v4 w' => ∃ (x3_1 : List Int) (x4_1 : Int),v4 = .int .i64 x4_1 ∧ Aside0 (spec_l09Join.l0 kq l0 x3_1 x4_1 = some r) ∧ Aside0 (kq ≤ k) ∧ Aside0 (Kd.R (Kd.int .u8) 5 w' w.heap.size (fun _ => True) v3 x3_1) ∧ Aside0 (Below w.heap.size w w'))
 case atStart => exact ⟨(y105),(0),(by first | rfl | (simp;done) | (simp [*];done)),H',⟨Nat.le_refl _⟩,⟨zr HO107⟩,⟨zl_ HB⟩⟩
 case round =>
  clear H'
  try clear p2
  try clear c3
  obtain ⟨x3_1,x4_1,rfl,HA,HK1,HO_3,HB⟩ := hrel
  cases gk with
  | zero => exact absurd HA.out (by simp [spec_l09Join.l0])
  | succ k1 =>
   have H := HA.out
   clear HA
   simp only [spec_l09Join.l0] at H
   by_cases c4 : x4_1 < (l0.length : Int)
   ·rw [if_pos c4] at H
    have c4b0 : decide (x4_1 < (l0.length : Int)) = true := decide_eq_true c4
    clear c4
    by_cases c5 : 0 ≤ x4_1
    ·rw [if_pos c5] at H
     have c5b0 : decide (0 ≤ x4_1) = true := decide_eq_true c5
     clear c5
     by_cases c6 : x3_1.length + (rdOf ByteArray.empty l0 x4_1).size < 140737488355328
     ·rw [if_pos c6] at H
      have LMc6 := am_ c6
      clear c6
      obtain ⟨y109,hy109⟩ : ∃ y_ : List Int,y_ = (x3_1 ++ bytesOf (rdOf ByteArray.empty l0 x4_1)) := ⟨_,rfl⟩
      replace H : (spec_l09Join.l0 k1 l0 y109 (wrap64 (x4_1 + 1))) = some r := by first | (rw [hy109];with_reducible exact H) | (have H2_ := (Option.bind_some _ _).symm.trans H;rw [hy109];with_reducible exact H2_) | (have H2_ := (Option.bind_some _ _).symm.trans H;with_reducible exact H2_) | with_reducible exact H | (rw [hy109];exact H) | exact H
      have Ny109 := am_ hy109
      clear hy109
      have H' := am_ H
      clear H
      have p108 : 0 ≤ (x4_1 : Int) := zo_
      have q108 : x4_1 < (l0.length : Int) := zo_
      obtain ⟨ad108,e108,hx108_0⟩ := Kd.at_string HR0.out x4_1 p108 q108
      cases e108
      replace hx108_0 := zx_ HB hx108_0
      replace p108 := eq_true p108
      replace q108 := eq_true q108
      go_wp2_with (first | (at_builtin;refine Kd.R_append_str (Kd.int .u8) rfl (w0 := w) w.heap.size rfl (.tmp 12) _ 24 9 5 rfl Try.underlying24 Try.underlying9 info5 u3 x3_1 (rdOf ByteArray.empty l0 x4_1) (fun _ => True) rfl rfl ?aO ?aF ?aB ?aS ?aL ?_;(case aB => exact (zl_ HB));(case aF => exact (fun _ _ => trivial));(case aO => exact (zr HO_3));(case aS => exact (below_size (zl_ HB)));(case aL => have := LMc6.out;omega);intro v110 w7 ho hb hg hat;rw [← Ny109.out] at ho;replace HB := am_ (hb);have HO111 := am_ (ho);clear HO_3;clear ho hb hg hat))
      go_roundg k1
      case measure => have := HK1.out;omega
      case rel => exact ⟨(y109),(wrap64 (x4_1 + 1)),(by first | rfl | (simp;done) | (simp [*];done)),H',⟨by have := HK1.out;omega⟩,⟨zr HO111⟩,⟨zl_ HB⟩⟩
     ·rw [if_neg c6] at H
      exact absurd H (by simp)
    ·rw [if_neg c5] at H
     exact absurd H (by simp)
   ·rw [if_neg c4] at H
    have c4b0 : decide (x4_1 < (l0.length : Int)) = false := decide_eq_false c4
    clear c4
    obtain rfl := Option.some.inj H
    go_wp2
    go_ret
    exact ⟨_,zt_,zr HO_3,zl_ HB⟩
set_option maxHeartbeats 8000000 in
set_option maxRecDepth 100000 in
theorem spec_l01In.calls (a0 : Int) (a1 : Int) (a2 : Int) (r : Bool) (w : World) (h : spec_l01In.f a0 a1 a2 = some r) :
  Calls Try.prog 48 #[.int .i64 a0,.int .i64 a1,.int .i64 a2] w fun e w' => e = .returned (.bool r) ∧ Drawn0 w w' := by
 have H : (if a0 ≥ a1 then (some (decide (a0 ≤ a2))) else (some false)) = some r := h
 clear h
 by_cases c4 : a0 ≥ a1
 ·rw [if_pos c4] at H
  have c4b0 : decide (a1 ≤ a0) = true := decide_eq_true c4
  clear c4
  obtain rfl := Option.some.inj H
  go_enter Try.func48,Try.ntmps48
  go_wp2
  go_ret
  exact ⟨by first | rfl | (simp;done) | (simp [*];done),by repeat (first | exact Drawn0.refl _ | apply Drawn0.step)⟩
 ·rw [if_neg c4] at H
  have c4b0 : decide (a1 ≤ a0) = false := decide_eq_false c4
  clear c4
  obtain rfl := Option.some.inj H
  go_enter Try.func48,Try.ntmps48
  go_wp2
  go_ret
  exact ⟨by first | rfl | (simp;done) | (simp [*];done),by repeat (first | exact Drawn0.refl _ | apply Drawn0.step)⟩
set_option maxHeartbeats 8000000 in
set_option maxRecDepth 100000 in
theorem spec_l09OK.calls (k : Nat) (A0 : Option Addr) (c0 : Nat) (l0 : List ByteArray) (r : Bool) (w : World) (hr0 : Kd.C Kd.string w A0 l0.length l0) (hc0 : l0.length ≤ c0) (h : spec_l09OK.f k l0 = some r) :
  Calls Try.prog 31 #[.slice A0 l0.length c0] w fun e w' => e = .returned (.bool r) ∧ Drawn0 w w' := by
 have HR0 := am_ hr0
 have HC0 := am_ hc0
 clear hr0 hc0
 have H : (if (l0.length : Int) > 64 then (some false) else (spec_l09OK.l0 k l0 0)) = some r := h
 clear h
 by_cases c2 : (l0.length : Int) > 64
 ·rw [if_pos c2] at H
  have c2b0 : decide (64 < (l0.length : Int)) = true := decide_eq_true c2
  have c2b1 : decide (64 < l0.length) = true := decide_eq_true (by omega)
  clear c2
  obtain rfl := Option.some.inj H
  go_enter Try.func31,Try.ntmps31
  go_wp2
  go_ret
  exact ⟨by first | rfl | (simp;done) | (simp [*];done),by repeat (first | exact Drawn0.refl _ | apply Drawn0.step)⟩
 ·rw [if_neg c2] at H
  have c2b0 : decide (64 < (l0.length : Int)) = false := decide_eq_false c2
  have c2b1 : decide (64 < l0.length) = false := decide_eq_false (by omega)
  clear c2
  have H' := am_ H
  clear H
  go_enter Try.func31,Try.ntmps31
  go_wp2
  go_loopg [3] k (fun kq v3 w' => ∃ (x3_1 : Int),v3 = .int .i64 x3_1 ∧ Aside0 (spec_l09OK.l0 kq l0 x3_1 = some r) ∧ Aside0 (kq ≤ k) ∧ Drawn0 w w')
  case atStart => exact ⟨(0),(by first | rfl | (simp;done) | (simp [*];done)),H',⟨Nat.le_refl _⟩,by repeat (first | exact Drawn0.refl _ | apply Drawn0.step)⟩
  case round =>
   clear H'
   try clear c2
   try clear c2b0
   try clear c2b1
   try clear p2
   obtain ⟨x3_1,rfl,HA,HK1,⟨m1,rfl⟩⟩ := hrel
   cases gk with
   | zero => exact absurd HA.out (by simp [spec_l09OK.l0])
   | succ k1 =>
    have H := HA.out
    clear HA
    simp only [spec_l09OK.l0] at H
    by_cases c3 : x3_1 < (l0.length : Int)
    ·rw [if_pos c3] at H
     have c3b0 : decide (x3_1 < (l0.length : Int)) = true := decide_eq_true c3
     clear c3
     by_cases c4 : 0 ≤ x3_1
     ·rw [if_pos c4] at H
      have c4b0 : decide (0 ≤ x3_1) = true := decide_eq_true c4
      clear c4
      replace H := Option.bind_eq_some_iff.mp H
      obtain ⟨t103,A50,H⟩ := H
      try dsimp only at H
      have A5 := am_ A50
      clear A50
      by_cases c6 : t103 = true
      ·subst c6
       have H1 : (if x3_1 < (wrap64 ((l0.length : Int) - 1)) then (if ((rdOf ByteArray.empty l0 x3_1).size : Int) = 32 then (spec_l09OK.l0 k1 l0 (wrap64 (x3_1 + 1))) else (some false)) else (spec_l09OK.l0 k1 l0 (wrap64 (x3_1 + 1)))) = some r := by rw [if_pos rfl] at H;exact H
       clear H
       have H := H1
       clear H1
       by_cases c7 : x3_1 < (wrap64 ((l0.length : Int) - 1))
       ·rw [if_pos c7] at H
        have c7b0 : decide (x3_1 < (wrap64 ((l0.length : Int) - 1))) = true := decide_eq_true c7
        clear c7
        by_cases c8 : ((rdOf ByteArray.empty l0 x3_1).size : Int) = 32
        ·rw [if_pos c8] at H
         have c8b0 : (((rdOf ByteArray.empty l0 x3_1).size : Int) == 32) = true := beq_iff_eq.mpr c8
         have c8b1 : (((rdOf ByteArray.empty l0 x3_1).size : Int) != 32) = false := bne_eq_false_iff_eq.mpr c8
         clear c8
         have H' := am_ H
         clear H
         have p102 : 0 ≤ (x3_1 : Int) := zo_
         have q102 : x3_1 < (l0.length : Int) := zo_
         obtain ⟨ad102,e102,hx102_0⟩ := Kd.at_string HR0.out x3_1 p102 q102
         cases e102
         replace p102 := eq_true p102
         replace q102 := eq_true q102
         go_wp2_with (first | ((with_reducible refine gate_callee (f := 48) rfl ?_);refine zgl (some 18) Try.func48 #[.int .i64 ((rdOf ByteArray.empty l0 x3_1).size : Int),.int .i64 1,.int .i64 32] ?_;(with_reducible refine (spec_l01In.calls ((rdOf ByteArray.empty l0 x3_1).size : Int) 1 32 true _ A5.out).mono ?_);rintro e w' ⟨rfl,⟨nd,rfl⟩⟩;refine ⟨_,rfl,?_⟩;have p104 : 0 ≤ (x3_1 : Int) := zo_;have q104 : x3_1 < (l0.length : Int) := zo_;obtain ⟨ad104,e104,hx104_0⟩ := Kd.at_string HR0.out x3_1 p104 q104;obtain rfl : ad102 = ad104 := (by injection e104);replace p104 := eq_true p104;replace q104 := eq_true q104))
         go_roundg k1
         case measure => have := HK1.out;omega
         case rel => exact ⟨(wrap64 (x3_1 + 1)),(by first | rfl | (simp;done) | (simp [*];done)),H',⟨by have := HK1.out;omega⟩,by repeat (first | exact Drawn0.refl _ | apply Drawn0.step)⟩
        ·rw [if_neg c8] at H
         have c8b0 : (((rdOf ByteArray.empty l0 x3_1).size : Int) == 32) = false := beq_eq_false_iff_ne.mpr c8
         have c8b1 : (((rdOf ByteArray.empty l0 x3_1).size : Int) != 32) = true := bne_iff_ne.mpr c8
         obtain rfl := Option.some.inj H
         have p102 : 0 ≤ (x3_1 : Int) := zo_
         have q102 : x3_1 < (l0.length : Int) := zo_
         obtain ⟨ad102,e102,hx102_0⟩ := Kd.at_string HR0.out x3_1 p102 q102
         cases e102
         replace p102 := eq_true p102
         replace q102 := eq_true q102
         go_wp2_with (first | ((with_reducible refine gate_callee (f := 48) rfl ?_);refine zgl (some 18) Try.func48 #[.int .i64 ((rdOf ByteArray.empty l0 x3_1).size : Int),.int .i64 1,.int .i64 32] ?_;(with_reducible refine (spec_l01In.calls ((rdOf ByteArray.empty l0 x3_1).size : Int) 1 32 true _ A5.out).mono ?_);rintro e w' ⟨rfl,⟨nd,rfl⟩⟩;refine ⟨_,rfl,?_⟩;have p104 : 0 ≤ (x3_1 : Int) := zo_;have q104 : x3_1 < (l0.length : Int) := zo_;obtain ⟨ad104,e104,hx104_0⟩ := Kd.at_string HR0.out x3_1 p104 q104;obtain rfl : ad102 = ad104 := (by injection e104);replace p104 := eq_true p104;replace q104 := eq_true q104))
         go_ret
         exact ⟨by first | rfl | (simp;done) | (simp [*];done),by repeat (first | exact Drawn0.refl _ | apply Drawn0.step)⟩
       ·rw [if_neg c7] at H
        have c7b0 : decide (x3_1 < (wrap64 ((l0.length : Int) - 1))) = false := decide_eq_false c7
        clear c7
        have H' := am_ H
        clear H
        have p102 : 0 ≤ (x3_1 : Int) := zo_
        have q102 : x3_1 < (l0.length : Int) := zo_
        obtain ⟨ad102,e102,hx102_0⟩ := Kd.at_string HR0.out x3_1 p102 q102
        cases e102
        replace p102 := eq_true p102
        replace q102 := eq_true q102
        go_wp2_with (first | ((with_reducible refine gate_callee (f := 48) rfl ?_);refine zgl (some 18) Try.func48 #[.int .i64 ((rdOf ByteArray.empty l0 x3_1).size : Int),.int .i64 1,.int .i64 32] ?_;(with_reducible refine (spec_l01In.calls ((rdOf ByteArray.empty l0 x3_1).size : Int) 1 32 true _ A5.out).mono ?_);rintro e w' ⟨rfl,⟨nd,rfl⟩⟩;refine ⟨_,rfl,?_⟩))
        go_roundg k1
        case measure => have := HK1.out;omega
        case rel => exact ⟨(wrap64 (x3_1 + 1)),(by first | rfl | (simp;done) | (simp [*];done)),H',⟨by have := HK1.out;omega⟩,by repeat (first | exact Drawn0.refl _ | apply Drawn0.step)⟩
      ·replace c6 := Bool.eq_false_iff.mpr c6
       subst c6
       have H1 : (some false) = some r := by rw [if_neg (show ¬ (false = true) by decide)] at H;exact H
       clear H
       have H := H1
       clear H1
       obtain rfl := Option.some.inj H
       have p102 : 0 ≤ (x3_1 : Int) := zo_
       have q102 : x3_1 < (l0.length : Int) := zo_
       obtain ⟨ad102,e102,hx102_0⟩ := Kd.at_string HR0.out x3_1 p102 q102
       cases e102
       replace p102 := eq_true p102
       replace q102 := eq_true q102
       go_wp2_with (first | ((with_reducible refine gate_callee (f := 48) rfl ?_);refine zgl (some 18) Try.func48 #[.int .i64 ((rdOf ByteArray.empty l0 x3_1).size : Int),.int .i64 1,.int .i64 32] ?_;(with_reducible refine (spec_l01In.calls ((rdOf ByteArray.empty l0 x3_1).size : Int) 1 32 false _ A5.out).mono ?_);rintro e w' ⟨rfl,⟨nd,rfl⟩⟩;refine ⟨_,rfl,?_⟩))
       go_ret
       exact ⟨by first | rfl | (simp;done) | (simp [*];done),by repeat (first | exact Drawn0.refl _ | apply Drawn0.step)⟩
     ·rw [if_neg c4] at H
      exact absurd H (by simp)
    ·rw [if_neg c3] at H
     have c3b0 : decide (x3_1 < (l0.length : Int)) = false := decide_eq_false c3
     clear c3
     obtain rfl := Option.some.inj H
     go_wp2
     go_ret
     exact ⟨by first | rfl | (simp;done) | (simp [*];done),by repeat (first | exact Drawn0.refl _ | apply Drawn0.step)⟩
set_option maxHeartbeats 8000000 in
set_option maxRecDepth 100000 in
theorem spec_JoinPieces.calls (k : Nat) (A0 : Option Addr) (c0 : Nat) (l0 : List ByteArray) (r1 : List Int) (r2 : Int) (w : World) (hr0 : Kd.C Kd.string w A0 l0.length l0) (hc0 : l0.length ≤ c0) (h : spec_JoinPieces.f k l0 = some (r1,r2)) :
  Calls Try.prog 8 #[.slice A0 l0.length c0] w fun e w' => ∃ v0_ : Value,e = .returned (.tuple #[v0_,.int .i64 r2]) ∧ Kd.R (Kd.int .u8) 5 w' w.heap.size (fun _ => True) v0_ r1 ∧ Below w.heap.size w w' := by
 have HR0 := am_ hr0
 have HC0 := am_ hc0
 clear hr0 hc0
 have HB := am_ (Below.refl w.heap.size w)
 have H : (if (l0.length : Int) > 4096 then (some ((([] : List Int)),2)) else ((spec_l09OK.f k l0).bind fun t115 => (if t115 = true then ((spec_l09Join.f k l0).bind fun t116 => (some (t116,0))) else (some ((([] : List Int)),1))))) = some (r1,r2) := h
 clear h
 by_cases c2 : (l0.length : Int) > 4096
 ·rw [if_pos c2] at H
  have c2b0 : decide (4096 < (l0.length : Int)) = true := decide_eq_true c2
  have c2b1 : decide (4096 < l0.length) = true := decide_eq_true (by omega)
  clear c2
  obtain ⟨y112,hy112⟩ : ∃ y_ : List Int,y_ = (([] : List Int)) := ⟨_,rfl⟩
  replace H : (some (y112,2)) = some (r1,r2) := by first | (rw [hy112];with_reducible exact H) | (have H2_ := (Option.bind_some _ _).symm.trans H;rw [hy112];with_reducible exact H2_) | (have H2_ := (Option.bind_some _ _).symm.trans H;with_reducible exact H2_) | with_reducible exact H | (rw [hy112];exact H) | exact H
  have Ny112 := am_ hy112
  clear hy112
  simp only [Option.some.injEq,Prod.mk.injEq] at H
  obtain ⟨rfl,rfl⟩ := H
  go_enter Try.func8,Try.ntmps8
  go_wp2_with (first | ((with_reducible refine gate_dst (N := 7) rfl ?_);refine Kd.R_lit (Kd.int .u8) _ 5 ?hg (N := 7) ?hd (xs := ([] : List Int)) (inner := []) (ok := fun _ => True) (okp := fun _ => True) ?hr ?hp (fun _ hk => hk) trivial (Below.refl _ _) (Nat.le_refl _) (by simp) ?_;(case hd => rfl);(case hg => rfl);(case hr => first | (go_simp;done) | (go_simp;rfl));(case hp => exact (Reps.none _ _));intro v113 w3 ho4 hb hg_ hnew_;clear hg_ hnew_;(first | rw [← Ny112.out] at ho4 | (simp only [Int.reduceToNat] at ho4;rw [← Ny112.out] at ho4));have HO114 := am_ (Kd.R_lower ho4 (below_size (zl_ HB)));replace HB := zs_ HB hb;clear hb ho4))
  go_ret2
  exact ⟨_,zt_,zr HO114,zl_ HB⟩
 ·rw [if_neg c2] at H
  have c2b0 : decide (4096 < (l0.length : Int)) = false := decide_eq_false c2
  have c2b1 : decide (4096 < l0.length) = false := decide_eq_false (by omega)
  clear c2
  replace H := Option.bind_eq_some_iff.mp H
  obtain ⟨t115,A50,H⟩ := H
  try dsimp only at H
  have A5 := am_ A50
  clear A50
  by_cases c6 : t115 = true
  ·subst c6
   have H1 : ((spec_l09Join.f k l0).bind fun t116 => (some (t116,0))) = some (r1,r2) := by rw [if_pos rfl] at H;exact H
   clear H
   have H := H1
   clear H1
   replace H := Option.bind_eq_some_iff.mp H
   obtain ⟨t116,A70,H⟩ := H
   try dsimp only at H
   have A7 := am_ A70
   clear A70
   simp only [Option.some.injEq,Prod.mk.injEq] at H
   obtain ⟨rfl,rfl⟩ := H
   go_enter Try.func8,Try.ntmps8
   go_wp2_with (first | ((with_reducible refine gate_callee (f := 31) rfl ?_);refine zgl (some 9) Try.func31 #[.slice A0 l0.length c0] ?_;(with_reducible refine (spec_l09OK.calls k _ _ l0 true _ ?side1 ?side2 A5.out).mono ?_);(case side1 => repeat (first | exact HR0.out | (with_reducible refine Kd.C_alloc ?_ _) | (with_reducible refine Kd.C_drewN ?_ _) | (with_reducible refine Kd.C_drew ?_)));(case side2 => exact HC0.out);rintro e w' ⟨rfl,⟨nd,rfl⟩⟩;refine ⟨_,rfl,?_⟩) | ((with_reducible refine gate_callee (f := 32) rfl ?_);refine zgl (some 13) Try.func32 #[.slice A0 l0.length c0] ?_;(with_reducible refine (spec_l09Join.calls k _ _ l0 t116 _ ?side1 ?side2 A7.out).mono ?_);(case side1 => repeat (first | exact HR0.out | (with_reducible refine Kd.C_alloc ?_ _) | (with_reducible refine Kd.C_drewN ?_ _) | (with_reducible refine Kd.C_drew ?_)));(case side2 => exact HC0.out);rintro e w8 ⟨v117,rfl,ho0,hb⟩;refine ⟨_,rfl,?_⟩;have HO118 := am_ (Kd.R_lower ho0 (below_size (zl_ HB)));replace HB := zs_ HB hb;(try clear hb);(try clear hb2);(try clear hk);(try clear hi);(try clear ho0)))
   go_ret2
   exact ⟨_,zt_,zr HO118,zl_ HB⟩
  ·replace c6 := Bool.eq_false_iff.mpr c6
   subst c6
   have H1 : (some ((([] : List Int)),1)) = some (r1,r2) := by rw [if_neg (show ¬ (false = true) by decide)] at H;exact H
   clear H
   have H := H1
   clear H1
   obtain ⟨y119,hy119⟩ : ∃ y_ : List Int,y_ = (([] : List Int)) := ⟨_,rfl⟩
   replace H : (some (y119,1)) = some (r1,r2) := by first | (rw [hy119];with_reducible exact H) | (have H2_ := (Option.bind_some _ _).symm.trans H;rw [hy119];with_reducible exact H2_) | (have H2_ := (Option.bind_some _ _).symm.trans H;with_reducible exact H2_) | with_reducible exact H | (rw [hy119];exact H) | exact H
   have Ny119 := am_ hy119
   clear hy119
   simp only [Option.some.injEq,Prod.mk.injEq] at H
   obtain ⟨rfl,rfl⟩ := H
   go_enter Try.func8,Try.ntmps8
   go_wp2_with (first | ((with_reducible refine gate_callee (f := 31) rfl ?_);refine zgl (some 9) Try.func31 #[.slice A0 l0.length c0] ?_;(with_reducible refine (spec_l09OK.calls k _ _ l0 false _ ?side1 ?side2 A5.out).mono ?_);(case side1 => repeat (first | exact HR0.out | (with_reducible refine Kd.C_alloc ?_ _) | (with_reducible refine Kd.C_drewN ?_ _) | (with_reducible refine Kd.C_drew ?_)));(case side2 => exact HC0.out);rintro e w' ⟨rfl,⟨nd,rfl⟩⟩;refine ⟨_,rfl,?_⟩) | ((with_reducible refine gate_dst (N := 11) rfl ?_);refine Kd.R_lit (Kd.int .u8) _ 5 ?hg (N := 11) ?hd (xs := ([] : List Int)) (inner := []) (ok := fun _ => True) (okp := fun _ => True) ?hr ?hp (fun _ hk => hk) trivial (Below.refl _ _) (Nat.le_refl _) (by simp) ?_;(case hd => rfl);(case hg => rfl);(case hr => first | (go_simp;done) | (go_simp;rfl));(case hp => exact (Reps.none _ _));intro v120 w9 ho10 hb hg_ hnew_;clear hg_ hnew_;(first | rw [← Ny119.out] at ho10 | (simp only [Int.reduceToNat] at ho10;rw [← Ny119.out] at ho10));have HO121 := am_ (Kd.R_lower ho10 (below_size (zl_ HB)));replace HB := zs_ HB hb;clear hb ho10))
   go_ret2
   exact ⟨_,zt_,zr HO121,zl_ HB⟩
set_option maxHeartbeats 8000000 in
set_option maxRecDepth 100000 in
theorem laws_FnExactJoinPieces.calls (k : Nat) (A0 : Option Addr) (c0 : Nat) (l0 : List ByteArray) (r : Bool) (w : World) (hr0 : Kd.C Kd.string w A0 l0.length l0) (hc0 : l0.length ≤ c0) (h : laws_FnExactJoinPieces.f k l0 = some r) :
  Calls Try.prog 3 #[.slice A0 l0.length c0] w fun e w' => e = .returned (.bool r) ∧ Below w.heap.size w w' := by
 have HR0 := am_ hr0
 have HC0 := am_ hc0
 clear hr0 hc0
 have HB := am_ (Below.refl w.heap.size w)
 have H : ((laws_szStringS.f k l0 1048576).bind fun t154 => (if t154 < 0 then (some true) else ((laws_toStringS.f k l0).bind fun t155 => ((spec_JoinPieces.f k t155).bind fun bt158 => ((laws_toStringS.f k l0).bind fun t162 => ((impl_JoinPieces.f k t162).bind fun bt165 => ((laws_eqByteS.f k bt165.1 bt158.1).bind fun t169 => (if t169 = true then (laws_FnExactJoinPieces.j0 k l0 bt158.1 bt158.2 t162 bt165.1 bt165.2 (bt165.2 != bt158.2)) else (laws_FnExactJoinPieces.j0 k l0 bt158.1 bt158.2 t162 bt165.1 bt165.2 true))))))))) = some r := h
 clear h
 replace H := Option.bind_eq_some_iff.mp H
 obtain ⟨t154,A20,H⟩ := H
 try dsimp only at H
 have A2 := am_ A20
 clear A20
 by_cases c3 : t154 < 0
 ·rw [if_pos c3] at H
  have c3b0 : decide (t154 < 0) = true := decide_eq_true c3
  clear c3
  obtain rfl := Option.some.inj H
  go_enter Try.func3,Try.ntmps3
  go_wp2_with (first | ((with_reducible refine gate_callee (f := 7) rfl ?_);refine zgl (some 16) Try.func7 #[.slice A0 l0.length c0,.int .i64 1048576] ?_;(with_reducible refine (laws_szStringS.calls k _ _ l0 1048576 t154 _ ?side1 ?side2 A2.out).mono ?_);(case side1 => repeat (first | exact HR0.out | (with_reducible refine Kd.C_alloc ?_ _) | (with_reducible refine Kd.C_drewN ?_ _) | (with_reducible refine Kd.C_drew ?_)));(case side2 => exact HC0.out);rintro e w' ⟨rfl,⟨nd,rfl⟩⟩;refine ⟨_,rfl,?_⟩))
  go_ret
  exact ⟨zt_,zl_ HB⟩
 ·rw [if_neg c3] at H
  have c3b0 : decide (t154 < 0) = false := decide_eq_false c3
  clear c3
  replace H := Option.bind_eq_some_iff.mp H
  obtain ⟨t155,A40,H⟩ := H
  try dsimp only at H
  have A4 := am_ A40
  clear A40
  replace H := Option.bind_eq_some_iff.mp H
  obtain ⟨⟨t158,t159⟩,A50,H⟩ := H
  try dsimp only at H
  have A5 := am_ A50
  clear A50
  replace H := Option.bind_eq_some_iff.mp H
  obtain ⟨t162,A60,H⟩ := H
  try dsimp only at H
  have A6 := am_ A60
  clear A60
  replace H := Option.bind_eq_some_iff.mp H
  obtain ⟨⟨t165,t168⟩,A70,H⟩ := H
  try dsimp only at H
  have A7 := am_ A70
  clear A70
  have HC8 := am_ H
  clear H
  go_enter Try.func3,Try.ntmps3
  go_upto_region 8 with (first | ((with_reducible refine gate_callee (f := 7) rfl ?_);refine zgl (some 16) Try.func7 #[.slice A0 l0.length c0,.int .i64 1048576] ?_;(with_reducible refine (laws_szStringS.calls k _ _ l0 1048576 t154 _ ?side1 ?side2 A2.out).mono ?_);(case side1 => repeat (first | exact HR0.out | (with_reducible refine Kd.C_alloc ?_ _) | (with_reducible refine Kd.C_drewN ?_ _) | (with_reducible refine Kd.C_drew ?_)));(case side2 => exact HC0.out);rintro e w' ⟨rfl,⟨nd,rfl⟩⟩;refine ⟨_,rfl,?_⟩) | ((with_reducible refine gate_callee (f := 9) rfl ?_);refine zgl (some 21) Try.func9 #[.slice A0 l0.length c0] ?_;(with_reducible refine (laws_toStringS.calls k _ _ l0 t155 _ ?side1 ?side2 A4.out).mono ?_);(case side1 => repeat (first | exact HR0.out | (with_reducible refine Kd.C_alloc ?_ _) | (with_reducible refine Kd.C_drewN ?_ _) | (with_reducible refine Kd.C_drew ?_)));(case side2 => exact HC0.out);rintro e w9 ⟨v156,rfl,ho0,hb⟩;refine ⟨_,rfl,?_⟩;have HO157 := am_ (Kd.R_lower ho0 (below_size (zl_ HB)));replace HB := zs_ HB hb;(try clear hb);(try clear hb2);(try clear hk);(try clear hi);(try clear ho0);obtain ⟨Ao10,co10,eo10⟩ := Kd.R_slice HO157.out;subst eo10) | ((with_reducible refine gate_callee (f := 8) rfl ?_);refine zgl (some 22) Try.func8 #[.slice Ao10 t155.length co10] ?_;(with_reducible refine (spec_JoinPieces.calls k _ _ t155 t158 t159 _ ?side1 ?side2 A5.out).mono ?_);(case side1 => repeat (first | exact (Kd.R_reads' HO157.out).2.2 | (with_reducible refine Kd.C_alloc ?_ _) | (with_reducible refine Kd.C_drewN ?_ _) | (with_reducible refine Kd.C_drew ?_)));(case side2 => exact (Kd.R_reads' HO157.out).2.1);rintro e w11 ⟨v160,rfl,ho0,hb⟩;refine ⟨_,rfl,?_⟩;replace HO157 := zrb HO157 hb;have HO161 := am_ (Kd.R_lower ho0 (below_size (zl_ HB)));replace HB := zs_ HB hb;(try clear hb);(try clear hb2);(try clear hk);(try clear hi);(try clear ho0)) | ((with_reducible refine gate_callee (f := 9) rfl ?_);refine zgl (some 26) Try.func9 #[.slice A0 l0.length c0] ?_;(with_reducible refine (laws_toStringS.calls k _ _ l0 t162 _ ?side1 ?side2 A6.out).mono ?_);(case side1 => exact zc_ HR0 HB);(case side2 => exact HC0.out);rintro e w12 ⟨v163,rfl,ho0,hb⟩;refine ⟨_,rfl,?_⟩;replace HO161 := zrb HO161 hb;have HO164 := am_ (Kd.R_lower (Kd.R_new' ho0 (Kd.R_lt (zr HO157))) (below_size (zl_ HB)));replace HB := zs_ HB hb;(try clear hb);(try clear hb2);(try clear hk);(try clear hi);(try clear ho0);obtain ⟨Ao13,co13,eo13⟩ := Kd.R_slice HO164.out;subst eo13) | ((with_reducible refine gate_callee (f := 10) rfl ?_);refine zgl (some 29) Try.func10 #[.slice Ao13 t162.length co13] ?_;(with_reducible refine (impl_JoinPieces.calls k _ _ t162 t165 t168 _ ?side1 ?side2 A7.out).mono ?_);(case side1 => repeat (first | exact (Kd.R_reads' HO164.out).2.2 | (with_reducible refine Kd.C_alloc ?_ _) | (with_reducible refine Kd.C_drewN ?_ _) | (with_reducible refine Kd.C_drew ?_)));(case side2 => exact (Kd.R_reads' HO164.out).2.1);rintro e w14 ⟨v166,rfl,ho0,hb⟩;refine ⟨_,rfl,?_⟩;replace HO164 := zrb HO164 hb;have HO167 := am_ (Kd.B_lower (Kd.B_new' (Kd.B_mono (ok' := fun k_ => True) ho0 (fun _ hk_ => trivial)) (Kd.R_lt (zr HO161))) (below_size (zl_ HB)));replace HO161 := am_ (Kd.R_elder' (zr HO161) (Kd.B_base ho0) hb);replace HB := zs_ HB hb;(try clear hb);(try clear hb2);(try clear hk);(try clear hi);(try clear ho0)))
  (try simp only [Act.put,p1_,p2_,p3_])
  go_cut [40] (fun v40 wc => ∃ (kq : Nat) (x40_7 : Bool),v40 = .bool x40_7 ∧ Aside0 (laws_FnExactJoinPieces.j0 kq l0 t158 t159 t162 t165 t168 x40_7 = some r) ∧ Aside0 (kq ≤ k) ∧ Aside0 (Kd.R (Kd.int .u8) 5 wc w.heap.size (fun k_ => some k_ ≠ (v166 : Value).ownBlock) v160 t158) ∧ Aside0 (Kd.R Kd.string 9 wc w.heap.size (fun _ => True) (.slice Ao13 t162.length co13) t162) ∧ Aside0 (Kd.B 5 wc w.heap.size (fun k_ => some k_ ≠ (v160 : Value).ownBlock) v166 t165) ∧ Aside0 (Below w.heap.size w wc))
  case first =>
   have H := HC8.out
   clear HC8
   replace H := Option.bind_eq_some_iff.mp H
   obtain ⟨t169,A150,H⟩ := H
   try dsimp only at H
   have A15 := am_ A150
   clear A150
   by_cases c16 : t169 = true
   ·subst c16
    have H1 : (laws_FnExactJoinPieces.j0 k l0 t158 t159 t162 t165 t168 (t168 != t159)) = some r := by rw [if_pos rfl] at H;exact H
    clear H
    have H := H1
    clear H1
    have H' := am_ H
    clear H
    obtain ⟨Ao17,co17,eo17⟩ := Kd.B_slice HO167.out
    subst eo17
    obtain ⟨Ao18,co18,eo18⟩ := Kd.R_slice HO161.out
    subst eo18
    go_wp2_with (first | ((with_reducible refine gate_callee (f := 11) rfl ?_);refine zgl (some 34) Try.func11 #[.slice Ao17 t165.length co17,.slice Ao18 t158.length co18] ?_;(with_reducible refine (laws_eqByteS.calls k _ _ t165 _ _ t158 true _ ?side1 ?side2 ?side3 ?side4 A15.out).mono ?_);(case side1 => repeat (first | exact (Kd.B_reads' HO167.out).2.2 | (with_reducible refine Kd.C_alloc ?_ _) | (with_reducible refine Kd.C_drewN ?_ _) | (with_reducible refine Kd.C_drew ?_)));(case side2 => exact (Kd.B_reads' HO167.out).2.1);(case side3 => repeat (first | exact (Kd.R_reads' HO161.out).2.2 | (with_reducible refine Kd.C_alloc ?_ _) | (with_reducible refine Kd.C_drewN ?_ _) | (with_reducible refine Kd.C_drew ?_)));(case side4 => exact (Kd.R_reads' HO161.out).2.1);rintro e w' ⟨rfl,⟨nd,rfl⟩⟩;refine ⟨_,rfl,?_⟩))
    go_meet
    case rel => exact ⟨_,((t168 != t159)),(by first | rfl | (simp;done) | (simp [*];done)),H',⟨by first | omega | exact Nat.le_refl _⟩,⟨by (with_reducible repeat (first | apply r1_ | apply r2_ | apply r3_));exact Kd.R_mono HO161.out (fun _ hk => hk.2)⟩,⟨by (with_reducible repeat (first | apply r1_ | apply r2_ | apply r3_));exact Kd.R_mono HO164.out (fun _ hk => trivial)⟩,⟨Kd.B_mono (Kd.zrB HO167) (fun _ hk => hk.2)⟩,⟨zl_ HB⟩⟩
   ·replace c16 := Bool.eq_false_iff.mpr c16
    subst c16
    have H1 : (laws_FnExactJoinPieces.j0 k l0 t158 t159 t162 t165 t168 true) = some r := by rw [if_neg (show ¬ (false = true) by decide)] at H;exact H
    clear H
    have H := H1
    clear H1
    have H' := am_ H
    clear H
    obtain ⟨Ao19,co19,eo19⟩ := Kd.B_slice HO167.out
    subst eo19
    obtain ⟨Ao20,co20,eo20⟩ := Kd.R_slice HO161.out
    subst eo20
    go_wp2_with (first | ((with_reducible refine gate_callee (f := 11) rfl ?_);refine zgl (some 34) Try.func11 #[.slice Ao19 t165.length co19,.slice Ao20 t158.length co20] ?_;(with_reducible refine (laws_eqByteS.calls k _ _ t165 _ _ t158 false _ ?side1 ?side2 ?side3 ?side4 A15.out).mono ?_);(case side1 => repeat (first | exact (Kd.B_reads' HO167.out).2.2 | (with_reducible refine Kd.C_alloc ?_ _) | (with_reducible refine Kd.C_drewN ?_ _) | (with_reducible refine Kd.C_drew ?_)));(case side2 => exact (Kd.B_reads' HO167.out).2.1);(case side3 => repeat (first | exact (Kd.R_reads' HO161.out).2.2 | (with_reducible refine Kd.C_alloc ?_ _) | (with_reducible refine Kd.C_drewN ?_ _) | (with_reducible refine Kd.C_drew ?_)));(case side4 => exact (Kd.R_reads' HO161.out).2.1);rintro e w' ⟨rfl,⟨nd,rfl⟩⟩;refine ⟨_,rfl,?_⟩))
    go_meet
    case rel => exact ⟨_,(true),(by first | rfl | (simp;done) | (simp [*];done)),H',⟨by first | omega | exact Nat.le_refl _⟩,⟨by (with_reducible repeat (first | apply r1_ | apply r2_ | apply r3_));exact Kd.R_mono HO161.out (fun _ hk => hk.2)⟩,⟨by (with_reducible repeat (first | apply r1_ | apply r2_ | apply r3_));exact Kd.R_mono HO164.out (fun _ hk => trivial)⟩,⟨Kd.B_mono (Kd.zrB HO167) (fun _ hk => hk.2)⟩,⟨zl_ HB⟩⟩
  case rest =>
   clear HC8
   try clear c1
   try clear p2
   try clear c3
   try clear c3b0
   try clear c7
   try clear c8
   try clear c9
   try clear c10
   try clear c11
   try clear c16
   obtain ⟨kq,x40_7,rfl,HA,HJ7,HO_4,HO_6,HO_7,HB⟩ := hcut
   cases kq with
   | zero => exact absurd HA.out (by simp [laws_FnExactJoinPieces.j0])
   | succ kj7 =>
    have H := HA.out
    clear HA
    simp only [laws_FnExactJoinPieces.j0] at H
    by_cases c21 : x40_7 = true
    ·subst c21
     have H1 : (some false) = some r := by rw [if_pos rfl] at H;exact H
     clear H
     have H := H1
     clear H1
     obtain rfl := Option.some.inj H
     go_wp2
     go_ret
     exact ⟨zt_,zl_ HB⟩
    ·replace c21 := Bool.eq_false_iff.mpr c21
     subst c21
     have H1 : ((laws_toStringS.f kj7 l0).bind fun t170 => ((laws_eqStringS.f kj7 t162 t170).bind fun t173 => (if t173 = true then ((laws_markStringS.f kj7 t162 1).bind fun bt174 => (if bt174.1 < 0 then (laws_FnExactJoinPieces.j1 kj7 l0 t158 t159 t165 true) else ((laws_eqByteS.f kj7 t165 t158).bind fun t176 => (if t176 = true then (laws_FnExactJoinPieces.j1 kj7 l0 t158 t159 t165 (t168 != t159)) else (laws_FnExactJoinPieces.j1 kj7 l0 t158 t159 t165 true))))) else (some false)))) = some r := by rw [if_neg (show ¬ (false = true) by decide)] at H;exact H
     clear H
     have H := H1
     clear H1
     replace H := Option.bind_eq_some_iff.mp H
     obtain ⟨t170,A220,H⟩ := H
     try dsimp only at H
     have A22 := am_ A220
     clear A220
     replace H := Option.bind_eq_some_iff.mp H
     obtain ⟨t173,A230,H⟩ := H
     try dsimp only at H
     have A23 := am_ A230
     clear A230
     by_cases c24 : t173 = true
     ·subst c24
      have H1 : ((laws_markStringS.f kj7 t162 1).bind fun bt174 => (if bt174.1 < 0 then (laws_FnExactJoinPieces.j1 kj7 l0 t158 t159 t165 true) else ((laws_eqByteS.f kj7 t165 t158).bind fun t176 => (if t176 = true then (laws_FnExactJoinPieces.j1 kj7 l0 t158 t159 t165 (t168 != t159)) else (laws_FnExactJoinPieces.j1 kj7 l0 t158 t159 t165 true))))) = some r := by rw [if_pos rfl] at H;exact H
      clear H
      have H := H1
      clear H1
      replace H := Option.bind_eq_some_iff.mp H
      obtain ⟨⟨t174,t175⟩,A250,H⟩ := H
      try dsimp only at H
      have A25 := am_ A250
      clear A250
      have HC26 := am_ H
      clear H
      go_upto_region 14 with (first | ((with_reducible refine gate_callee (f := 9) rfl ?_);refine zgl (some 43) Try.func9 #[.slice A0 l0.length c0] ?_;(with_reducible refine (laws_toStringS.calls kj7 _ _ l0 t170 _ ?side1 ?side2 A22.out).mono ?_);(case side1 => exact zc_ HR0 HB);(case side2 => exact HC0.out);rintro e w27 ⟨v171,rfl,ho0,hb⟩;refine ⟨_,rfl,?_⟩;replace HO_4 := zrb HO_4 hb;replace HO_7 := Kd.zrbB HO_7 hb;have HO172 := am_ (Kd.R_lower (Kd.R_new' ho0 (Kd.R_lt (zr HO_6))) (below_size (zl_ HB)));replace HO_6 := am_ (Kd.R_elder' (zr HO_6) (Kd.R_base ho0) hb);replace HB := zs_ HB hb;(try clear hb);(try clear hb2);(try clear hk);(try clear hi);(try clear ho0);obtain ⟨Ao28,co28,eo28⟩ := Kd.R_slice HO172.out;subst eo28) | ((with_reducible refine gate_callee (f := 12) rfl ?_);refine zgl (some 44) Try.func12 #[.slice Ao13 t162.length co13,.slice Ao28 t170.length co28] ?_;(with_reducible refine (laws_eqStringS.calls kj7 _ _ t162 _ _ t170 true _ ?side1 ?side2 ?side3 ?side4 A23.out).mono ?_);(case side1 => repeat (first | exact (Kd.R_reads' HO_6.out).2.2 | (with_reducible refine Kd.C_alloc ?_ _) | (with_reducible refine Kd.C_drewN ?_ _) | (with_reducible refine Kd.C_drew ?_)));(case side2 => exact (Kd.R_reads' HO_6.out).2.1);(case side3 => repeat (first | exact (Kd.R_reads' HO172.out).2.2 | (with_reducible refine Kd.C_alloc ?_ _) | (with_reducible refine Kd.C_drewN ?_ _) | (with_reducible refine Kd.C_drew ?_)));(case side4 => exact (Kd.R_reads' HO172.out).2.1);rintro e w' ⟨rfl,⟨nd,rfl⟩⟩;refine ⟨_,rfl,?_⟩) | ((with_reducible refine gate_callee (f := 13) rfl ?_);refine zgl (some 48) Try.func13 #[.slice Ao13 t162.length co13,.int .i64 1] ?_;(with_reducible refine (laws_markStringS.calls kj7 (fun k_ => some k_ = (.slice Ao13 t162.length co13 : Value).ownBlock) (.slice Ao13 t162.length co13) t162 1 t174 t175 w _ ?side1 ?side2 A25.out).mono ?_);(case side1 => exact zl_ HB);(case side2 => exact Kd.R_tight rfl HO_6.out);rintro e w29 ⟨rfl,hy0,hb,hkp⟩;refine ⟨_,rfl,?_⟩;replace HO_4 := am_ (Kd.R_mono (ok' := fun k_ => some k_ ≠ (v166 : Value).ownBlock) (Kd.R_keptB ((Kd.R_apart' HO_4.out (Kd.R_typed HO_6.out) (by decide))) hkp (fun k_ hk_ hs_ => (hk_.2) hs_)) (fun k_ hk_ => hk_.1.1));replace HO_7 := am_ (Kd.B_mono (ok' := fun k_ => some k_ ≠ (v160 : Value).ownBlock) (Kd.B_keptB ((Kd.B_apart' HO_7.out (Kd.R_typed HO_6.out) (by decide))) hkp (fun k_ hk_ hs_ => (hk_.2) hs_)) (fun k_ hk_ => hk_.1.1));replace HO_6 := am_ (Kd.R_reok rfl hy0 (fun k_ e_ => HO_6.out.1 k_ e_));replace HO172 := am_ (Kd.R_mono (ok' := fun k_ => some k_ ≠ (.slice Ao13 t162.length co13 : Value).ownBlock) (Kd.R_keptB (HO172.out) hkp (fun k_ hk_ hs_ => (hk_.2) hs_)) (fun k_ hk_ => hk_.1.2));replace HB := am_ (hb);(try clear hb);(try clear hkp);(try clear hy0)))
      (try simp only [Act.put,p1_,p2_,p3_])
      go_cut [61] (fun v61 wc => ∃ (kq : Nat) (x61_25 : Bool),v61 = .bool x61_25 ∧ Aside0 (laws_FnExactJoinPieces.j1 kq l0 t158 t159 t165 x61_25 = some r) ∧ Aside0 (kq ≤ kj7) ∧ Aside0 (Kd.R (Kd.int .u8) 5 wc w.heap.size (fun k_ => some k_ ≠ (v166 : Value).ownBlock) v160 t158) ∧ Aside0 (Kd.B 5 wc w.heap.size (fun k_ => some k_ ≠ (v160 : Value).ownBlock) v166 t165) ∧ Aside0 (Below w.heap.size w wc))
      case first =>
       have H := HC26.out
       clear HC26
       by_cases c30 : t174 < 0
       ·rw [if_pos c30] at H
        have c30b0 : decide (t174 < 0) = true := decide_eq_true c30
        clear c30
        (first | rw [c30b0] | (simp only [i64_w,i32_w];rw [c30b0]) | skip)
        have H' := am_ H
        clear H
        go_wp2
        go_meet
        case rel => exact ⟨_,(true),(by first | rfl | (simp;done) | (simp [*];done)),H',⟨by have := HJ7.out;first | omega | exact Nat.le_refl _⟩,⟨zr HO_4⟩,⟨Kd.zrB HO_7⟩,⟨zl_ HB⟩⟩
       ·rw [if_neg c30] at H
        have c30b0 : decide (t174 < 0) = false := decide_eq_false c30
        clear c30
        (first | rw [c30b0] | (simp only [i64_w,i32_w];rw [c30b0]) | skip)
        replace H := Option.bind_eq_some_iff.mp H
        obtain ⟨t176,A310,H⟩ := H
        try dsimp only at H
        have A31 := am_ A310
        clear A310
        by_cases c32 : t176 = true
        ·subst c32
         have H1 : (laws_FnExactJoinPieces.j1 kj7 l0 t158 t159 t165 (t168 != t159)) = some r := by rw [if_pos rfl] at H;exact H
         clear H
         have H := H1
         clear H1
         have H' := am_ H
         clear H
         obtain ⟨Ao33,co33,eo33⟩ := Kd.B_slice HO_7.out
         subst eo33
         obtain ⟨Ao34,co34,eo34⟩ := Kd.R_slice HO_4.out
         subst eo34
         go_wp2_with (first | (go_at_call 11;(with_reducible refine (laws_eqByteS.calls kj7 _ _ t165 _ _ t158 true _ ?side1 ?side2 ?side3 ?side4 A31.out).mono ?_);(case side1 => repeat (first | exact (Kd.B_reads' HO_7.out).2.2 | (with_reducible refine Kd.C_alloc ?_ _) | (with_reducible refine Kd.C_drewN ?_ _) | (with_reducible refine Kd.C_drew ?_)));(case side2 => exact (Kd.B_reads' HO_7.out).2.1);(case side3 => repeat (first | exact (Kd.R_reads' HO_4.out).2.2 | (with_reducible refine Kd.C_alloc ?_ _) | (with_reducible refine Kd.C_drewN ?_ _) | (with_reducible refine Kd.C_drew ?_)));(case side4 => exact (Kd.R_reads' HO_4.out).2.1);rintro e w' ⟨rfl,⟨nd,rfl⟩⟩))
         go_meet
         case rel => exact ⟨_,((t168 != t159)),(by first | rfl | (simp;done) | (simp [*];done)),H',⟨by have := HJ7.out;first | omega | exact Nat.le_refl _⟩,⟨zr HO_4⟩,⟨Kd.zrB HO_7⟩,⟨zl_ HB⟩⟩
        ·replace c32 := Bool.eq_false_iff.mpr c32
         subst c32
         have H1 : (laws_FnExactJoinPieces.j1 kj7 l0 t158 t159 t165 true) = some r := by rw [if_neg (show ¬ (false = true) by decide)] at H;exact H
         clear H
         have H := H1
         clear H1
         have H' := am_ H
         clear H
         obtain ⟨Ao35,co35,eo35⟩ := Kd.B_slice HO_7.out
         subst eo35
         obtain ⟨Ao36,co36,eo36⟩ := Kd.R_slice HO_4.out
         subst eo36
         go_wp2_with (first | (go_at_call 11;(with_reducible refine (laws_eqByteS.calls kj7 _ _ t165 _ _ t158 false _ ?side1 ?side2 ?side3 ?side4 A31.out).mono ?_);(case side1 => repeat (first | exact (Kd.B_reads' HO_7.out).2.2 | (with_reducible refine Kd.C_alloc ?_ _) | (with_reducible refine Kd.C_drewN ?_ _) | (with_reducible refine Kd.C_drew ?_)));(case side2 => exact (Kd.B_reads' HO_7.out).2.1);(case side3 => repeat (first | exact (Kd.R_reads' HO_4.out).2.2 | (with_reducible refine Kd.C_alloc ?_ _) | (with_reducible refine Kd.C_drewN ?_ _) | (with_reducible refine Kd.C_drew ?_)));(case side4 => exact (Kd.R_reads' HO_4.out).2.1);rintro e w' ⟨rfl,⟨nd,rfl⟩⟩))
         go_meet
         case rel => exact ⟨_,(true),(by first | rfl | (simp;done) | (simp [*];done)),H',⟨by have := HJ7.out;first | omega | exact Nat.le_refl _⟩,⟨zr HO_4⟩,⟨Kd.zrB HO_7⟩,⟨zl_ HB⟩⟩
      case rest =>
       clear HC26
       try clear c1
       try clear c2
       try clear p2
       try clear c3
       try clear c3b0
       try clear c7
       try clear c8
       try clear c9
       try clear c10
       try clear c11
       try clear c12
       try clear c13
       try clear c16
       try clear c21
       try clear c24
       try clear c30
       try clear c30b0
       try clear c32
       try clear p2
       obtain ⟨kq,x61_25,rfl,HA,HJ25,HO_4,HO_7,HB⟩ := hcut
       cases kq with
       | zero => exact absurd HA.out (by simp [laws_FnExactJoinPieces.j1])
       | succ kj25 =>
        have H := HA.out
        clear HA
        simp only [laws_FnExactJoinPieces.j1] at H
        by_cases c37 : x61_25 = true
        ·subst c37
         have H1 : (some false) = some r := by rw [if_pos rfl] at H;exact H
         clear H
         have H := H1
         clear H1
         obtain rfl := Option.some.inj H
         go_wp2
         go_ret
         exact ⟨zt_,zl_ HB⟩
        ·replace c37 := Bool.eq_false_iff.mpr c37
         subst c37
         have H1 : ((laws_markByteS.f kj25 t165 1).bind fun bt177 => ((laws_heldByteS.f kj25 bt177.2 1).bind fun t179 => (if t179 < 0 then (some false) else (if t179 = bt177.1 then ((laws_toStringS.f kj25 l0).bind fun t180 => ((impl_JoinPieces.f kj25 t180).bind fun bt183 => ((laws_eqByteS.f kj25 bt183.1 t158).bind fun t187 => (if t187 = true then (laws_FnExactJoinPieces.j2 kj25 bt177.2 bt177.1 (bt183.2 != t159)) else (laws_FnExactJoinPieces.j2 kj25 bt177.2 bt177.1 true))))) else (some false))))) = some r := by rw [if_neg (show ¬ (false = true) by decide)] at H;exact H
         clear H
         have H := H1
         clear H1
         replace H := Option.bind_eq_some_iff.mp H
         obtain ⟨⟨t177,t178⟩,A380,H⟩ := H
         try dsimp only at H
         have A38 := am_ A380
         clear A380
         replace H := Option.bind_eq_some_iff.mp H
         obtain ⟨t179,A390,H⟩ := H
         try dsimp only at H
         have A39 := am_ A390
         clear A390
         by_cases c40 : t179 < 0
         ·rw [if_pos c40] at H
          have c40b0 : decide (t179 < 0) = true := decide_eq_true c40
          clear c40
          obtain rfl := Option.some.inj H
          obtain ⟨Ao41,co41,eo41⟩ := Kd.B_slice HO_7.out
          subst eo41
          go_wp2_with (first | ((with_reducible refine gate_callee (f := 14) rfl ?_);refine zgl (some 64) Try.func14 #[.slice Ao41 t165.length co41,.int .i64 1] ?_;(with_reducible refine (laws_markByteS.callsB kj25 (fun k_ => some k_ = (.slice Ao41 t165.length co41 : Value).ownBlock) (.slice Ao41 t165.length co41) t165 1 t177 t178 w _ ?side1 ?side2 A38.out).mono ?_);(case side1 => exact zl_ HB);(case side2 => exact Kd.B_reok HO_7.out (fun k_ e_ => e_.symm));rintro e w42 ⟨rfl,hy0,hb,hkp⟩;refine ⟨_,rfl,?_⟩;replace HO_4 := am_ (Kd.R_mono (ok' := fun k_ => some k_ ≠ (.slice Ao41 t165.length co41 : Value).ownBlock) (Kd.R_keptB (HO_4.out) hkp (fun k_ hk_ hs_ => (hk_) hs_)) (fun k_ hk_ => hk_.1));replace HO_7 := am_ (Kd.B_reok hy0 (fun k_ e_ => HO_7.out.1 k_ e_));replace HB := am_ (hb);(try clear hb);(try clear hkp);(try clear hy0)) | ((with_reducible refine gate_callee (f := 15) rfl ?_);refine goesL_ (some 67) rfl rfl Try.func15 (by kernel_rfl) rfl #[.slice Ao41 t178.length co41,.int .i64 1] rfl (by (try simp only [m1_,m2_,m3_]);first | done | (rw [show t178.length = t165.length from (Kd.B_reads' HO_7.out).1.symm] <;> rfl) | rfl | (simp only [d1_,d2_];rfl)) ?_;(with_reducible refine (laws_heldByteS.calls kj25 _ _ t178 1 t179 _ ?side1 ?side2 A39.out).mono ?_);(case side1 => repeat (first | exact (Kd.B_reads' HO_7.out).2.2 | (with_reducible refine Kd.C_alloc ?_ _) | (with_reducible refine Kd.C_drewN ?_ _) | (with_reducible refine Kd.C_drew ?_)));(case side2 => rw [show t178.length = t165.length from (Kd.B_reads' HO_7.out).1.symm];exact (Kd.B_reads' HO_7.out).2.1);rintro e w' ⟨rfl,⟨nd,rfl⟩⟩;refine ⟨_,rfl,?_⟩))
          go_ret
          exact ⟨zt_,zl_ HB⟩
         ·rw [if_neg c40] at H
          have c40b0 : decide (t179 < 0) = false := decide_eq_false c40
          clear c40
          by_cases c43 : t179 = t177
          ·rw [if_pos c43] at H
           have c43b0 : (t179 == t177) = true := beq_iff_eq.mpr c43
           have c43b1 : (t179 != t177) = false := bne_eq_false_iff_eq.mpr c43
           clear c43
           replace H := Option.bind_eq_some_iff.mp H
           obtain ⟨t180,A440,H⟩ := H
           try dsimp only at H
           have A44 := am_ A440
           clear A440
           replace H := Option.bind_eq_some_iff.mp H
           obtain ⟨⟨t183,t186⟩,A450,H⟩ := H
           try dsimp only at H
           have A45 := am_ A450
           clear A450
           have HC46 := am_ H
           clear H
           obtain ⟨Ao47,co47,eo47⟩ := Kd.B_slice HO_7.out
           subst eo47
           go_upto_region 25 with (first | ((with_reducible refine gate_callee (f := 14) rfl ?_);refine zgl (some 64) Try.func14 #[.slice Ao47 t165.length co47,.int .i64 1] ?_;(with_reducible refine (laws_markByteS.callsB kj25 (fun k_ => some k_ = (.slice Ao47 t165.length co47 : Value).ownBlock) (.slice Ao47 t165.length co47) t165 1 t177 t178 w _ ?side1 ?side2 A38.out).mono ?_);(case side1 => exact zl_ HB);(case side2 => exact Kd.B_reok HO_7.out (fun k_ e_ => e_.symm));rintro e w48 ⟨rfl,hy0,hb,hkp⟩;refine ⟨_,rfl,?_⟩;replace HO_4 := am_ (Kd.R_mono (ok' := fun k_ => some k_ ≠ (.slice Ao47 t165.length co47 : Value).ownBlock) (Kd.R_keptB (HO_4.out) hkp (fun k_ hk_ hs_ => (hk_) hs_)) (fun k_ hk_ => hk_.1));replace HO_7 := am_ (Kd.B_reok hy0 (fun k_ e_ => HO_7.out.1 k_ e_));replace HB := am_ (hb);(try clear hb);(try clear hkp);(try clear hy0)) | ((with_reducible refine gate_callee (f := 15) rfl ?_);refine goesL_ (some 67) rfl rfl Try.func15 (by kernel_rfl) rfl #[.slice Ao47 t178.length co47,.int .i64 1] rfl (by (try simp only [m1_,m2_,m3_]);first | done | (rw [show t178.length = t165.length from (Kd.B_reads' HO_7.out).1.symm] <;> rfl) | rfl | (simp only [d1_,d2_];rfl)) ?_;(with_reducible refine (laws_heldByteS.calls kj25 _ _ t178 1 t179 _ ?side1 ?side2 A39.out).mono ?_);(case side1 => repeat (first | exact (Kd.B_reads' HO_7.out).2.2 | (with_reducible refine Kd.C_alloc ?_ _) | (with_reducible refine Kd.C_drewN ?_ _) | (with_reducible refine Kd.C_drew ?_)));(case side2 => rw [show t178.length = t165.length from (Kd.B_reads' HO_7.out).1.symm];exact (Kd.B_reads' HO_7.out).2.1);rintro e w' ⟨rfl,⟨nd,rfl⟩⟩;refine ⟨_,rfl,?_⟩) | ((with_reducible refine gate_callee (f := 9) rfl ?_);refine zgl (some 75) Try.func9 #[.slice A0 l0.length c0] ?_;(with_reducible refine (laws_toStringS.calls kj25 _ _ l0 t180 _ ?side1 ?side2 A44.out).mono ?_);(case side1 => repeat (first | exact (Kd.C_below HR0.out (zl_ HB)) | (with_reducible refine Kd.C_alloc ?_ _) | (with_reducible refine Kd.C_drewN ?_ _) | (with_reducible refine Kd.C_drew ?_)));(case side2 => exact HC0.out);rintro e w49 ⟨v181,rfl,ho0,hb⟩;refine ⟨_,rfl,?_⟩;replace HO_4 := zrb HO_4 hb;replace HO_7 := Kd.zrbB HO_7 hb;have HO182 := am_ (Kd.R_lower ho0 (below_size (zl_ HB)));replace HB := zs_ HB hb;(try clear hb);(try clear hb2);(try clear hk);(try clear hi);(try clear ho0);obtain ⟨Ao50,co50,eo50⟩ := Kd.R_slice HO182.out;subst eo50) | ((with_reducible refine gate_callee (f := 10) rfl ?_);refine zgl (some 76) Try.func10 #[.slice Ao50 t180.length co50] ?_;(with_reducible refine (impl_JoinPieces.calls kj25 _ _ t180 t183 t186 _ ?side1 ?side2 A45.out).mono ?_);(case side1 => repeat (first | exact (Kd.R_reads' HO182.out).2.2 | (with_reducible refine Kd.C_alloc ?_ _) | (with_reducible refine Kd.C_drewN ?_ _) | (with_reducible refine Kd.C_drew ?_)));(case side2 => exact (Kd.R_reads' HO182.out).2.1);rintro e w51 ⟨v184,rfl,ho0,hb⟩;refine ⟨_,rfl,?_⟩;have HO185 := am_ (Kd.B_lower (Kd.B_new' (Kd.B_new' (Kd.B_mono (ok' := fun k_ => True) ho0 (fun _ hk_ => trivial)) (Kd.R_lt (zr HO_4))) (Kd.B_lt (Kd.zrB HO_7))) (below_size (zl_ HB)));replace HO_4 := am_ (Kd.R_elder' (zr HO_4) (Kd.B_base ho0) hb);replace HO_7 := am_ (Kd.B_elder' (Kd.zrB HO_7) (Kd.B_base ho0) hb);replace HB := zs_ HB hb;(try clear hb);(try clear hb2);(try clear hk);(try clear hi);(try clear ho0)))
           (try simp only [Act.put,p1_,p2_,p3_])
           go_cut [87] (fun v87 wc => ∃ (kq : Nat) (x87_45 : Bool),v87 = .bool x87_45 ∧ Aside0 (laws_FnExactJoinPieces.j2 kq t178 t177 x87_45 = some r) ∧ Aside0 (kq ≤ kj25) ∧ Aside0 (Kd.B 5 wc w.heap.size (fun _ => True) (.slice Ao47 t165.length co47) t178) ∧ Aside0 (Below w.heap.size w wc))
           case first =>
            have H := HC46.out
            clear HC46
            replace H := Option.bind_eq_some_iff.mp H
            obtain ⟨t187,A520,H⟩ := H
            try dsimp only at H
            have A52 := am_ A520
            clear A520
            by_cases c53 : t187 = true
            ·subst c53
             have H1 : (laws_FnExactJoinPieces.j2 kj25 t178 t177 (t186 != t159)) = some r := by rw [if_pos rfl] at H;exact H
             clear H
             have H := H1
             clear H1
             have H' := am_ H
             clear H
             obtain ⟨Ao54,co54,eo54⟩ := Kd.B_slice HO185.out
             subst eo54
             obtain ⟨Ao55,co55,eo55⟩ := Kd.R_slice HO_4.out
             subst eo55
             go_wp2_with (first | ((with_reducible refine gate_callee (f := 11) rfl ?_);refine zgl (some 81) Try.func11 #[.slice Ao54 t183.length co54,.slice Ao55 t158.length co55] ?_;(with_reducible refine (laws_eqByteS.calls kj25 _ _ t183 _ _ t158 true _ ?side1 ?side2 ?side3 ?side4 A52.out).mono ?_);(case side1 => repeat (first | exact (Kd.B_reads' HO185.out).2.2 | (with_reducible refine Kd.C_alloc ?_ _) | (with_reducible refine Kd.C_drewN ?_ _) | (with_reducible refine Kd.C_drew ?_)));(case side2 => exact (Kd.B_reads' HO185.out).2.1);(case side3 => repeat (first | exact (Kd.R_reads' HO_4.out).2.2 | (with_reducible refine Kd.C_alloc ?_ _) | (with_reducible refine Kd.C_drewN ?_ _) | (with_reducible refine Kd.C_drew ?_)));(case side4 => exact (Kd.R_reads' HO_4.out).2.1);rintro e w' ⟨rfl,⟨nd,rfl⟩⟩;refine ⟨_,rfl,?_⟩))
             go_meet
             case rel => exact ⟨_,((t186 != t159)),(by first | rfl | (simp;done) | (simp [*];done)),H',⟨by have := HJ7.out;have := HJ25.out;first | omega | exact Nat.le_refl _⟩,⟨Kd.B_mono (Kd.zrB HO_7) (fun _ hk => trivial)⟩,⟨zl_ HB⟩⟩
            ·replace c53 := Bool.eq_false_iff.mpr c53
             subst c53
             have H1 : (laws_FnExactJoinPieces.j2 kj25 t178 t177 true) = some r := by rw [if_neg (show ¬ (false = true) by decide)] at H;exact H
             clear H
             have H := H1
             clear H1
             have H' := am_ H
             clear H
             obtain ⟨Ao56,co56,eo56⟩ := Kd.B_slice HO185.out
             subst eo56
             obtain ⟨Ao57,co57,eo57⟩ := Kd.R_slice HO_4.out
             subst eo57
             go_wp2_with (first | ((with_reducible refine gate_callee (f := 11) rfl ?_);refine zgl (some 81) Try.func11 #[.slice Ao56 t183.length co56,.slice Ao57 t158.length co57] ?_;(with_reducible refine (laws_eqByteS.calls kj25 _ _ t183 _ _ t158 false _ ?side1 ?side2 ?side3 ?side4 A52.out).mono ?_);(case side1 => repeat (first | exact (Kd.B_reads' HO185.out).2.2 | (with_reducible refine Kd.C_alloc ?_ _) | (with_reducible refine Kd.C_drewN ?_ _) | (with_reducible refine Kd.C_drew ?_)));(case side2 => exact (Kd.B_reads' HO185.out).2.1);(case side3 => repeat (first | exact (Kd.R_reads' HO_4.out).2.2 | (with_reducible refine Kd.C_alloc ?_ _) | (with_reducible refine Kd.C_drewN ?_ _) | (with_reducible refine Kd.C_drew ?_)));(case side4 => exact (Kd.R_reads' HO_4.out).2.1);rintro e w' ⟨rfl,⟨nd,rfl⟩⟩;refine ⟨_,rfl,?_⟩))
             go_meet
             case rel => exact ⟨_,(true),(by first | rfl | (simp;done) | (simp [*];done)),H',⟨by have := HJ7.out;have := HJ25.out;first | omega | exact Nat.le_refl _⟩,⟨Kd.B_mono (Kd.zrB HO_7) (fun _ hk => trivial)⟩,⟨zl_ HB⟩⟩
           case rest =>
            clear HC46
            try clear c1
            try clear c2
            try clear p2
            try clear c3
            try clear c3b0
            try clear c4
            try clear c5
            try clear c7
            try clear c8
            try clear c9
            try clear c10
            try clear c11
            try clear c12
            try clear c13
            try clear c14
            try clear c15
            try clear c16
            try clear c21
            try clear c24
            try clear c30
            try clear c30b0
            try clear c32
            try clear c37
            try clear c40
            try clear c40b0
            try clear c43
            try clear c43b0
            try clear c43b1
            try clear c53
            try clear p2
            obtain ⟨kq,x87_45,rfl,HA,HJ45,HO_7,HB⟩ := hcut
            have hl7_45 := (Kd.B_reads' HO_7.out).1
            rw [hl7_45] at HO_7
            (try simp only [hl7_45])
            cases kq with
            | zero => exact absurd HA.out (by simp [laws_FnExactJoinPieces.j2])
            | succ kj45 =>
             have H := HA.out
             clear HA
             simp only [laws_FnExactJoinPieces.j2] at H
             by_cases c58 : x87_45 = true
             ·subst c58
              have H1 : (some false) = some r := by rw [if_pos rfl] at H;exact H
              clear H
              have H := H1
              clear H1
              obtain rfl := Option.some.inj H
              go_wp2
              go_ret
              exact ⟨zt_,zl_ HB⟩
             ·replace c58 := Bool.eq_false_iff.mpr c58
              subst c58
              have H1 : ((laws_heldByteS.f kj45 t178 1).bind fun t188 => (if t188 < 0 then (some false) else (if t188 = t177 then (some true) else (some false)))) = some r := by rw [if_neg (show ¬ (false = true) by decide)] at H;exact H
              clear H
              have H := H1
              clear H1
              replace H := Option.bind_eq_some_iff.mp H
              obtain ⟨t188,A590,H⟩ := H
              try dsimp only at H
              have A59 := am_ A590
              clear A590
              by_cases c60 : t188 < 0
              ·rw [if_pos c60] at H
               have c60b0 : decide (t188 < 0) = true := decide_eq_true c60
               clear c60
               obtain rfl := Option.some.inj H
               go_wp2_with (first | ((with_reducible refine gate_callee (f := 15) rfl ?_);refine zgl (some 90) Try.func15 #[.slice Ao47 t178.length co47,.int .i64 1] ?_;(with_reducible refine (laws_heldByteS.calls kj45 _ _ t178 1 t188 _ ?side1 ?side2 A59.out).mono ?_);(case side1 => repeat (first | exact (Kd.B_reads' HO_7.out).2.2 | (with_reducible refine Kd.C_alloc ?_ _) | (with_reducible refine Kd.C_drewN ?_ _) | (with_reducible refine Kd.C_drew ?_)));(case side2 => exact (Kd.B_reads' HO_7.out).2.1);rintro e w' ⟨rfl,⟨nd,rfl⟩⟩;refine ⟨_,rfl,?_⟩))
               go_ret
               exact ⟨zt_,zl_ HB⟩
              ·rw [if_neg c60] at H
               have c60b0 : decide (t188 < 0) = false := decide_eq_false c60
               clear c60
               by_cases c61 : t188 = t177
               ·rw [if_pos c61] at H
                have c61b0 : (t188 == t177) = true := beq_iff_eq.mpr c61
                have c61b1 : (t188 != t177) = false := bne_eq_false_iff_eq.mpr c61
                clear c61
                obtain rfl := Option.some.inj H
                go_wp2_with (first | ((with_reducible refine gate_callee (f := 15) rfl ?_);refine zgl (some 90) Try.func15 #[.slice Ao47 t178.length co47,.int .i64 1] ?_;(with_reducible refine (laws_heldByteS.calls kj45 _ _ t178 1 t188 _ ?side1 ?side2 A59.out).mono ?_);(case side1 => repeat (first | exact (Kd.B_reads' HO_7.out).2.2 | (with_reducible refine Kd.C_alloc ?_ _) | (with_reducible refine Kd.C_drewN ?_ _) | (with_reducible refine Kd.C_drew ?_)));(case side2 => exact (Kd.B_reads' HO_7.out).2.1);rintro e w' ⟨rfl,⟨nd,rfl⟩⟩;refine ⟨_,rfl,?_⟩))
                go_ret
                exact ⟨zt_,zl_ HB⟩
               ·rw [if_neg c61] at H
                have c61b0 : (t188 == t177) = false := beq_eq_false_iff_ne.mpr c61
                have c61b1 : (t188 != t177) = true := bne_iff_ne.mpr c61
                obtain rfl := Option.some.inj H
                go_wp2_with (first | ((with_reducible refine gate_callee (f := 15) rfl ?_);refine zgl (some 90) Try.func15 #[.slice Ao47 t178.length co47,.int .i64 1] ?_;(with_reducible refine (laws_heldByteS.calls kj45 _ _ t178 1 t188 _ ?side1 ?side2 A59.out).mono ?_);(case side1 => repeat (first | exact (Kd.B_reads' HO_7.out).2.2 | (with_reducible refine Kd.C_alloc ?_ _) | (with_reducible refine Kd.C_drewN ?_ _) | (with_reducible refine Kd.C_drew ?_)));(case side2 => exact (Kd.B_reads' HO_7.out).2.1);rintro e w' ⟨rfl,⟨nd,rfl⟩⟩;refine ⟨_,rfl,?_⟩))
                go_ret
                exact ⟨zt_,zl_ HB⟩
          ·rw [if_neg c43] at H
           have c43b0 : (t179 == t177) = false := beq_eq_false_iff_ne.mpr c43
           have c43b1 : (t179 != t177) = true := bne_iff_ne.mpr c43
           obtain rfl := Option.some.inj H
           obtain ⟨Ao62,co62,eo62⟩ := Kd.B_slice HO_7.out
           subst eo62
           go_wp2_with (first | ((with_reducible refine gate_callee (f := 14) rfl ?_);refine zgl (some 64) Try.func14 #[.slice Ao62 t165.length co62,.int .i64 1] ?_;(with_reducible refine (laws_markByteS.callsB kj25 (fun k_ => some k_ = (.slice Ao62 t165.length co62 : Value).ownBlock) (.slice Ao62 t165.length co62) t165 1 t177 t178 w _ ?side1 ?side2 A38.out).mono ?_);(case side1 => exact zl_ HB);(case side2 => exact Kd.B_reok HO_7.out (fun k_ e_ => e_.symm));rintro e w63 ⟨rfl,hy0,hb,hkp⟩;refine ⟨_,rfl,?_⟩;replace HO_7 := am_ (Kd.B_reok hy0 (fun k_ e_ => HO_7.out.1 k_ e_));replace HB := am_ (hb);(try clear hb);(try clear hkp);(try clear hy0)) | ((with_reducible refine gate_callee (f := 15) rfl ?_);refine goesL_ (some 67) rfl rfl Try.func15 (by kernel_rfl) rfl #[.slice Ao62 t178.length co62,.int .i64 1] rfl (by (try simp only [m1_,m2_,m3_]);first | done | (rw [show t178.length = t165.length from (Kd.B_reads' HO_7.out).1.symm] <;> rfl) | rfl | (simp only [d1_,d2_];rfl)) ?_;(with_reducible refine (laws_heldByteS.calls kj25 _ _ t178 1 t179 _ ?side1 ?side2 A39.out).mono ?_);(case side1 => repeat (first | exact (Kd.B_reads' HO_7.out).2.2 | (with_reducible refine Kd.C_alloc ?_ _) | (with_reducible refine Kd.C_drewN ?_ _) | (with_reducible refine Kd.C_drew ?_)));(case side2 => rw [show t178.length = t165.length from (Kd.B_reads' HO_7.out).1.symm];exact (Kd.B_reads' HO_7.out).2.1);rintro e w' ⟨rfl,⟨nd,rfl⟩⟩;refine ⟨_,rfl,?_⟩))
           go_ret
           exact ⟨zt_,zl_ HB⟩
     ·replace c24 := Bool.eq_false_iff.mpr c24
      subst c24
      have H1 : (some false) = some r := by rw [if_neg (show ¬ (false = true) by decide)] at H;exact H
      clear H
      have H := H1
      clear H1
      obtain rfl := Option.some.inj H
      go_wp2_with (first | ((with_reducible refine gate_callee (f := 9) rfl ?_);refine zgl (some 43) Try.func9 #[.slice A0 l0.length c0] ?_;(with_reducible refine (laws_toStringS.calls kj7 _ _ l0 t170 _ ?side1 ?side2 A22.out).mono ?_);(case side1 => exact zc_ HR0 HB);(case side2 => exact HC0.out);rintro e w64 ⟨v171,rfl,ho0,hb⟩;refine ⟨_,rfl,?_⟩;have HO172 := am_ (Kd.R_lower (Kd.R_new' ho0 (Kd.R_lt (zr HO_6))) (below_size (zl_ HB)));replace HO_6 := am_ (Kd.R_elder' (zr HO_6) (Kd.R_base ho0) hb);replace HB := zs_ HB hb;(try clear hb);(try clear hb2);(try clear hk);(try clear hi);(try clear ho0);obtain ⟨Ao65,co65,eo65⟩ := Kd.R_slice HO172.out;subst eo65) | ((with_reducible refine gate_callee (f := 12) rfl ?_);refine zgl (some 44) Try.func12 #[.slice Ao13 t162.length co13,.slice Ao65 t170.length co65] ?_;(with_reducible refine (laws_eqStringS.calls kj7 _ _ t162 _ _ t170 false _ ?side1 ?side2 ?side3 ?side4 A23.out).mono ?_);(case side1 => repeat (first | exact (Kd.R_reads' HO_6.out).2.2 | (with_reducible refine Kd.C_alloc ?_ _) | (with_reducible refine Kd.C_drewN ?_ _) | (with_reducible refine Kd.C_drew ?_)));(case side2 => exact (Kd.R_reads' HO_6.out).2.1);(case side3 => repeat (first | exact (Kd.R_reads' HO172.out).2.2 | (with_reducible refine Kd.C_alloc ?_ _) | (with_reducible refine Kd.C_drewN ?_ _) | (with_reducible refine Kd.C_drew ?_)));(case side4 => exact (Kd.R_reads' HO172.out).2.1);rintro e w' ⟨rfl,⟨nd,rfl⟩⟩;refine ⟨_,rfl,?_⟩))
      go_ret
      exact ⟨zt_,zl_ HB⟩
end Go.Proofs.Ytadablpppkjdbaa.A
end
