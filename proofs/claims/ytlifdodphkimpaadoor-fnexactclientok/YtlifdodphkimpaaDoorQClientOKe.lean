/- A part of the proof that FnExactClientOK returns true at every input: plain functions, contracts and lemmas. No conditions. -/
import Derived.Test.YtlifdodphkimpaaDoorQClientOKd
set_option linter.unusedVariables false
set_option linter.unusedSimpArgs false
set_option linter.unusedSectionVars false
section
namespace Go.Proofs.YtlifdodphkimpaaDoor.B
open Go.RowKit Go.Proofs.YtlifdodphkimpaaDoorW.PrintWords Go.Proofs.YtlifdodphkimpaaDoorW.PrintLast Go.Proofs.YtlifdodphkimpaaDoorW.PrintMore
attribute [local go_sem] max2_int min2_int max_two min_two max_three min_three max_four min_four
set_option maxHeartbeats 8000000 in
set_option maxRecDepth 100000 in
theorem spec_l05Answer.calls (a0_0 : Int) (a0_1 : Int) (a0_2 : Int) (a0_3 : Int) (r : Bool) (w : World) (h : spec_l05Answer.f a0_0 a0_1 a0_2 a0_3 = some r) :
  Calls Tryd.prog 95 #[.agg #[.int .i64 a0_0,.int .i64 a0_1,.int .i64 a0_2,.int .i64 a0_3]] w fun e w' => e = .returned (.bool r) ∧ Below w.heap.size w w' := by
 have hu63 := Tryd.underlying63
 have HB := am_ (Below.refl w.heap.size w)
 have H : ((spec_l01In.f a0_0 1 8).bind fun t867 => (if t867 = true then ((spec_l01In.f a0_1 0 1000000).bind fun t868 => (if t868 = true then ((spec_l01In.f a0_2 (-1) 255).bind fun t869 => (if t869 = true then ((spec_l01In.f a0_3 0 2000000000).bind fun t870 => (some t870)) else (some false))) else (some false))) else (some false))) = some r := h
 clear h
 replace H := Option.bind_eq_some_iff.mp H
 obtain ⟨t867,A20,H⟩ := H
 try dsimp only at H
 have A2 := am_ A20
 clear A20
 by_cases c3 : t867 = true
 ·subst c3
  have H1 : ((spec_l01In.f a0_1 0 1000000).bind fun t868 => (if t868 = true then ((spec_l01In.f a0_2 (-1) 255).bind fun t869 => (if t869 = true then ((spec_l01In.f a0_3 0 2000000000).bind fun t870 => (some t870)) else (some false))) else (some false))) = some r := by rw [if_pos rfl] at H;exact H
  clear H
  have H := H1
  clear H1
  replace H := Option.bind_eq_some_iff.mp H
  obtain ⟨t868,A40,H⟩ := H
  try dsimp only at H
  have A4 := am_ A40
  clear A40
  by_cases c5 : t868 = true
  ·subst c5
   have H1 : ((spec_l01In.f a0_2 (-1) 255).bind fun t869 => (if t869 = true then ((spec_l01In.f a0_3 0 2000000000).bind fun t870 => (some t870)) else (some false))) = some r := by rw [if_pos rfl] at H;exact H
   clear H
   have H := H1
   clear H1
   replace H := Option.bind_eq_some_iff.mp H
   obtain ⟨t869,A60,H⟩ := H
   try dsimp only at H
   have A6 := am_ A60
   clear A60
   by_cases c7 : t869 = true
   ·subst c7
    have H1 : ((spec_l01In.f a0_3 0 2000000000).bind fun t870 => (some t870)) = some r := by rw [if_pos rfl] at H;exact H
    clear H
    have H := H1
    clear H1
    replace H := Option.bind_eq_some_iff.mp H
    obtain ⟨t870,A80,H⟩ := H
    try dsimp only at H
    have A8 := am_ A80
    clear A80
    obtain rfl := Option.some.inj H
    go_enter Tryd.func95,Tryd.ntmps95
    go_wp2_with (first | ((with_reducible refine gate_dst (N := 1) rfl ?_);refine zbx (N := 1) (cs := #[.int .i64 a0_0,.int .i64 a0_1,.int .i64 a0_2,.int .i64 a0_3]) (t := 63) ?_;intro gb866 hg w9 hbox hb;have BK866 := am_ (hbox);have GW866 := zw_ HB hg;have GE866 := zw_ HB hg;replace HB := zs_ HB hb;clear hb hbox hg;obtain ⟨hcz10_0,hcz10_1,hcz10_2,hcz10_3,hfz10_0,hfz10_1,hfz10_2,hfz10_3⟩ := zc4 BK866) | ((with_reducible refine gate_callee (f := 69) rfl ?_);refine zgl (some 5) Tryd.func69 #[.int .i64 a0_0,.int .i64 1,.int .i64 8] ?_;(with_reducible refine (spec_l01In.calls a0_0 1 8 true _ A2.out).mono ?_);rintro e w' ⟨rfl,⟨nd,rfl⟩⟩;refine ⟨_,rfl,?_⟩) | (go_at_call 69;(with_reducible refine (spec_l01In.calls a0_1 0 1000000 true _ A4.out).mono ?_);rintro e w' ⟨rfl,⟨nd,rfl⟩⟩) | (go_at_call 69;(with_reducible refine (spec_l01In.calls a0_2 (-1) 255 true _ A6.out).mono ?_);rintro e w' ⟨rfl,⟨nd,rfl⟩⟩) | (go_at_call 69;(with_reducible refine (spec_l01In.calls a0_3 0 2000000000 t870 _ A8.out).mono ?_);rintro e w' ⟨rfl,⟨nd,rfl⟩⟩))
    go_ret
    exact ⟨zt_,zl_ HB⟩
   ·replace c7 := Bool.eq_false_iff.mpr c7
    subst c7
    have H1 : (some false) = some r := by rw [if_neg (show ¬ (false = true) by decide)] at H;exact H
    clear H
    have H := H1
    clear H1
    obtain rfl := Option.some.inj H
    go_enter Tryd.func95,Tryd.ntmps95
    go_wp2_with (first | ((with_reducible refine gate_dst (N := 1) rfl ?_);refine zbx (N := 1) (cs := #[.int .i64 a0_0,.int .i64 a0_1,.int .i64 a0_2,.int .i64 a0_3]) (t := 63) ?_;intro gb866 hg w11 hbox hb;have BK866 := am_ (hbox);have GW866 := zw_ HB hg;have GE866 := zw_ HB hg;replace HB := zs_ HB hb;clear hb hbox hg;obtain ⟨hcz12_0,hcz12_1,hcz12_2,hcz12_3,hfz12_0,hfz12_1,hfz12_2,hfz12_3⟩ := zc4 BK866) | ((with_reducible refine gate_callee (f := 69) rfl ?_);refine zgl (some 5) Tryd.func69 #[.int .i64 a0_0,.int .i64 1,.int .i64 8] ?_;(with_reducible refine (spec_l01In.calls a0_0 1 8 true _ A2.out).mono ?_);rintro e w' ⟨rfl,⟨nd,rfl⟩⟩;refine ⟨_,rfl,?_⟩) | (go_at_call 69;(with_reducible refine (spec_l01In.calls a0_1 0 1000000 true _ A4.out).mono ?_);rintro e w' ⟨rfl,⟨nd,rfl⟩⟩) | (go_at_call 69;(with_reducible refine (spec_l01In.calls a0_2 (-1) 255 false _ A6.out).mono ?_);rintro e w' ⟨rfl,⟨nd,rfl⟩⟩))
    go_ret
    exact ⟨zt_,zl_ HB⟩
  ·replace c5 := Bool.eq_false_iff.mpr c5
   subst c5
   have H1 : (some false) = some r := by rw [if_neg (show ¬ (false = true) by decide)] at H;exact H
   clear H
   have H := H1
   clear H1
   obtain rfl := Option.some.inj H
   go_enter Tryd.func95,Tryd.ntmps95
   go_wp2_with (first | ((with_reducible refine gate_dst (N := 1) rfl ?_);refine zbx (N := 1) (cs := #[.int .i64 a0_0,.int .i64 a0_1,.int .i64 a0_2,.int .i64 a0_3]) (t := 63) ?_;intro gb866 hg w13 hbox hb;have BK866 := am_ (hbox);have GW866 := zw_ HB hg;have GE866 := zw_ HB hg;replace HB := zs_ HB hb;clear hb hbox hg;obtain ⟨hcz14_0,hcz14_1,hcz14_2,hcz14_3,hfz14_0,hfz14_1,hfz14_2,hfz14_3⟩ := zc4 BK866) | ((with_reducible refine gate_callee (f := 69) rfl ?_);refine zgl (some 5) Tryd.func69 #[.int .i64 a0_0,.int .i64 1,.int .i64 8] ?_;(with_reducible refine (spec_l01In.calls a0_0 1 8 true _ A2.out).mono ?_);rintro e w' ⟨rfl,⟨nd,rfl⟩⟩;refine ⟨_,rfl,?_⟩) | (go_at_call 69;(with_reducible refine (spec_l01In.calls a0_1 0 1000000 false _ A4.out).mono ?_);rintro e w' ⟨rfl,⟨nd,rfl⟩⟩))
   go_ret
   exact ⟨zt_,zl_ HB⟩
 ·replace c3 := Bool.eq_false_iff.mpr c3
  subst c3
  have H1 : (some false) = some r := by rw [if_neg (show ¬ (false = true) by decide)] at H;exact H
  clear H
  have H := H1
  clear H1
  obtain rfl := Option.some.inj H
  go_enter Tryd.func95,Tryd.ntmps95
  go_wp2_with (first | ((with_reducible refine gate_dst (N := 1) rfl ?_);refine zbx (N := 1) (cs := #[.int .i64 a0_0,.int .i64 a0_1,.int .i64 a0_2,.int .i64 a0_3]) (t := 63) ?_;intro gb866 hg w15 hbox hb;have BK866 := am_ (hbox);have GW866 := zw_ HB hg;have GE866 := zw_ HB hg;replace HB := zs_ HB hb;clear hb hbox hg;obtain ⟨hcz16_0,hcz16_1,hcz16_2,hcz16_3,hfz16_0,hfz16_1,hfz16_2,hfz16_3⟩ := zc4 BK866) | ((with_reducible refine gate_callee (f := 69) rfl ?_);refine zgl (some 5) Tryd.func69 #[.int .i64 a0_0,.int .i64 1,.int .i64 8] ?_;(with_reducible refine (spec_l01In.calls a0_0 1 8 false _ A2.out).mono ?_);rintro e w' ⟨rfl,⟨nd,rfl⟩⟩;refine ⟨_,rfl,?_⟩))
  go_ret
  exact ⟨zt_,zl_ HB⟩
theorem eqA63 (d : Nat) (w : World) (x0 y0 : Int) (x1 y1 : Int) (x2 y2 : Int) (x3 y3 : Int) :
    (Op.equalIn (d + 2) 63 (.agg #[.int .i64 x0, .int .i64 x1, .int .i64 x2, .int .i64 x3]) (.agg #[.int .i64 y0, .int .i64 y1, .int .i64 y2, .int .i64 y3])).run Tryd.prog w = .ok (x0 == y0 && (x1 == y1 && (x2 == y2 && (x3 == y3)))) w := by
  refine eqA_of Tryd.underlying63 (by kernel_rfl) ?_
  refine eqf_cons (by rfl) (by go_simp; rfl) (by go_simp; rfl) (by go_simp) ?_
  refine eqf_cons (by rfl) (by go_simp; rfl) (by go_simp; rfl) (by go_simp) ?_
  refine eqf_cons (by rfl) (by go_simp; rfl) (by go_simp; rfl) (by go_simp) ?_
  exact eqf_last (by rfl) (by go_simp; rfl) (by go_simp; rfl) (by go_simp)
set_option maxHeartbeats 8000000 in
set_option maxRecDepth 100000 in
theorem spec_l08Has.calls (k : Nat) (A0 : Option Addr) (c0 : Nat) (l0 : List Int) (a1 : Int) (r : Bool) (w : World) (hr0 : Kd.C (Kd.int .i64) w A0 l0.length l0) (hc0 : l0.length ≤ c0) (h : spec_l08Has.f k l0 a1 = some r) :
  Calls Tryd.prog 138 #[.slice A0 l0.length c0,.int .i64 a1] w fun e w' => e = .returned (.bool r) ∧ Drawn0 w w' := by
 have HR0 := am_ hr0
 have HC0 := am_ hc0
 clear hr0 hc0
 have H : (spec_l08Has.l0 k l0 a1 0) = some r := h
 clear h
 have H' := am_ H
 clear H
 go_enter Tryd.func138,Tryd.ntmps138
 go_wp2
 go_loopg [5] k (fun kq v5 w' => ∃ (x5_1 : Int),v5 = .int .i64 x5_1 ∧ Aside0 (spec_l08Has.l0 kq l0 a1 x5_1 = some r) ∧ Aside0 (kq ≤ k) ∧ Drawn0 w w')
 case atStart => exact ⟨(0),(by first | rfl | (simp;done) | (simp [*];done)),H',⟨Nat.le_refl _⟩,by repeat (first | exact Drawn0.refl _ | apply Drawn0.step)⟩
 case round =>
  clear H'
  try clear c1
  try clear p2
  obtain ⟨x5_1,rfl,HA,HK1,⟨m1,rfl⟩⟩ := hrel
  cases gk with
  | zero => exact absurd HA.out (by simp [spec_l08Has.l0])
  | succ k1 =>
   have H := HA.out
   clear HA
   simp only [spec_l08Has.l0] at H
   by_cases c3 : x5_1 < (l0.length : Int)
   ·rw [if_pos c3] at H
    have c3b0 : decide (x5_1 < (l0.length : Int)) = true := decide_eq_true c3
    clear c3
    by_cases c4 : 0 ≤ x5_1
    ·rw [if_pos c4] at H
     have c4b0 : decide (0 ≤ x5_1) = true := decide_eq_true c4
     clear c4
     by_cases c5 : (rd l0 x5_1) = a1
     ·rw [if_pos c5] at H
      have c5b0 : ((rd l0 x5_1) == a1) = true := beq_iff_eq.mpr c5
      have c5b1 : ((rd l0 x5_1) != a1) = false := bne_eq_false_iff_eq.mpr c5
      clear c5
      obtain rfl := Option.some.inj H
      have p931 : 0 ≤ (x5_1 : Int) := zo_
      have q931 : x5_1 < (l0.length : Int) := zo_
      obtain ⟨ad931,e931,hx931_0⟩ := Kd.at_int HR0.out x5_1 p931 q931
      cases e931
      replace p931 := eq_true p931
      replace q931 := eq_true q931
      go_wp2
      go_ret
      exact ⟨by first | rfl | (simp;done) | (simp [*];done),by repeat (first | exact Drawn0.refl _ | apply Drawn0.step)⟩
     ·rw [if_neg c5] at H
      have c5b0 : ((rd l0 x5_1) == a1) = false := beq_eq_false_iff_ne.mpr c5
      have c5b1 : ((rd l0 x5_1) != a1) = true := bne_iff_ne.mpr c5
      have H' := am_ H
      clear H
      have p931 : 0 ≤ (x5_1 : Int) := zo_
      have q931 : x5_1 < (l0.length : Int) := zo_
      obtain ⟨ad931,e931,hx931_0⟩ := Kd.at_int HR0.out x5_1 p931 q931
      cases e931
      replace p931 := eq_true p931
      replace q931 := eq_true q931
      go_wp2
      go_roundg k1
      case measure => have := HK1.out;omega
      case rel => exact ⟨(wrap64 (x5_1 + 1)),(by first | rfl | (simp;done) | (simp [*];done)),H',⟨by have := HK1.out;omega⟩,by repeat (first | exact Drawn0.refl _ | apply Drawn0.step)⟩
    ·rw [if_neg c4] at H
     exact absurd H (by simp)
   ·rw [if_neg c3] at H
    have c3b0 : decide (x5_1 < (l0.length : Int)) = false := decide_eq_false c3
    clear c3
    obtain rfl := Option.some.inj H
    go_wp2
    go_ret
    exact ⟨by first | rfl | (simp;done) | (simp [*];done),by repeat (first | exact Drawn0.refl _ | apply Drawn0.step)⟩
set_option maxHeartbeats 8000000 in
set_option maxRecDepth 100000 in
theorem spec_l11Form.calls (a0_0 : Int) (a0_1 : Int) (a0_2 : Int) (a0_3 : Int) (a0_4 : Int) (a0_5 : Int) (a0_6 : Int) (a0_7 : ByteArray) (r : Bool) (w : World) (h : spec_l11Form.f a0_0 a0_1 a0_2 a0_3 a0_4 a0_5 a0_6 a0_7 = some r) :
  Calls Tryd.prog 91 #[.agg #[.int .i64 a0_0,.int .i64 a0_1,.int .i64 a0_2,.int .i64 a0_3,.int .i64 a0_4,.int .i64 a0_5,.int .i64 a0_6,.string a0_7]] w fun e w' => e = .returned (.bool r) ∧ Below w.heap.size w w' := by
 have hu73 := Tryd.underlying73
 have hu63 := Tryd.underlying63
 have HB := am_ (Below.refl w.heap.size w)
 have H : ((spec_l01In.f a0_0 0 6).bind fun t872 => (if t872 = true then ((spec_l01In.f a0_1 0 255).bind fun t873 => (if t873 = true then ((spec_l01In.f a0_2 1 65535).bind fun t874 => (if t874 = true then ((spec_l05Answer.f a0_3 a0_4 a0_5 a0_6).bind fun t875 => (some t875)) else (some false))) else (some false))) else (some false))) = some r := h
 clear h
 replace H := Option.bind_eq_some_iff.mp H
 obtain ⟨t872,A20,H⟩ := H
 try dsimp only at H
 have A2 := am_ A20
 clear A20
 by_cases c3 : t872 = true
 ·subst c3
  have H1 : ((spec_l01In.f a0_1 0 255).bind fun t873 => (if t873 = true then ((spec_l01In.f a0_2 1 65535).bind fun t874 => (if t874 = true then ((spec_l05Answer.f a0_3 a0_4 a0_5 a0_6).bind fun t875 => (some t875)) else (some false))) else (some false))) = some r := by rw [if_pos rfl] at H;exact H
  clear H
  have H := H1
  clear H1
  replace H := Option.bind_eq_some_iff.mp H
  obtain ⟨t873,A40,H⟩ := H
  try dsimp only at H
  have A4 := am_ A40
  clear A40
  by_cases c5 : t873 = true
  ·subst c5
   have H1 : ((spec_l01In.f a0_2 1 65535).bind fun t874 => (if t874 = true then ((spec_l05Answer.f a0_3 a0_4 a0_5 a0_6).bind fun t875 => (some t875)) else (some false))) = some r := by rw [if_pos rfl] at H;exact H
   clear H
   have H := H1
   clear H1
   replace H := Option.bind_eq_some_iff.mp H
   obtain ⟨t874,A60,H⟩ := H
   try dsimp only at H
   have A6 := am_ A60
   clear A60
   by_cases c7 : t874 = true
   ·subst c7
    have H1 : ((spec_l05Answer.f a0_3 a0_4 a0_5 a0_6).bind fun t875 => (some t875)) = some r := by rw [if_pos rfl] at H;exact H
    clear H
    have H := H1
    clear H1
    replace H := Option.bind_eq_some_iff.mp H
    obtain ⟨t875,A80,H⟩ := H
    try dsimp only at H
    have A8 := am_ A80
    clear A80
    obtain rfl := Option.some.inj H
    go_enter Tryd.func91,Tryd.ntmps91
    go_wp2_with (first | ((with_reducible refine gate_dst (N := 1) rfl ?_);refine zbx (N := 1) (cs := #[.int .i64 a0_0,.int .i64 a0_1,.int .i64 a0_2,.int .i64 a0_3,.int .i64 a0_4,.int .i64 a0_5,.int .i64 a0_6,.string a0_7]) (t := 73) ?_;intro gb871 hg w9 hbox hb;have BK871 := am_ (hbox);have GW871 := zw_ HB hg;have GE871 := zw_ HB hg;replace HB := zs_ HB hb;clear hb hbox hg;obtain ⟨hcz10_0,hcz10_1,hcz10_2,hcz10_3,hcz10_4,hcz10_5,hcz10_6,hcz10_7,hfz10_0,hfz10_1,hfz10_2,hfz10_3,hfz10_4,hfz10_5,hfz10_6,hfz10_7⟩ := zc8 BK871) | ((with_reducible refine gate_callee (f := 69) rfl ?_);refine zgl (some 5) Tryd.func69 #[.int .i64 a0_0,.int .i64 0,.int .i64 6] ?_;(with_reducible refine (spec_l01In.calls a0_0 0 6 true _ A2.out).mono ?_);rintro e w' ⟨rfl,⟨nd,rfl⟩⟩;refine ⟨_,rfl,?_⟩) | (go_at_call 69;(with_reducible refine (spec_l01In.calls a0_1 0 255 true _ A4.out).mono ?_);rintro e w' ⟨rfl,⟨nd,rfl⟩⟩) | (go_at_call 69;(with_reducible refine (spec_l01In.calls a0_2 1 65535 true _ A6.out).mono ?_);rintro e w' ⟨rfl,⟨nd,rfl⟩⟩) | (go_at_call 95;(with_reducible refine (spec_l05Answer.calls a0_3 a0_4 a0_5 a0_6 t875 _ A8.out).mono ?_);rintro e w11 ⟨rfl,hb⟩;replace BK871 := zb BK871 hb;replace HB := zs_ HB hb;(try clear hb);(try clear hb2);(try clear hk);(try clear hi)))
    go_ret
    exact ⟨zt_,zl_ HB⟩
   ·replace c7 := Bool.eq_false_iff.mpr c7
    subst c7
    have H1 : (some false) = some r := by rw [if_neg (show ¬ (false = true) by decide)] at H;exact H
    clear H
    have H := H1
    clear H1
    obtain rfl := Option.some.inj H
    go_enter Tryd.func91,Tryd.ntmps91
    go_wp2_with (first | ((with_reducible refine gate_dst (N := 1) rfl ?_);refine zbx (N := 1) (cs := #[.int .i64 a0_0,.int .i64 a0_1,.int .i64 a0_2,.int .i64 a0_3,.int .i64 a0_4,.int .i64 a0_5,.int .i64 a0_6,.string a0_7]) (t := 73) ?_;intro gb871 hg w12 hbox hb;have BK871 := am_ (hbox);have GW871 := zw_ HB hg;have GE871 := zw_ HB hg;replace HB := zs_ HB hb;clear hb hbox hg;obtain ⟨hcz13_0,hcz13_1,hcz13_2,hcz13_3,hcz13_4,hcz13_5,hcz13_6,hcz13_7,hfz13_0,hfz13_1,hfz13_2,hfz13_3,hfz13_4,hfz13_5,hfz13_6,hfz13_7⟩ := zc8 BK871) | ((with_reducible refine gate_callee (f := 69) rfl ?_);refine zgl (some 5) Tryd.func69 #[.int .i64 a0_0,.int .i64 0,.int .i64 6] ?_;(with_reducible refine (spec_l01In.calls a0_0 0 6 true _ A2.out).mono ?_);rintro e w' ⟨rfl,⟨nd,rfl⟩⟩;refine ⟨_,rfl,?_⟩) | (go_at_call 69;(with_reducible refine (spec_l01In.calls a0_1 0 255 true _ A4.out).mono ?_);rintro e w' ⟨rfl,⟨nd,rfl⟩⟩) | (go_at_call 69;(with_reducible refine (spec_l01In.calls a0_2 1 65535 false _ A6.out).mono ?_);rintro e w' ⟨rfl,⟨nd,rfl⟩⟩))
    go_ret
    exact ⟨zt_,zl_ HB⟩
  ·replace c5 := Bool.eq_false_iff.mpr c5
   subst c5
   have H1 : (some false) = some r := by rw [if_neg (show ¬ (false = true) by decide)] at H;exact H
   clear H
   have H := H1
   clear H1
   obtain rfl := Option.some.inj H
   go_enter Tryd.func91,Tryd.ntmps91
   go_wp2_with (first | ((with_reducible refine gate_dst (N := 1) rfl ?_);refine zbx (N := 1) (cs := #[.int .i64 a0_0,.int .i64 a0_1,.int .i64 a0_2,.int .i64 a0_3,.int .i64 a0_4,.int .i64 a0_5,.int .i64 a0_6,.string a0_7]) (t := 73) ?_;intro gb871 hg w14 hbox hb;have BK871 := am_ (hbox);have GW871 := zw_ HB hg;have GE871 := zw_ HB hg;replace HB := zs_ HB hb;clear hb hbox hg;obtain ⟨hcz15_0,hcz15_1,hcz15_2,hcz15_3,hcz15_4,hcz15_5,hcz15_6,hcz15_7,hfz15_0,hfz15_1,hfz15_2,hfz15_3,hfz15_4,hfz15_5,hfz15_6,hfz15_7⟩ := zc8 BK871) | ((with_reducible refine gate_callee (f := 69) rfl ?_);refine zgl (some 5) Tryd.func69 #[.int .i64 a0_0,.int .i64 0,.int .i64 6] ?_;(with_reducible refine (spec_l01In.calls a0_0 0 6 true _ A2.out).mono ?_);rintro e w' ⟨rfl,⟨nd,rfl⟩⟩;refine ⟨_,rfl,?_⟩) | (go_at_call 69;(with_reducible refine (spec_l01In.calls a0_1 0 255 false _ A4.out).mono ?_);rintro e w' ⟨rfl,⟨nd,rfl⟩⟩))
   go_ret
   exact ⟨zt_,zl_ HB⟩
 ·replace c3 := Bool.eq_false_iff.mpr c3
  subst c3
  have H1 : (some false) = some r := by rw [if_neg (show ¬ (false = true) by decide)] at H;exact H
  clear H
  have H := H1
  clear H1
  obtain rfl := Option.some.inj H
  go_enter Tryd.func91,Tryd.ntmps91
  go_wp2_with (first | ((with_reducible refine gate_dst (N := 1) rfl ?_);refine zbx (N := 1) (cs := #[.int .i64 a0_0,.int .i64 a0_1,.int .i64 a0_2,.int .i64 a0_3,.int .i64 a0_4,.int .i64 a0_5,.int .i64 a0_6,.string a0_7]) (t := 73) ?_;intro gb871 hg w16 hbox hb;have BK871 := am_ (hbox);have GW871 := zw_ HB hg;have GE871 := zw_ HB hg;replace HB := zs_ HB hb;clear hb hbox hg;obtain ⟨hcz17_0,hcz17_1,hcz17_2,hcz17_3,hcz17_4,hcz17_5,hcz17_6,hcz17_7,hfz17_0,hfz17_1,hfz17_2,hfz17_3,hfz17_4,hfz17_5,hfz17_6,hfz17_7⟩ := zc8 BK871) | ((with_reducible refine gate_callee (f := 69) rfl ?_);refine zgl (some 5) Tryd.func69 #[.int .i64 a0_0,.int .i64 0,.int .i64 6] ?_;(with_reducible refine (spec_l01In.calls a0_0 0 6 false _ A2.out).mono ?_);rintro e w' ⟨rfl,⟨nd,rfl⟩⟩;refine ⟨_,rfl,?_⟩))
  go_ret
  exact ⟨zt_,zl_ HB⟩
end Go.Proofs.YtlifdodphkimpaaDoor.B
end

section
namespace Go.Proofs.YtlifdodphkimpaaDoor.B
open Go.RowKit Go.Proofs.YtlifdodphkimpaaDoorW.PrintWords Go.Proofs.YtlifdodphkimpaaDoorW.PrintLast Go.Proofs.YtlifdodphkimpaaDoorW.PrintMore
theorem Au.of_R {W : World} {base g n cap e : Nat} {ok : Nat → Prop} {xs : List Int} (h : Kd.R (Kd.int .u32) e W base ok (.slice (some ⟨g, 0, none⟩) n cap) xs) : Au W g xs := by
  have hn := (Kd.R_reads' h).1
  refine ⟨fun j hj => ?_, fun j hj => ?_⟩
  · have := (Kd.R_celln 0 h (j : Int) (by omega) (by omega)).1
    simpa [rdOf] using this
  · have := (Kd.R_celln 0 h (j : Int) (by omega) (by omega)).2
    simpa using this
theorem C_cells {k : IntKind} {W : World} {A : Option Addr} {n : Nat} {xs : List Int} (h : Kd.C (Kd.int k) W A n xs) (hn : 0 < n) : ∃ ad, A = some ad ∧ ∀ j, j < n → W.cell? (ad.add j) = some (.int k (xs.getD j 0)) := by
  obtain ⟨ad, e, c⟩ := Kd.at_int h 0 (by decide) (by omega)
  refine ⟨ad, e, fun j hj => ?_⟩
  obtain ⟨ad2, e2, c2⟩ := Kd.at_int h (j : Int) (by omega) (by omega)
  obtain rfl : ad = ad2 := Option.some.inj (e.symm.trans e2)
  simpa [rd] using c2
structure Sk (w W : World) (n gw : Nat) (lw : List Int) : Prop where
  hw : Au W gw lw
  mine : n ≤ gw
  lt : gw < W.heap.size
  below : Below n w W
theorem Sk.drew {w W : World} {n gw : Nat} {lw : List Int} (h : Sk w W n gw lw) : Sk w W.drew n gw lw := ⟨h.hw.drew, h.mine, h.lt, below_drew_h h.below⟩
theorem Sk.word {w W : World} {n gw : Nat} {lw : List Int} (h : Sk w W n gw lw) (j : Nat) (hj : j < lw.length) (x : Int) : Sk w (W.setCell ⟨gw, j, none⟩ (.int .u32 x)) n gw (lw.set j x) :=
  ⟨h.hw.set j hj x, h.mine, by simpa [World.setCell] using h.lt, below_set_h h.below h.mine⟩
structure Sv (w W : World) (n gw gv : Nat) (lw la : List Int) : Prop where
  hw : Au W gw lw
  ha : Au W gv la
  mw : n ≤ gw
  mv : n ≤ gv
  tw : gw < W.heap.size
  tv : gv < W.heap.size
  below : Below n w W
theorem Sv.drew {w W : World} {n gw gv : Nat} {lw la : List Int} (h : Sv w W n gw gv lw la) : Sv w W.drew n gw gv lw la := ⟨h.hw.drew, h.ha.drew, h.mw, h.mv, h.tw, h.tv, below_drew_h h.below⟩
theorem Sv.lit {w W : World} {n gw gv : Nat} {lw la : List Int} (h : Sv w W n gw gv lw la) (l : List Int) (t : Nat) : Sv w (W.alloc (.cells (l.map (Value.int .u32)).toArray t)) n gw W.heap.size lw l := by
  have h1 := h.tw
  have h2 := h.mw
  have hs := alloc_sz W (.cells (l.map (Value.int .u32)).toArray t)
  have e : ∀ k, k < W.heap.size → (W.alloc (.cells (l.map (Value.int .u32)).toArray t)).heap[k]? = W.heap[k]? := fun k hk => by rw [alloc_at, if_neg (by omega)]
  refine ⟨h.hw.at (e _ h.tw), Au.of_row (e := t) _ ?_, h.mw, by omega, by omega, by omega, ⟨h.below.os, h.below.tape, h.below.output, by have := h.below.size; omega, fun k hk => (e k (by omega)).trans (h.below.block k hk)⟩⟩
  rw [alloc_at, if_pos rfl]
/-- The copy of the eight words. -/
theorem append8 {P : Program} {ops : Array Oper} {rest : List Oper} {o : Oper} {a : Act} {Q : Exit → Act → World → Prop} {w W : World} {n gw g g0 c0 : Nat} {lw l0 : List Int} (t e : TypeId) (hgd : o.guard = none) (s x : Operand)
    (ho : o.op = .call { callee := .builtin .append, args := #[s, x], argTypes := #[t, t] }) (ht : P.underlying t = some (.slice e)) (hinfo : (P.info? e).map (fun i => (i.zero, i.size, i.bytes)) = some (some (.int .u32 0), 1, 4))
    (hs : a.eval s = .slice (some ⟨g, 0, none⟩) 0 0) (hx : a.eval x = .slice (some ⟨g0, 0, none⟩) 8 c0) (hl0 : l0.length = 8) (hc : Au W g0 l0) (F : Sk w W n gw lw)
    (h : ∀ gv cv w1, Sv w w1 n gw gv lw l0 → wpList P ops Q rest (a.put o.dst (.slice (some ⟨gv, 0, none⟩) 8 cv)) w1) : wpList P ops Q (o :: rest) a W := by
  obtain ⟨i, hi, hzz⟩ := Option.map_eq_some_iff.1 hinfo
  simp only [Prod.mk.injEq] at hzz
  obtain ⟨hz, hs1, hb1⟩ := hzz
  have hnl : (l0.map (Value.int .u32)).length = 8 := by simp [hl0]
  have h48' : ¬ (281474976710656 < Builtin.nextslicecap 8 0 * i.bytes) := by rw [hb1]; decide
  have hf0 := run_firstCells_some (P := P) W.drew 1 0 ⟨g, 0, none⟩ 0 0 [] rfl (fun j v hj => by simp at hj)
  have hf8 := run_firstCells_some (P := P) W.drew 1 8 ⟨g0, 0, none⟩ 8 c0 (l0.map (Value.int .u32)) (by simp [hl0]) (fun j v hj => by
    rw [add_plain]
    have hjl : j < l0.length := by
      have := (List.getElem?_eq_some_iff.1 hj).1
      omega
    have := hc.cell j hjl
    simp only [List.getElem?_map, List.getElem?_eq_getElem hjl, Option.map_some, Option.some.injEq] at hj
    subst hj
    simpa [List.getD, hjl] using this)
  have hzc : (Value.int .u32 0).cells = #[.int .u32 0] := rfl
  have hr : (Builtin.append_ #[t, t] o.type #[.slice (some ⟨g, 0, none⟩) 0 0, .slice (some ⟨g0, 0, none⟩) 8 c0]).run P W = .ok (.slice (some ⟨W.heap.size, 0, none⟩) 8 (grownCap W 8 0 e))
      (W.drew.alloc (.cells ((l0.map (Value.int .u32)).toArray ++ Builtin.zeroCells #[.int .u32 0] (grownCap W 8 0 e - 8)) e)) := by
    rw [← hs1] at hf0 hf8
    simp [Builtin.append_, run_underlying ht, sizeOf, typeInfo, zeroValue, hi, hz, Builtin.lenOf, h48', Question.forced, hf0, hf8, newRow, grownCap, hzc]
  refine wpList_plain hgd fun K hK => ?_
  unfold Oper.wp execOp
  simp only [ho, resolve, invoke, builtin, Sem.run_bind, Sem.run_pure, Result.andThen_ok, List.map_toArray, List.map_cons, List.map_nil, hs, hx, hr]
  refine hK _ _ (h _ _ _ ?_)
  have h1 := F.lt
  have h2 := F.mine
  have hsz : (W.drew.alloc (.cells ((l0.map (Value.int .u32)).toArray ++ Builtin.zeroCells #[.int .u32 0] (grownCap W 8 0 e - 8)) e)).heap.size = W.heap.size + 1 := alloc_sz _ _
  have e2 : ∀ k, k < W.heap.size → (W.drew.alloc (.cells ((l0.map (Value.int .u32)).toArray ++ Builtin.zeroCells #[.int .u32 0] (grownCap W 8 0 e - 8)) e)).heap[k]? = W.heap[k]? := fun k hk => by
    rw [alloc_at, if_neg (by show ¬ k = W.heap.size; omega)]
    rfl
  have e3 : (W.drew.alloc (.cells ((l0.map (Value.int .u32)).toArray ++ Builtin.zeroCells #[.int .u32 0] (grownCap W 8 0 e - 8)) e)).heap[W.heap.size]? = some (.cells ((l0.map (Value.int .u32)).toArray ++ Builtin.zeroCells #[.int .u32 0] (grownCap W 8 0 e - 8)) e) := by
    rw [alloc_at, if_pos (by rfl)]
  refine ⟨F.hw.at (e2 _ F.lt), ⟨fun j hj => ?_, fun j hj => ?_⟩, F.mine, by omega, by omega, by omega, ⟨F.below.os, F.below.tape, F.below.output, by rw [hsz]; have := F.below.size; omega, fun k hk => (e2 k (by omega)).trans (F.below.block k hk)⟩⟩
  · unfold World.cell?
    rw [e3]
    have hj2 : j < (l0.map (Value.int .u32)).toArray.size := by simpa using hj
    simp only [Option.isSome_none, Bool.false_eq_true, if_false]
    rw [Array.getElem?_append_left hj2]
    simp [List.getD, hj]
  · unfold World.frozen?
    rw [e3]
    simp
/-- The last loop: the state that came in is written. -/
structure St (w0 w W : World) (S : Nat → Prop) (g0 c0 gv : Nat) (lh la : List Int) : Prop where
  hr : Kd.R (Kd.int .u32) 174 W w0.heap.size S (.slice (some ⟨g0, 0, none⟩) 8 c0) lh
  ha : Au W gv la
  ne : gv ≠ g0
  below : Below w0.heap.size w0 W
  kept : Kept w W S
theorem St.drew {w0 w W : World} {S : Nat → Prop} {g0 c0 gv : Nat} {lh la : List Int} (h : St w0 w W S g0 c0 gv lh la) : St w0 w W.drew S g0 c0 gv lh la :=
  ⟨Kd.R_drew h.hr, h.ha.drew, h.ne, below_drew_h h.below, h.kept.drew⟩
theorem St.set {w0 w W : World} {S : Nat → Prop} {g0 c0 gv : Nat} {lh la : List Int} (h : St w0 w W S g0 c0 gv lh la) (j : Nat) (x : Int) : St w0 w (W.setCell ⟨g0, j, none⟩ (.int .u32 x)) S g0 c0 gv (lh.set j x) la := by
  have hp := Kd.R_putn h.hr (j : Int) x
  rw [Int.toNat_natCast] at hp
  exact ⟨hp, h.ha.far h.ne j _, h.ne, below_set_h h.below (Kd.R_base h.hr _ rfl), h.kept.setCell (p := ⟨g0, j, none⟩) (.inl (h.hr.1 _ rfl)) _⟩
set_option maxHeartbeats 4000000 in
set_option maxRecDepth 100000 in
theorem sblock_walk (S : Nat → Prop) (g0 c0 : Nat) (l0 l1 l2 r : List Int) (ad1 ad2 : Addr) (c1 c2 : Nat) (w0 w : World) (hB : Below w0.heap.size w0 w) (ho0 : Kd.R (Kd.int .u32) 174 w w0.heap.size S (.slice (some ⟨g0, 0, none⟩) 8 c0) l0)
    (hr1 : ∀ W, Kept w W S → ∀ j, j < 64 → W.cell? (ad1.add j) = some (.int .u8 (l1.getD j 0))) (hr2 : ∀ W, Kept w W S → ∀ j, j < 64 → W.cell? (ad2.add j) = some (.int .u32 (l2.getD j 0)))
    (h0 : l0.length = 8) (h1 : l1.length = 64) (h2 : l2.length = 64) (hc1 : 64 ≤ c1) (hc2 : 64 ≤ c2) (H : spec_l01Block.v l0 l1 l2 = some r) :
    Calls Tryd.prog 154 #[.slice (some ⟨g0, 0, none⟩) 8 c0, .slice (some ad1) 64 c1, .slice (some ad2) 64 c2] w fun e w' => e = .returned (.tuple #[]) ∧ Kd.R (Kd.int .u32) 174 w' w0.heap.size S (.slice (some ⟨g0, 0, none⟩) 8 c0) r ∧ Below w0.heap.size w0 w' ∧ Kept w w' S := by
  have H0 := Aside0.mk (start0 _ _ _ _ H)
  have HR1 := Aside0.mk hr1
  have HR2 := Aside0.mk hr2
  have HO := Aside0.mk ho0
  have HB := Aside0.mk hB
  have HL := Aside0.mk (And.intro h0 (And.intro h1 h2))
  clear H hr1 hr2 ho0 hB h0 h1 h2
  go_enter Tryd.func154, Tryd.ntmps154
  go_wp2_with (first | ((with_reducible refine gate_dst (N := 18) rfl ?_); refine Kd.R_make (Kd.int .u32) _ 174 rfl (N := 18) rfl 175 _ _ rfl 64 rfl rfl Tryd.underlying175 (.int .u32 0) 4 info174 rfl (by decide) (by omega) 0 (ok := fun _ => True) (okp := fun _ => True) rfl (fun _ hk => hk) trivial (by omega) (by omega) (Below.refl _ _) (Nat.le_refl _) ?_; intro v1 w1 ho hb hg_ hnew_; clear hg_ hnew_; simp only [Int.reduceToNat] at ho; obtain ⟨gw, cw, rfl, hbase, hlt, -⟩ := Kd.R_form ho (by simp); rw [List.length_replicate] at ho ⊢; have hcw := (Kd.R_reads' ho).2.1; have F := Aside0.mk (Sk.mk (Au.of_R ho) hbase hlt hb); clear ho hb hbase hlt))
  obtain ⟨hl0, hl1, hl2⟩ := HL.out
  go_loopg [7] 16 (fun gg v7 wr => ∃ (i : Nat) (ws : List Int), i ≤ 16 ∧ gg + i = 16 ∧ v7 = .int .i64 (i : Int) ∧ ws.length = 64 ∧ Aside0 (spec_l01Block.lv0 l0 l1 l2 ws (i : Int) = some r) ∧ Aside0 (Sk w wr w.heap.size gw ws))
  case atStart => exact ⟨0, _, by omega, rfl, rfl, List.length_replicate, H0, F⟩
  case round =>
    clear F H0
    obtain ⟨i, ws, hi, hg, rfl, hws, H0, F⟩ := hrel
    by_cases hlt : i < 16
    · have c1 : ((i : Int) < 16) := by omega
      have hk := Kept.of_below F.out.below S
      obtain ⟨q0, hq0⟩ : ∃ q, q = 4 * i := ⟨_, rfl⟩
      obtain ⟨q1, hq1⟩ : ∃ q, q = 4 * i + 1 := ⟨_, rfl⟩
      obtain ⟨q2, hq2⟩ : ∃ q, q = 4 * i + 2 := ⟨_, rfl⟩
      obtain ⟨q3, hq3⟩ : ∃ q, q = 4 * i + 3 := ⟨_, rfl⟩
      have w0 : IntKind.i64.wrap (4 * (i : Int)) = (q0 : Int) := (w64id _ (by omega) (by omega)).trans (by omega)
      have w1 : IntKind.i64.wrap ((q0 : Int) + 1) = (q1 : Int) := by clear w0; exact (w64id _ (by omega) (by omega)).trans (by omega)
      have w2 : IntKind.i64.wrap ((q0 : Int) + 2) = (q2 : Int) := by clear w0 w1; exact (w64id _ (by omega) (by omega)).trans (by omega)
      have w3 : IntKind.i64.wrap ((q0 : Int) + 3) = (q3 : Int) := by clear w0 w1 w2; exact (w64id _ (by omega) (by omega)).trans (by omega)
      have b0 := HR1.out wr hk q0 (by clear w0 w1 w2 w3; omega)
      have b1 := HR1.out wr hk q1 (by clear w0 w1 w2 w3; omega)
      have b2 := HR1.out wr hk q2 (by clear w0 w1 w2 w3; omega)
      have b3 := HR1.out wr hk q3 (by clear w0 w1 w2 w3; omega)
      have e0 : (q0 : Int) < 64 := by clear w0 w1 w2 w3; omega
      have e1 : (q1 : Int) < 64 := by clear w0 w1 w2 w3; omega
      have e2 : (q2 : Int) < 64 := by clear w0 w1 w2 w3; omega
      have e3 : (q3 : Int) < 64 := by clear w0 w1 w2 w3; omega
      have ei : (i : Int) < 64 := by clear w0 w1 w2 w3; omega
      have g4 : i < ws.length := by clear w0 w1 w2 w3; omega
      have z0 := F.out.hw.cell i g4
      have z1 := F.out.hw.free i g4
      have H1 := Aside0.mk (step0 _ _ _ _ _ _ hl1 hws hlt H0.out)
      rw [← hq1, ← hq2, ← hq3, ← hq0] at H1
      generalize hx0 : l1.getD q0 0 = x0 at b0 H1
      generalize hx1 : l1.getD q1 0 = x1 at b1 H1
      generalize hx2 : l1.getD q2 0 = x2 at b2 H1
      generalize hx3 : l1.getD q3 0 = x3 at b3 H1
      generalize ws.getD i 0 = xi at z0
      clear hq0 hq1 hq2 hq3 hx0 hx1 hx2 hx3 hk H0
      go_wp2
      go_still_tail 36, (by kernel_rfl)
      change wpList _ _ _ _ _ wr.drew
      have z2 : wr.drew.cell? ⟨gw, i, none⟩ = some (.int .u32 xi) := z0
      have z3 : wr.drew.frozen? ⟨gw, i, none⟩ = false := z1
      have F2 := Aside0.mk (F.out.drew.word i g4 (word4 x0 x1 x2 x3))
      generalize wr.drew = w4 at z2 z3 F2 ⊢
      clear z0 z1 b0 b1 b2 b3 F
      go_wp2
      go_roundg (16 - (i + 1))
      case measure => omega
      case rel => exact ⟨i + 1, _, by omega, by omega, by go_num, by rw [List.length_set]; exact hws, H1, F2⟩
    · have hlt2 : ¬ ((i : Int) < 16) := by omega
      have H1 := Aside0.mk (exit0 _ _ _ _ _ _ hlt2 H0.out)
      clear H0
      go_wp2
      go_loopg [8] 48 (fun gg v8 wr => ∃ (i : Nat) (ws : List Int), i ≤ 64 ∧ 16 ≤ i ∧ gg + i = 64 ∧ v8 = .int .i64 (i : Int) ∧ ws.length = 64 ∧ Aside0 (spec_l01Block.lv1 l0 l2 ws (i : Int) = some r) ∧ Aside0 (Sk w wr w.heap.size gw ws))
      case atStart => exact ⟨16, ws, by omega, by omega, rfl, rfl, hws, H1, F⟩
      case round =>
        clear F H1 hlt2 hlt hi hws
        obtain ⟨i, ws, hi, h16, hg, rfl, hws, H0, F⟩ := hrel
        by_cases hlt : i < 64
        · have c1 : ((i : Int) < 64) := by omega
          obtain ⟨q0, hq0⟩ : ∃ q, q = i - 16 := ⟨_, rfl⟩
          obtain ⟨q1, hq1⟩ : ∃ q, q = i - 15 := ⟨_, rfl⟩
          obtain ⟨q2, hq2⟩ : ∃ q, q = i - 7 := ⟨_, rfl⟩
          obtain ⟨q3, hq3⟩ : ∃ q, q = i - 2 := ⟨_, rfl⟩
          have w0 : IntKind.i64.wrap ((i : Int) - 16) = (q0 : Int) := (w64id _ (by omega) (by omega)).trans (by omega)
          have w1 : IntKind.i64.wrap ((i : Int) - 15) = (q1 : Int) := by clear w0; exact (w64id _ (by omega) (by omega)).trans (by omega)
          have w2 : IntKind.i64.wrap ((i : Int) - 7) = (q2 : Int) := by clear w0 w1; exact (w64id _ (by omega) (by omega)).trans (by omega)
          have w3 : IntKind.i64.wrap ((i : Int) - 2) = (q3 : Int) := by clear w0 w1 w2; exact (w64id _ (by omega) (by omega)).trans (by omega)
          have g0 : q0 < ws.length := by clear w0 w1 w2 w3; omega
          have g1 : q1 < ws.length := by clear w0 w1 w2 w3; omega
          have g2 : q2 < ws.length := by clear w0 w1 w2 w3; omega
          have g3 : q3 < ws.length := by clear w0 w1 w2 w3; omega
          have g4 : i < ws.length := by clear w0 w1 w2 w3; omega
          have b0 := F.out.hw.cell q0 g0
          have b1 := F.out.hw.cell q1 g1
          have b2 := F.out.hw.cell q2 g2
          have b3 := F.out.hw.cell q3 g3
          have e0 : (q0 : Int) < 64 := by clear w0 w1 w2 w3; omega
          have e1 : (q1 : Int) < 64 := by clear w0 w1 w2 w3; omega
          have e2 : (q2 : Int) < 64 := by clear w0 w1 w2 w3; omega
          have e3 : (q3 : Int) < 64 := by clear w0 w1 w2 w3; omega
          have z0 := F.out.hw.cell i g4
          have z1 := F.out.hw.free i g4
          have H1 := Aside0.mk (step1 _ _ _ _ _ hws h16 hlt H0.out)
          rw [← hq0, ← hq1, ← hq2, ← hq3] at H1
          generalize hx0 : ws.getD q0 0 = x0 at b0 H1
          generalize hx1 : ws.getD q1 0 = x1 at b1 H1
          generalize hx2 : ws.getD q2 0 = x2 at b2 H1
          generalize hx3 : ws.getD q3 0 = x3 at b3 H1
          generalize ws.getD i 0 = xi at z0
          clear hq0 hq1 hq2 hq3 hx0 hx1 hx2 hx3 g0 g1 g2 g3 H0
          go_wp2
          refine wp_region_still_tail 32 (by kernel_rfl) (by kernel_rfl) ?_
          simp only [List.take_succ_cons, List.take_zero, List.drop_succ_cons, List.drop_zero]
          repeat still_step
          still_call (stn7 _ _)
          repeat still_step
          still_call (stn18 _ _)
          repeat still_step
          still_call (stn17 _ _)
          repeat still_step
          still_call (stn19 _ _)
          repeat still_step
          refine wpStill_nil ?_
          change wpList _ _ _ _ _ wr.drew
          have z2 : wr.drew.cell? ⟨gw, i, none⟩ = some (.int .u32 xi) := z0
          have z3 : wr.drew.frozen? ⟨gw, i, none⟩ = false := z1
          have F2 := Aside0.mk (F.out.drew.word i g4 (wordX x0 (sig x1 7 18 (x1 / 8)) x2 (sig x3 17 19 (x3 / 1024))))
          generalize wr.drew = w4 at z2 z3 F2 ⊢
          clear z0 z1 b0 b1 b2 b3 F w0 w1 w2 w3
          go_wp2
          go_roundg (64 - (i + 1))
          case measure => omega
          case rel => exact ⟨i + 1, _, by omega, by omega, by omega, by go_num, by rw [List.length_set]; exact hws, H1, F2⟩
        · have hlt2 : ¬ ((i : Int) < 64) := by omega
          have H1 := Aside0.mk (exit1 _ _ _ _ hl0 _ hlt2 H0.out)
          clear H0
          have hA0 : Aside0 (Au w g0 l0) := Aside0.mk (Au.of_R HO.out)
          have hg0 := Kd.R_lt HO.out g0 rfl
          have HG := Aside0.mk hg0
          clear hg0
          go_wp2_with (first | ((with_reducible refine gate_builtin (b := .append) (xs := #[.tmp 105, .tmp 106]) rfl ?_); at_builtin; refine append8 (l0 := l0) 175 174 rfl (.tmp 105) (.tmp 106) rfl Tryd.underlying175 info174 (by rfl) (by rfl) hl0 ((hA0.out.at (F.out.below.block g0 HG.out)).at (by first | rfl | (rw [alloc_at, if_neg (by have := HG.out; have := F.out.below.size; omega)]))) (w := w) (n := w.heap.size) (gw := gw) (lw := ws) (by first | exact F.out | exact ⟨F.out.hw.at (by rw [alloc_at, if_neg (by have := F.out.lt; omega)]), F.out.mine, by rw [alloc_sz]; have := F.out.lt; omega, ⟨F.out.below.os, F.out.below.tape, F.out.below.output, by rw [alloc_sz]; have := F.out.below.size; omega, fun k hk => by rw [alloc_at, if_neg (by have := F.out.below.size; omega)]; exact F.out.below.block k hk⟩⟩) ?_; clear F; intro gv cv w6 F0; have F := Aside0.mk F0; clear F0))
          obtain ⟨h0, h1, h2, h3, h4, h5, h6, h7, rfl⟩ := eight hl0
          go_loopg [11, 12] 64 (fun gg v11 v12 wr => ∃ (i gv cv : Nat) (a0 a1 a2 a3 a4 a5 a6 a7 : Int), i ≤ 64 ∧ gg + i = 64 ∧ v11 = .slice (some ⟨gv, 0, none⟩) 8 cv ∧ v12 = .int .i64 (i : Int) ∧ Aside0 (spec_l01Block.lv2 [h0, h1, h2, h3, h4, h5, h6, h7] l2 ws [a0, a1, a2, a3, a4, a5, a6, a7] (i : Int) = some r) ∧ Aside0 (Sv w wr w.heap.size gw gv ws [a0, a1, a2, a3, a4, a5, a6, a7]))
          case atStart => exact ⟨0, gv, cv, h0, h1, h2, h3, h4, h5, h6, h7, by omega, rfl, rfl, rfl, H1, F⟩
          case round =>
            clear F H1 hlt2 hlt hi h16
            obtain ⟨i, gv, cv, a0, a1, a2, a3, a4, a5, a6, a7, hi, hg, rfl, rfl, H0, F⟩ := hrel
            by_cases hlt : i < 64
            · have c1 : ((i : Int) < 64) := by omega
              have hk := Kept.of_below F.out.below S
              obtain ⟨⟨c0_, d1, d2, d3, d4, d5, d6, d7⟩, -⟩ := F.out.ha.eight
              have bk := HR2.out wr hk i hlt
              have bw := F.out.hw.cell i (by omega)
              clear hk
              obtain ⟨xk, hxk⟩ : ∃ x, l2.getD i 0 = x := ⟨_, rfl⟩
              obtain ⟨xw, hxw⟩ : ∃ x, ws.getD i 0 = x := ⟨_, rfl⟩
              rw [hxk] at bk
              rw [hxw] at bw
              have HX := Aside0.mk (And.intro hxk hxw)
              clear hxk hxw
              go_wp2
              refine wp_region_still_lit (by kernel_rfl) (by kernel_rfl) ?_
              repeat still_step
              still_call (stn6 _ _)
              repeat still_step
              still_call (stn11 _ _)
              repeat still_step
              still_call (stn25 _ _)
              repeat still_step
              refine wpStill_nil ?_
              have F3 := Aside0.mk F.out.drew
              have c0d : wr.drew.cell? _ = _ := c0_
              have d1_ : wr.drew.cell? _ = _ := d1
              have d2_ : wr.drew.cell? _ = _ := d2
              have d3_ : wr.drew.cell? _ = _ := d3
              have d4_ : wr.drew.cell? _ = _ := d4
              have d5_ : wr.drew.cell? _ = _ := d5
              have d6_ : wr.drew.cell? _ = _ := d6
              have d7_ : wr.drew.cell? _ = _ := d7
              clear c0_ d1 d2 d3 d4 d5 d6 d7 bk bw F
              generalize hxp : IntKind.u32.wrap (IntKind.u32.wrap (_ + xk) + xw) = xp
              have hp : pX a7 a4 a5 a6 xk xw = xp := hxp
              have HP := Aside0.mk ((pX_eq _ _ _ _ _ _).symm.trans hp)
              clear hxp hp
              rw [show ({ heap := wr.heap, tape := wr.tape, drawn := wr.drawn + 1, os := wr.os, output := wr.output } : World) = wr.drew from rfl]
              generalize wr.drew = w6 at c0d d1_ d2_ d3_ d4_ d5_ d6_ d7_ F3 ⊢
              go_wp2
              refine wp_region_still_lit (by kernel_rfl) (by kernel_rfl) ?_
              repeat still_step
              still_call (stn2 _ _)
              repeat still_step
              still_call (stn13 _ _)
              repeat still_step
              still_call (stn22 _ _)
              repeat still_step
              refine wpStill_nil ?_
              obtain ⟨⟨c0_, d1, d2, d3, d4, d5, d6, d7⟩, -⟩ := F3.out.drew.ha.eight
              have F4 := Aside0.mk F3.out.drew
              clear c0d d1_ d2_ d3_ d4_ d5_ d6_ d7_ F3
              generalize hxq : IntKind.u32.wrap (_ + Go.bits .xor .u32 _ (Go.bits .and .u32 a1 a2)) = xq
              have hq : qW a0 a1 a2 = xq := hxq
              have HQ := Aside0.mk hq
              clear hxq hq
              rw [show ({ heap := w6.heap, tape := w6.tape, drawn := w6.drawn + 1, os := w6.os, output := w6.output } : World) = w6.drew from rfl]
              generalize w6.drew = w7 at c0_ d1 d2 d3 d4 d5 d6 d7 F4 ⊢
              have H1 := Aside0.mk (step2w _ _ _ _ _ _ _ _ _ _ _ _ _ hws hl2 hlt xk xw xp xq HX.out.1 HX.out.2 HP.out HQ.out H0.out)
              clear H0
              go_wp2
              refine wp_region_still_tail 26 (by kernel_rfl) (by kernel_rfl) ?_
              simp only [List.take_succ_cons, List.take_zero, List.drop_succ_cons, List.drop_zero]
              repeat still_step
              refine wpStill_nil ?_
              change wpList _ _ _ _ _ w7.drew
              have F5 := Aside0.mk F4.out.drew
              clear c0_ d1 d2 d3 d4 d5 d6 d7 F4
              generalize w7.drew = w8 at F5 ⊢
              go_wp2
              go_roundg (64 - (i + 1))
              case measure => omega
              case rel => exact ⟨i + 1, w8.heap.size, 8, (xp + xq) % 4294967296, a0, a1, a2, (a3 + xp) % 4294967296, a4, a5, a6, by omega, by omega, rfl, by go_num, H1, ⟨F5.out.lit [(xp + xq) % 4294967296, a0, a1, a2, (a3 + xp) % 4294967296, a4, a5, a6] 174⟩⟩
            · have hlt2 : ¬ ((i : Int) < 64) := by omega
              have H1 := Aside0.mk (exit2 _ _ _ _ _ _ hlt2 H0.out)
              clear H0
              have F2 : Aside0 (St w0 w wr S g0 c0 gv [h0, h1, h2, h3, h4, h5, h6, h7] [a0, a1, a2, a3, a4, a5, a6, a7]) := Aside0.mk ⟨Kd.R_below HO.out F.out.below, F.out.ha, by have := F.out.mv; have := HG.out; omega, HB.out.trans (F.out.below.mono HB.out.size), Kept.of_below F.out.below S⟩
              clear F
              go_wp2
              go_loopg [17] 8 (fun gg v17 wr => ∃ (i : Nat) (lh : List Int), i ≤ 8 ∧ gg + i = 8 ∧ v17 = .int .i64 (i : Int) ∧ lh.length = 8 ∧ Aside0 (spec_l01Block.lv3 lh [a0, a1, a2, a3, a4, a5, a6, a7] (i : Int) = some r) ∧ Aside0 (St w0 w wr S g0 c0 gv lh [a0, a1, a2, a3, a4, a5, a6, a7]))
              case atStart => exact ⟨0, _, by omega, rfl, rfl, rfl, H1, F2⟩
              case round =>
                clear F2 H1 hlt2 hlt hi
                obtain ⟨i, lh, hi, hg, rfl, hlh, H0, F⟩ := hrel
                by_cases hlt : i < 8
                · have c1 : ((i : Int) < 8) := by omega
                  have H1 := Aside0.mk (step3 _ _ _ _ hlh rfl hlt H0.out)
                  obtain ⟨b0, z1⟩ := Kd.R_celln 0 F.out.hr (i : Int) (by omega) (by omega)
                  have b1 := F.out.ha.cell i (by simpa using hlt)
                  rw [Int.toNat_natCast] at b0 z1
                  have b0' : wr.cell? ⟨g0, i, none⟩ = some (.int .u32 (lh.getD i 0)) := by simpa [rdOf] using b0
                  clear H0 b0
                  obtain ⟨x0, hx0⟩ : ∃ x, lh.getD i 0 = x := ⟨_, rfl⟩
                  obtain ⟨x1, hx1⟩ : ∃ x, ([a0, a1, a2, a3, a4, a5, a6, a7] : List Int).getD i 0 = x := ⟨_, rfl⟩
                  rw [hx0] at b0' H1
                  rw [hx1] at b1 H1
                  rw [u32w_h] at H1
                  clear hx0 hx1
                  go_wp2
                  refine wp_region_still_tail 10 (by kernel_rfl) (by kernel_rfl) ?_
                  simp only [List.take_succ_cons, List.take_zero, List.drop_succ_cons, List.drop_zero]
                  repeat still_step
                  refine wpStill_nil ?_
                  change wpList _ _ _ _ _ wr.drew
                  have z2 : wr.drew.cell? ⟨g0, i, none⟩ = some (.int .u32 x0) := b0'
                  have z3 : wr.drew.frozen? ⟨g0, i, none⟩ = false := z1
                  have F2 := Aside0.mk (F.out.drew.set i ((x0 + x1) % 4294967296))
                  generalize wr.drew = w4 at z2 z3 F2 ⊢
                  clear z1 b0' b1 F
                  go_wp2
                  go_roundg (8 - (i + 1))
                  case measure => omega
                  case rel => exact ⟨i + 1, _, by omega, by omega, by go_num, by rw [List.length_set]; exact hlh, H1, F2⟩
                · have hlt2 : ¬ ((i : Int) < 8) := by omega
                  have e := exit3 _ _ _ _ hlt2 H0.out
                  subst e
                  clear H0
                  go_wp2
                  first | go_end0 | ((try simp only [Exit.inBlock, Exit.then]); refine bodyPost_ret (results_none rfl _ _ _) rfl ?_)
                  exact ⟨rfl, F.out.hr, F.out.below, F.out.kept⟩
end Go.Proofs.YtlifdodphkimpaaDoor.B
end

section
namespace Go.Proofs.YtlifdodphkimpaaDoor.B
open Go.RowKit Go.Proofs.YtlifdodphkimpaaDoorW.PrintWords Go.Proofs.YtlifdodphkimpaaDoorW.PrintLast Go.Proofs.YtlifdodphkimpaaDoorW.PrintMore
attribute [local go_sem] max2_int min2_int max_two min_two max_three min_three max_four min_four
theorem spec_l01Block.calls (k : Nat) (P0_ : Nat → Prop) (u9000_ : Value) (l0 : List Int) (A1 : Option Addr) (c1 : Nat) (l1 : List Int) (A2 : Option Addr) (c2 : Nat) (l2 : List Int) (r : List Int) (w0 w : World) (hB : Below w0.heap.size w0 w) (ho0 : Kd.R (Kd.int .u32) 174 w w0.heap.size P0_ u9000_ l0) (hr1 : ∀ W_,Kept w W_ (fun k_ => P0_ k_) → Kd.C (Kd.int .u8) W_ A1 l1.length l1) (hc1 : l1.length ≤ c1) (hr2 : ∀ W_,Kept w W_ (fun k_ => P0_ k_) → Kd.C (Kd.int .u32) W_ A2 l2.length l2) (hc2 : l2.length ≤ c2) (h : spec_l01Block.f k l0 l1 l2 = some r) :
  Calls Tryd.prog 154 #[u9000_,.slice A1 l1.length c1,.slice A2 l2.length c2] w fun e w' => e = .returned (.tuple #[]) ∧ Kd.R (Kd.int .u32) 174 w' w0.heap.size (fun k_ => (P0_ k_ ∨ w.heap.size ≤ k_)) u9000_ r ∧ Below w0.heap.size w0 w' ∧ Kept w w' (fun k_ => P0_ k_) := by
 unfold spec_l01Block.f at h
 by_cases c : l0.length = 8 ∧ l1.length = 64 ∧ l2.length = 64
 ·have hv : spec_l01Block.v l0 l1 l2 = some r := (spec_l01Block.v_lim l0 l1 l2).up k r h
  obtain ⟨h0,h1,h2⟩ := c
  obtain ⟨g0,c0,rfl,-,-,-⟩ := Kd.R_form ho0 (by omega)
  obtain ⟨ad1,rfl,-⟩ := C_cells (hr1 w (Kept.refl w _)) (by omega)
  obtain ⟨ad2,rfl,-⟩ := C_cells (hr2 w (Kept.refl w _)) (by omega)
  have k1 : ∀ W,Kept w W P0_ → ∀ j,j < 64 → W.cell? (ad1.add j) = some (.int .u8 (l1.getD j 0)) := fun W hk j hj => by
   obtain ⟨ad,e,hc⟩ := C_cells (hr1 W hk) (by omega)
   injection e with e
   subst e
   exact hc j (by omega)
  have k2 : ∀ W,Kept w W P0_ → ∀ j,j < 64 → W.cell? (ad2.add j) = some (.int .u32 (l2.getD j 0)) := fun W hk j hj => by
   obtain ⟨ad,e,hc⟩ := C_cells (hr2 W hk) (by omega)
   injection e with e
   subst e
   exact hc j (by omega)
  rw [h0] at ho0 ⊢
  rw [h1] at hc1 ⊢
  rw [h2] at hc2 ⊢
  exact (sblock_walk P0_ g0 c0 l0 l1 l2 r ad1 ad2 c1 c2 w0 w hB ho0 k1 k2 h0 h1 h2 hc1 hc2 hv).mono fun e w' ⟨he,hr,hb,hk⟩ => ⟨he,Kd.R_mono hr (fun k_ hk_ => .inl hk_),hb,hk⟩
 ·rw [if_neg c] at h
  cases h
set_option maxHeartbeats 8000000 in
set_option maxRecDepth 100000 in
theorem spec_l01Consts.calls  (r : List Int) (w : World) (h : spec_l01Consts.f  = some r) :
  Calls Tryd.prog 153 #[] w fun e w' => ∃ v0_ : Value,e = .returned (v0_) ∧ Kd.R (Kd.int .u32) 174 w' w.heap.size (fun _ => True) v0_ r ∧ Below w.heap.size w w' := by
 have HB := am_ (Below.refl w.heap.size w)
 have H : (some (([1116352408,1899447441,3049323471,3921009573,961987163,1508970993,2453635748,2870763221,3624381080,310598401,607225278,1426881987,1925078388,2162078206,2614888103,3248222580,3835390401,4022224774,264347078,604807628,770255983,1249150122,1555081692,1996064986,2554220882,2821834349,2952996808,3210313671,3336571891,3584528711,113926993,338241895,666307205,773529912,1294757372,1396182291,1695183700,1986661051,2177026350,2456956037,2730485921,2820302411,3259730800,3345764771,3516065817,3600352804,4094571909,275423344,430227734,506948616,659060556,883997877,958139571,1322822218,1537002063,1747873779,1955562222,2024104815,2227730452,2361852424,2428436474,2756734187,3204031479,3329325298] : List Int))) = some r := h
 clear h
 obtain ⟨y129,hy129⟩ : ∃ y_ : List Int,y_ = (([1116352408,1899447441,3049323471,3921009573,961987163,1508970993,2453635748,2870763221,3624381080,310598401,607225278,1426881987,1925078388,2162078206,2614888103,3248222580,3835390401,4022224774,264347078,604807628,770255983,1249150122,1555081692,1996064986,2554220882,2821834349,2952996808,3210313671,3336571891,3584528711,113926993,338241895,666307205,773529912,1294757372,1396182291,1695183700,1986661051,2177026350,2456956037,2730485921,2820302411,3259730800,3345764771,3516065817,3600352804,4094571909,275423344,430227734,506948616,659060556,883997877,958139571,1322822218,1537002063,1747873779,1955562222,2024104815,2227730452,2361852424,2428436474,2756734187,3204031479,3329325298] : List Int)) := ⟨_,rfl⟩
 replace H : (some y129) = some r := by first | (rw [hy129];with_reducible exact H) | (have H2_ := (Option.bind_some _ _).symm.trans H;rw [hy129];with_reducible exact H2_) | (have H2_ := (Option.bind_some _ _).symm.trans H;with_reducible exact H2_) | with_reducible exact H | (rw [hy129];exact H) | exact H
 have Ny129 := am_ hy129
 clear hy129
 obtain rfl := Option.some.inj H
 go_enter Tryd.func153,Tryd.ntmps153
 go_wp2_with (first | ((with_reducible refine gate_dst (N := 1) rfl ?_);refine Kd.R_lit (Kd.int .u32) _ 174 ?hg (N := 1) ?hd (xs := ([1116352408,1899447441,3049323471,3921009573,961987163,1508970993,2453635748,2870763221,3624381080,310598401,607225278,1426881987,1925078388,2162078206,2614888103,3248222580,3835390401,4022224774,264347078,604807628,770255983,1249150122,1555081692,1996064986,2554220882,2821834349,2952996808,3210313671,3336571891,3584528711,113926993,338241895,666307205,773529912,1294757372,1396182291,1695183700,1986661051,2177026350,2456956037,2730485921,2820302411,3259730800,3345764771,3516065817,3600352804,4094571909,275423344,430227734,506948616,659060556,883997877,958139571,1322822218,1537002063,1747873779,1955562222,2024104815,2227730452,2361852424,2428436474,2756734187,3204031479,3329325298] : List Int)) (inner := [.int .u32 1116352408,.int .u32 1899447441,.int .u32 3049323471,.int .u32 3921009573,.int .u32 961987163,.int .u32 1508970993,.int .u32 2453635748,.int .u32 2870763221,.int .u32 3624381080,.int .u32 310598401,.int .u32 607225278,.int .u32 1426881987,.int .u32 1925078388,.int .u32 2162078206,.int .u32 2614888103,.int .u32 3248222580,.int .u32 3835390401,.int .u32 4022224774,.int .u32 264347078,.int .u32 604807628,.int .u32 770255983,.int .u32 1249150122,.int .u32 1555081692,.int .u32 1996064986,.int .u32 2554220882,.int .u32 2821834349,.int .u32 2952996808,.int .u32 3210313671,.int .u32 3336571891,.int .u32 3584528711,.int .u32 113926993,.int .u32 338241895,.int .u32 666307205,.int .u32 773529912,.int .u32 1294757372,.int .u32 1396182291,.int .u32 1695183700,.int .u32 1986661051,.int .u32 2177026350,.int .u32 2456956037,.int .u32 2730485921,.int .u32 2820302411,.int .u32 3259730800,.int .u32 3345764771,.int .u32 3516065817,.int .u32 3600352804,.int .u32 4094571909,.int .u32 275423344,.int .u32 430227734,.int .u32 506948616,.int .u32 659060556,.int .u32 883997877,.int .u32 958139571,.int .u32 1322822218,.int .u32 1537002063,.int .u32 1747873779,.int .u32 1955562222,.int .u32 2024104815,.int .u32 2227730452,.int .u32 2361852424,.int .u32 2428436474,.int .u32 2756734187,.int .u32 3204031479,.int .u32 3329325298]) (ok := fun _ => True) (okp := fun _ => True) ?hr ?hp (fun _ hk => hk) trivial (Below.refl _ _) (Nat.le_refl _) (by simp) ?_;(case hd => rfl);(case hg => rfl);(case hr => first | (go_simp;done) | (go_simp;rfl));(case hp => exact (Reps.one (show Kd.M (Kd.int .u32) _ _ _ 1116352408 [.int .u32 1116352408] from rfl) (Reps.one (show Kd.M (Kd.int .u32) _ _ _ 1899447441 [.int .u32 1899447441] from rfl) (Reps.one (show Kd.M (Kd.int .u32) _ _ _ 3049323471 [.int .u32 3049323471] from rfl) (Reps.one (show Kd.M (Kd.int .u32) _ _ _ 3921009573 [.int .u32 3921009573] from rfl) (Reps.one (show Kd.M (Kd.int .u32) _ _ _ 961987163 [.int .u32 961987163] from rfl) (Reps.one (show Kd.M (Kd.int .u32) _ _ _ 1508970993 [.int .u32 1508970993] from rfl) (Reps.one (show Kd.M (Kd.int .u32) _ _ _ 2453635748 [.int .u32 2453635748] from rfl) (Reps.one (show Kd.M (Kd.int .u32) _ _ _ 2870763221 [.int .u32 2870763221] from rfl) (Reps.one (show Kd.M (Kd.int .u32) _ _ _ 3624381080 [.int .u32 3624381080] from rfl) (Reps.one (show Kd.M (Kd.int .u32) _ _ _ 310598401 [.int .u32 310598401] from rfl) (Reps.one (show Kd.M (Kd.int .u32) _ _ _ 607225278 [.int .u32 607225278] from rfl) (Reps.one (show Kd.M (Kd.int .u32) _ _ _ 1426881987 [.int .u32 1426881987] from rfl) (Reps.one (show Kd.M (Kd.int .u32) _ _ _ 1925078388 [.int .u32 1925078388] from rfl) (Reps.one (show Kd.M (Kd.int .u32) _ _ _ 2162078206 [.int .u32 2162078206] from rfl) (Reps.one (show Kd.M (Kd.int .u32) _ _ _ 2614888103 [.int .u32 2614888103] from rfl) (Reps.one (show Kd.M (Kd.int .u32) _ _ _ 3248222580 [.int .u32 3248222580] from rfl) (Reps.one (show Kd.M (Kd.int .u32) _ _ _ 3835390401 [.int .u32 3835390401] from rfl) (Reps.one (show Kd.M (Kd.int .u32) _ _ _ 4022224774 [.int .u32 4022224774] from rfl) (Reps.one (show Kd.M (Kd.int .u32) _ _ _ 264347078 [.int .u32 264347078] from rfl) (Reps.one (show Kd.M (Kd.int .u32) _ _ _ 604807628 [.int .u32 604807628] from rfl) (Reps.one (show Kd.M (Kd.int .u32) _ _ _ 770255983 [.int .u32 770255983] from rfl) (Reps.one (show Kd.M (Kd.int .u32) _ _ _ 1249150122 [.int .u32 1249150122] from rfl) (Reps.one (show Kd.M (Kd.int .u32) _ _ _ 1555081692 [.int .u32 1555081692] from rfl) (Reps.one (show Kd.M (Kd.int .u32) _ _ _ 1996064986 [.int .u32 1996064986] from rfl) (Reps.one (show Kd.M (Kd.int .u32) _ _ _ 2554220882 [.int .u32 2554220882] from rfl) (Reps.one (show Kd.M (Kd.int .u32) _ _ _ 2821834349 [.int .u32 2821834349] from rfl) (Reps.one (show Kd.M (Kd.int .u32) _ _ _ 2952996808 [.int .u32 2952996808] from rfl) (Reps.one (show Kd.M (Kd.int .u32) _ _ _ 3210313671 [.int .u32 3210313671] from rfl) (Reps.one (show Kd.M (Kd.int .u32) _ _ _ 3336571891 [.int .u32 3336571891] from rfl) (Reps.one (show Kd.M (Kd.int .u32) _ _ _ 3584528711 [.int .u32 3584528711] from rfl) (Reps.one (show Kd.M (Kd.int .u32) _ _ _ 113926993 [.int .u32 113926993] from rfl) (Reps.one (show Kd.M (Kd.int .u32) _ _ _ 338241895 [.int .u32 338241895] from rfl) (Reps.one (show Kd.M (Kd.int .u32) _ _ _ 666307205 [.int .u32 666307205] from rfl) (Reps.one (show Kd.M (Kd.int .u32) _ _ _ 773529912 [.int .u32 773529912] from rfl) (Reps.one (show Kd.M (Kd.int .u32) _ _ _ 1294757372 [.int .u32 1294757372] from rfl) (Reps.one (show Kd.M (Kd.int .u32) _ _ _ 1396182291 [.int .u32 1396182291] from rfl) (Reps.one (show Kd.M (Kd.int .u32) _ _ _ 1695183700 [.int .u32 1695183700] from rfl) (Reps.one (show Kd.M (Kd.int .u32) _ _ _ 1986661051 [.int .u32 1986661051] from rfl) (Reps.one (show Kd.M (Kd.int .u32) _ _ _ 2177026350 [.int .u32 2177026350] from rfl) (Reps.one (show Kd.M (Kd.int .u32) _ _ _ 2456956037 [.int .u32 2456956037] from rfl) (Reps.one (show Kd.M (Kd.int .u32) _ _ _ 2730485921 [.int .u32 2730485921] from rfl) (Reps.one (show Kd.M (Kd.int .u32) _ _ _ 2820302411 [.int .u32 2820302411] from rfl) (Reps.one (show Kd.M (Kd.int .u32) _ _ _ 3259730800 [.int .u32 3259730800] from rfl) (Reps.one (show Kd.M (Kd.int .u32) _ _ _ 3345764771 [.int .u32 3345764771] from rfl) (Reps.one (show Kd.M (Kd.int .u32) _ _ _ 3516065817 [.int .u32 3516065817] from rfl) (Reps.one (show Kd.M (Kd.int .u32) _ _ _ 3600352804 [.int .u32 3600352804] from rfl) (Reps.one (show Kd.M (Kd.int .u32) _ _ _ 4094571909 [.int .u32 4094571909] from rfl) (Reps.one (show Kd.M (Kd.int .u32) _ _ _ 275423344 [.int .u32 275423344] from rfl) (Reps.one (show Kd.M (Kd.int .u32) _ _ _ 430227734 [.int .u32 430227734] from rfl) (Reps.one (show Kd.M (Kd.int .u32) _ _ _ 506948616 [.int .u32 506948616] from rfl) (Reps.one (show Kd.M (Kd.int .u32) _ _ _ 659060556 [.int .u32 659060556] from rfl) (Reps.one (show Kd.M (Kd.int .u32) _ _ _ 883997877 [.int .u32 883997877] from rfl) (Reps.one (show Kd.M (Kd.int .u32) _ _ _ 958139571 [.int .u32 958139571] from rfl) (Reps.one (show Kd.M (Kd.int .u32) _ _ _ 1322822218 [.int .u32 1322822218] from rfl) (Reps.one (show Kd.M (Kd.int .u32) _ _ _ 1537002063 [.int .u32 1537002063] from rfl) (Reps.one (show Kd.M (Kd.int .u32) _ _ _ 1747873779 [.int .u32 1747873779] from rfl) (Reps.one (show Kd.M (Kd.int .u32) _ _ _ 1955562222 [.int .u32 1955562222] from rfl) (Reps.one (show Kd.M (Kd.int .u32) _ _ _ 2024104815 [.int .u32 2024104815] from rfl) (Reps.one (show Kd.M (Kd.int .u32) _ _ _ 2227730452 [.int .u32 2227730452] from rfl) (Reps.one (show Kd.M (Kd.int .u32) _ _ _ 2361852424 [.int .u32 2361852424] from rfl) (Reps.one (show Kd.M (Kd.int .u32) _ _ _ 2428436474 [.int .u32 2428436474] from rfl) (Reps.one (show Kd.M (Kd.int .u32) _ _ _ 2756734187 [.int .u32 2756734187] from rfl) (Reps.one (show Kd.M (Kd.int .u32) _ _ _ 3204031479 [.int .u32 3204031479] from rfl) (Reps.one (show Kd.M (Kd.int .u32) _ _ _ 3329325298 [.int .u32 3329325298] from rfl) (Reps.none _ _))))))))))))))))))))))))))))))))))))))))))))))))))))))))))))))))));intro v130 w1 ho2 hb hg_ hnew_;clear hg_ hnew_;(first | rw [← Ny129.out] at ho2 | (simp only [Int.reduceToNat] at ho2;rw [← Ny129.out] at ho2));have HO131 := am_ (Kd.R_lower ho2 (below_size (zl_ HB)));replace HB := zs_ HB hb;clear hb ho2))
 go_ret
 exact ⟨_,zt_,zr HO131,zl_ HB⟩
def spec_l01Hash.T18 : Bool × List (List Nat × List Nat) := (true,[([],[]),([],[]),([],[]),([1,2],[1,2]),([3],[3]),([4],[4]),([5],[5]),([],[]),([],[]),([7,8],[7,8]),([9],[9]),([10],[10]),([11],[11]),([],[]),([],[]),([13,14],[13,14]),([15],[15]),([16],[16]),([17],[17]),([],[]),([],[]),([19,20],[19,20]),([21],[21]),([22],[22]),([6,12,18,23],[6,12,18,23]),([0,24],[0,24]),([25,25,0,1,2,3,4,5,6,7,8,9,10,11,12,13,14,15,16,17,18,19,20,21,22,23,24,25],[0,25])])
def spec_l01Hash.B18 : List Nat := [0,0,0,6,14,30,62,0,0,384,896,1920,3968,0,0,24576,57344,122880,253952,0,0,1572864,3670016,7864320,16777214,33554431,67108863]
theorem spec_l01Hash.tab18 : rtab .any (opsOf Tryd.f113 18) = spec_l01Hash.T18 := by kernel_rfl
theorem spec_l01Hash.bits18 : waitsOk spec_l01Hash.T18.2 spec_l01Hash.B18 = true := by kernel_rfl
set_option maxHeartbeats 8000000 in
set_option maxRecDepth 100000 in
theorem spec_l01Hash.calls (k : Nat) (A0 : Option Addr) (c0 : Nat) (l0 : List Int) (r : ByteArray) (w : World) (hr0 : Kd.C (Kd.int .u8) w A0 l0.length l0) (hc0 : l0.length ≤ c0) (h : spec_l01Hash.f k l0 = some r) :
  Calls Tryd.prog 113 #[.slice A0 l0.length c0] w fun e w' => e = .returned (.string r) ∧ Below w.heap.size w w' := by
 have HR0 := am_ hr0
 have HC0 := am_ hc0
 clear hr0 hc0
 have HB := am_ (Below.refl w.heap.size w)
 have H : ((some (([] : List Int) : List Int)).bind fun y188 => (if y188.length + l0.length < 140737488355328 then ((some (y188 ++ l0 : List Int)).bind fun y191 => (if y191.length < 140737488355328 then (spec_l01Hash.l0 k l0 (([1779033703,3144134277,1013904242,2773480762,1359893119,2600822924,528734635,1541459225] : List Int)) (y191 ++ [128])) else (none))) else (none))) = some r := h
 clear h
 obtain ⟨y185,hy185⟩ : ∃ y_ : List Int,y_ = (([1779033703,3144134277,1013904242,2773480762,1359893119,2600822924,528734635,1541459225] : List Int)) := ⟨_,rfl⟩
 replace H : ((some (([] : List Int) : List Int)).bind fun y188 => (if y188.length + l0.length < 140737488355328 then ((some (y188 ++ l0 : List Int)).bind fun y191 => (if y191.length < 140737488355328 then (spec_l01Hash.l0 k l0 y185 (y191 ++ [128])) else (none))) else (none))) = some r := by first | (rw [hy185];with_reducible exact H) | (have H2_ := (Option.bind_some _ _).symm.trans H;rw [hy185];with_reducible exact H2_) | (have H2_ := (Option.bind_some _ _).symm.trans H;with_reducible exact H2_) | with_reducible exact H | (rw [hy185];exact H) | exact H
 have Ny185 := am_ hy185
 clear hy185
 obtain ⟨y188,hy188⟩ : ∃ y_ : List Int,y_ = (([] : List Int)) := ⟨_,rfl⟩
 replace H : (if y188.length + l0.length < 140737488355328 then ((some (y188 ++ l0 : List Int)).bind fun y191 => (if y191.length < 140737488355328 then (spec_l01Hash.l0 k l0 y185 (y191 ++ [128])) else (none))) else (none)) = some r := by first | (rw [hy188];with_reducible exact H) | (have H2_ := (Option.bind_some _ _).symm.trans H;rw [hy188];with_reducible exact H2_) | (have H2_ := (Option.bind_some _ _).symm.trans H;with_reducible exact H2_) | with_reducible exact H | (rw [hy188];exact H) | exact H
 have Ny188 := am_ hy188
 clear hy188
 by_cases c2 : y188.length + l0.length < 140737488355328
 ·rw [if_pos c2] at H
  have LMc2 := am_ c2
  clear c2
  obtain ⟨y191,hy191⟩ : ∃ y_ : List Int,y_ = (y188 ++ l0) := ⟨_,rfl⟩
  replace H : (if y191.length < 140737488355328 then (spec_l01Hash.l0 k l0 y185 (y191 ++ [128])) else (none)) = some r := by first | (rw [hy191];with_reducible exact H) | (have H2_ := (Option.bind_some _ _).symm.trans H;rw [hy191];with_reducible exact H2_) | (have H2_ := (Option.bind_some _ _).symm.trans H;with_reducible exact H2_) | with_reducible exact H | (rw [hy191];exact H) | exact H
  have Ny191 := am_ hy191
  clear hy191
  by_cases c3 : y191.length < 140737488355328
  ·rw [if_pos c3] at H
   have LMc3 := am_ c3
   clear c3
   obtain ⟨y194,hy194⟩ : ∃ y_ : List Int,y_ = (y191 ++ [128]) := ⟨_,rfl⟩
   replace H : (spec_l01Hash.l0 k l0 y185 y194) = some r := by first | (rw [hy194];with_reducible exact H) | (have H2_ := (Option.bind_some _ _).symm.trans H;rw [hy194];with_reducible exact H2_) | (have H2_ := (Option.bind_some _ _).symm.trans H;with_reducible exact H2_) | with_reducible exact H | (rw [hy194];exact H) | exact H
   have Ny194 := am_ hy194
   clear hy194
   have H' := am_ H
   clear H
   go_enter Tryd.func113,Tryd.ntmps113
   go_wp2_with (first | ((with_reducible refine gate_dst (N := 10) rfl ?_);refine Kd.R_lit (Kd.int .u32) _ 174 ?hg (N := 10) ?hd (xs := ([1779033703,3144134277,1013904242,2773480762,1359893119,2600822924,528734635,1541459225] : List Int)) (inner := [.int .u32 1779033703,.int .u32 3144134277,.int .u32 1013904242,.int .u32 2773480762,.int .u32 1359893119,.int .u32 2600822924,.int .u32 528734635,.int .u32 1541459225]) (ok := fun _ => True) (okp := fun _ => True) ?hr ?hp (fun _ hk => hk) trivial (Below.refl _ _) (Nat.le_refl _) (by simp) ?_;(case hd => rfl);(case hg => rfl);(case hr => first | (go_simp;done) | (go_simp;rfl));(case hp => exact (Reps.one (show Kd.M (Kd.int .u32) _ _ _ 1779033703 [.int .u32 1779033703] from rfl) (Reps.one (show Kd.M (Kd.int .u32) _ _ _ 3144134277 [.int .u32 3144134277] from rfl) (Reps.one (show Kd.M (Kd.int .u32) _ _ _ 1013904242 [.int .u32 1013904242] from rfl) (Reps.one (show Kd.M (Kd.int .u32) _ _ _ 2773480762 [.int .u32 2773480762] from rfl) (Reps.one (show Kd.M (Kd.int .u32) _ _ _ 1359893119 [.int .u32 1359893119] from rfl) (Reps.one (show Kd.M (Kd.int .u32) _ _ _ 2600822924 [.int .u32 2600822924] from rfl) (Reps.one (show Kd.M (Kd.int .u32) _ _ _ 528734635 [.int .u32 528734635] from rfl) (Reps.one (show Kd.M (Kd.int .u32) _ _ _ 1541459225 [.int .u32 1541459225] from rfl) (Reps.none _ _))))))))));intro v186 w4 ho5 hb hg_ hnew_;clear hg_ hnew_;(first | rw [← Ny185.out] at ho5 | (simp only [Int.reduceToNat] at ho5;rw [← Ny185.out] at ho5));have HO187 := am_ (Kd.R_lower ho5 (below_size (zl_ HB)));replace HB := zs_ HB hb;clear hb ho5) | ((with_reducible refine gate_dst (N := 11) rfl ?_);refine Kd.R_lit (Kd.int .u8) _ 5 ?hg (N := 11) ?hd (xs := ([] : List Int)) (inner := []) (ok := fun _ => True) (okp := fun _ => True) ?hr ?hp (fun _ hk => hk) trivial (Below.refl _ _) (Nat.le_refl _) (by simp) ?_;(case hd => rfl);(case hg => rfl);(case hr => first | (go_simp;done) | (go_simp;rfl));(case hp => exact (Reps.none _ _));intro v189 w6 ho7 hb hg_ hnew_;clear hg_ hnew_;(first | rw [← Ny188.out] at ho7 | (simp only [Int.reduceToNat] at ho7;rw [← Ny188.out] at ho7));replace HO187 := zrb HO187 hb;have HO190 := am_ (Kd.R_lower ho7 (below_size (zl_ HB)));replace HB := zs_ HB hb;clear hb ho7) | ((with_reducible refine gate_builtin (b := .append) (xs := #[.tmp 11,.tmp 12]) rfl ?_);at_builtin;refine Kd.R_append_rows (Kd.int .u8) (w0 := w) w.heap.size rfl (.tmp 11) (.tmp 12) 46 5 (.int .u8 0) 1 rfl Tryd.underlying46 info5 rfl (by decide) (by omega) v189 y188 l0 _ _ _ (fun _ => True) (fun _ => False) rfl rfl ?aO ?aR (fun _ _ h => h) (fun _ h => h.elim) ?aF ?aB ?aS ?aL ?_;(case aR => exact zc_ HR0 HB);(case aB => exact (zl_ HB));(case aF => exact (fun _ _ => trivial));(case aO => exact (zr HO190));(case aS => exact (below_size (zl_ HB)));(case aL => have := LMc2.out;omega);intro v192 w8 ho hb hg hat;rw [← Ny191.out] at ho;replace HO187 := am_ (Kd.R_over' (zr HO187) (Kd.R_typed (zr HO190)) (by decide) hg);replace HB := am_ (hb);have HO193 := am_ (ho);clear HO190;clear ho hb hg hat) | ((with_reducible refine gate_builtin (b := .append) (xs := #[.tmp 13,.tmp 14]) rfl ?_);at_builtin;refine Kd.R_append (Kd.int .u8) (w0 := w) w.heap.size rfl (.tmp 13) (.tmp 14) 46 5 (.int .u8 0) 1 rfl Tryd.underlying46 info5 rfl (by decide) (by omega) v192 y191 128 [.int .u8 128] (fun _ => True) (fun _ => False) rfl rfl ?aP (fun _ hk => hk.elim) ?aF ?aO ?aB ?aS ?aL ?_;(case aP => exact rfl);(case aB => exact (zl_ HB));(case aF => exact (fun _ _ => trivial));(case aO => exact (zr HO193));(case aS => exact (below_size (zl_ HB)));(case aL => have := LMc3.out;omega);intro v195 w9 ho hb hg hat;rw [← Ny194.out] at ho;replace HO187 := am_ (Kd.R_over' (zr HO187) (Kd.R_typed (zr HO193)) (by decide) hg);replace HB := am_ (hb);have HO196 := am_ (ho);clear HO193;clear ho hb hg hat))
   go_loopg [4] k (fun kq v4 w' => ∃ (x4_1 : List Int),Aside0 (spec_l01Hash.l0 kq l0 y185 x4_1 = some r) ∧ Aside0 (kq ≤ k) ∧ Aside0 (Kd.R (Kd.int .u32) 174 w' w.heap.size (fun _ => True) v186 y185) ∧ Aside0 (Kd.R (Kd.int .u8) 5 w' w.heap.size (fun _ => True) v4 x4_1) ∧ Aside0 (Below w.heap.size w w'))
   case atStart => exact ⟨(y194),H',⟨Nat.le_refl _⟩,⟨zr HO187⟩,⟨zr HO196⟩,⟨zl_ HB⟩⟩
   case round =>
    clear H'
    try clear c1
    try clear c2
    try clear p2
    try clear c3
    obtain ⟨x4_1,HA,HK1,HO_3,HO_4,HB⟩ := hrel
    cases gk with
    | zero => exact absurd HA.out (by simp [spec_l01Hash.l0])
    | succ k1 =>
     have H := HA.out
     clear HA
     simp only [spec_l01Hash.l0] at H
     by_cases c10 : ((x4_1.length : Int) % 64) = 56
     ·rw [if_pos c10] at H
      have c10b0 : (((x4_1.length : Int) % 64) == 56) = true := beq_iff_eq.mpr c10
      have c10b1 : (((x4_1.length : Int) % 64) != 56) = false := bne_eq_false_iff_eq.mpr c10
      clear c10
      have H' := am_ H
      clear H
      obtain ⟨Ao11,co11,eo11⟩ := Kd.R_slice HO_4.out
      subst eo11
      go_wp2
      go_loopg [4,5] k1 (fun kq v4 v5 w' => ∃ (x4_2 : List Int) (x5_2 : Int),v5 = .int .i64 x5_2 ∧ Aside0 (spec_l01Hash.l1 kq l0 y185 x4_2 x5_2 = some r) ∧ Aside0 (kq ≤ k1) ∧ Aside0 (Kd.R (Kd.int .u32) 174 w' w.heap.size (fun _ => True) v186 y185) ∧ Aside0 (Kd.R (Kd.int .u8) 5 w' w.heap.size (fun _ => True) v4 x4_2) ∧ Aside0 (Below w.heap.size w w'))
      case atStart => exact ⟨(x4_1),(7),(by first | rfl | (simp;done) | (simp [*];done)),H',⟨Nat.le_refl _⟩,⟨zr HO_3⟩,⟨zr HO_4⟩,⟨zl_ HB⟩⟩
      case round =>
       clear H'
       try clear c1
       try clear c2
       try clear p2
       try clear c3
       try clear c10
       try clear c10b0
       try clear c10b1
       try clear c11
       try clear p2
       obtain ⟨x4_2,x5_2,rfl,HA,HK2,HO_3,HO_4,HB⟩ := hrel
       cases gk with
       | zero => exact absurd HA.out (by simp [spec_l01Hash.l1])
       | succ k2 =>
        have H := HA.out
        clear HA
        simp only [spec_l01Hash.l1] at H
        by_cases c12 : x5_2 ≥ 0
        ·rw [if_pos c12] at H
         have c12b0 : decide (0 ≤ x5_2) = true := decide_eq_true c12
         clear c12
         obtain ⟨ji13,hji13⟩ : ∃ j_ : Int,(IntKind.u64.wrap (wrap64 (8 * x5_2))) = j_ := ⟨_,rfl⟩
         replace H : (if 0 ≤ (ji13) then (if x4_2.length < 140737488355328 then (spec_l01Hash.l1 k2 l0 y185 (x4_2 ++ [(shr .i64 (wrap64 (8 * (l0.length : Int))) (ji13)) % 256]) (wrap64 (x5_2 - 1))) else (none)) else (none)) = some r := by first | (rw [hji13] at H;exact H) | (simp only [hji13] at H ⊢;exact H)
         by_cases c14 : 0 ≤ (ji13)
         ·rw [if_pos c14] at H
          have c14b0 := eq_true c14
          have c14b1 : decide (0 ≤ (ji13)) = true := decide_eq_true c14
          clear c14
          obtain ⟨ji15,hji15⟩ : ∃ j_ : Int,(shr .i64 (wrap64 (8 * (l0.length : Int))) (ji13)) = j_ := ⟨_,rfl⟩
          replace H : (if x4_2.length < 140737488355328 then (spec_l01Hash.l1 k2 l0 y185 (x4_2 ++ [(ji15) % 256]) (wrap64 (x5_2 - 1))) else (none)) = some r := by first | (rw [hji15] at H;exact H) | (simp only [hji15] at H ⊢;exact H)
          have hji15_ : ((wrap64 (8 * (l0.length : Int))) / 2 ^ min (ji13).toNat 64) = ji15 := hji15
          have hji15z : (ji13) ≤ 64 → ((wrap64 (8 * (l0.length : Int))) / 2 ^ (ji13).toNat) = ji15 := shr_small hji15
          by_cases c16 : x4_2.length < 140737488355328
          ·rw [if_pos c16] at H
           have LMc16 := am_ c16
           clear c16
           obtain ⟨y200,hy200⟩ : ∃ y_ : List Int,y_ = (x4_2 ++ [(ji15) % 256]) := ⟨_,rfl⟩
           replace H : (spec_l01Hash.l1 k2 l0 y185 y200 (wrap64 (x5_2 - 1))) = some r := by first | (rw [hy200];with_reducible exact H) | (have H2_ := (Option.bind_some _ _).symm.trans H;rw [hy200];with_reducible exact H2_) | (have H2_ := (Option.bind_some _ _).symm.trans H;with_reducible exact H2_) | with_reducible exact H | (rw [hy200];exact H) | exact H
           have Ny200 := am_ hy200
           clear hy200
           have H' := am_ H
           clear H
           go_wp2_with (first | ((with_reducible refine gate_builtin (b := .append) (xs := #[.tmp 27,.tmp 36]) rfl ?_);at_builtin;refine Kd.R_append (Kd.int .u8) (w0 := w) w.heap.size rfl (.tmp 27) (.tmp 36) 46 5 (.int .u8 0) 1 rfl Tryd.underlying46 info5 rfl (by decide) (by omega) u4 x4_2 ((ji15) % 256) [.int .u8 ((ji15) % 256)] (fun _ => True) (fun _ => False) rfl rfl ?aP (fun _ hk => hk.elim) ?aF ?aO ?aB ?aS ?aL ?_;(case aP => exact rfl);(case aB => exact (zl_ HB));(case aF => exact (fun _ _ => trivial));(case aO => exact (zr HO_4));(case aS => exact (below_size (zl_ HB)));(case aL => have := LMc16.out;omega);intro v201 w17 ho hb hg hat;rw [← Ny200.out] at ho;replace HO_3 := am_ (Kd.R_over' (zr HO_3) (Kd.R_typed (zr HO_4)) (by decide) hg);replace HB := am_ (hb);have HO202 := am_ (ho);clear HO_4;clear ho hb hg hat))
           go_roundg k2
           case measure => have := HK1.out;have := HK2.out;omega
           case rel => exact ⟨(y200),(wrap64 (x5_2 - 1)),(by first | rfl | (simp;done) | (simp [*];done)),H',⟨by have := HK1.out;have := HK2.out;omega⟩,⟨zr HO_3⟩,⟨zr HO202⟩,⟨zl_ HB⟩⟩
          ·rw [if_neg c16] at H
           exact absurd H (by simp)
         ·rw [if_neg c14] at H
          exact absurd H (by simp)
        ·rw [if_neg c12] at H
         have c12b0 : decide (0 ≤ x5_2) = false := decide_eq_false c12
         clear c12
         replace H := Option.bind_eq_some_iff.mp H
         obtain ⟨t203,A180,H⟩ := H
         try dsimp only at H
         have A18 := am_ A180
         clear A180
         have H' := am_ H
         clear H
         go_wp2_with (first | ((with_reducible refine gate_callee (f := 153) rfl ?_);refine zgl (some 38) Tryd.func153 #[] ?_;(with_reducible refine (spec_l01Consts.calls  t203 _ A18.out).mono ?_);rintro e w19 ⟨v204,rfl,ho0,hb⟩;refine ⟨_,rfl,?_⟩;replace HO_4 := zrb HO_4 hb;have HO205 := am_ (Kd.R_lower (Kd.R_new' ho0 (Kd.R_lt (zr HO_3))) (below_size (zl_ HB)));replace HO_3 := am_ (Kd.R_elder' (zr HO_3) (Kd.R_base ho0) hb);replace HB := zs_ HB hb;(try clear hb);(try clear hb2);(try clear hk);(try clear hi);(try clear ho0)))
         go_loopg [7] k2 (fun kq v7 w' => ∃ (x3_3 : List Int) (x7_3 : Int),v7 = .int .i64 x7_3 ∧ Aside0 (spec_l01Hash.l2 kq x3_3 x4_2 t203 x7_3 = some r) ∧ Aside0 (kq ≤ k2) ∧ Aside0 (Kd.R (Kd.int .u32) 174 w' w.heap.size (fun k_ => some k_ ≠ (v204 : Value).ownBlock) v186 x3_3) ∧ Aside0 (Kd.R (Kd.int .u8) 5 w' w.heap.size (fun _ => True) u4 x4_2) ∧ Aside0 (Kd.R (Kd.int .u32) 174 w' w.heap.size (fun k_ => some k_ ≠ (v186 : Value).ownBlock) v204 t203) ∧ Aside0 (Below w.heap.size w w'))
         case atStart => exact ⟨(y185),(0),(by first | rfl | (simp;done) | (simp [*];done)),H',⟨Nat.le_refl _⟩,⟨by (with_reducible repeat (first | apply r1_ | apply r2_ | apply r3_));exact Kd.R_mono HO_3.out (fun _ hk => hk.2)⟩,⟨zr HO_4⟩,⟨by (with_reducible repeat (first | apply r1_ | apply r2_ | apply r3_));exact Kd.R_mono HO205.out (fun _ hk => hk.2)⟩,⟨zl_ HB⟩⟩
         case round =>
          clear H'
          try clear c1
          try clear c2
          try clear p2
          try clear c3
          try clear p6
          try clear c10
          try clear c10b0
          try clear c10b1
          try clear c11
          try clear c12
          try clear c12b0
          try clear c14
          try clear c14b0
          try clear c14b1
          try clear c15
          try clear c16
          try clear p2
          obtain ⟨x3_3,x7_3,rfl,HA,HK3,HO_3,HO_4,HO_6,HB⟩ := hrel
          cases gk with
          | zero => exact absurd HA.out (by simp [spec_l01Hash.l2])
          | succ k3 =>
           have H := HA.out
           clear HA
           simp only [spec_l01Hash.l2] at H
           by_cases c20 : x7_3 < (x4_2.length : Int)
           ·rw [if_pos c20] at H
            obtain ⟨je_,hje_⟩ : ∃ j_ : Int,(wrap64 (x7_3 + 64)) = j_ := ⟨_,rfl⟩
            rw [hje_] at H
            have hje_w : (IntKind.i64.wrap (x7_3 + 64)) = je_ := (i64_w _).trans hje_
            clear hje_
            have c20b0 : decide (x7_3 < (x4_2.length : Int)) = true := decide_eq_true c20
            clear c20
            by_cases c21 : 0 ≤ x7_3
            ·rw [if_pos c21] at H
             have c21b0 := eq_true c21
             have c21b1 : decide (0 ≤ x7_3) = true := decide_eq_true c21
             clear c21
             by_cases c22 : x7_3 ≤ (je_)
             ·rw [if_pos c22] at H
              have c22b0 := eq_true c22
              have c22b1 : decide (x7_3 ≤ (je_)) = true := decide_eq_true c22
              by_cases c23 : (je_) ≤ (x4_2.length : Int)
              ·rw [if_pos c23] at H
               have c23b0 := eq_true c23
               have c23b1 : decide ((je_) ≤ (x4_2.length : Int)) = true := decide_eq_true c23
               obtain ⟨y206,hy206⟩ : ∃ y_ : List Int,y_ = ((x4_2.take ((je_) : Int).toNat).drop (x7_3 : Int).toNat) := ⟨_,rfl⟩
               replace H : ((spec_l01Block.f k3 x3_3 y206 t203).bind fun t210 => (spec_l01Hash.l2 k3 t210 x4_2 t203 (je_))) = some r := by first | (rw [hy206];with_reducible exact H) | (have H2_ := (Option.bind_some _ _).symm.trans H;rw [hy206];with_reducible exact H2_) | (have H2_ := (Option.bind_some _ _).symm.trans H;with_reducible exact H2_) | with_reducible exact H | (rw [hy206];exact H) | exact H
               have Ny206 := am_ hy206
               clear hy206
               replace H := Option.bind_eq_some_iff.mp H
               obtain ⟨t210,A240,H⟩ := H
               try dsimp only at H
               have A24 := am_ A240
               clear A240
               have H' := am_ H
               clear H
               obtain ⟨Ao25,co25,eo25⟩ := Kd.R_slice HO_4.out
               subst eo25
               have q26 : ((je_) : Int) ≤ ((x4_2.length : Int) : Int) := zo_
               obtain ⟨i026,hi026,_,hsz26,_⟩ := info_parts info5
               have hroom26 : x4_2.length ≤ co25 := (Kd.R_reads' HO_4.out).2.1
               have hC26 : Kd.C (Kd.int .u8) _ Ao25 x4_2.length x4_2 := (Kd.R_reads' HO_4.out).2.2
               have ql26 : (x7_3 : Int) ≤ ((je_) : Int) := zo_
               have q026 : (0 : Int) ≤ (x7_3 : Int) := zo_
               have hcut26 := cut_mid (P := Tryd.prog) 46 5 .i64 .i64 Tryd.underlying46 hi026 1 hsz26 Ao25 x4_2.length co25 x7_3 (je_) q026 ql26 q26 hroom26
               have hr26 := Kd.C_mid (lo := (x7_3 : Int).toNat) (hi := ((je_) : Int).toNat) (c := co25) hC26 (by omega) (by omega) hroom26
               obtain ⟨A26,hA26⟩ : ∃ A1,A1 = (if co25 = (x7_3 : Int).toNat then Ao25 else (Ao25 : Option Addr).map (·.add ((x7_3 : Int).toNat * 1))) := ⟨_,rfl⟩
               obtain ⟨c26,hc26⟩ : ∃ c1,c1 = co25 - (x7_3 : Int).toNat := ⟨_,rfl⟩
               have hy26 : y206.length = ((je_) : Int).toNat - (x7_3 : Int).toNat := (by rw [Ny206.out,d1_,d2_] <;> omega)
               rw [show ((x4_2).take ((je_) : Int).toNat).drop (x7_3 : Int).toNat = y206 from Ny206.out.symm] at hr26
               replace hr26 : Kd.C (Kd.int .u8) _ A26 y206.length y206 := (by rw [hA26];exact hr26)
               rw [← hy26,← hA26,← hc26] at hcut26
               have HR209 := am_ hr26
               have HC209 := am_ (show y206.length ≤ c26 from by rw [hy26,hc26];exact Nat.sub_le_sub_right (Nat.le_trans (by omega) hroom26) _)
               clear hr26 hC26 hroom26 hi026 hsz26 hc26
               have KY26 := am_ hy26
               have KA26 := am_ hA26
               clear hy26 hA26
               have KL26 := am_ (show ((je_) : Int).toNat ≤ x4_2.length from by omega)
               have KM26 := am_ (show (x7_3 : Int).toNat ≤ ((je_) : Int).toNat from by omega)
               replace q26 := eq_true q26
               obtain ⟨Ao27,co27,eo27⟩ := Kd.R_slice HO_3.out
               subst eo27
               obtain ⟨Ao28,co28,eo28⟩ := Kd.R_slice HO_6.out
               subst eo28
               go_wp2_with (first | ((with_reducible refine gate_callee (f := 154) rfl ?_);refine zgl (some 52) Tryd.func154 #[.slice Ao27 x3_3.length co27,.slice A26 y206.length c26,.slice Ao28 t203.length co28] ?_;(with_reducible refine (spec_l01Block.calls k3 (fun k_ => some k_ = (.slice Ao27 x3_3.length co27 : Value).ownBlock) (.slice Ao27 x3_3.length co27) x3_3 _ _ y206 _ _ t203 t210 w _ ?side1 ?side2 ?side3 ?side4 ?side5 ?side6 A24.out).mono ?_);(case side1 => exact zl_ HB);(case side2 => exact Kd.R_tight rfl HO_3.out);(case side3 => exact fun W1_ hk1_ => (show Kd.C (Kd.int .u8) W1_ A26 y206.length y206 from by rw [Ny206.out,KA26.out];exact Kd.C_mid (lo := (x7_3 : Int).toNat) (hi := ((je_) : Int).toNat) (c := co25) (Kd.C_kept_own ((Kd.R_apart' HO_4.out (Kd.R_typed HO_3.out) (by decide))) (fun k_ hk_ hs_ => (hk_.2) hs_) W1_ hk1_) KM26.out KL26.out ((Kd.R_reads' HO_4.out).2.1)));(case side4 => exact HC209.out);(case side5 => exact Kd.C_kept_own (HO_6.out) (fun k_ hk_ hs_ => (hk_) hs_));(case side6 => exact (Kd.R_reads' HO_6.out).2.1);rintro e w29 ⟨rfl,hy0,hb,hkp⟩;refine ⟨_,rfl,?_⟩;replace HO_4 := am_ (Kd.R_mono (ok' := fun k_ => True) (Kd.R_keptB ((Kd.R_apart' HO_4.out (Kd.R_typed HO_3.out) (by decide))) hkp (fun k_ hk_ hs_ => (hk_.2) hs_)) (fun k_ hk_ => trivial));replace HO_3 := am_ (Kd.R_reok rfl hy0 (fun k_ e_ => HO_3.out.1 k_ e_));replace HO_6 := am_ (Kd.R_mono (ok' := fun k_ => some k_ ≠ (.slice Ao27 x3_3.length co27 : Value).ownBlock) (Kd.R_keptB (HO_6.out) hkp (fun k_ hk_ hs_ => (hk_) hs_)) (fun k_ hk_ => hk_.1));replace HB := am_ (hb);(try clear hb);(try clear hkp);(try clear hy0)))
               go_roundg k3
               case measure => have := HK1.out;have := HK2.out;have := HK3.out;omega
               case rel => exact ⟨(t210),(je_),(by first | rfl | (simp;done) | (simp [*];done)),H',⟨by have := HK1.out;have := HK2.out;have := HK3.out;omega⟩,⟨zr HO_3⟩,⟨zr HO_4⟩,⟨zr HO_6⟩,⟨zl_ HB⟩⟩
              ·rw [if_neg c23] at H
               exact absurd H (by simp)
             ·rw [if_neg c22] at H
              exact absurd H (by simp)
            ·rw [if_neg c21] at H
             exact absurd H (by simp)
           ·rw [if_neg c20] at H
            have c20b0 : decide (x7_3 < (x4_2.length : Int)) = false := decide_eq_false c20
            clear c20
            obtain ⟨y211,hy211⟩ : ∃ y_ : List Int,y_ = (([] : List Int)) := ⟨_,rfl⟩
            replace H : (spec_l01Hash.l3 k3 x3_3 y211 0) = some r := by first | (rw [hy211];with_reducible exact H) | (have H2_ := (Option.bind_some _ _).symm.trans H;rw [hy211];with_reducible exact H2_) | (have H2_ := (Option.bind_some _ _).symm.trans H;with_reducible exact H2_) | with_reducible exact H | (rw [hy211];exact H) | exact H
            have Ny211 := am_ hy211
            clear hy211
            have H' := am_ H
            clear H
            obtain ⟨Ao30,co30,eo30⟩ := Kd.R_slice HO_4.out
            subst eo30
            go_wp2_with (first | ((with_reducible refine gate_dst (N := 53) rfl ?_);refine Kd.R_lit (Kd.int .u8) _ 5 ?hg (N := 53) ?hd (xs := ([] : List Int)) (inner := []) (ok := fun _ => True) (okp := fun _ => True) ?hr ?hp (fun _ hk => hk) trivial (Below.refl _ _) (Nat.le_refl _) (by simp) ?_;(case hd => rfl);(case hg => rfl);(case hr => first | (go_simp;done) | (go_simp;rfl));(case hp => exact (Reps.none _ _));intro v212 w31 ho32 hb hg_ hnew_;clear hg_ hnew_;(first | rw [← Ny211.out] at ho32 | (simp only [Int.reduceToNat] at ho32;rw [← Ny211.out] at ho32));replace HO_3 := zrb HO_3 hb;have HO213 := am_ (Kd.R_lower (Kd.R_new' ho32 (Kd.R_lt (zr HO_4))) (below_size (zl_ HB)));replace HB := zs_ HB hb;clear hb ho32))
            go_loopg [8,9] k3 (fun kq v8 v9 w' => ∃ (x8_4 : List Int) (x9_4 : Int),v9 = .int .i64 x9_4 ∧ Aside0 (spec_l01Hash.l3 kq x3_3 x8_4 x9_4 = some r) ∧ Aside0 (kq ≤ k3) ∧ Aside0 (Kd.R (Kd.int .u32) 174 w' w.heap.size (fun _ => True) v186 x3_3) ∧ Aside0 (Kd.R (Kd.int .u8) 5 w' w.heap.size (fun _ => True) v8 x8_4) ∧ Aside0 (Below w.heap.size w w'))
            case atStart => exact ⟨(y211),(0),(by first | rfl | (simp;done) | (simp [*];done)),H',⟨Nat.le_refl _⟩,⟨by (with_reducible repeat (first | apply r1_ | apply r2_ | apply r3_));exact Kd.R_mono HO_3.out (fun _ hk => trivial)⟩,⟨by (with_reducible repeat (first | apply r1_ | apply r2_ | apply r3_));exact Kd.R_mono HO213.out (fun _ hk => trivial)⟩,⟨zl_ HB⟩⟩
            case round =>
             clear H'
             try clear c1
             try clear c2
             try clear p2
             try clear q2
             try clear c3
             try clear p6
             try clear c10
             try clear c10b0
             try clear c10b1
             try clear c11
             try clear c12
             try clear c12b0
             try clear c14
             try clear c14b0
             try clear c14b1
             try clear c15
             try clear c16
             try clear c20
             try clear c20b0
             try clear c21
             try clear c21b0
             try clear c21b1
             try clear c22
             try clear c22b0
             try clear c22b1
             try clear c23
             try clear c23b0
             try clear c23b1
             try clear c26
             try clear q26
             try clear p2
             try clear p6
             try clear q026
             try clear q26
             obtain ⟨x8_4,x9_4,rfl,HA,HK4,HO_3,HO_8,HB⟩ := hrel
             cases gk with
             | zero => exact absurd HA.out (by simp [spec_l01Hash.l3])
             | succ k4 =>
              have H := HA.out
              clear HA
              simp only [spec_l01Hash.l3] at H
              by_cases c33 : x9_4 < 8
              ·rw [if_pos c33] at H
               have c33b0 : decide (x9_4 < 8) = true := decide_eq_true c33
               clear c33
               by_cases c34 : 0 ≤ x9_4
               ·rw [if_pos c34] at H
                have c34b0 : decide (0 ≤ x9_4) = true := decide_eq_true c34
                clear c34
                by_cases c35 : x9_4 < (x3_3.length : Int)
                ·rw [if_pos c35] at H
                 have c35b0 : decide (x9_4 < (x3_3.length : Int)) = true := decide_eq_true c35
                 clear c35
                 obtain ⟨y218,hy218⟩ : ∃ y_ : List Int,y_ = (([((rd x3_3 x9_4) / 16777216) % 256,((rd x3_3 x9_4) / 65536) % 256,((rd x3_3 x9_4) / 256) % 256,(rd x3_3 x9_4) % 256] : List Int)) := ⟨_,rfl⟩
                 replace H : (if x8_4.length + y218.length < 140737488355328 then (spec_l01Hash.l3 k4 x3_3 (x8_4 ++ y218) (wrap64 (x9_4 + 1))) else (none)) = some r := by first | (rw [hy218];with_reducible exact H) | (have H2_ := (Option.bind_some _ _).symm.trans H;rw [hy218];with_reducible exact H2_) | (have H2_ := (Option.bind_some _ _).symm.trans H;with_reducible exact H2_) | with_reducible exact H | (rw [hy218];exact H) | exact H
                 have Ny218 := am_ hy218
                 clear hy218
                 by_cases c36 : x8_4.length + y218.length < 140737488355328
                 ·rw [if_pos c36] at H
                  have LMc36 := am_ c36
                  clear c36
                  obtain ⟨y221,hy221⟩ : ∃ y_ : List Int,y_ = (x8_4 ++ y218) := ⟨_,rfl⟩
                  replace H : (spec_l01Hash.l3 k4 x3_3 y221 (wrap64 (x9_4 + 1))) = some r := by first | (rw [hy221];with_reducible exact H) | (have H2_ := (Option.bind_some _ _).symm.trans H;rw [hy221];with_reducible exact H2_) | (have H2_ := (Option.bind_some _ _).symm.trans H;with_reducible exact H2_) | with_reducible exact H | (rw [hy221];exact H) | exact H
                  have Ny221 := am_ hy221
                  clear hy221
                  have H' := am_ H
                  clear H
                  try go_wp2
                  replace HO_3 := am_ (Kd.R_drew HO_3.out)
                  replace HO_8 := am_ (Kd.R_drew HO_8.out)
                  replace HB := am_ (below_drew1 HB.out)
                  obtain ⟨Ao38,co38,eo38⟩ := Kd.R_slice HO_3.out
                  (first | subst eo38 | (injection eo38 with f1_ f2_ f3_;have f4_ := f1_.symm;have f5_ := f3_.symm;clear f1_ f2_ f3_;subst f4_;subst f5_))
                  have p214 : 0 ≤ (x9_4 : Int) := zo_
                  have q214 : x9_4 < (x3_3.length : Int) := zo_
                  obtain ⟨ad214,e214,hx214_0⟩ := Kd.at_int (Kd.R_reads' HO_3.out).2.2 x9_4 p214 q214
                  cases e214
                  replace p214 := eq_true p214
                  replace q214 := eq_true q214
                  have p215 : 0 ≤ (x9_4 : Int) := zo_
                  have q215 : x9_4 < (x3_3.length : Int) := zo_
                  obtain ⟨ad215,e215,hx215_0⟩ := Kd.at_int (Kd.R_reads' HO_3.out).2.2 x9_4 p215 q215
                  obtain rfl : ad214 = ad215 := (by injection e215)
                  replace p215 := eq_true p215
                  replace q215 := eq_true q215
                  have p216 : 0 ≤ (x9_4 : Int) := zo_
                  have q216 : x9_4 < (x3_3.length : Int) := zo_
                  obtain ⟨ad216,e216,hx216_0⟩ := Kd.at_int (Kd.R_reads' HO_3.out).2.2 x9_4 p216 q216
                  obtain rfl : ad214 = ad216 := (by injection e216)
                  replace p216 := eq_true p216
                  replace q216 := eq_true q216
                  have p217 : 0 ≤ (x9_4 : Int) := zo_
                  have q217 : x9_4 < (x3_3.length : Int) := zo_
                  obtain ⟨ad217,e217,hx217_0⟩ := Kd.at_int (Kd.R_reads' HO_3.out).2.2 x9_4 p217 q217
                  obtain rfl : ad214 = ad217 := (by injection e217)
                  replace p217 := eq_true p217
                  replace q217 := eq_true q217
                  refine start_ (n := 27) (S := fun w' => w'.cell? (ad214.add (x9_4).toNat) = some (.int .u32 (rd x3_3 x9_4)) ∧ w'.cell? (ad214.add (x9_4).toNat) = some (.int .u32 (rd x3_3 x9_4)) ∧ w'.cell? (ad214.add (x9_4).toNat) = some (.int .u32 (rd x3_3 x9_4)) ∧ w'.cell? (ad214.add (x9_4).toNat) = some (.int .u32 (rd x3_3 x9_4))) (ds := [25]) #[false,false,false,false,false,false,false,false,false,false,false,false,false,false,false,false,false,false,false,false,false,false,false,false,false,false,false] (by kernel_rfl) rfl rfl ⟨hx214_0,hx215_0,hx216_0,hx217_0⟩ (fun hHeld => ?_);refine with_tabW spec_l01Hash.tab18 spec_l01Hash.bits18 (fun HT_ HW_ => ?_)
                  generalize wr.drew = w37 at HO_3 HO_8 HB hx214_0 hx215_0 hx216_0 hx217_0 hHeld ⊢
                  refine zpu 0 (N := some 58) HT_ ?_
                  refine zpu 1 (N := some 59) HT_ ?_
                  refine zpu 2 (N := some 60) HT_ ?_
                  refine zpu 3 (N := some 61) HT_ ?_
                  refine zpu 7 (N := some 65) HT_ ?_
                  refine zpu 8 (N := some 66) HT_ ?_
                  refine zpu 9 (N := some 67) HT_ ?_
                  refine zpu 13 (N := some 71) HT_ ?_
                  refine zpu 14 (N := some 72) HT_ ?_
                  refine zpu 15 (N := some 73) HT_ ?_
                  refine zpu 19 (N := some 77) HT_ ?_
                  refine zpu 20 (N := some 78) HT_ ?_
                  refine zpu 21 (N := some 79) HT_ ?_
                  refine ztk 4 (N := some 62) HT_ HW_ hHeld ?_
                  refine zpu 5 (N := some 63) HT_ ?_
                  refine zpu 6 (N := some 64) HT_ ?_
                  refine ztk 10 (N := some 68) HT_ HW_ hHeld ?_
                  refine zpu 11 (N := some 69) HT_ ?_
                  refine zpu 12 (N := some 70) HT_ ?_
                  refine ztk 16 (N := some 74) HT_ HW_ hHeld ?_
                  refine zpu 17 (N := some 75) HT_ ?_
                  refine zpu 18 (N := some 76) HT_ ?_
                  refine ztk 22 (N := some 80) HT_ HW_ hHeld ?_
                  refine zpu 23 (N := some 81) HT_ ?_
                  refine zon 24 (N := some 82) HT_ (fun K hK => ?_)
                  refine Kd.R_lit_step (Kd.int .u8) _ 5 ?hg (N := 82) ?hd (xs := ([((rd x3_3 x9_4) / 16777216) % 256,((rd x3_3 x9_4) / 65536) % 256,((rd x3_3 x9_4) / 256) % 256,(rd x3_3 x9_4) % 256] : List Int)) (inner := [.int .u8 (((rd x3_3 x9_4) / 16777216) % 256),.int .u8 (((rd x3_3 x9_4) / 65536) % 256),.int .u8 (((rd x3_3 x9_4) / 256) % 256),.int .u8 ((rd x3_3 x9_4) % 256)]) (ok := fun _ => True) (okp := fun _ => True) ?hr ?hp (fun _ hk => hk) trivial (Below.refl _ _) (Nat.le_refl _) (by simp) ?_;(case hd => rfl);(case hg => rfl);(case hr => first | (go_simp;done) | (go_simp;rfl));(case hp => exact (Reps.one (show Kd.M (Kd.int .u8) _ _ _ (((rd x3_3 x9_4) / 16777216) % 256) [.int .u8 (((rd x3_3 x9_4) / 16777216) % 256)] from rfl) (Reps.one (show Kd.M (Kd.int .u8) _ _ _ (((rd x3_3 x9_4) / 65536) % 256) [.int .u8 (((rd x3_3 x9_4) / 65536) % 256)] from rfl) (Reps.one (show Kd.M (Kd.int .u8) _ _ _ (((rd x3_3 x9_4) / 256) % 256) [.int .u8 (((rd x3_3 x9_4) / 256) % 256)] from rfl) (Reps.one (show Kd.M (Kd.int .u8) _ _ _ ((rd x3_3 x9_4) % 256) [.int .u8 ((rd x3_3 x9_4) % 256)] from rfl) (Reps.none _ _))))))
                  intro v219 w39 ho40 hb hg_ hnew_
                  have HS0_ := (hb.cell (World.block_lt_of_cell? _ _ (hHeld.1))).trans (hHeld.1)
                  have HS1_ := (hb.cell (World.block_lt_of_cell? _ _ (hHeld.2.1))).trans (hHeld.2.1)
                  have HS2_ := (hb.cell (World.block_lt_of_cell? _ _ (hHeld.2.2.1))).trans (hHeld.2.2.1)
                  have HS3_ := (hb.cell (World.block_lt_of_cell? _ _ (hHeld.2.2.2))).trans (hHeld.2.2.2)
                  clear hg_ hnew_
                  (first | rw [← Ny218.out] at ho40 | (simp only [Int.reduceToNat] at ho40;rw [← Ny218.out] at ho40))
                  replace HO_3 := zrb HO_3 hb
                  have HO220 := am_ (Kd.R_lower (Kd.R_new' ho40 (Kd.R_lt (zr HO_8))) (below_size (zl_ HB)))
                  replace HO_8 := am_ (Kd.R_elder' (zr HO_8) (Kd.R_base ho40) hb)
                  replace HB := zs_ HB hb
                  clear hb ho40
                  obtain ⟨Ao42,co42,eo42⟩ := Kd.R_slice HO220.out
                  (first | subst eo42 | (injection eo42 with f1_ f2_ f3_;have f4_ := f1_.symm;have f5_ := f3_.symm;clear f1_ f2_ f3_;subst f4_;subst f5_))
                  refine hK.out _ _ ⟨HS0_,HS1_,HS2_,HS3_⟩ (fun hHeld => ?_)
                  clear hK K
                  refine norm_ (a' := ?_) ?_ ?_
                  rotate_left
                  ·show Act.put _ (some 82) _ = _
                   simp only [Act.put,p1_,p2_,p3_,i64_w,i32_w]
                   rfl
                  refine last_ (i := 25) (N := some 83) #[true,true,true,true,true,true,true,true,true,true,true,true,true,true,true,true,true,true,true,true,true,true,true,true,true,true,false] rfl rfl (one_of HT_.out (by kernel_rfl)) (by decide) (fun K hK => ?_)
                  refine Kd.R_append_rows_step (Kd.int .u8) (w0 := w) w.heap.size (by rfl) (.tmp 58) (.tmp 82) 46 5 (.int .u8 0) 1 rfl Tryd.underlying46 info5 rfl (by decide) (by omega) u8 x8_4 y218 _ _ _ (fun k_ => some k_ ≠ (.slice Ao42 y218.length co42 : Value).ownBlock) (fun _ => False) rfl rfl ?aO ?aR (fun _ _ h => h) (fun _ h => h.elim) ?aF ?aB ?aS ?aL ?_
                  (case aR => repeat (first | exact (Kd.R_reads' HO220.out).2.2 | (with_reducible refine Kd.C_alloc ?_ _) | (with_reducible refine Kd.C_drewN ?_ _) | (with_reducible refine Kd.C_drew ?_)))
                  (case aB => exact (zl_ HB))
                  (case aF => exact (fun k_ hk => Kd.fresh' (Kd.R_lt (zr HO220)) k_ hk))
                  (case aO => exact (by (with_reducible repeat (first | apply r1_ | apply r2_ | apply r3_));exact Kd.R_mono HO_8.out (fun _ hk => hk.2)))
                  (case aS => exact (below_size (zl_ HB)))
                  (case aL => have := LMc36.out;omega)
                  intro v222 w41 ho hb hg hat
                  rw [← Ny221.out] at ho
                  replace HO_3 := am_ (Kd.R_over' (zr HO_3) (Kd.R_typed (zr HO_8)) (by decide) hg)
                  replace HB := am_ (hb)
                  have HO223 := am_ (ho)
                  clear HO_8
                  clear ho hb hg hat
                  refine hK.out _ _ ?_
                  clear hK K
                  refine norm_ (a' := ?_) ?_ ?_
                  rotate_left
                  ·show Act.put _ (some 83) _ = _
                   simp only [Act.put,p1_,p2_,p3_,i64_w,i32_w]
                   rfl
                  refine zpu 26 (N := some 8) HT_ ?_
                  refine done_ (done_of HT_.out (by kernel_rfl)) ?_
                  try go_wp2
                  go_roundg k4
                  case measure => have := HK1.out;have := HK2.out;have := HK3.out;have := HK4.out;omega
                  case rel => exact ⟨(y221),(wrap64 (x9_4 + 1)),(by first | rfl | (simp;done) | (simp [*];done)),H',⟨by have := HK1.out;have := HK2.out;have := HK3.out;have := HK4.out;omega⟩,⟨zr HO_3⟩,⟨by (with_reducible repeat (first | apply r1_ | apply r2_ | apply r3_));exact Kd.R_mono HO223.out (fun _ hk => trivial)⟩,⟨zl_ HB⟩⟩
                 ·rw [if_neg c36] at H
                  exact absurd H (by simp)
                ·rw [if_neg c35] at H
                 exact absurd H (by simp)
               ·rw [if_neg c34] at H
                exact absurd H (by simp)
              ·rw [if_neg c33] at H
               have c33b0 : decide (x9_4 < 8) = false := decide_eq_false c33
               clear c33
               obtain rfl := Option.some.inj H
               have hcv43 := own_string (P := Tryd.prog) Tryd.underlying46 Tryd.underlying5 Tryd.underlying9 (Kd.own_of_R HO_8.out)
               go_wp2
               go_ret
               exact ⟨zt_,zl_ HB⟩
     ·rw [if_neg c10] at H
      have c10b0 : (((x4_1.length : Int) % 64) == 56) = false := beq_eq_false_iff_ne.mpr c10
      have c10b1 : (((x4_1.length : Int) % 64) != 56) = true := bne_iff_ne.mpr c10
      by_cases c44 : x4_1.length < 140737488355328
      ·rw [if_pos c44] at H
       have LMc44 := am_ c44
       clear c44
       obtain ⟨y197,hy197⟩ : ∃ y_ : List Int,y_ = (x4_1 ++ [0]) := ⟨_,rfl⟩
       replace H : (spec_l01Hash.l0 k1 l0 y185 y197) = some r := by first | (rw [hy197];with_reducible exact H) | (have H2_ := (Option.bind_some _ _).symm.trans H;rw [hy197];with_reducible exact H2_) | (have H2_ := (Option.bind_some _ _).symm.trans H;with_reducible exact H2_) | with_reducible exact H | (rw [hy197];exact H) | exact H
       have Ny197 := am_ hy197
       clear hy197
       have H' := am_ H
       clear H
       obtain ⟨Ao45,co45,eo45⟩ := Kd.R_slice HO_4.out
       subst eo45
       go_wp2_with (first | ((with_reducible refine gate_builtin (b := .append) (xs := #[.tmp 20,.tmp 21]) rfl ?_);at_builtin;refine Kd.R_append (Kd.int .u8) (w0 := w) w.heap.size rfl (.tmp 20) (.tmp 21) 46 5 (.int .u8 0) 1 rfl Tryd.underlying46 info5 rfl (by decide) (by omega) (.slice Ao45 x4_1.length co45) x4_1 0 [.int .u8 0] (fun _ => True) (fun _ => False) rfl rfl ?aP (fun _ hk => hk.elim) ?aF ?aO ?aB ?aS ?aL ?_;(case aP => exact rfl);(case aB => exact (zl_ HB));(case aF => exact (fun _ _ => trivial));(case aO => exact (zr HO_4));(case aS => exact (below_size (zl_ HB)));(case aL => have := LMc44.out;omega);intro v198 w46 ho hb hg hat;rw [← Ny197.out] at ho;replace HO_3 := am_ (Kd.R_over' (zr HO_3) (Kd.R_typed (zr HO_4)) (by decide) hg);replace HB := am_ (hb);have HO199 := am_ (ho);clear HO_4;clear ho hb hg hat))
       go_roundg k1
       case measure => have := HK1.out;omega
       case rel => exact ⟨(y197),H',⟨by have := HK1.out;omega⟩,⟨zr HO_3⟩,⟨zr HO199⟩,⟨zl_ HB⟩⟩
      ·rw [if_neg c44] at H
       exact absurd H (by simp)
  ·rw [if_neg c3] at H
   exact absurd H (by simp)
 ·rw [if_neg c2] at H
  exact absurd H (by simp)
set_option maxHeartbeats 8000000 in
set_option maxRecDepth 100000 in
theorem spec_l04Secret.calls (k : Nat) (a0 : Int) (r : ByteArray) (w : World) (h : spec_l04Secret.f k a0 = some r) :
  Calls Tryd.prog 183 #[.int .i64 a0] w fun e w' => e = .returned (.string r) ∧ Below w.heap.size w w' := by
 have HB := am_ (Below.refl w.heap.size w)
 have H : ((some (([(a0) % 256] : List Int) : List Int)).bind fun y876 => (if 8 + (strOfNums y876).size ≤ 9223372036854775807 then (if ((⟨#[110,111,100,101,32,107,101,121]⟩ : ByteArray) ++ (strOfNums y876)).size ≤ 140737488355328 then ((spec_l01Hash.f k (bytesOf ((⟨#[110,111,100,101,32,107,101,121]⟩ : ByteArray) ++ (strOfNums y876)))).bind fun t882 => (some t882)) else (none)) else (none))) = some r := h
 clear h
 obtain ⟨y876,hy876⟩ : ∃ y_ : List Int,y_ = (([(a0) % 256] : List Int)) := ⟨_,rfl⟩
 replace H : (if 8 + (strOfNums y876).size ≤ 9223372036854775807 then (if ((⟨#[110,111,100,101,32,107,101,121]⟩ : ByteArray) ++ (strOfNums y876)).size ≤ 140737488355328 then ((spec_l01Hash.f k (bytesOf ((⟨#[110,111,100,101,32,107,101,121]⟩ : ByteArray) ++ (strOfNums y876)))).bind fun t882 => (some t882)) else (none)) else (none)) = some r := by first | (rw [hy876];with_reducible exact H) | (have H2_ := (Option.bind_some _ _).symm.trans H;rw [hy876];with_reducible exact H2_) | (have H2_ := (Option.bind_some _ _).symm.trans H;with_reducible exact H2_) | with_reducible exact H | (rw [hy876];exact H) | exact H
 have Ny876 := am_ hy876
 clear hy876
 by_cases c2 : 8 + (strOfNums y876).size ≤ 9223372036854775807
 ·rw [if_pos c2] at H
  have c2b0 := eq_true c2
  have c2b1 : decide (8 + (strOfNums y876).size ≤ 9223372036854775807) = true := decide_eq_true c2
  try have c2b2 : (9223372036854775807 < 8 + (strOfNums y876).size) = False := eq_false (Nat.not_lt.2 c2)
  by_cases c3 : ((⟨#[110,111,100,101,32,107,101,121]⟩ : ByteArray) ++ (strOfNums y876)).size ≤ 140737488355328
  ·rw [if_pos c3] at H
   have c3b0 := eq_true c3
   have c3b1 : decide (((⟨#[110,111,100,101,32,107,101,121]⟩ : ByteArray) ++ (strOfNums y876)).size ≤ 140737488355328) = true := decide_eq_true c3
   obtain ⟨y879,hy879⟩ : ∃ y_ : List Int,y_ = (bytesOf ((⟨#[110,111,100,101,32,107,101,121]⟩ : ByteArray) ++ (strOfNums y876))) := ⟨_,rfl⟩
   replace H : ((spec_l01Hash.f k y879).bind fun t882 => (some t882)) = some r := by first | (rw [hy879];with_reducible exact H) | (have H2_ := (Option.bind_some _ _).symm.trans H;rw [hy879];with_reducible exact H2_) | (have H2_ := (Option.bind_some _ _).symm.trans H;with_reducible exact H2_) | with_reducible exact H | (rw [hy879];exact H) | exact H
   have Ny879 := am_ hy879
   clear hy879
   replace H := Option.bind_eq_some_iff.mp H
   obtain ⟨t882,A40,H⟩ := H
   try dsimp only at H
   have A4 := am_ A40
   clear A40
   obtain rfl := Option.some.inj H
   go_enter Tryd.func183,Tryd.ntmps183
   go_wp2_with (first | ((with_reducible refine gate_dst (N := 5) rfl ?_);refine Kd.R_lit (Kd.int .u8) _ 5 ?hg (N := 5) ?hd (xs := ([(a0) % 256] : List Int)) (inner := [.int .u8 ((a0) % 256)]) (ok := fun _ => True) (okp := fun _ => True) ?hr ?hp (fun _ hk => hk) trivial (Below.refl _ _) (Nat.le_refl _) (by simp) ?_;(case hd => rfl);(case hg => rfl);(case hr => first | (go_simp;done) | (go_simp;rfl));(case hp => exact (Reps.one (show Kd.M (Kd.int .u8) _ _ _ ((a0) % 256) [.int .u8 ((a0) % 256)] from rfl) (Reps.none _ _)));intro v877 w5 ho6 hb hg_ hnew_;clear hg_ hnew_;(first | rw [← Ny876.out] at ho6 | (simp only [Int.reduceToNat] at ho6;rw [← Ny876.out] at ho6));have HO878 := am_ (Kd.R_lower ho6 (below_size (zl_ HB)));replace HB := zs_ HB hb;clear hb ho6;have hcv7 := own_string (P := Tryd.prog) Tryd.underlying46 Tryd.underlying5 Tryd.underlying9 (Kd.own_of_R HO878.out)) | ((with_reducible refine gate_dst (N := 8) rfl ?_);refine Kd.V_conv (Kd.int .u8) rfl _ 5 rfl (N := 8) rfl 9 46 _ rfl ((⟨#[110,111,100,101,32,107,101,121]⟩ : ByteArray) ++ (strOfNums y876)) rfl Tryd.underlying9 Tryd.underlying46 Tryd.underlying5 (ok := fun k_ => w5.heap.size ≤ k_) (okp := fun _ => False) (fun _ hk => hk.elim) (Nat.le_refl _) (by have := o1_ (by first | (with_reducible assumption) | assumption : decide (((⟨#[110,111,100,101,32,107,101,121]⟩ : ByteArray) ++ (strOfNums y876)).size ≤ 140737488355328) = true);omega) (Below.refl _ _) (Nat.le_refl _) ?_;intro v880 w8 ho9 hb hg_ hnew_;clear hg_ hnew_;(first | rw [← Ny879.out] at ho9 | (simp only [Int.reduceToNat] at ho9;rw [← Ny879.out] at ho9));have HO881 := am_ (Kd.V_lower (Kd.V_mono (ok' := fun k_ => some k_ ≠ (v877 : Value).ownBlock) ho9 (fun k_ hk_ => (Kd.fresh' (Kd.R_lt (zr HO878)) k_ hk_))) (below_size (zl_ HB)));replace HB := zs_ HB hb;clear hb ho9;obtain ⟨Ao10,co10,eo10⟩ := Kd.V_slice HO881.out;subst eo10) | ((with_reducible refine gate_callee (f := 113) rfl ?_);refine zgl (some 9) Tryd.func113 #[.slice Ao10 y879.length co10] ?_;(with_reducible refine (spec_l01Hash.calls k _ _ y879 t882 _ ?side1 ?side2 A4.out).mono ?_);(case side1 => repeat (first | exact (Kd.V_reads' HO881.out).2.2 | (with_reducible refine Kd.C_alloc ?_ _) | (with_reducible refine Kd.C_drewN ?_ _) | (with_reducible refine Kd.C_drew ?_)));(case side2 => exact (Kd.V_reads' HO881.out).2.1);rintro e w11 ⟨rfl,hb⟩;refine ⟨_,rfl,?_⟩;replace HB := zs_ HB hb;(try clear hb);(try clear hb2);(try clear hk);(try clear hi)))
   go_ret
   exact ⟨zt_,zl_ HB⟩
  ·rw [if_neg c3] at H
   exact absurd H (by simp)
 ·rw [if_neg c2] at H
  exact absurd H (by simp)
end Go.Proofs.YtlifdodphkimpaaDoor.B
end

section
namespace Go.Proofs.YtlifdodphkimpaaDoor.B
open Go.RowKit Go.Proofs.YtlifdodphkimpaaDoorW.PrintWords Go.Proofs.YtlifdodphkimpaaDoorW.PrintLast Go.Proofs.YtlifdodphkimpaaDoorW.PrintMore
theorem bm_C {W : World} {g cap : Nat} {l : List Int} (h : Bm W g cap l) (hl : l.length ≤ 140737488355328) : Kd.C (Kd.int .u8) W (some ⟨g, 0, none⟩) l.length l :=
  Kd.C_of_reads (enc := Value.int .u8) (d := (0 : Int)) (h1 := fun _ => rfl) ⟨rfl, by omega, fun hn => ⟨⟨g, 0, none⟩, rfl, fun j hj => by rw [add0]; exact h.cell j hj⟩⟩
theorem firstCells_C {P : Program} {W : World} {A : Option Addr} {c : Nat} {ys : List Int} (hC : Kd.C (Kd.int .u8) W A ys.length ys) : ∀ W', W'.heap = W.heap → (Builtin.firstCells 1 ys.length (.slice A ys.length c)).run P W' = .ok (nums .u8 ys).toArray W' := by
  intro W' hW
  by_cases h0 : 0 < ys.length
  · obtain ⟨ad, e, cc⟩ := Kd.at_int hC 0 (by decide) (by omega)
    subst e
    refine run_firstCells_some (P := P) W' 1 ys.length ad ys.length c (nums .u8 ys) (by rw [nums_length]; omega) (fun j v hj => ?_)
    have hjl : j < ys.length := by
      have := (List.getElem?_eq_some_iff.1 hj).1
      rw [nums_length] at this
      exact this
    obtain ⟨ad2, e2, c2⟩ := Kd.at_int hC (j : Int) (by omega) (by omega)
    obtain rfl : ad = ad2 := Option.some.inj e2
    rw [Int.toNat_natCast] at c2
    have hc : W'.cell? (ad.add j) = W.cell? (ad.add j) := by unfold World.cell?; rw [hW]
    rw [hc, c2]
    simp only [nums, List.getElem?_map, List.getElem?_eq_getElem hjl, Option.map_some, Option.some.injEq] at hj
    subst hj
    simp [rd, List.getD, hjl]
  · have h1 : ys = [] := List.eq_nil_of_length_eq_zero (by omega)
    subst h1
    cases A with
    | none => simp [Builtin.firstCells, nums]
    | some ad => exact run_firstCells_some (P := P) W' 1 0 ad 0 c [] rfl (fun j v hj => by simp at hj)
theorem appendC_hs {P : Program} {ops : Array Oper} {rest : List Oper} {o : Oper} {a : Act} {Q : Exit → Act → World → Prop} {w W : World} {n g cap : Nat} {l ys : List Int} {A : Option Addr} {c : Nat} (t e : TypeId) (hgd : o.guard = none) (s x : Operand)
    (ho : o.op = .call { callee := .builtin .append, args := #[s, x], argTypes := #[t, t] })
    (ht : P.underlying t = some (.slice e)) (hinfo : (P.info? e).map (fun i => (i.zero, i.size, i.bytes)) = some (some (.int .u8 0), 1, 1))
    (hs : a.eval s = .slice (some ⟨g, 0, none⟩) l.length cap) (hx : a.eval x = .slice A ys.length c) (hC : Kd.C (Kd.int .u8) W A ys.length ys) (hne : 0 < l.length) (HB : Hs w W n g cap l) (hl : l.length + ys.length ≤ 140737488355328)
    (h : ∀ g' cap' w1, Hs w w1 n g' cap' (l ++ ys) → wpList P ops Q rest (a.put o.dst (.slice (some ⟨g', 0, none⟩) (l ++ ys).length cap')) w1) :
    wpList P ops Q (o :: rest) a W := by
  obtain ⟨g', cap', w1, hr, hb, hg, hat⟩ := run_append_bm (P := P) (W := W) t t o.type e ht (Or.inr ht) hinfo (.slice A ys.length c) ys (fun W' => by simp [Builtin.lenOf]) (firstCells_C hC) HB.row hl
  refine wpList_plain hgd fun K hK => ?_
  unfold Oper.wp execOp
  simp only [ho, resolve, invoke, builtin, Sem.run_bind, Sem.run_pure, Result.andThen_ok, List.map_toArray, List.map_cons, List.map_nil, hs, hx, hr]
  refine hK _ _ ?_
  have := h g' cap' w1 (HB.after hb (by have := hb.room; rw [List.length_append] at this; omega) hg hat)
  rwa [List.length_append] at this
set_option maxHeartbeats 2000000 in
set_option maxRecDepth 100000 in
theorem mac_walk (k : Nat) (a0 : Int) (A1 : Option Addr) (c1 : Nat) (l1 : List Int) (t t2 : ByteArray) (w : World) (hr1 : Kd.C (Kd.int .u8) w A1 l1.length l1) (hc1 : l1.length ≤ c1) (h1 : spec_l04Secret.f k a0 = some t) (hz : t.size + l1.length < 140737488355328) (h0 : 0 < t.size) (h2 : spec_l01Hash.f k (bytesOf t ++ l1) = some t2) (h8 : 8 ≤ t2.size) :
    Calls Tryd.prog 167 #[.int .i64 a0, .slice A1 l1.length c1] w fun e w' => e = .returned (.string (t2.extract 0 8)) ∧ Below w.heap.size w w' := by
  have HR := Aside0.mk hr1
  have HC := Aside0.mk hc1
  have H1 := Aside0.mk h1
  have H2 := Aside0.mk h2
  have hb : (bytesOf t).length = t.size := bytesOf_length t
  have HZ := Aside0.mk (And.intro hb (And.intro hz h0))
  clear hr1 hc1 h1 h2 hb hz h0
  have h8i : (8 : Int) ≤ (t2.size : Int) := by omega
  go_enter Tryd.func167, Tryd.ntmps167
  go_wp2_with (first | (go_at_call 183; with_reducible refine (spec_l04Secret.calls k a0 t _ H1.out).mono ?_; rintro e w1 ⟨rfl, hb1⟩; have B1 := Aside0.mk hb1; clear hb1) | ((with_reducible refine gate_dst (N := 7) rfl ?_); refine conv_hs 5 rfl 9 46 _ rfl t rfl Tryd.underlying9 Tryd.underlying46 Tryd.underlying5 ?_; intro g cap w2 F0; have F := Aside0.mk F0; clear F0) | ((with_reducible refine gate_builtin (b := .append) (xs := #[.tmp 7, .tmp 8]) rfl ?_); at_builtin; refine appendC_hs (l := bytesOf t) (ys := l1) 46 5 rfl (.tmp 7) (.tmp 8) rfl Tryd.underlying46 info5 (by rw [HZ.out.1]; rfl) rfl (Kd.C_below HR.out (Below.trans B1.out (F.out.below.mono B1.out.size))) (by have := HZ.out; omega) F.out (by have := HZ.out; omega) ?_; clear F; intro g' cap' w3 F0; have F := Aside0.mk F0; clear F0) | (go_at_call 113; refine calls_of_args (args' := #[.slice (some ⟨g', 0, none⟩) (bytesOf t ++ l1).length cap']) (by rw [List.length_append]) ?_; with_reducible refine (spec_l01Hash.calls k (some ⟨g', 0, none⟩) cap' (bytesOf t ++ l1) t2 _ (bm_C F.out.row (by have := HZ.out; rw [List.length_append]; omega)) F.out.row.room H2.out).mono ?_; rintro e w4 ⟨rfl, hb4⟩; have B4 := Aside0.mk (Below.trans (Below.trans B1.out (F.out.below.mono B1.out.size)) (hb4.mono (Nat.le_trans B1.out.size F.out.below.size))); clear hb4 F B1))
  go_ret
  exact ⟨by first | rfl | (simp; done), B4.out⟩
end Go.Proofs.YtlifdodphkimpaaDoor.B
end

section
namespace Go.Proofs.YtlifdodphkimpaaDoor.B
open Go.RowKit Go.Proofs.YtlifdodphkimpaaDoorW.PrintWords Go.Proofs.YtlifdodphkimpaaDoorW.PrintLast Go.Proofs.YtlifdodphkimpaaDoorW.PrintMore
attribute [local go_sem] max2_int min2_int max_two min_two max_three min_three max_four min_four
theorem spec_l04Mac.calls (k : Nat) (a0 : Int) (A1 : Option Addr) (c1 : Nat) (l1 : List Int) (r : ByteArray) (w : World) (hr1 : Kd.C (Kd.int .u8) w A1 l1.length l1) (hc1 : l1.length ≤ c1) (h : spec_l04Mac.f k a0 l1 = some r) :
  Calls Tryd.prog 167 #[.int .i64 a0,.slice A1 l1.length c1] w fun e w' => e = .returned (.string r) ∧ Below w.heap.size w w' := by
 unfold spec_l04Mac.f at h
 obtain ⟨t1,h1,h⟩ := Option.bind_eq_some_iff.1 h
 by_cases c : t1.size + l1.length < 140737488355328 ∧ 0 < t1.size
 ·rw [if_pos c] at h
  obtain ⟨t2,h2,h⟩ := Option.bind_eq_some_iff.1 h
  by_cases c8 : 8 ≤ t2.size
  ·rw [if_pos c8] at h
   obtain rfl := Option.some.inj h
   exact mac_walk k a0 A1 c1 l1 t1 t2 w hr1 hc1 h1 c.1 c.2 h2 c8
  ·rw [if_neg c8] at h
   cases h
 ·rw [if_neg c] at h
  cases h
set_option maxHeartbeats 8000000 in
set_option maxRecDepth 100000 in
theorem spec_l02Number.calls (k : Nat) (a0 : Int) (a1 : Int) (r : List Int) (w : World) (h : spec_l02Number.f k a0 a1 = some r) :
  Calls Tryd.prog 184 #[.int .i64 a0,.int .i64 a1] w fun e w' => ∃ v0_ : Value,e = .returned (v0_) ∧ Kd.R (Kd.int .u8) 5 w' w.heap.size (fun _ => True) v0_ r ∧ Below w.heap.size w w' := by
 have HB := am_ (Below.refl w.heap.size w)
 have H : (spec_l02Number.l0 k a0 (([] : List Int)) (wrap64 (a1 - 1))) = some r := h
 clear h
 obtain ⟨y883,hy883⟩ : ∃ y_ : List Int,y_ = (([] : List Int)) := ⟨_,rfl⟩
 replace H : (spec_l02Number.l0 k a0 y883 (wrap64 (a1 - 1))) = some r := by first | (rw [hy883];with_reducible exact H) | (have H2_ := (Option.bind_some _ _).symm.trans H;rw [hy883];with_reducible exact H2_) | (have H2_ := (Option.bind_some _ _).symm.trans H;with_reducible exact H2_) | with_reducible exact H | (rw [hy883];exact H) | exact H
 have Ny883 := am_ hy883
 clear hy883
 have H' := am_ H
 clear H
 go_enter Tryd.func184,Tryd.ntmps184
 go_wp2_with (first | ((with_reducible refine gate_dst (N := 7) rfl ?_);refine Kd.R_lit (Kd.int .u8) _ 5 ?hg (N := 7) ?hd (xs := ([] : List Int)) (inner := []) (ok := fun _ => True) (okp := fun _ => True) ?hr ?hp (fun _ hk => hk) trivial (Below.refl _ _) (Nat.le_refl _) (by simp) ?_;(case hd => rfl);(case hg => rfl);(case hr => first | (go_simp;done) | (go_simp;rfl));(case hp => exact (Reps.none _ _));intro v884 w3 ho4 hb hg_ hnew_;clear hg_ hnew_;(first | rw [← Ny883.out] at ho4 | (simp only [Int.reduceToNat] at ho4;rw [← Ny883.out] at ho4));have HO885 := am_ (Kd.R_lower ho4 (below_size (zl_ HB)));replace HB := zs_ HB hb;clear hb ho4))
 go_loopg [5,6] k (fun kq v5 v6 w' => ∃ (x5_1 : List Int) (x6_1 : Int),v6 = .int .i64 x6_1 ∧ Aside0 (spec_l02Number.l0 kq a0 x5_1 x6_1 = some r) ∧ Aside0 (kq ≤ k) ∧ Aside0 (Kd.R (Kd.int .u8) 5 w' w.heap.size (fun _ => True) v5 x5_1) ∧ Aside0 (Below w.heap.size w w'))
 case atStart => exact ⟨(y883),(wrap64 (a1 - 1)),(by first | rfl | (simp;done) | (simp [*];done)),H',⟨Nat.le_refl _⟩,⟨zr HO885⟩,⟨zl_ HB⟩⟩
 case round =>
  clear H'
  try clear c1
  try clear p2
  obtain ⟨x5_1,x6_1,rfl,HA,HK1,HO_5,HB⟩ := hrel
  cases gk with
  | zero => exact absurd HA.out (by simp [spec_l02Number.l0])
  | succ k1 =>
   have H := HA.out
   clear HA
   simp only [spec_l02Number.l0] at H
   by_cases c5 : x6_1 ≥ 0
   ·rw [if_pos c5] at H
    have c5b0 : decide (0 ≤ x6_1) = true := decide_eq_true c5
    clear c5
    obtain ⟨ji6,hji6⟩ : ∃ j_ : Int,(IntKind.u64.wrap (wrap64 (8 * x6_1))) = j_ := ⟨_,rfl⟩
    replace H : (if 0 ≤ (ji6) then (if x5_1.length < 140737488355328 then (spec_l02Number.l0 k1 a0 (x5_1 ++ [(shr .i64 a0 (ji6)) % 256]) (wrap64 (x6_1 - 1))) else (none)) else (none)) = some r := by first | (rw [hji6] at H;exact H) | (simp only [hji6] at H ⊢;exact H)
    by_cases c7 : 0 ≤ (ji6)
    ·rw [if_pos c7] at H
     have c7b0 := eq_true c7
     have c7b1 : decide (0 ≤ (ji6)) = true := decide_eq_true c7
     clear c7
     obtain ⟨ji8,hji8⟩ : ∃ j_ : Int,(shr .i64 a0 (ji6)) = j_ := ⟨_,rfl⟩
     replace H : (if x5_1.length < 140737488355328 then (spec_l02Number.l0 k1 a0 (x5_1 ++ [(ji8) % 256]) (wrap64 (x6_1 - 1))) else (none)) = some r := by first | (rw [hji8] at H;exact H) | (simp only [hji8] at H ⊢;exact H)
     have hji8_ : (a0 / 2 ^ min (ji6).toNat 64) = ji8 := hji8
     have hji8z : (ji6) ≤ 64 → (a0 / 2 ^ (ji6).toNat) = ji8 := shr_small hji8
     by_cases c9 : x5_1.length < 140737488355328
     ·rw [if_pos c9] at H
      have LMc9 := am_ c9
      clear c9
      obtain ⟨y886,hy886⟩ : ∃ y_ : List Int,y_ = (x5_1 ++ [(ji8) % 256]) := ⟨_,rfl⟩
      replace H : (spec_l02Number.l0 k1 a0 y886 (wrap64 (x6_1 - 1))) = some r := by first | (rw [hy886];with_reducible exact H) | (have H2_ := (Option.bind_some _ _).symm.trans H;rw [hy886];with_reducible exact H2_) | (have H2_ := (Option.bind_some _ _).symm.trans H;with_reducible exact H2_) | with_reducible exact H | (rw [hy886];exact H) | exact H
      have Ny886 := am_ hy886
      clear hy886
      have H' := am_ H
      clear H
      go_wp2_with (first | ((with_reducible refine gate_builtin (b := .append) (xs := #[.tmp 14,.tmp 21]) rfl ?_);at_builtin;refine Kd.R_append (Kd.int .u8) (w0 := w) w.heap.size rfl (.tmp 14) (.tmp 21) 46 5 (.int .u8 0) 1 rfl Tryd.underlying46 info5 rfl (by decide) (by omega) u5 x5_1 ((ji8) % 256) [.int .u8 ((ji8) % 256)] (fun _ => True) (fun _ => False) rfl rfl ?aP (fun _ hk => hk.elim) ?aF ?aO ?aB ?aS ?aL ?_;(case aP => exact rfl);(case aB => exact (zl_ HB));(case aF => exact (fun _ _ => trivial));(case aO => exact (zr HO_5));(case aS => exact (below_size (zl_ HB)));(case aL => have := LMc9.out;omega);intro v887 w10 ho hb hg hat;rw [← Ny886.out] at ho;replace HB := am_ (hb);have HO888 := am_ (ho);clear HO_5;clear ho hb hg hat))
      go_roundg k1
      case measure => have := HK1.out;omega
      case rel => exact ⟨(y886),(wrap64 (x6_1 - 1)),(by first | rfl | (simp;done) | (simp [*];done)),H',⟨by have := HK1.out;omega⟩,⟨zr HO888⟩,⟨zl_ HB⟩⟩
     ·rw [if_neg c9] at H
      exact absurd H (by simp)
    ·rw [if_neg c7] at H
     exact absurd H (by simp)
   ·rw [if_neg c5] at H
    have c5b0 : decide (0 ≤ x6_1) = false := decide_eq_false c5
    clear c5
    obtain rfl := Option.some.inj H
    go_wp2
    go_ret
    exact ⟨_,zt_,zr HO_5,zl_ HB⟩
def spec_l11Plain.T2 : Bool × List (List Nat × List Nat) := (true,[([],[]),([],[]),([1],[1]),([2],[2]),([0,3,3],[0,3]),([],[]),([5],[5]),([6],[6]),([7],[7]),([8],[8]),([4,9,4],[4,9]),([10,10,0,1,2,3,4,5,6,7,8,9,10],[0,10])])
def spec_l11Plain.B2 : List Nat := [0,0,2,6,15,0,32,96,224,480,1023,2047]
theorem spec_l11Plain.tab2 : rtab .any (opsOf Tryd.f168 2) = spec_l11Plain.T2 := by kernel_rfl
theorem spec_l11Plain.bits2 : waitsOk spec_l11Plain.T2.2 spec_l11Plain.B2 = true := by kernel_rfl
def spec_l11Plain.T3 : Bool × List (List Nat × List Nat) := (true,[([],[]),([],[]),([1],[1]),([2],[2]),([3],[3]),([0,4,4],[0,4]),([],[]),([6],[6]),([7],[7]),([8],[8]),([9,5],[9]),([5,10,10],[5,10]),([11,11,0,1,2,3,4,5,6,7,8,9,10,11],[0,11])])
def spec_l11Plain.B3 : List Nat := [0,0,2,6,14,31,0,64,192,448,1023,2047,4095]
theorem spec_l11Plain.tab3 : rtab .any (opsOf Tryd.f168 3) = spec_l11Plain.T3 := by kernel_rfl
theorem spec_l11Plain.bits3 : waitsOk spec_l11Plain.T3.2 spec_l11Plain.B3 = true := by kernel_rfl
set_option maxHeartbeats 8000000 in
set_option maxRecDepth 100000 in
theorem spec_l11Plain.calls (k : Nat) (a0_0 : Int) (a0_1 : Int) (a0_2 : Int) (a0_3 : Int) (a0_4 : Int) (a0_5 : Int) (a0_6 : Int) (a0_7 : ByteArray) (r : List Int) (w : World) (h : spec_l11Plain.f k a0_0 a0_1 a0_2 a0_3 a0_4 a0_5 a0_6 a0_7 = some r) :
  Calls Tryd.prog 168 #[.agg #[.int .i64 a0_0,.int .i64 a0_1,.int .i64 a0_2,.int .i64 a0_3,.int .i64 a0_4,.int .i64 a0_5,.int .i64 a0_6,.string a0_7]] w fun e w' => ∃ v0_ : Value,e = .returned (v0_) ∧ Kd.R (Kd.int .u8) 5 w' w.heap.size (fun _ => True) v0_ r ∧ Below w.heap.size w w' := by
 have hu73 := Tryd.underlying73
 have HB := am_ (Below.refl w.heap.size w)
 have H : ((some (([114,101,112,108,121,(a0_1) % 256] : List Int) : List Int)).bind fun y890 => ((spec_l02Number.f k a0_2 2).bind fun t893 => (if y890.length + t893.length < 140737488355328 then ((some (y890 ++ t893 : List Int)).bind fun y896 => ((some (([(a0_3) % 256] : List Int) : List Int)).bind fun y899 => (if y896.length + y899.length < 140737488355328 then ((some (y896 ++ y899 : List Int)).bind fun y902 => ((spec_l02Number.f k a0_4 3).bind fun t905 => (if y902.length + t905.length < 140737488355328 then ((some (y902 ++ t905 : List Int)).bind fun y908 => ((spec_l02Number.f k (wrap64 (a0_5 + 1)) 2).bind fun t911 => (if y908.length + t911.length < 140737488355328 then ((some (y908 ++ t911 : List Int)).bind fun y914 => ((spec_l02Number.f k a0_6 4).bind fun t917 => (if y914.length + t917.length < 140737488355328 then (some (y914 ++ t917)) else (none)))) else (none)))) else (none)))) else (none)))) else (none)))) = some r := h
 clear h
 obtain ⟨y890,hy890⟩ : ∃ y_ : List Int,y_ = (([114,101,112,108,121,(a0_1) % 256] : List Int)) := ⟨_,rfl⟩
 replace H : ((spec_l02Number.f k a0_2 2).bind fun t893 => (if y890.length + t893.length < 140737488355328 then ((some (y890 ++ t893 : List Int)).bind fun y896 => ((some (([(a0_3) % 256] : List Int) : List Int)).bind fun y899 => (if y896.length + y899.length < 140737488355328 then ((some (y896 ++ y899 : List Int)).bind fun y902 => ((spec_l02Number.f k a0_4 3).bind fun t905 => (if y902.length + t905.length < 140737488355328 then ((some (y902 ++ t905 : List Int)).bind fun y908 => ((spec_l02Number.f k (wrap64 (a0_5 + 1)) 2).bind fun t911 => (if y908.length + t911.length < 140737488355328 then ((some (y908 ++ t911 : List Int)).bind fun y914 => ((spec_l02Number.f k a0_6 4).bind fun t917 => (if y914.length + t917.length < 140737488355328 then (some (y914 ++ t917)) else (none)))) else (none)))) else (none)))) else (none)))) else (none))) = some r := by first | (rw [hy890];with_reducible exact H) | (have H2_ := (Option.bind_some _ _).symm.trans H;rw [hy890];with_reducible exact H2_) | (have H2_ := (Option.bind_some _ _).symm.trans H;with_reducible exact H2_) | with_reducible exact H | (rw [hy890];exact H) | exact H
 have Ny890 := am_ hy890
 clear hy890
 replace H := Option.bind_eq_some_iff.mp H
 obtain ⟨t893,A20,H⟩ := H
 try dsimp only at H
 have A2 := am_ A20
 clear A20
 by_cases c3 : y890.length + t893.length < 140737488355328
 ·rw [if_pos c3] at H
  have LMc3 := am_ c3
  clear c3
  obtain ⟨y896,hy896⟩ : ∃ y_ : List Int,y_ = (y890 ++ t893) := ⟨_,rfl⟩
  replace H : ((some (([(a0_3) % 256] : List Int) : List Int)).bind fun y899 => (if y896.length + y899.length < 140737488355328 then ((some (y896 ++ y899 : List Int)).bind fun y902 => ((spec_l02Number.f k a0_4 3).bind fun t905 => (if y902.length + t905.length < 140737488355328 then ((some (y902 ++ t905 : List Int)).bind fun y908 => ((spec_l02Number.f k (wrap64 (a0_5 + 1)) 2).bind fun t911 => (if y908.length + t911.length < 140737488355328 then ((some (y908 ++ t911 : List Int)).bind fun y914 => ((spec_l02Number.f k a0_6 4).bind fun t917 => (if y914.length + t917.length < 140737488355328 then (some (y914 ++ t917)) else (none)))) else (none)))) else (none)))) else (none))) = some r := by first | (rw [hy896];with_reducible exact H) | (have H2_ := (Option.bind_some _ _).symm.trans H;rw [hy896];with_reducible exact H2_) | (have H2_ := (Option.bind_some _ _).symm.trans H;with_reducible exact H2_) | with_reducible exact H | (rw [hy896];exact H) | exact H
  have Ny896 := am_ hy896
  clear hy896
  obtain ⟨y899,hy899⟩ : ∃ y_ : List Int,y_ = (([(a0_3) % 256] : List Int)) := ⟨_,rfl⟩
  replace H : (if y896.length + y899.length < 140737488355328 then ((some (y896 ++ y899 : List Int)).bind fun y902 => ((spec_l02Number.f k a0_4 3).bind fun t905 => (if y902.length + t905.length < 140737488355328 then ((some (y902 ++ t905 : List Int)).bind fun y908 => ((spec_l02Number.f k (wrap64 (a0_5 + 1)) 2).bind fun t911 => (if y908.length + t911.length < 140737488355328 then ((some (y908 ++ t911 : List Int)).bind fun y914 => ((spec_l02Number.f k a0_6 4).bind fun t917 => (if y914.length + t917.length < 140737488355328 then (some (y914 ++ t917)) else (none)))) else (none)))) else (none)))) else (none)) = some r := by first | (rw [hy899];with_reducible exact H) | (have H2_ := (Option.bind_some _ _).symm.trans H;rw [hy899];with_reducible exact H2_) | (have H2_ := (Option.bind_some _ _).symm.trans H;with_reducible exact H2_) | with_reducible exact H | (rw [hy899];exact H) | exact H
  have Ny899 := am_ hy899
  clear hy899
  by_cases c4 : y896.length + y899.length < 140737488355328
  ·rw [if_pos c4] at H
   have LMc4 := am_ c4
   clear c4
   obtain ⟨y902,hy902⟩ : ∃ y_ : List Int,y_ = (y896 ++ y899) := ⟨_,rfl⟩
   replace H : ((spec_l02Number.f k a0_4 3).bind fun t905 => (if y902.length + t905.length < 140737488355328 then ((some (y902 ++ t905 : List Int)).bind fun y908 => ((spec_l02Number.f k (wrap64 (a0_5 + 1)) 2).bind fun t911 => (if y908.length + t911.length < 140737488355328 then ((some (y908 ++ t911 : List Int)).bind fun y914 => ((spec_l02Number.f k a0_6 4).bind fun t917 => (if y914.length + t917.length < 140737488355328 then (some (y914 ++ t917)) else (none)))) else (none)))) else (none))) = some r := by first | (rw [hy902];with_reducible exact H) | (have H2_ := (Option.bind_some _ _).symm.trans H;rw [hy902];with_reducible exact H2_) | (have H2_ := (Option.bind_some _ _).symm.trans H;with_reducible exact H2_) | with_reducible exact H | (rw [hy902];exact H) | exact H
   have Ny902 := am_ hy902
   clear hy902
   replace H := Option.bind_eq_some_iff.mp H
   obtain ⟨t905,A50,H⟩ := H
   try dsimp only at H
   have A5 := am_ A50
   clear A50
   by_cases c6 : y902.length + t905.length < 140737488355328
   ·rw [if_pos c6] at H
    have LMc6 := am_ c6
    clear c6
    obtain ⟨y908,hy908⟩ : ∃ y_ : List Int,y_ = (y902 ++ t905) := ⟨_,rfl⟩
    replace H : ((spec_l02Number.f k (wrap64 (a0_5 + 1)) 2).bind fun t911 => (if y908.length + t911.length < 140737488355328 then ((some (y908 ++ t911 : List Int)).bind fun y914 => ((spec_l02Number.f k a0_6 4).bind fun t917 => (if y914.length + t917.length < 140737488355328 then (some (y914 ++ t917)) else (none)))) else (none))) = some r := by first | (rw [hy908];with_reducible exact H) | (have H2_ := (Option.bind_some _ _).symm.trans H;rw [hy908];with_reducible exact H2_) | (have H2_ := (Option.bind_some _ _).symm.trans H;with_reducible exact H2_) | with_reducible exact H | (rw [hy908];exact H) | exact H
    have Ny908 := am_ hy908
    clear hy908
    replace H := Option.bind_eq_some_iff.mp H
    obtain ⟨t911,A70,H⟩ := H
    try dsimp only at H
    have A7 := am_ A70
    clear A70
    by_cases c8 : y908.length + t911.length < 140737488355328
    ·rw [if_pos c8] at H
     have LMc8 := am_ c8
     clear c8
     obtain ⟨y914,hy914⟩ : ∃ y_ : List Int,y_ = (y908 ++ t911) := ⟨_,rfl⟩
     replace H : ((spec_l02Number.f k a0_6 4).bind fun t917 => (if y914.length + t917.length < 140737488355328 then (some (y914 ++ t917)) else (none))) = some r := by first | (rw [hy914];with_reducible exact H) | (have H2_ := (Option.bind_some _ _).symm.trans H;rw [hy914];with_reducible exact H2_) | (have H2_ := (Option.bind_some _ _).symm.trans H;with_reducible exact H2_) | with_reducible exact H | (rw [hy914];exact H) | exact H
     have Ny914 := am_ hy914
     clear hy914
     replace H := Option.bind_eq_some_iff.mp H
     obtain ⟨t917,A90,H⟩ := H
     try dsimp only at H
     have A9 := am_ A90
     clear A90
     by_cases c10 : y914.length + t917.length < 140737488355328
     ·rw [if_pos c10] at H
      have LMc10 := am_ c10
      clear c10
      obtain ⟨y920,hy920⟩ : ∃ y_ : List Int,y_ = (y914 ++ t917) := ⟨_,rfl⟩
      replace H : (some y920) = some r := by first | (rw [hy920];with_reducible exact H) | (have H2_ := (Option.bind_some _ _).symm.trans H;rw [hy920];with_reducible exact H2_) | (have H2_ := (Option.bind_some _ _).symm.trans H;with_reducible exact H2_) | with_reducible exact H | (rw [hy920];exact H) | exact H
      have Ny920 := am_ hy920
      clear hy920
      obtain rfl := Option.some.inj H
      go_enter Tryd.func168,Tryd.ntmps168
      try go_wp2_with (first | ((with_reducible refine gate_dst (N := 1) rfl ?_);refine zbx (N := 1) (cs := #[.int .i64 a0_0,.int .i64 a0_1,.int .i64 a0_2,.int .i64 a0_3,.int .i64 a0_4,.int .i64 a0_5,.int .i64 a0_6,.string a0_7]) (t := 73) ?_;intro gb889 hg w11 hbox hb;have BK889 := am_ (hbox);have GW889 := zw_ HB hg;have GE889 := zw_ HB hg;replace HB := zs_ HB hb;clear hb hbox hg;obtain ⟨hcz12_0,hcz12_1,hcz12_2,hcz12_3,hcz12_4,hcz12_5,hcz12_6,hcz12_7,hfz12_0,hfz12_1,hfz12_2,hfz12_3,hfz12_4,hfz12_5,hfz12_6,hfz12_7⟩ := zc8 BK889) | ((with_reducible refine gate_dst (N := 5) rfl ?_);refine conv_lit 46 5 rfl (.tmp 4) rfl Tryd.underlying46 Tryd.underlying5 rfl ?_;have hcm1 := Go.Lib.cell?_alloc_marked (a := ⟨gb889,1,none⟩) (v := .int .i64 a0_1) (.cells #[.int .u8 114,.int .u8 101,.int .u8 112,.int .u8 108,.int .u8 121] 5 (5,6)) ((blk_cell BK889.out 1).trans rfl)) | ((with_reducible refine gate_builtin (b := .append) (xs := #[.tmp 5,.tmp 9]) rfl ?_);at_builtin;refine R_app_lit 46 5 [114,101,112,108,121] ((a0_1) % 256) [114,101,112,108,121,(a0_1) % 256] rfl rfl (.tmp 5) (.tmp 9) rfl Tryd.underlying46 info5 rfl rfl (by decide) rfl (by decide) rfl rfl ?_;intro v891 w13 ho14 hb hg_ hnew_;clear hg_ hnew_;(first | rw [← Ny890.out] at ho14 | (simp only [Int.reduceToNat] at ho14;rw [← Ny890.out] at ho14));have HO892 := am_ (Kd.R_lower ho14 (below_size (zl_ HB)));replace BK889 := zb BK889 hb;replace HB := zs_ HB hb;clear hb ho14;obtain ⟨Ao15,co15,eo15⟩ := Kd.R_slice HO892.out;subst eo15))
      replace HO892 := am_ (Kd.R_drew HO892.out)
      replace BK889 := am_ (blk_drew BK889.out)
      replace HB := am_ (below_drew1 HB.out)
      refine start_ (n := 12) (S := fun w' => w'.cell? ⟨gb889,0,none⟩ = some (.int .i64 a0_0) ∧ w'.cell? ⟨gb889,1,none⟩ = some (.int .i64 a0_1) ∧ w'.cell? ⟨gb889,2,none⟩ = some (.int .i64 a0_2) ∧ w'.cell? ⟨gb889,3,none⟩ = some (.int .i64 a0_3) ∧ w'.cell? ⟨gb889,4,none⟩ = some (.int .i64 a0_4) ∧ w'.cell? ⟨gb889,5,none⟩ = some (.int .i64 a0_5) ∧ w'.cell? ⟨gb889,6,none⟩ = some (.int .i64 a0_6) ∧ w'.cell? ⟨gb889,7,none⟩ = some (.string a0_7)) (ds := []) #[false,false,false,false,false,false,false,false,false,false,false,false] (by kernel_rfl) rfl rfl ⟨(blk_cell BK889.out 0).trans rfl,(blk_cell BK889.out 1).trans rfl,(blk_cell BK889.out 2).trans rfl,(blk_cell BK889.out 3).trans rfl,(blk_cell BK889.out 4).trans rfl,(blk_cell BK889.out 5).trans rfl,(blk_cell BK889.out 6).trans rfl,(blk_cell BK889.out 7).trans rfl⟩ (fun hHeld => ?_);refine with_tabW spec_l11Plain.tab2 spec_l11Plain.bits2 (fun HT_ HW_ => ?_)
      generalize w13.drew = w16 at HO892 BK889 HB hHeld ⊢
      refine zpu 0 (N := some 11) HT_ ?_
      refine zpu 1 (N := some 12) HT_ ?_
      refine zpu 5 (N := some 16) HT_ ?_
      refine zpu 6 (N := some 17) HT_ ?_
      refine ztk 2 (N := some 13) HT_ HW_ hHeld ?_
      refine ztk 7 (N := some 18) HT_ HW_ hHeld ?_
      refine zpu 8 (N := some 19) HT_ ?_
      refine join_ (σ := Value × Value × Value) 2 #[true,true,true,true,true,true,true,true,true,true,false,false] (fun s_ => [(14,s_.1),(15,s_.2.1),(20,s_.2.2)]) (fun s_ w' => (w'.cell? ⟨gb889,0,none⟩ = some (.int .i64 a0_0) ∧ w'.cell? ⟨gb889,1,none⟩ = some (.int .i64 a0_1) ∧ w'.cell? ⟨gb889,2,none⟩ = some (.int .i64 a0_2) ∧ w'.cell? ⟨gb889,3,none⟩ = some (.int .i64 a0_3) ∧ w'.cell? ⟨gb889,4,none⟩ = some (.int .i64 a0_4) ∧ w'.cell? ⟨gb889,5,none⟩ = some (.int .i64 a0_5) ∧ w'.cell? ⟨gb889,6,none⟩ = some (.int .i64 a0_6) ∧ w'.cell? ⟨gb889,7,none⟩ = some (.string a0_7)) ∧ (Kd.R (Kd.int .u8) 5 w' w.heap.size (fun k_ => some k_ ≠ (s_.2.1 : Value).ownBlock ∧ some k_ ≠ (s_.2.2 : Value).ownBlock) s_.1 t893) ∧ (Kd.R (Kd.int .u8) 5 w' w.heap.size (fun k_ => some k_ ≠ (s_.1 : Value).ownBlock ∧ some k_ ≠ (s_.2.2 : Value).ownBlock) s_.2.1 y896) ∧ (Kd.R (Kd.int .u8) 5 w' w.heap.size (fun k_ => some k_ ≠ (s_.1 : Value).ownBlock ∧ some k_ ≠ (s_.2.1 : Value).ownBlock) s_.2.2 y899) ∧ (w'.heap[gb889]? = some (.cells #[.int .i64 a0_0,.int .i64 a0_1,.int .i64 a0_2,.int .i64 a0_3,.int .i64 a0_4,.int .i64 a0_5,.int .i64 a0_6,.string a0_7] 73 (0,0))) ∧ (Below w.heap.size w w')) ?_ ?_
      rotate_left
      ·intro hCont
       refine two_ (i := 3) (j := 9) (Ni := some 14) (Nj := some 20) #[true,true,true,true,false,true,true,true,true,false,false,false] #[true,true,true,false,false,true,true,true,true,true,false,false] rfl rfl rfl rfl (two_of HT_.out (by kernel_rfl)) (by decide) (by decide) (fun K hK => ?_) (fun K hK => ?_)
       ·skip
        refine zgo Tryd.func184 #[.int .i64 a0_2,.int .i64 2] ?_
        with_reducible refine (spec_l02Number.calls k a0_2 2 t893 _ A2.out).mono ?_
        rintro e w17 ⟨v894,rfl,ho0,hb⟩
        refine ⟨_,rfl,?_⟩
        have HO895 := am_ (Kd.R_lower (Kd.R_new' ho0 (Kd.R_lt (zr HO892))) (below_size (zl_ HB)))
        replace HO892 := am_ (Kd.R_elder' (zr HO892) (Kd.R_base ho0) hb)
        replace BK889 := zb BK889 hb
        replace HB := zs_ HB hb
        (try clear hb)
        (try clear hb2)
        (try clear hk)
        (try clear hi)
        (try clear ho0)
        obtain ⟨Ao19,co19,eo19⟩ := Kd.R_slice HO895.out
        (first | subst eo19 | (injection eo19 with f1_ f2_ f3_;have f4_ := f1_.symm;have f5_ := f3_.symm;clear f1_ f2_ f3_;subst f4_;subst f5_))
        refine hK.out _ _ ⟨(blk_cell BK889.out 0).trans rfl,(blk_cell BK889.out 1).trans rfl,(blk_cell BK889.out 2).trans rfl,(blk_cell BK889.out 3).trans rfl,(blk_cell BK889.out 4).trans rfl,(blk_cell BK889.out 5).trans rfl,(blk_cell BK889.out 6).trans rfl,(blk_cell BK889.out 7).trans rfl⟩ (fun hHeld => ?_)
        clear hK K
        refine norm_ (a' := ?_) ?_ ?_
        rotate_left
        ·show Act.put _ (some 14) _ = _
         simp only [Act.put,p1_,p2_,p3_,i64_w,i32_w]
         rfl
        refine two_ (i := 4) (j := 9) (Ni := some 15) (Nj := some 20) #[true,true,true,true,true,true,true,true,true,false,false,false] #[true,true,true,true,false,true,true,true,true,true,false,false] rfl rfl rfl rfl (two_of HT_.out (by kernel_rfl)) (by decide) (by decide) (fun K hK => ?_) (fun K hK => ?_)
        ·skip
         refine Kd.R_append_rows_step (Kd.int .u8) (w0 := w) w.heap.size (by rfl) (.tmp 11) (.tmp 14) 46 5 (.int .u8 0) 1 rfl Tryd.underlying46 info5 rfl (by decide) (by omega) (.slice Ao15 y890.length co15) y890 t893 _ _ _ (fun k_ => some k_ ≠ (.slice Ao19 t893.length co19 : Value).ownBlock) (fun _ => False) rfl rfl ?aO ?aR (fun _ _ h => h) (fun _ h => h.elim) ?aF ?aB ?aS ?aL ?_
         (case aR => repeat (first | exact (Kd.R_reads' HO895.out).2.2 | (with_reducible refine Kd.C_alloc ?_ _) | (with_reducible refine Kd.C_drewN ?_ _) | (with_reducible refine Kd.C_drew ?_)))
         (case aB => exact (zl_ HB))
         (case aF => exact (fun k_ hk => Kd.fresh' (Kd.R_lt (zr HO895)) k_ hk))
         (case aO => exact (by (with_reducible repeat (first | apply r1_ | apply r2_ | apply r3_));exact Kd.R_mono HO892.out (fun _ hk => hk.2)))
         (case aS => exact (below_size (zl_ HB)))
         (case aL => have := LMc3.out;omega)
         intro v897 w18 ho hb hg hat
         rw [← Ny896.out] at ho
         replace BK889 := am_ (blk_grown (g := gb889) (o := .cells #[.int .i64 a0_0,.int .i64 a0_1,.int .i64 a0_2,.int .i64 a0_3,.int .i64 a0_4,.int .i64 a0_5,.int .i64 a0_6,.string a0_7] 73 (0,0)) (zk BK889) hg (Kd.R_ne HO892.out BK889.out (by decide)))
         replace HO895 := am_ (Kd.R_after (ok := (fun _ => True)) (zr HO895) hg hat)
         replace HB := am_ (hb)
         have HO898 := am_ (ho)
         clear HO892
         clear ho hb hg hat
         refine hK.out _ _ ⟨(blk_cell BK889.out 0).trans rfl,(blk_cell BK889.out 1).trans rfl,(blk_cell BK889.out 2).trans rfl,(blk_cell BK889.out 3).trans rfl,(blk_cell BK889.out 4).trans rfl,(blk_cell BK889.out 5).trans rfl,(blk_cell BK889.out 6).trans rfl,(blk_cell BK889.out 7).trans rfl⟩ (fun hHeld => ?_)
         clear hK K
         refine norm_ (a' := ?_) ?_ ?_
         rotate_left
         ·show Act.put _ (some 15) _ = _
          simp only [Act.put,p1_,p2_,p3_,i64_w,i32_w]
          rfl
         refine zon 9 (N := some 20) HT_ (fun K hK => ?_)
         refine Kd.R_lit_step (Kd.int .u8) _ 5 ?hg (N := 20) ?hd (xs := ([(a0_3) % 256] : List Int)) (inner := [.int .u8 ((a0_3) % 256)]) (ok := fun _ => True) (okp := fun _ => True) ?hr ?hp (fun _ hk => hk) trivial (Below.refl _ _) (Nat.le_refl _) (by simp) ?_;(case hd => rfl);(case hg => rfl);(case hr => first | (go_simp;done) | (go_simp;rfl));(case hp => exact (Reps.one (show Kd.M (Kd.int .u8) _ _ _ ((a0_3) % 256) [.int .u8 ((a0_3) % 256)] from rfl) (Reps.none _ _)))
         intro v900 w20 ho21 hb hg_ hnew_
         clear hg_ hnew_
         (first | rw [← Ny899.out] at ho21 | (simp only [Int.reduceToNat] at ho21;rw [← Ny899.out] at ho21))
         have HO901 := am_ (Kd.R_lower (Kd.R_new' (Kd.R_new' ho21 (Kd.R_lt (zr HO895))) (Kd.R_lt (zr HO898))) (below_size (zl_ HB)))
         replace HO895 := am_ (Kd.R_elder' (zr HO895) (Kd.R_base ho21) hb)
         replace HO898 := am_ (Kd.R_elder' (zr HO898) (Kd.R_base ho21) hb)
         replace BK889 := zb BK889 hb
         replace HB := zs_ HB hb
         clear hb ho21
         refine hK.out _ _ ⟨(blk_cell BK889.out 0).trans rfl,(blk_cell BK889.out 1).trans rfl,(blk_cell BK889.out 2).trans rfl,(blk_cell BK889.out 3).trans rfl,(blk_cell BK889.out 4).trans rfl,(blk_cell BK889.out 5).trans rfl,(blk_cell BK889.out 6).trans rfl,(blk_cell BK889.out 7).trans rfl⟩ (fun hHeld => ?_)
         clear hK K
         refine norm_ (a' := ?_) ?_ ?_
         rotate_left
         ·show Act.put _ (some 20) _ = _
          simp only [Act.put,p1_,p2_,p3_,i64_w,i32_w]
          rfl
         exact norm_ (by simp only [putAll,Act.put,p1_,p2_,p3_]) (hCont (.slice Ao19 t893.length co19,v897,v900) _ ⟨hHeld,(by (with_reducible repeat (first | apply r1_ | apply r2_ | apply r3_));exact Kd.R_mono HO895.out (fun _ hk => ⟨hk.1.2,hk.2⟩)),(zr HO898),(by (with_reducible repeat (first | apply r1_ | apply r2_ | apply r3_));exact Kd.R_mono HO901.out (fun _ hk => ⟨hk.1.2,hk.2⟩)),(zk BK889),(zl_ HB)⟩)
        ·skip
         refine Kd.R_lit_step (Kd.int .u8) _ 5 ?hg (N := 20) ?hd (xs := ([(a0_3) % 256] : List Int)) (inner := [.int .u8 ((a0_3) % 256)]) (ok := fun _ => True) (okp := fun _ => True) ?hr ?hp (fun _ hk => hk) trivial (Below.refl _ _) (Nat.le_refl _) (by simp) ?_;(case hd => rfl);(case hg => rfl);(case hr => first | (go_simp;done) | (go_simp;rfl));(case hp => exact (Reps.one (show Kd.M (Kd.int .u8) _ _ _ ((a0_3) % 256) [.int .u8 ((a0_3) % 256)] from rfl) (Reps.none _ _)))
         intro v900 w18 ho19 hb hg_ hnew_
         clear hg_ hnew_
         (first | rw [← Ny899.out] at ho19 | (simp only [Int.reduceToNat] at ho19;rw [← Ny899.out] at ho19))
         have HO901 := am_ (Kd.R_lower (Kd.R_new' (Kd.R_new' ho19 (Kd.R_lt (zr HO892))) (Kd.R_lt (zr HO895))) (below_size (zl_ HB)))
         replace HO892 := am_ (Kd.R_elder' (zr HO892) (Kd.R_base ho19) hb)
         replace HO895 := am_ (Kd.R_elder' (zr HO895) (Kd.R_base ho19) hb)
         replace BK889 := zb BK889 hb
         replace HB := zs_ HB hb
         clear hb ho19
         obtain ⟨Ao21,co21,eo21⟩ := Kd.R_slice HO895.out
         (first | subst eo21 | (injection eo21 with f1_ f2_ f3_;have f4_ := f1_.symm;have f5_ := f3_.symm;clear f1_ f2_ f3_;subst f4_;subst f5_))
         refine hK.out _ _ ⟨(blk_cell BK889.out 0).trans rfl,(blk_cell BK889.out 1).trans rfl,(blk_cell BK889.out 2).trans rfl,(blk_cell BK889.out 3).trans rfl,(blk_cell BK889.out 4).trans rfl,(blk_cell BK889.out 5).trans rfl,(blk_cell BK889.out 6).trans rfl,(blk_cell BK889.out 7).trans rfl⟩ (fun hHeld => ?_)
         clear hK K
         refine norm_ (a' := ?_) ?_ ?_
         rotate_left
         ·show Act.put _ (some 20) _ = _
          simp only [Act.put,p1_,p2_,p3_,i64_w,i32_w]
          rfl
         refine zon 4 (N := some 15) HT_ (fun K hK => ?_)
         refine Kd.R_append_rows_step (Kd.int .u8) (w0 := w) w.heap.size (by rfl) (.tmp 11) (.tmp 14) 46 5 (.int .u8 0) 1 rfl Tryd.underlying46 info5 rfl (by decide) (by omega) (.slice Ao15 y890.length co15) y890 t893 _ _ _ (fun k_ => some k_ ≠ (.slice Ao21 t893.length co21 : Value).ownBlock ∧ some k_ ≠ (v900 : Value).ownBlock) (fun _ => False) rfl rfl ?aO ?aR (fun _ _ h => h) (fun _ h => h.elim) ?aF ?aB ?aS ?aL ?_
         (case aR => repeat (first | exact (Kd.R_reads' HO895.out).2.2 | (with_reducible refine Kd.C_alloc ?_ _) | (with_reducible refine Kd.C_drewN ?_ _) | (with_reducible refine Kd.C_drew ?_)))
         (case aB => exact (zl_ HB))
         (case aF => exact (fun k_ hk => ⟨Kd.fresh' (Kd.R_lt (zr HO895)) k_ hk,Kd.fresh' (Kd.R_lt (zr HO901)) k_ hk⟩))
         (case aO => exact (by (with_reducible repeat (first | apply r1_ | apply r2_ | apply r3_));exact Kd.R_mono HO892.out (fun _ hk => ⟨hk.1.2,hk.2⟩)))
         (case aS => exact (below_size (zl_ HB)))
         (case aL => have := LMc3.out;omega)
         intro v897 w20 ho hb hg hat
         rw [← Ny896.out] at ho
         replace BK889 := am_ (blk_grown (g := gb889) (o := .cells #[.int .i64 a0_0,.int .i64 a0_1,.int .i64 a0_2,.int .i64 a0_3,.int .i64 a0_4,.int .i64 a0_5,.int .i64 a0_6,.string a0_7] 73 (0,0)) (zk BK889) hg (Kd.R_ne HO892.out BK889.out (by decide)))
         replace HO895 := am_ (Kd.R_after (ok := (fun k_ => some k_ ≠ (v900 : Value).ownBlock)) (by (with_reducible repeat (first | apply r1_ | apply r2_ | apply r3_));exact Kd.R_mono HO895.out (fun _ hk => ⟨hk.2,hk.1.2⟩)) hg hat)
         replace HO901 := am_ (Kd.R_after (ok := (fun k_ => some k_ ≠ (.slice Ao21 t893.length co21 : Value).ownBlock)) (by (with_reducible repeat (first | apply r1_ | apply r2_ | apply r3_));exact Kd.R_mono HO901.out (fun _ hk => ⟨hk.2,hk.1.2⟩)) hg hat)
         replace HB := am_ (hb)
         have HO898 := am_ (ho)
         clear HO892
         clear ho hb hg hat
         refine hK.out _ _ ⟨(blk_cell BK889.out 0).trans rfl,(blk_cell BK889.out 1).trans rfl,(blk_cell BK889.out 2).trans rfl,(blk_cell BK889.out 3).trans rfl,(blk_cell BK889.out 4).trans rfl,(blk_cell BK889.out 5).trans rfl,(blk_cell BK889.out 6).trans rfl,(blk_cell BK889.out 7).trans rfl⟩ (fun hHeld => ?_)
         clear hK K
         refine norm_ (a' := ?_) ?_ ?_
         rotate_left
         ·show Act.put _ (some 15) _ = _
          simp only [Act.put,p1_,p2_,p3_,i64_w,i32_w]
          rfl
         exact norm_ (by simp only [putAll,Act.put,p1_,p2_,p3_]) (hCont (.slice Ao21 t893.length co21,v897,v900) _ ⟨hHeld,(by (with_reducible repeat (first | apply r1_ | apply r2_ | apply r3_));exact Kd.R_mono HO895.out (fun _ hk => ⟨hk.2,hk.1⟩)),(zr HO898),(zr HO901),(zk BK889),(zl_ HB)⟩)
       ·skip
        refine Kd.R_lit_step (Kd.int .u8) _ 5 ?hg (N := 20) ?hd (xs := ([(a0_3) % 256] : List Int)) (inner := [.int .u8 ((a0_3) % 256)]) (ok := fun _ => True) (okp := fun _ => True) ?hr ?hp (fun _ hk => hk) trivial (Below.refl _ _) (Nat.le_refl _) (by simp) ?_;(case hd => rfl);(case hg => rfl);(case hr => first | (go_simp;done) | (go_simp;rfl));(case hp => exact (Reps.one (show Kd.M (Kd.int .u8) _ _ _ ((a0_3) % 256) [.int .u8 ((a0_3) % 256)] from rfl) (Reps.none _ _)))
        intro v900 w17 ho18 hb hg_ hnew_
        clear hg_ hnew_
        (first | rw [← Ny899.out] at ho18 | (simp only [Int.reduceToNat] at ho18;rw [← Ny899.out] at ho18))
        have HO901 := am_ (Kd.R_lower (Kd.R_new' ho18 (Kd.R_lt (zr HO892))) (below_size (zl_ HB)))
        replace HO892 := am_ (Kd.R_elder' (zr HO892) (Kd.R_base ho18) hb)
        replace BK889 := zb BK889 hb
        replace HB := zs_ HB hb
        clear hb ho18
        refine hK.out _ _ ⟨(blk_cell BK889.out 0).trans rfl,(blk_cell BK889.out 1).trans rfl,(blk_cell BK889.out 2).trans rfl,(blk_cell BK889.out 3).trans rfl,(blk_cell BK889.out 4).trans rfl,(blk_cell BK889.out 5).trans rfl,(blk_cell BK889.out 6).trans rfl,(blk_cell BK889.out 7).trans rfl⟩ (fun hHeld => ?_)
        clear hK K
        refine norm_ (a' := ?_) ?_ ?_
        rotate_left
        ·show Act.put _ (some 20) _ = _
         simp only [Act.put,p1_,p2_,p3_,i64_w,i32_w]
         rfl
        refine zon 3 (N := some 14) HT_ (fun K hK => ?_)
        refine zgo Tryd.func184 #[.int .i64 a0_2,.int .i64 2] ?_
        with_reducible refine (spec_l02Number.calls k a0_2 2 t893 _ A2.out).mono ?_
        rintro e w19 ⟨v894,rfl,ho0,hb⟩
        refine ⟨_,rfl,?_⟩
        have HO895 := am_ (Kd.R_lower (Kd.R_new' (Kd.R_new' ho0 (Kd.R_lt (zr HO892))) (Kd.R_lt (zr HO901))) (below_size (zl_ HB)))
        replace HO892 := am_ (Kd.R_elder' (zr HO892) (Kd.R_base ho0) hb)
        replace HO901 := am_ (Kd.R_elder' (zr HO901) (Kd.R_base ho0) hb)
        replace BK889 := zb BK889 hb
        replace HB := zs_ HB hb
        (try clear hb)
        (try clear hb2)
        (try clear hk)
        (try clear hi)
        (try clear ho0)
        obtain ⟨Ao21,co21,eo21⟩ := Kd.R_slice HO895.out
        (first | subst eo21 | (injection eo21 with f1_ f2_ f3_;have f4_ := f1_.symm;have f5_ := f3_.symm;clear f1_ f2_ f3_;subst f4_;subst f5_))
        refine hK.out _ _ ⟨(blk_cell BK889.out 0).trans rfl,(blk_cell BK889.out 1).trans rfl,(blk_cell BK889.out 2).trans rfl,(blk_cell BK889.out 3).trans rfl,(blk_cell BK889.out 4).trans rfl,(blk_cell BK889.out 5).trans rfl,(blk_cell BK889.out 6).trans rfl,(blk_cell BK889.out 7).trans rfl⟩ (fun hHeld => ?_)
        clear hK K
        refine norm_ (a' := ?_) ?_ ?_
        rotate_left
        ·show Act.put _ (some 14) _ = _
         simp only [Act.put,p1_,p2_,p3_,i64_w,i32_w]
         rfl
        refine zon 4 (N := some 15) HT_ (fun K hK => ?_)
        refine Kd.R_append_rows_step (Kd.int .u8) (w0 := w) w.heap.size (by rfl) (.tmp 11) (.tmp 14) 46 5 (.int .u8 0) 1 rfl Tryd.underlying46 info5 rfl (by decide) (by omega) (.slice Ao15 y890.length co15) y890 t893 _ _ _ (fun k_ => some k_ ≠ (v900 : Value).ownBlock ∧ some k_ ≠ (.slice Ao21 t893.length co21 : Value).ownBlock) (fun _ => False) rfl rfl ?aO ?aR (fun _ _ h => h) (fun _ h => h.elim) ?aF ?aB ?aS ?aL ?_
        (case aR => repeat (first | exact (Kd.R_reads' HO895.out).2.2 | (with_reducible refine Kd.C_alloc ?_ _) | (with_reducible refine Kd.C_drewN ?_ _) | (with_reducible refine Kd.C_drew ?_)))
        (case aB => exact (zl_ HB))
        (case aF => exact (fun k_ hk => ⟨Kd.fresh' (Kd.R_lt (zr HO901)) k_ hk,Kd.fresh' (Kd.R_lt (zr HO895)) k_ hk⟩))
        (case aO => exact (by (with_reducible repeat (first | apply r1_ | apply r2_ | apply r3_));exact Kd.R_mono HO892.out (fun _ hk => ⟨hk.1.2,hk.2⟩)))
        (case aS => exact (below_size (zl_ HB)))
        (case aL => have := LMc3.out;omega)
        intro v897 w20 ho hb hg hat
        rw [← Ny896.out] at ho
        replace BK889 := am_ (blk_grown (g := gb889) (o := .cells #[.int .i64 a0_0,.int .i64 a0_1,.int .i64 a0_2,.int .i64 a0_3,.int .i64 a0_4,.int .i64 a0_5,.int .i64 a0_6,.string a0_7] 73 (0,0)) (zk BK889) hg (Kd.R_ne HO892.out BK889.out (by decide)))
        replace HO901 := am_ (Kd.R_after (ok := (fun k_ => some k_ ≠ (.slice Ao21 t893.length co21 : Value).ownBlock)) (by (with_reducible repeat (first | apply r1_ | apply r2_ | apply r3_));exact Kd.R_mono HO901.out (fun _ hk => ⟨hk.2,hk.1.2⟩)) hg hat)
        replace HO895 := am_ (Kd.R_after (ok := (fun k_ => some k_ ≠ (v900 : Value).ownBlock)) (by (with_reducible repeat (first | apply r1_ | apply r2_ | apply r3_));exact Kd.R_mono HO895.out (fun _ hk => ⟨hk.2,hk.1.2⟩)) hg hat)
        replace HB := am_ (hb)
        have HO898 := am_ (ho)
        clear HO892
        clear ho hb hg hat
        refine hK.out _ _ ⟨(blk_cell BK889.out 0).trans rfl,(blk_cell BK889.out 1).trans rfl,(blk_cell BK889.out 2).trans rfl,(blk_cell BK889.out 3).trans rfl,(blk_cell BK889.out 4).trans rfl,(blk_cell BK889.out 5).trans rfl,(blk_cell BK889.out 6).trans rfl,(blk_cell BK889.out 7).trans rfl⟩ (fun hHeld => ?_)
        clear hK K
        refine norm_ (a' := ?_) ?_ ?_
        rotate_left
        ·show Act.put _ (some 15) _ = _
         simp only [Act.put,p1_,p2_,p3_,i64_w,i32_w]
         rfl
        exact norm_ (by simp only [putAll,Act.put,p1_,p2_,p3_]) (hCont (.slice Ao21 t893.length co21,v897,v900) _ ⟨hHeld,(by (with_reducible repeat (first | apply r1_ | apply r2_ | apply r3_));exact Kd.R_mono HO895.out (fun _ hk => ⟨hk.2,hk.1⟩)),(by (with_reducible repeat (first | apply r1_ | apply r2_ | apply r3_));exact Kd.R_mono HO898.out (fun _ hk => ⟨hk.2,hk.1⟩)),(zr HO901),(zk BK889),(zl_ HB)⟩)
      rintro ⟨v894,v897,v900⟩ w22 ⟨hS_,h0_,h1_,h2_,h3_,h4_⟩
      have n0_ : Aside0 (Kd.R (Kd.int .u8) 5 w22 w.heap.size (fun k_ => some k_ ≠ (v897 : Value).ownBlock ∧ some k_ ≠ (v900 : Value).ownBlock) v894 t893) := ⟨h0_⟩
      have n1_ : Aside0 (Kd.R (Kd.int .u8) 5 w22 w.heap.size (fun k_ => some k_ ≠ (v894 : Value).ownBlock ∧ some k_ ≠ (v900 : Value).ownBlock) v897 y896) := ⟨h1_⟩
      have n2_ : Aside0 (Kd.R (Kd.int .u8) 5 w22 w.heap.size (fun k_ => some k_ ≠ (v894 : Value).ownBlock ∧ some k_ ≠ (v897 : Value).ownBlock) v900 y899) := ⟨h2_⟩
      have n3_ : Aside0 (w22.heap[gb889]? = some (.cells #[.int .i64 a0_0,.int .i64 a0_1,.int .i64 a0_2,.int .i64 a0_3,.int .i64 a0_4,.int .i64 a0_5,.int .i64 a0_6,.string a0_7] 73 (0,0))) := ⟨h3_⟩
      have n4_ : Aside0 (Below w.heap.size w w22) := ⟨h4_⟩
      clear HO892
      clear BK889
      clear HB
      clear h0_ h1_ h2_ h3_ h4_
      have HO895 := n0_
      have HO898 := n1_
      have HO901 := n2_
      have BK889 := n3_
      have HB := n4_
      clear n0_ n1_ n2_ n3_ n4_
      have hHeld : w22.cell? ⟨gb889,0,none⟩ = some (.int .i64 a0_0) ∧ w22.cell? ⟨gb889,1,none⟩ = some (.int .i64 a0_1) ∧ w22.cell? ⟨gb889,2,none⟩ = some (.int .i64 a0_2) ∧ w22.cell? ⟨gb889,3,none⟩ = some (.int .i64 a0_3) ∧ w22.cell? ⟨gb889,4,none⟩ = some (.int .i64 a0_4) ∧ w22.cell? ⟨gb889,5,none⟩ = some (.int .i64 a0_5) ∧ w22.cell? ⟨gb889,6,none⟩ = some (.int .i64 a0_6) ∧ w22.cell? ⟨gb889,7,none⟩ = some (.string a0_7) := hS_
      obtain ⟨Ao24,co24,eo24⟩ := Kd.R_slice HO901.out
      (first | subst eo24 | (injection eo24 with f1_ f2_ f3_;have f4_ := f1_.symm;have f5_ := f3_.symm;clear f1_ f2_ f3_;subst f4_;subst f5_))
      refine norm_ (a' := ?_) ?_ ?_
      rotate_left
      ·simp only [putAll,Act.put,p1_,p2_,p3_]
       rfl
      refine zon 10 (N := some 21) HT_ (fun K hK => ?_)
      refine Kd.R_append_rows_step (Kd.int .u8) (w0 := w) w.heap.size (by rfl) (.tmp 15) (.tmp 20) 46 5 (.int .u8 0) 1 rfl Tryd.underlying46 info5 rfl (by decide) (by omega) v897 y896 y899 _ _ _ (fun k_ => some k_ ≠ (v894 : Value).ownBlock ∧ some k_ ≠ (.slice Ao24 y899.length co24 : Value).ownBlock) (fun _ => False) rfl rfl ?aO ?aR (fun _ _ h => h) (fun _ h => h.elim) ?aF ?aB ?aS ?aL ?_
      (case aR => repeat (first | exact (Kd.R_reads' HO901.out).2.2 | (with_reducible refine Kd.C_alloc ?_ _) | (with_reducible refine Kd.C_drewN ?_ _) | (with_reducible refine Kd.C_drew ?_)))
      (case aB => exact (zl_ HB))
      (case aF => exact (fun k_ hk => ⟨Kd.fresh' (Kd.R_lt (zr HO895)) k_ hk,Kd.fresh' (Kd.R_lt (zr HO901)) k_ hk⟩))
      (case aO => exact (zr HO898))
      (case aS => exact (below_size (zl_ HB)))
      (case aL => have := LMc4.out;omega)
      intro v903 w23 ho hb hg hat
      rw [← Ny902.out] at ho
      replace BK889 := am_ (blk_grown (g := gb889) (o := .cells #[.int .i64 a0_0,.int .i64 a0_1,.int .i64 a0_2,.int .i64 a0_3,.int .i64 a0_4,.int .i64 a0_5,.int .i64 a0_6,.string a0_7] 73 (0,0)) (zk BK889) hg (Kd.R_ne HO898.out BK889.out (by decide)))
      replace HO895 := am_ (Kd.R_after (ok := (fun k_ => some k_ ≠ (.slice Ao24 y899.length co24 : Value).ownBlock)) (by (with_reducible repeat (first | apply r1_ | apply r2_ | apply r3_));exact Kd.R_mono HO895.out (fun _ hk => ⟨hk.2,hk.1⟩)) hg hat)
      replace HO901 := am_ (Kd.R_after (ok := (fun k_ => some k_ ≠ (v894 : Value).ownBlock)) (zr HO901) hg hat)
      replace HB := am_ (hb)
      have HO904 := am_ (ho)
      clear HO898
      clear ho hb hg hat
      refine hK.out _ _ ⟨(blk_cell BK889.out 0).trans rfl,(blk_cell BK889.out 1).trans rfl,(blk_cell BK889.out 2).trans rfl,(blk_cell BK889.out 3).trans rfl,(blk_cell BK889.out 4).trans rfl,(blk_cell BK889.out 5).trans rfl,(blk_cell BK889.out 6).trans rfl,(blk_cell BK889.out 7).trans rfl⟩ (fun hHeld => ?_)
      clear hK K
      refine norm_ (a' := ?_) ?_ ?_
      rotate_left
      ·show Act.put _ (some 21) _ = _
       simp only [Act.put,p1_,p2_,p3_,i64_w,i32_w]
       rfl
      refine zpu 11 (N := some 3) HT_ ?_
      refine done_ (done_of HT_.out (by kernel_rfl)) ?_
      try go_wp2
      replace HO895 := am_ (Kd.R_drew HO895.out)
      replace HO901 := am_ (Kd.R_drew HO901.out)
      replace HO904 := am_ (Kd.R_drew HO904.out)
      replace BK889 := am_ (blk_drew BK889.out)
      replace HB := am_ (below_drew1 HB.out)
      refine start_ (n := 13) (S := fun w' => w'.cell? ⟨gb889,0,none⟩ = some (.int .i64 a0_0) ∧ w'.cell? ⟨gb889,1,none⟩ = some (.int .i64 a0_1) ∧ w'.cell? ⟨gb889,2,none⟩ = some (.int .i64 a0_2) ∧ w'.cell? ⟨gb889,3,none⟩ = some (.int .i64 a0_3) ∧ w'.cell? ⟨gb889,4,none⟩ = some (.int .i64 a0_4) ∧ w'.cell? ⟨gb889,5,none⟩ = some (.int .i64 a0_5) ∧ w'.cell? ⟨gb889,6,none⟩ = some (.int .i64 a0_6) ∧ w'.cell? ⟨gb889,7,none⟩ = some (.string a0_7)) (ds := []) #[false,false,false,false,false,false,false,false,false,false,false,false,false] (by kernel_rfl) rfl rfl ⟨(blk_cell BK889.out 0).trans rfl,(blk_cell BK889.out 1).trans rfl,(blk_cell BK889.out 2).trans rfl,(blk_cell BK889.out 3).trans rfl,(blk_cell BK889.out 4).trans rfl,(blk_cell BK889.out 5).trans rfl,(blk_cell BK889.out 6).trans rfl,(blk_cell BK889.out 7).trans rfl⟩ (fun hHeld => ?_);refine with_tabW spec_l11Plain.tab3 spec_l11Plain.bits3 (fun HT_ HW_ => ?_)
      generalize w23.drew = w25 at HO895 HO901 HO904 BK889 HB hHeld ⊢
      refine zpu 0 (N := some 22) HT_ ?_
      refine zpu 1 (N := some 23) HT_ ?_
      refine zpu 2 (N := some 24) HT_ ?_
      refine zpu 6 (N := some 28) HT_ ?_
      refine zpu 7 (N := some 29) HT_ ?_
      refine ztk 3 (N := some 25) HT_ HW_ hHeld ?_
      refine ztk 8 (N := some 30) HT_ HW_ hHeld ?_
      refine zpu 9 (N := some 31) HT_ ?_
      refine zon 4 (N := some 26) HT_ (fun K hK => ?_)
      refine zgo Tryd.func184 #[.int .i64 a0_4,.int .i64 3] ?_
      with_reducible refine (spec_l02Number.calls k a0_4 3 t905 _ A5.out).mono ?_
      rintro e w26 ⟨v906,rfl,ho0,hb⟩
      refine ⟨_,rfl,?_⟩
      have HO907 := am_ (Kd.R_lower (Kd.R_new' (Kd.R_new' (Kd.R_new' ho0 (Kd.R_lt (zr HO895))) (Kd.R_lt (zr HO901))) (Kd.R_lt (zr HO904))) (below_size (zl_ HB)))
      replace HO895 := am_ (Kd.R_elder' (zr HO895) (Kd.R_base ho0) hb)
      replace HO901 := am_ (Kd.R_elder' (zr HO901) (Kd.R_base ho0) hb)
      replace HO904 := am_ (Kd.R_elder' (zr HO904) (Kd.R_base ho0) hb)
      replace BK889 := zb BK889 hb
      replace HB := zs_ HB hb
      (try clear hb)
      (try clear hb2)
      (try clear hk)
      (try clear hi)
      (try clear ho0)
      obtain ⟨Ao28,co28,eo28⟩ := Kd.R_slice HO907.out
      (first | subst eo28 | (injection eo28 with f1_ f2_ f3_;have f4_ := f1_.symm;have f5_ := f3_.symm;clear f1_ f2_ f3_;subst f4_;subst f5_))
      refine hK.out _ _ ⟨(blk_cell BK889.out 0).trans rfl,(blk_cell BK889.out 1).trans rfl,(blk_cell BK889.out 2).trans rfl,(blk_cell BK889.out 3).trans rfl,(blk_cell BK889.out 4).trans rfl,(blk_cell BK889.out 5).trans rfl,(blk_cell BK889.out 6).trans rfl,(blk_cell BK889.out 7).trans rfl⟩ (fun hHeld => ?_)
      clear hK K
      refine norm_ (a' := ?_) ?_ ?_
      rotate_left
      ·show Act.put _ (some 26) _ = _
       simp only [Act.put,p1_,p2_,p3_,i64_w,i32_w]
       rfl
      refine zon 5 (N := some 27) HT_ (fun K hK => ?_)
      refine Kd.R_append_rows_step (Kd.int .u8) (w0 := w) w.heap.size (by rfl) (.tmp 22) (.tmp 26) 46 5 (.int .u8 0) 1 rfl Tryd.underlying46 info5 rfl (by decide) (by omega) v903 y902 t905 _ _ _ (fun k_ => some k_ ≠ (v894 : Value).ownBlock ∧ some k_ ≠ (.slice Ao24 y899.length co24 : Value).ownBlock ∧ some k_ ≠ (.slice Ao28 t905.length co28 : Value).ownBlock) (fun _ => False) rfl rfl ?aO ?aR (fun _ _ h => h) (fun _ h => h.elim) ?aF ?aB ?aS ?aL ?_
      (case aR => repeat (first | exact (Kd.R_reads' HO907.out).2.2 | (with_reducible refine Kd.C_alloc ?_ _) | (with_reducible refine Kd.C_drewN ?_ _) | (with_reducible refine Kd.C_drew ?_)))
      (case aB => exact (zl_ HB))
      (case aF => exact (fun k_ hk => ⟨Kd.fresh' (Kd.R_lt (zr HO895)) k_ hk,Kd.fresh' (Kd.R_lt (zr HO901)) k_ hk,Kd.fresh' (Kd.R_lt (zr HO907)) k_ hk⟩))
      (case aO => exact (by (with_reducible repeat (first | apply r1_ | apply r2_ | apply r3_));exact Kd.R_mono HO904.out (fun _ hk => ⟨hk.1.1,⟨hk.1.2,hk.2⟩⟩)))
      (case aS => exact (below_size (zl_ HB)))
      (case aL => have := LMc6.out;omega)
      intro v909 w27 ho hb hg hat
      rw [← Ny908.out] at ho
      replace BK889 := am_ (blk_grown (g := gb889) (o := .cells #[.int .i64 a0_0,.int .i64 a0_1,.int .i64 a0_2,.int .i64 a0_3,.int .i64 a0_4,.int .i64 a0_5,.int .i64 a0_6,.string a0_7] 73 (0,0)) (zk BK889) hg (Kd.R_ne HO904.out BK889.out (by decide)))
      replace HO895 := am_ (Kd.R_after (ok := (fun k_ => some k_ ≠ (.slice Ao24 y899.length co24 : Value).ownBlock ∧ some k_ ≠ (.slice Ao28 t905.length co28 : Value).ownBlock)) (by (with_reducible repeat (first | apply r1_ | apply r2_ | apply r3_));exact Kd.R_mono HO895.out (fun _ hk => ⟨⟨hk.1.1,hk.2⟩,hk.1.2⟩)) hg hat)
      replace HO901 := am_ (Kd.R_after (ok := (fun k_ => some k_ ≠ (v894 : Value).ownBlock ∧ some k_ ≠ (.slice Ao28 t905.length co28 : Value).ownBlock)) (by (with_reducible repeat (first | apply r1_ | apply r2_ | apply r3_));exact Kd.R_mono HO901.out (fun _ hk => ⟨⟨hk.1.1,hk.2⟩,hk.1.2⟩)) hg hat)
      replace HO907 := am_ (Kd.R_after (ok := (fun k_ => some k_ ≠ (v894 : Value).ownBlock ∧ some k_ ≠ (.slice Ao24 y899.length co24 : Value).ownBlock)) (by (with_reducible repeat (first | apply r1_ | apply r2_ | apply r3_));exact Kd.R_mono HO907.out (fun _ hk => ⟨⟨hk.1.1.2,hk.1.2⟩,hk.2⟩)) hg hat)
      replace HB := am_ (hb)
      have HO910 := am_ (ho)
      clear HO904
      clear ho hb hg hat
      refine hK.out _ _ ⟨(blk_cell BK889.out 0).trans rfl,(blk_cell BK889.out 1).trans rfl,(blk_cell BK889.out 2).trans rfl,(blk_cell BK889.out 3).trans rfl,(blk_cell BK889.out 4).trans rfl,(blk_cell BK889.out 5).trans rfl,(blk_cell BK889.out 6).trans rfl,(blk_cell BK889.out 7).trans rfl⟩ (fun hHeld => ?_)
      clear hK K
      refine norm_ (a' := ?_) ?_ ?_
      rotate_left
      ·show Act.put _ (some 27) _ = _
       simp only [Act.put,p1_,p2_,p3_,i64_w,i32_w]
       rfl
      refine zon 10 (N := some 32) HT_ (fun K hK => ?_)
      refine zgo Tryd.func184 #[.int .i64 (wrap64 (a0_5 + 1)),.int .i64 2] ?_
      with_reducible refine (spec_l02Number.calls k (wrap64 (a0_5 + 1)) 2 t911 _ A7.out).mono ?_
      rintro e w29 ⟨v912,rfl,ho0,hb⟩
      refine ⟨_,rfl,?_⟩
      have HO913 := am_ (Kd.R_lower (Kd.R_new' (Kd.R_new' (Kd.R_new' (Kd.R_new' ho0 (Kd.R_lt (zr HO895))) (Kd.R_lt (zr HO901))) (Kd.R_lt (zr HO907))) (Kd.R_lt (zr HO910))) (below_size (zl_ HB)))
      replace HO895 := am_ (Kd.R_elder' (zr HO895) (Kd.R_base ho0) hb)
      replace HO901 := am_ (Kd.R_elder' (zr HO901) (Kd.R_base ho0) hb)
      replace HO907 := am_ (Kd.R_elder' (zr HO907) (Kd.R_base ho0) hb)
      replace HO910 := am_ (Kd.R_elder' (zr HO910) (Kd.R_base ho0) hb)
      replace BK889 := zb BK889 hb
      replace HB := zs_ HB hb
      (try clear hb)
      (try clear hb2)
      (try clear hk)
      (try clear hi)
      (try clear ho0)
      obtain ⟨Ao31,co31,eo31⟩ := Kd.R_slice HO913.out
      (first | subst eo31 | (injection eo31 with f1_ f2_ f3_;have f4_ := f1_.symm;have f5_ := f3_.symm;clear f1_ f2_ f3_;subst f4_;subst f5_))
      refine hK.out _ _ ⟨(blk_cell BK889.out 0).trans rfl,(blk_cell BK889.out 1).trans rfl,(blk_cell BK889.out 2).trans rfl,(blk_cell BK889.out 3).trans rfl,(blk_cell BK889.out 4).trans rfl,(blk_cell BK889.out 5).trans rfl,(blk_cell BK889.out 6).trans rfl,(blk_cell BK889.out 7).trans rfl⟩ (fun hHeld => ?_)
      clear hK K
      refine norm_ (a' := ?_) ?_ ?_
      rotate_left
      ·show Act.put _ (some 32) _ = _
       simp only [Act.put,p1_,p2_,p3_,i64_w,i32_w]
       rfl
      refine zon 11 (N := some 33) HT_ (fun K hK => ?_)
      refine Kd.R_append_rows_step (Kd.int .u8) (w0 := w) w.heap.size (by rfl) (.tmp 27) (.tmp 32) 46 5 (.int .u8 0) 1 rfl Tryd.underlying46 info5 rfl (by decide) (by omega) v909 y908 t911 _ _ _ (fun k_ => some k_ ≠ (v894 : Value).ownBlock ∧ some k_ ≠ (.slice Ao24 y899.length co24 : Value).ownBlock ∧ some k_ ≠ (.slice Ao28 t905.length co28 : Value).ownBlock ∧ some k_ ≠ (.slice Ao31 t911.length co31 : Value).ownBlock) (fun _ => False) rfl rfl ?aO ?aR (fun _ _ h => h) (fun _ h => h.elim) ?aF ?aB ?aS ?aL ?_
      (case aR => repeat (first | exact (Kd.R_reads' HO913.out).2.2 | (with_reducible refine Kd.C_alloc ?_ _) | (with_reducible refine Kd.C_drewN ?_ _) | (with_reducible refine Kd.C_drew ?_)))
      (case aB => exact (zl_ HB))
      (case aF => exact (fun k_ hk => ⟨Kd.fresh' (Kd.R_lt (zr HO895)) k_ hk,Kd.fresh' (Kd.R_lt (zr HO901)) k_ hk,Kd.fresh' (Kd.R_lt (zr HO907)) k_ hk,Kd.fresh' (Kd.R_lt (zr HO913)) k_ hk⟩))
      (case aO => exact (by (with_reducible repeat (first | apply r1_ | apply r2_ | apply r3_));exact Kd.R_mono HO910.out (fun _ hk => ⟨hk.1.1,⟨hk.1.2.1,⟨hk.1.2.2,hk.2⟩⟩⟩)))
      (case aS => exact (below_size (zl_ HB)))
      (case aL => have := LMc8.out;omega)
      intro v915 w30 ho hb hg hat
      rw [← Ny914.out] at ho
      replace BK889 := am_ (blk_grown (g := gb889) (o := .cells #[.int .i64 a0_0,.int .i64 a0_1,.int .i64 a0_2,.int .i64 a0_3,.int .i64 a0_4,.int .i64 a0_5,.int .i64 a0_6,.string a0_7] 73 (0,0)) (zk BK889) hg (Kd.R_ne HO910.out BK889.out (by decide)))
      replace HO895 := am_ (Kd.R_after (ok := (fun k_ => some k_ ≠ (.slice Ao24 y899.length co24 : Value).ownBlock ∧ some k_ ≠ (.slice Ao28 t905.length co28 : Value).ownBlock ∧ some k_ ≠ (.slice Ao31 t911.length co31 : Value).ownBlock)) (by (with_reducible repeat (first | apply r1_ | apply r2_ | apply r3_));exact Kd.R_mono HO895.out (fun _ hk => ⟨⟨hk.1.1.1,⟨hk.1.1.2,hk.2⟩⟩,hk.1.2⟩)) hg hat)
      replace HO901 := am_ (Kd.R_after (ok := (fun k_ => some k_ ≠ (v894 : Value).ownBlock ∧ some k_ ≠ (.slice Ao28 t905.length co28 : Value).ownBlock ∧ some k_ ≠ (.slice Ao31 t911.length co31 : Value).ownBlock)) (by (with_reducible repeat (first | apply r1_ | apply r2_ | apply r3_));exact Kd.R_mono HO901.out (fun _ hk => ⟨⟨hk.1.1.1,⟨hk.1.1.2,hk.2⟩⟩,hk.1.2⟩)) hg hat)
      replace HO907 := am_ (Kd.R_after (ok := (fun k_ => some k_ ≠ (v894 : Value).ownBlock ∧ some k_ ≠ (.slice Ao24 y899.length co24 : Value).ownBlock ∧ some k_ ≠ (.slice Ao31 t911.length co31 : Value).ownBlock)) (by (with_reducible repeat (first | apply r1_ | apply r2_ | apply r3_));exact Kd.R_mono HO907.out (fun _ hk => ⟨⟨hk.1.1.1,⟨hk.1.1.2,hk.2⟩⟩,hk.1.2⟩)) hg hat)
      replace HO913 := am_ (Kd.R_after (ok := (fun k_ => some k_ ≠ (v894 : Value).ownBlock ∧ some k_ ≠ (.slice Ao24 y899.length co24 : Value).ownBlock ∧ some k_ ≠ (.slice Ao28 t905.length co28 : Value).ownBlock)) (by (with_reducible repeat (first | apply r1_ | apply r2_ | apply r3_));exact Kd.R_mono HO913.out (fun _ hk => ⟨⟨hk.1.1.1.2,⟨hk.1.1.2,hk.1.2⟩⟩,hk.2⟩)) hg hat)
      replace HB := am_ (hb)
      have HO916 := am_ (ho)
      clear HO910
      clear ho hb hg hat
      refine hK.out _ _ ⟨(blk_cell BK889.out 0).trans rfl,(blk_cell BK889.out 1).trans rfl,(blk_cell BK889.out 2).trans rfl,(blk_cell BK889.out 3).trans rfl,(blk_cell BK889.out 4).trans rfl,(blk_cell BK889.out 5).trans rfl,(blk_cell BK889.out 6).trans rfl,(blk_cell BK889.out 7).trans rfl⟩ (fun hHeld => ?_)
      clear hK K
      refine norm_ (a' := ?_) ?_ ?_
      rotate_left
      ·show Act.put _ (some 33) _ = _
       simp only [Act.put,p1_,p2_,p3_,i64_w,i32_w]
       rfl
      refine zpu 12 (N := some 3) HT_ ?_
      refine done_ (done_of HT_.out (by kernel_rfl)) ?_
      obtain ⟨hcz32_0,hcz32_1,hcz32_2,hcz32_3,hcz32_4,hcz32_5,hcz32_6,hcz32_7,hfz32_0,hfz32_1,hfz32_2,hfz32_3,hfz32_4,hfz32_5,hfz32_6,hfz32_7⟩ := zc8 BK889
      try go_wp2_with (first | ((with_reducible refine gate_callee (f := 184) rfl ?_);refine zgl (some 38) Tryd.func184 #[.int .i64 a0_6,.int .i64 4] ?_;(with_reducible refine (spec_l02Number.calls k a0_6 4 t917 _ A9.out).mono ?_);rintro e w33 ⟨v918,rfl,ho0,hb⟩;refine ⟨_,rfl,?_⟩;have HO919 := am_ (Kd.R_lower (Kd.R_new' (Kd.R_new' (Kd.R_new' (Kd.R_new' (Kd.R_new' ho0 (Kd.R_lt (zr HO895))) (Kd.R_lt (zr HO901))) (Kd.R_lt (zr HO907))) (Kd.R_lt (zr HO913))) (Kd.R_lt (zr HO916))) (below_size (zl_ HB)));replace HO895 := am_ (Kd.R_elder' (zr HO895) (Kd.R_base ho0) hb);replace HO901 := am_ (Kd.R_elder' (zr HO901) (Kd.R_base ho0) hb);replace HO907 := am_ (Kd.R_elder' (zr HO907) (Kd.R_base ho0) hb);replace HO913 := am_ (Kd.R_elder' (zr HO913) (Kd.R_base ho0) hb);replace HO916 := am_ (Kd.R_elder' (zr HO916) (Kd.R_base ho0) hb);replace HB := zs_ HB hb;(try clear hb);(try clear hb2);(try clear hk);(try clear hi);(try clear ho0);obtain ⟨Ao35,co35,eo35⟩ := Kd.R_slice HO919.out;subst eo35) | ((with_reducible refine gate_builtin (b := .append) (xs := #[.tmp 34,.tmp 38]) rfl ?_);at_builtin;refine Kd.R_append_rows (Kd.int .u8) (w0 := w) w.heap.size rfl (.tmp 34) (.tmp 38) 46 5 (.int .u8 0) 1 rfl Tryd.underlying46 info5 rfl (by decide) (by omega) v915 y914 t917 _ _ _ (fun k_ => some k_ ≠ (v894 : Value).ownBlock ∧ some k_ ≠ (.slice Ao24 y899.length co24 : Value).ownBlock ∧ some k_ ≠ (.slice Ao28 t905.length co28 : Value).ownBlock ∧ some k_ ≠ (.slice Ao31 t911.length co31 : Value).ownBlock ∧ some k_ ≠ (.slice Ao35 t917.length co35 : Value).ownBlock) (fun _ => False) rfl rfl ?aO ?aR (fun _ _ h => h) (fun _ h => h.elim) ?aF ?aB ?aS ?aL ?_;(case aR => repeat (first | exact (Kd.R_reads' HO919.out).2.2 | (with_reducible refine Kd.C_alloc ?_ _) | (with_reducible refine Kd.C_drewN ?_ _) | (with_reducible refine Kd.C_drew ?_)));(case aB => exact (zl_ HB));(case aF => exact (fun k_ hk => ⟨Kd.fresh' (Kd.R_lt (zr HO895)) k_ hk,Kd.fresh' (Kd.R_lt (zr HO901)) k_ hk,Kd.fresh' (Kd.R_lt (zr HO907)) k_ hk,Kd.fresh' (Kd.R_lt (zr HO913)) k_ hk,Kd.fresh' (Kd.R_lt (zr HO919)) k_ hk⟩));(case aO => exact (by (with_reducible repeat (first | apply r1_ | apply r2_ | apply r3_));exact Kd.R_mono HO916.out (fun _ hk => ⟨hk.1.1,⟨hk.1.2.1,⟨hk.1.2.2.1,⟨hk.1.2.2.2,hk.2⟩⟩⟩⟩)));(case aS => exact (below_size (zl_ HB)));(case aL => have := LMc10.out;omega);intro v921 w34 ho hb hg hat;rw [← Ny920.out] at ho;replace HB := am_ (hb);have HO922 := am_ (ho);clear HO916;clear ho hb hg hat))
      go_ret
      exact ⟨_,zt_,by (with_reducible repeat (first | apply r1_ | apply r2_ | apply r3_));exact Kd.R_mono HO922.out (fun _ hk => trivial),zl_ HB⟩
     ·rw [if_neg c10] at H
      exact absurd H (by simp)
    ·rw [if_neg c8] at H
     exact absurd H (by simp)
   ·rw [if_neg c6] at H
    exact absurd H (by simp)
  ·rw [if_neg c4] at H
   exact absurd H (by simp)
 ·rw [if_neg c3] at H
  exact absurd H (by simp)
set_option maxHeartbeats 8000000 in
set_option maxRecDepth 100000 in
theorem spec_l11Mac.calls (k : Nat) (a0_0 : Int) (a0_1 : Int) (a0_2 : Int) (a0_3 : Int) (a0_4 : Int) (a0_5 : Int) (a0_6 : Int) (a0_7 : ByteArray) (r : ByteArray) (w : World) (h : spec_l11Mac.f k a0_0 a0_1 a0_2 a0_3 a0_4 a0_5 a0_6 a0_7 = some r) :
  Calls Tryd.prog 143 #[.agg #[.int .i64 a0_0,.int .i64 a0_1,.int .i64 a0_2,.int .i64 a0_3,.int .i64 a0_4,.int .i64 a0_5,.int .i64 a0_6,.string a0_7]] w fun e w' => e = .returned (.string r) ∧ Below w.heap.size w w' := by
 have hu73 := Tryd.underlying73
 have HB := am_ (Below.refl w.heap.size w)
 have H : ((spec_l11Plain.f k a0_0 a0_1 a0_2 a0_3 a0_4 a0_5 a0_6 a0_7).bind fun t924 => ((spec_l04Mac.f k a0_0 t924).bind fun t927 => (some t927))) = some r := h
 clear h
 replace H := Option.bind_eq_some_iff.mp H
 obtain ⟨t924,A20,H⟩ := H
 try dsimp only at H
 have A2 := am_ A20
 clear A20
 replace H := Option.bind_eq_some_iff.mp H
 obtain ⟨t927,A30,H⟩ := H
 try dsimp only at H
 have A3 := am_ A30
 clear A30
 obtain rfl := Option.some.inj H
 go_enter Tryd.func143,Tryd.ntmps143
 try go_wp2_with (first | ((with_reducible refine gate_dst (N := 1) rfl ?_);refine zbx (N := 1) (cs := #[.int .i64 a0_0,.int .i64 a0_1,.int .i64 a0_2,.int .i64 a0_3,.int .i64 a0_4,.int .i64 a0_5,.int .i64 a0_6,.string a0_7]) (t := 73) ?_;intro gb923 hg w4 hbox hb;have BK923 := am_ (hbox);have GW923 := zw_ HB hg;have GE923 := zw_ HB hg;replace HB := zs_ HB hb;clear hb hbox hg))
 replace BK923 := am_ (blk_drew BK923.out)
 replace HB := am_ (below_drew1 HB.out)
 refine start_ (n := 6) (S := fun w' => w'.cell? ⟨gb923,0,none⟩ = some (.int .i64 a0_0) ∧ w'.cell? ⟨gb923,1,none⟩ = some (.int .i64 a0_1) ∧ w'.cell? ⟨gb923,2,none⟩ = some (.int .i64 a0_2) ∧ w'.cell? ⟨gb923,3,none⟩ = some (.int .i64 a0_3) ∧ w'.cell? ⟨gb923,4,none⟩ = some (.int .i64 a0_4) ∧ w'.cell? ⟨gb923,5,none⟩ = some (.int .i64 a0_5) ∧ w'.cell? ⟨gb923,6,none⟩ = some (.int .i64 a0_6) ∧ w'.cell? ⟨gb923,7,none⟩ = some (.string a0_7)) (ds := []) #[false,false,false,false,false,false] (by kernel_rfl) rfl rfl ⟨(blk_cell BK923.out 0).trans rfl,(blk_cell BK923.out 1).trans rfl,(blk_cell BK923.out 2).trans rfl,(blk_cell BK923.out 3).trans rfl,(blk_cell BK923.out 4).trans rfl,(blk_cell BK923.out 5).trans rfl,(blk_cell BK923.out 6).trans rfl,(blk_cell BK923.out 7).trans rfl⟩ (fun hHeld => ?_)
 generalize w4.drew = w5 at BK923 HB hHeld ⊢
 refine pure_ (i := 0) (N := some 3) (v := ?_) (a' := ?_) #[true,false,false,false,false,false] rfl rfl (by kernel_rfl) (fun _ _ _ h => h) (Or.inl ⟨by rfl,?_⟩) ?_ ?_
 rotate_left
 ·intro w'
  go_simp
  with_reducible rfl
 rotate_left
 ·simp only [Act.put,p1_,p2_,p3_,i64_w,i32_w]
  rfl
 refine take_ (i := 1) (N := some 4) (v := ?_) (a' := ?_) #[true,true,false,false,false,false] rfl rfl (by kernel_rfl) (fun _ _ _ h => h) (Or.inl ⟨by rfl,?_⟩) hHeld ?_ ?_
 rotate_left
 ·rintro w' ⟨s0,s1,s2,s3,s4,s5,s6,s7⟩
  go_simp
  with_reducible rfl
 rotate_left
 ·simp only [Act.put,p1_,p2_,p3_,i64_w,i32_w]
  rfl
 refine take_ (i := 2) (N := some 5) (v := ?_) (a' := ?_) #[true,true,true,false,false,false] rfl rfl (by kernel_rfl) (fun _ _ _ h => h) (Or.inl ⟨by rfl,?_⟩) hHeld ?_ ?_
 rotate_left
 ·rintro w' ⟨s0,s1,s2,s3,s4,s5,s6,s7⟩
  go_simp
  with_reducible rfl
 rotate_left
 ·simp only [Act.put,p1_,p2_,p3_,i64_w,i32_w]
  rfl
 refine one_ (i := 3) (N := some 6) #[true,true,true,true,false,false] rfl rfl (by kernel_rfl) (by decide) (fun K hK => ?_)
 refine zgo Tryd.func168 #[.agg #[.int .i64 a0_0,.int .i64 a0_1,.int .i64 a0_2,.int .i64 a0_3,.int .i64 a0_4,.int .i64 a0_5,.int .i64 a0_6,.string a0_7]] ?_
 with_reducible refine (spec_l11Plain.calls k a0_0 a0_1 a0_2 a0_3 a0_4 a0_5 a0_6 a0_7 t924 _ A2.out).mono ?_
 rintro e w6 ⟨v925,rfl,ho0,hb⟩
 refine ⟨_,rfl,?_⟩
 have HO926 := am_ (Kd.R_lower ho0 (below_size (zl_ HB)))
 replace BK923 := zb BK923 hb
 replace HB := zs_ HB hb
 (try clear hb)
 (try clear hb2)
 (try clear hk)
 (try clear hi)
 (try clear ho0)
 obtain ⟨Ao7,co7,eo7⟩ := Kd.R_slice HO926.out
 (first | subst eo7 | (injection eo7 with f1_ f2_ f3_;have f4_ := f1_.symm;have f5_ := f3_.symm;clear f1_ f2_ f3_;subst f4_;subst f5_))
 refine hK.out _ _ ⟨(blk_cell BK923.out 0).trans rfl,(blk_cell BK923.out 1).trans rfl,(blk_cell BK923.out 2).trans rfl,(blk_cell BK923.out 3).trans rfl,(blk_cell BK923.out 4).trans rfl,(blk_cell BK923.out 5).trans rfl,(blk_cell BK923.out 6).trans rfl,(blk_cell BK923.out 7).trans rfl⟩ (fun hHeld => ?_)
 clear hK K
 refine norm_ (a' := ?_) ?_ ?_
 rotate_left
 ·show Act.put _ (some 6) _ = _
  simp only [Act.put,p1_,p2_,p3_,i64_w,i32_w]
  rfl
 refine one_ (i := 4) (N := some 7) #[true,true,true,true,true,false] rfl rfl (by kernel_rfl) (by decide) (fun K hK => ?_)
 refine zgo Tryd.func167 #[.int .i64 a0_0,.slice Ao7 t924.length co7] ?_
 with_reducible refine (spec_l04Mac.calls k a0_0 _ _ t924 t927 _ ?side1 ?side2 A3.out).mono ?_
 (case side1 => repeat (first | exact (Kd.R_reads' HO926.out).2.2 | (with_reducible refine Kd.C_alloc ?_ _) | (with_reducible refine Kd.C_drewN ?_ _) | (with_reducible refine Kd.C_drew ?_)))
 (case side2 => exact (Kd.R_reads' HO926.out).2.1)
 rintro e w8 ⟨rfl,hb⟩
 refine ⟨_,rfl,?_⟩
 replace BK923 := zb BK923 hb
 replace HB := zs_ HB hb
 (try clear hb)
 (try clear hb2)
 (try clear hk)
 (try clear hi)
 refine hK.out _ _ ⟨(blk_cell BK923.out 0).trans rfl,(blk_cell BK923.out 1).trans rfl,(blk_cell BK923.out 2).trans rfl,(blk_cell BK923.out 3).trans rfl,(blk_cell BK923.out 4).trans rfl,(blk_cell BK923.out 5).trans rfl,(blk_cell BK923.out 6).trans rfl,(blk_cell BK923.out 7).trans rfl⟩ (fun hHeld => ?_)
 clear hK K
 refine norm_ (a' := ?_) ?_ ?_
 rotate_left
 ·show Act.put _ (some 7) _ = _
  simp only [Act.put,p1_,p2_,p3_,i64_w,i32_w]
  rfl
 refine pure_ (i := 5) (N := some 2) (v := ?_) (a' := ?_) #[true,true,true,true,true,true] rfl rfl (by kernel_rfl) (fun _ _ _ h => h) (Or.inl ⟨by rfl,?_⟩) ?_ ?_
 rotate_left
 ·intro w'
  go_simp
  with_reducible rfl
 rotate_left
 ·simp only [Act.put,p1_,p2_,p3_,i64_w,i32_w]
  rfl
 refine done_ (by kernel_rfl) ?_
 try go_wp2
 go_ret
 exact ⟨zt_,zl_ HB⟩
def spec_l11OK.T1 : Bool × List (List Nat × List Nat) := (true,[([],[]),([0],[0]),([1,1],[1]),([2],[2]),([3,2],[2,3]),([2],[2]),([4,5,2],[2,4,5]),([2,6],[2,6]),([7,2],[7]),([8],[8]),([9,8,8],[8,9]),([8],[8]),([11,8],[8,11]),([10,12,8],[8,10,12]),([8,13],[8,13]),([14,10,0,1,2,3,4,5,6,7,8,9,10,11,12,13,14],[14])])
def spec_l11OK.B1 : List Nat := [0,1,3,7,15,7,63,127,255,511,1023,511,2559,8191,16383,32767]
theorem spec_l11OK.tab1 : rtab .any (opsOf Tryd.f97 1) = spec_l11OK.T1 := by kernel_rfl
theorem spec_l11OK.bits1 : waitsOk spec_l11OK.T1.2 spec_l11OK.B1 = true := by kernel_rfl
set_option maxHeartbeats 8000000 in
set_option maxRecDepth 100000 in
theorem spec_l11OK.calls (k : Nat) (a0 : Int) (a1_0 : Int) (a1_1 : Int) (a1_2 : Int) (a1_3 : Int) (a1_4 : Int) (a1_5 : Int) (a1_6 : Int) (a1_7 : ByteArray) (r : Bool) (w : World) (h : spec_l11OK.f k a0 a1_0 a1_1 a1_2 a1_3 a1_4 a1_5 a1_6 a1_7 = some r) :
  Calls Tryd.prog 97 #[.int .i64 a0,.agg #[.int .i64 a1_0,.int .i64 a1_1,.int .i64 a1_2,.int .i64 a1_3,.int .i64 a1_4,.int .i64 a1_5,.int .i64 a1_6,.string a1_7]] w fun e w' => e = .returned (.bool r) ∧ Below w.heap.size w w' := by
 have hu73 := Tryd.underlying73
 have HB := am_ (Below.refl w.heap.size w)
 have H : ((spec_l11Form.f a1_0 a1_1 a1_2 a1_3 a1_4 a1_5 a1_6 a1_7).bind fun t929 => (if t929 = true then (if a1_0 < a0 then ((spec_l11Mac.f k a1_0 a1_1 a1_2 a1_3 a1_4 a1_5 a1_6 a1_7).bind fun t930 => (some (t930.toList == a1_7.toList))) else (some false)) else (some false))) = some r := h
 clear h
 replace H := Option.bind_eq_some_iff.mp H
 obtain ⟨t929,A30,H⟩ := H
 try dsimp only at H
 have A3 := am_ A30
 clear A30
 by_cases c4 : t929 = true
 ·subst c4
  have H1 : (if a1_0 < a0 then ((spec_l11Mac.f k a1_0 a1_1 a1_2 a1_3 a1_4 a1_5 a1_6 a1_7).bind fun t930 => (some (t930.toList == a1_7.toList))) else (some false)) = some r := by rw [if_pos rfl] at H;exact H
  clear H
  have H := H1
  clear H1
  by_cases c5 : a1_0 < a0
  ·rw [if_pos c5] at H
   have c5b0 : decide (a1_0 < a0) = true := decide_eq_true c5
   clear c5
   replace H := Option.bind_eq_some_iff.mp H
   obtain ⟨t930,A60,H⟩ := H
   try dsimp only at H
   have A6 := am_ A60
   clear A60
   obtain rfl := Option.some.inj H
   go_enter Tryd.func97,Tryd.ntmps97
   try go_wp2_with (first | ((with_reducible refine gate_dst (N := 3) rfl ?_);refine zbx (N := 3) (cs := #[.int .i64 a1_0,.int .i64 a1_1,.int .i64 a1_2,.int .i64 a1_3,.int .i64 a1_4,.int .i64 a1_5,.int .i64 a1_6,.string a1_7]) (t := 73) ?_;intro gb928 hg w7 hbox hb;have BK928 := am_ (hbox);have GW928 := zw_ HB hg;have GE928 := zw_ HB hg;replace HB := zs_ HB hb;clear hb hbox hg))
   replace BK928 := am_ (blk_drew BK928.out)
   replace HB := am_ (below_drew1 HB.out)
   refine start_ (n := 16) (S := fun w' => w'.cell? ⟨gb928,0,none⟩ = some (.int .i64 a1_0) ∧ w'.cell? ⟨gb928,1,none⟩ = some (.int .i64 a1_1) ∧ w'.cell? ⟨gb928,2,none⟩ = some (.int .i64 a1_2) ∧ w'.cell? ⟨gb928,3,none⟩ = some (.int .i64 a1_3) ∧ w'.cell? ⟨gb928,4,none⟩ = some (.int .i64 a1_4) ∧ w'.cell? ⟨gb928,5,none⟩ = some (.int .i64 a1_5) ∧ w'.cell? ⟨gb928,6,none⟩ = some (.int .i64 a1_6) ∧ w'.cell? ⟨gb928,7,none⟩ = some (.string a1_7)) (ds := []) #[false,false,false,false,false,false,false,false,false,false,false,false,false,false,false,false] (by kernel_rfl) rfl rfl ⟨(blk_cell BK928.out 0).trans rfl,(blk_cell BK928.out 1).trans rfl,(blk_cell BK928.out 2).trans rfl,(blk_cell BK928.out 3).trans rfl,(blk_cell BK928.out 4).trans rfl,(blk_cell BK928.out 5).trans rfl,(blk_cell BK928.out 6).trans rfl,(blk_cell BK928.out 7).trans rfl⟩ (fun hHeld => ?_);refine with_tabW spec_l11OK.tab1 spec_l11OK.bits1 (fun HT_ HW_ => ?_)
   generalize w7.drew = w8 at BK928 HB hHeld ⊢
   refine ztk 0 (N := some 5) HT_ HW_ hHeld ?_
   refine zon 1 (N := some 6) HT_ (fun K hK => ?_)
   refine zgo Tryd.func91 #[.agg #[.int .i64 a1_0,.int .i64 a1_1,.int .i64 a1_2,.int .i64 a1_3,.int .i64 a1_4,.int .i64 a1_5,.int .i64 a1_6,.string a1_7]] ?_
   with_reducible refine (spec_l11Form.calls a1_0 a1_1 a1_2 a1_3 a1_4 a1_5 a1_6 a1_7 true _ A3.out).mono ?_
   rintro e w9 ⟨rfl,hb⟩
   refine ⟨_,rfl,?_⟩
   replace BK928 := zb BK928 hb
   replace HB := zs_ HB hb
   (try clear hb)
   (try clear hb2)
   (try clear hk)
   (try clear hi)
   refine hK.out _ _ ⟨(blk_cell BK928.out 0).trans rfl,(blk_cell BK928.out 1).trans rfl,(blk_cell BK928.out 2).trans rfl,(blk_cell BK928.out 3).trans rfl,(blk_cell BK928.out 4).trans rfl,(blk_cell BK928.out 5).trans rfl,(blk_cell BK928.out 6).trans rfl,(blk_cell BK928.out 7).trans rfl⟩ (fun hHeld => ?_)
   clear hK K
   refine norm_ (a' := ?_) ?_ ?_
   rotate_left
   ·show Act.put _ (some 6) _ = _
    simp only [Act.put,p1_,p2_,p3_,i64_w,i32_w]
    rfl
   refine zpu 2 (N := some 7) HT_ ?_
   refine zpu 3 (N := some 8) HT_ ?_
   refine zpu 5 (N := some 10) HT_ ?_
   refine ztk 4 (N := some 9) HT_ HW_ hHeld ?_
   refine zpu 6 (N := some 11) HT_ ?_
   refine zpu 7 (N := some 12) HT_ ?_
   refine zpu 8 (N := some 13) HT_ ?_
   refine zpu 11 (N := some 16) HT_ ?_
   refine ztk 9 (N := some 14) HT_ HW_ hHeld ?_
   refine ztk 12 (N := some 17) HT_ HW_ hHeld ?_
   refine zon 10 (N := some 15) HT_ (fun K hK => ?_)
   refine zgo Tryd.func143 #[.agg #[.int .i64 a1_0,.int .i64 a1_1,.int .i64 a1_2,.int .i64 a1_3,.int .i64 a1_4,.int .i64 a1_5,.int .i64 a1_6,.string a1_7]] ?_
   with_reducible refine (spec_l11Mac.calls k a1_0 a1_1 a1_2 a1_3 a1_4 a1_5 a1_6 a1_7 t930 _ A6.out).mono ?_
   rintro e w10 ⟨rfl,hb⟩
   refine ⟨_,rfl,?_⟩
   replace BK928 := zb BK928 hb
   replace HB := zs_ HB hb
   (try clear hb)
   (try clear hb2)
   (try clear hk)
   (try clear hi)
   refine hK.out _ _ ⟨(blk_cell BK928.out 0).trans rfl,(blk_cell BK928.out 1).trans rfl,(blk_cell BK928.out 2).trans rfl,(blk_cell BK928.out 3).trans rfl,(blk_cell BK928.out 4).trans rfl,(blk_cell BK928.out 5).trans rfl,(blk_cell BK928.out 6).trans rfl,(blk_cell BK928.out 7).trans rfl⟩ (fun hHeld => ?_)
   clear hK K
   refine norm_ (a' := ?_) ?_ ?_
   rotate_left
   ·show Act.put _ (some 15) _ = _
    simp only [Act.put,p1_,p2_,p3_,i64_w,i32_w]
    rfl
   refine zpu 13 (N := some 18) HT_ ?_
   refine zpu 14 (N := some 19) HT_ ?_
   refine zpu 15 (N := some 4) HT_ ?_
   refine done_ (done_of HT_.out (by kernel_rfl)) ?_
   try go_wp2
   go_ret
   exact ⟨zt_,zl_ HB⟩
  ·rw [if_neg c5] at H
   have c5b0 : decide (a1_0 < a0) = false := decide_eq_false c5
   clear c5
   obtain rfl := Option.some.inj H
   go_enter Tryd.func97,Tryd.ntmps97
   try go_wp2_with (first | ((with_reducible refine gate_dst (N := 3) rfl ?_);refine zbx (N := 3) (cs := #[.int .i64 a1_0,.int .i64 a1_1,.int .i64 a1_2,.int .i64 a1_3,.int .i64 a1_4,.int .i64 a1_5,.int .i64 a1_6,.string a1_7]) (t := 73) ?_;intro gb928 hg w11 hbox hb;have BK928 := am_ (hbox);have GW928 := zw_ HB hg;have GE928 := zw_ HB hg;replace HB := zs_ HB hb;clear hb hbox hg))
   replace BK928 := am_ (blk_drew BK928.out)
   replace HB := am_ (below_drew1 HB.out)
   refine start_ (n := 16) (S := fun w' => w'.cell? ⟨gb928,0,none⟩ = some (.int .i64 a1_0) ∧ w'.cell? ⟨gb928,1,none⟩ = some (.int .i64 a1_1) ∧ w'.cell? ⟨gb928,2,none⟩ = some (.int .i64 a1_2) ∧ w'.cell? ⟨gb928,3,none⟩ = some (.int .i64 a1_3) ∧ w'.cell? ⟨gb928,4,none⟩ = some (.int .i64 a1_4) ∧ w'.cell? ⟨gb928,5,none⟩ = some (.int .i64 a1_5) ∧ w'.cell? ⟨gb928,6,none⟩ = some (.int .i64 a1_6) ∧ w'.cell? ⟨gb928,7,none⟩ = some (.string a1_7)) (ds := []) #[false,false,false,false,false,false,false,false,false,false,false,false,false,false,false,false] (by kernel_rfl) rfl rfl ⟨(blk_cell BK928.out 0).trans rfl,(blk_cell BK928.out 1).trans rfl,(blk_cell BK928.out 2).trans rfl,(blk_cell BK928.out 3).trans rfl,(blk_cell BK928.out 4).trans rfl,(blk_cell BK928.out 5).trans rfl,(blk_cell BK928.out 6).trans rfl,(blk_cell BK928.out 7).trans rfl⟩ (fun hHeld => ?_);refine with_tabW spec_l11OK.tab1 spec_l11OK.bits1 (fun HT_ HW_ => ?_)
   generalize w11.drew = w12 at BK928 HB hHeld ⊢
   refine ztk 0 (N := some 5) HT_ HW_ hHeld ?_
   refine zon 1 (N := some 6) HT_ (fun K hK => ?_)
   refine zgo Tryd.func91 #[.agg #[.int .i64 a1_0,.int .i64 a1_1,.int .i64 a1_2,.int .i64 a1_3,.int .i64 a1_4,.int .i64 a1_5,.int .i64 a1_6,.string a1_7]] ?_
   with_reducible refine (spec_l11Form.calls a1_0 a1_1 a1_2 a1_3 a1_4 a1_5 a1_6 a1_7 true _ A3.out).mono ?_
   rintro e w13 ⟨rfl,hb⟩
   refine ⟨_,rfl,?_⟩
   replace BK928 := zb BK928 hb
   replace HB := zs_ HB hb
   (try clear hb)
   (try clear hb2)
   (try clear hk)
   (try clear hi)
   refine hK.out _ _ ⟨(blk_cell BK928.out 0).trans rfl,(blk_cell BK928.out 1).trans rfl,(blk_cell BK928.out 2).trans rfl,(blk_cell BK928.out 3).trans rfl,(blk_cell BK928.out 4).trans rfl,(blk_cell BK928.out 5).trans rfl,(blk_cell BK928.out 6).trans rfl,(blk_cell BK928.out 7).trans rfl⟩ (fun hHeld => ?_)
   clear hK K
   refine norm_ (a' := ?_) ?_ ?_
   rotate_left
   ·show Act.put _ (some 6) _ = _
    simp only [Act.put,p1_,p2_,p3_,i64_w,i32_w]
    rfl
   refine zpu 2 (N := some 7) HT_ ?_
   refine zpu 3 (N := some 8) HT_ ?_
   refine zpu 5 (N := some 10) HT_ ?_
   refine ztk 4 (N := some 9) HT_ HW_ hHeld ?_
   refine zpu 6 (N := some 11) HT_ ?_
   refine zpu 7 (N := some 12) HT_ ?_
   refine zpu 8 (N := some 13) HT_ ?_
   refine zpx 9 (N := some 14) HT_ ?_
   refine zpx 10 (N := some 15) HT_ ?_
   refine zpx 11 (N := some 16) HT_ ?_
   refine zpx 12 (N := some 17) HT_ ?_
   refine zpx 13 (N := some 18) HT_ ?_
   refine zpu 14 (N := some 19) HT_ ?_
   refine zpu 15 (N := some 4) HT_ ?_
   refine done_ (done_of HT_.out (by kernel_rfl)) ?_
   try go_wp2
   go_ret
   exact ⟨zt_,zl_ HB⟩
 ·replace c4 := Bool.eq_false_iff.mpr c4
  subst c4
  have H1 : (some false) = some r := by rw [if_neg (show ¬ (false = true) by decide)] at H;exact H
  clear H
  have H := H1
  clear H1
  obtain rfl := Option.some.inj H
  go_enter Tryd.func97,Tryd.ntmps97
  try go_wp2_with (first | ((with_reducible refine gate_dst (N := 3) rfl ?_);refine zbx (N := 3) (cs := #[.int .i64 a1_0,.int .i64 a1_1,.int .i64 a1_2,.int .i64 a1_3,.int .i64 a1_4,.int .i64 a1_5,.int .i64 a1_6,.string a1_7]) (t := 73) ?_;intro gb928 hg w14 hbox hb;have BK928 := am_ (hbox);have GW928 := zw_ HB hg;have GE928 := zw_ HB hg;replace HB := zs_ HB hb;clear hb hbox hg))
  replace BK928 := am_ (blk_drew BK928.out)
  replace HB := am_ (below_drew1 HB.out)
  refine start_ (n := 16) (S := fun w' => w'.cell? ⟨gb928,0,none⟩ = some (.int .i64 a1_0) ∧ w'.cell? ⟨gb928,1,none⟩ = some (.int .i64 a1_1) ∧ w'.cell? ⟨gb928,2,none⟩ = some (.int .i64 a1_2) ∧ w'.cell? ⟨gb928,3,none⟩ = some (.int .i64 a1_3) ∧ w'.cell? ⟨gb928,4,none⟩ = some (.int .i64 a1_4) ∧ w'.cell? ⟨gb928,5,none⟩ = some (.int .i64 a1_5) ∧ w'.cell? ⟨gb928,6,none⟩ = some (.int .i64 a1_6) ∧ w'.cell? ⟨gb928,7,none⟩ = some (.string a1_7)) (ds := []) #[false,false,false,false,false,false,false,false,false,false,false,false,false,false,false,false] (by kernel_rfl) rfl rfl ⟨(blk_cell BK928.out 0).trans rfl,(blk_cell BK928.out 1).trans rfl,(blk_cell BK928.out 2).trans rfl,(blk_cell BK928.out 3).trans rfl,(blk_cell BK928.out 4).trans rfl,(blk_cell BK928.out 5).trans rfl,(blk_cell BK928.out 6).trans rfl,(blk_cell BK928.out 7).trans rfl⟩ (fun hHeld => ?_);refine with_tabW spec_l11OK.tab1 spec_l11OK.bits1 (fun HT_ HW_ => ?_)
  generalize w14.drew = w15 at BK928 HB hHeld ⊢
  refine ztk 0 (N := some 5) HT_ HW_ hHeld ?_
  refine zon 1 (N := some 6) HT_ (fun K hK => ?_)
  refine zgo Tryd.func91 #[.agg #[.int .i64 a1_0,.int .i64 a1_1,.int .i64 a1_2,.int .i64 a1_3,.int .i64 a1_4,.int .i64 a1_5,.int .i64 a1_6,.string a1_7]] ?_
  with_reducible refine (spec_l11Form.calls a1_0 a1_1 a1_2 a1_3 a1_4 a1_5 a1_6 a1_7 false _ A3.out).mono ?_
  rintro e w16 ⟨rfl,hb⟩
  refine ⟨_,rfl,?_⟩
  replace BK928 := zb BK928 hb
  replace HB := zs_ HB hb
  (try clear hb)
  (try clear hb2)
  (try clear hk)
  (try clear hi)
  refine hK.out _ _ ⟨(blk_cell BK928.out 0).trans rfl,(blk_cell BK928.out 1).trans rfl,(blk_cell BK928.out 2).trans rfl,(blk_cell BK928.out 3).trans rfl,(blk_cell BK928.out 4).trans rfl,(blk_cell BK928.out 5).trans rfl,(blk_cell BK928.out 6).trans rfl,(blk_cell BK928.out 7).trans rfl⟩ (fun hHeld => ?_)
  clear hK K
  refine norm_ (a' := ?_) ?_ ?_
  rotate_left
  ·show Act.put _ (some 6) _ = _
   simp only [Act.put,p1_,p2_,p3_,i64_w,i32_w]
   rfl
  refine zpu 2 (N := some 7) HT_ ?_
  refine zpx 3 (N := some 8) HT_ ?_
  refine zpx 4 (N := some 9) HT_ ?_
  refine zpx 5 (N := some 10) HT_ ?_
  refine zpx 6 (N := some 11) HT_ ?_
  refine zpu 7 (N := some 12) HT_ ?_
  refine zpu 8 (N := some 13) HT_ ?_
  refine zpx 9 (N := some 14) HT_ ?_
  refine zpx 10 (N := some 15) HT_ ?_
  refine zpx 11 (N := some 16) HT_ ?_
  refine zpx 12 (N := some 17) HT_ ?_
  refine zpx 13 (N := some 18) HT_ ?_
  refine zpu 14 (N := some 19) HT_ ?_
  refine zpu 15 (N := some 4) HT_ ?_
  refine done_ (done_of HT_.out (by kernel_rfl)) ?_
  try go_wp2
  go_ret
  exact ⟨zt_,zl_ HB⟩
end Go.Proofs.YtlifdodphkimpaaDoor.B
end
