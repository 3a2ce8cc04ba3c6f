/- A part of the proof that FnExactCertOK returns true at every input: plain functions, contracts and lemmas. No conditions. -/
import Derived.Test.YtbhegbhdenngbaaGreatDoorQCertOKd
set_option linter.unusedVariables false
set_option linter.unusedSimpArgs false
set_option linter.unusedSectionVars false
set_option maxHeartbeats 8000000
set_option maxRecDepth 100000
section
namespace Go.Proofs.YtbhegbhdenngbaaGreatDoor.A
open Go.RowKit Go.Proofs.YtbhegbhdenngbaaGreatDoorW.PrintWords Go.Proofs.YtbhegbhdenngbaaGreatDoorW.PrintLast Go.Proofs.YtbhegbhdenngbaaGreatDoorW.PrintMore
attribute [local go_sem] max2_int min2_int max_two min_two max_three min_three max_four min_four
theorem ZH.calls (k : Nat) (a0_0 : Int) (a0_1 : Int) (a0_2 : Int) (a0_3 : Int) (a0_4 : ByteArray) (r : Bool) (w : World) (h : ZH.f k a0_0 a0_1 a0_2 a0_3 a0_4 = some r) :
  Calls Tryz.prog 68 #[.agg #[.int .i64 a0_0,.int .i64 a0_1,.int .i64 a0_2,.int .i64 a0_3,.string a0_4]] w fun e w' => e = .returned (.bool r) ∧ Below w.heap.size w w' := by
 have hu52 := Tryz.underlying52
 have HB := am_ (Below.refl w.heap.size w)
 have H : ((Zs.f a0_0 0 255).bind fun t113 => (if t113 = true then ((Zs.f a0_1 1 65535).bind fun t114 => (if t114 = true then ((Zs.f a0_2 1 4).bind fun t115 => (if t115 = true then ((Zs.f a0_3 0 1000).bind fun t116 => (if t116 = true then ((ZY.f k a0_4 12).bind fun t117 => (if t117 = true then (if a0_2 = 1 then (some ((decide (a0_3 > 0)) == true)) else (some ((decide (a0_3 > 0)) == (a0_2 == 3)))) else (some false))) else (some false))) else (some false))) else (some false))) else (some false))) = some r := h
 clear h
 replace H := Option.bind_eq_some_iff.mp H
 obtain ⟨t113,A20,H⟩ := H
 try dsimp only at H
 have A2 := am_ A20
 clear A20
 by_cases c3 : t113 = true
 case neg =>
  replace c3 := Bool.eq_false_iff.mpr c3
  subst c3
  rw [if_neg (show ¬ (false = true) by decide)] at H
  obtain rfl := Option.some.inj H
  go_enter Tryz.func68,Tryz.ntmps68
  go_wp2_with (first | ((with_reducible refine gate_dst (N := 1) rfl ?_);refine zbx (N := 1) (cs := #[.int .i64 a0_0,.int .i64 a0_1,.int .i64 a0_2,.int .i64 a0_3,.string a0_4]) (t := 52) ?_;intro gb112 hg w25 hbox hb;have BK112 := am_ (hbox);have GW112 := zw_ HB hg;have GE112 := zw_ HB hg;replace HB := zs_ HB hb;clear hb hbox hg;obtain ⟨hcz26_0,hcz26_1,hcz26_2,hcz26_3,hcz26_4,hfz26_0,hfz26_1,hfz26_2,hfz26_3,hfz26_4⟩ := zc5 BK112) | ((with_reducible refine gate_callee (f := 52) rfl ?_);refine zgl (some 5) Tryz.func52 #[.int .i64 a0_0,.int .i64 0,.int .i64 255] ?_;(with_reducible refine (Zs.calls a0_0 0 255 false _ A2.out).mono ?_);rintro e w' ⟨rfl,⟨nd,rfl⟩⟩;refine ⟨_,rfl,?_⟩))
  go_ret
  exact ⟨zt_,zl_ HB⟩
 subst c3
 rw [if_pos rfl] at H
 replace H := Option.bind_eq_some_iff.mp H
 obtain ⟨t114,A40,H⟩ := H
 try dsimp only at H
 have A4 := am_ A40
 clear A40
 by_cases c5 : t114 = true
 case neg =>
  replace c5 := Bool.eq_false_iff.mpr c5
  subst c5
  rw [if_neg (show ¬ (false = true) by decide)] at H
  obtain rfl := Option.some.inj H
  go_enter Tryz.func68,Tryz.ntmps68
  go_wp2_with (first | ((with_reducible refine gate_dst (N := 1) rfl ?_);refine zbx (N := 1) (cs := #[.int .i64 a0_0,.int .i64 a0_1,.int .i64 a0_2,.int .i64 a0_3,.string a0_4]) (t := 52) ?_;intro gb112 hg w23 hbox hb;have BK112 := am_ (hbox);have GW112 := zw_ HB hg;have GE112 := zw_ HB hg;replace HB := zs_ HB hb;clear hb hbox hg;obtain ⟨hcz24_0,hcz24_1,hcz24_2,hcz24_3,hcz24_4,hfz24_0,hfz24_1,hfz24_2,hfz24_3,hfz24_4⟩ := zc5 BK112) | ((with_reducible refine gate_callee (f := 52) rfl ?_);refine zgl (some 5) Tryz.func52 #[.int .i64 a0_0,.int .i64 0,.int .i64 255] ?_;(with_reducible refine (Zs.calls a0_0 0 255 true _ A2.out).mono ?_);rintro e w' ⟨rfl,⟨nd,rfl⟩⟩;refine ⟨_,rfl,?_⟩) | (go_at_call 52;(with_reducible refine (Zs.calls a0_1 1 65535 false _ A4.out).mono ?_);rintro e w' ⟨rfl,⟨nd,rfl⟩⟩))
  go_ret
  exact ⟨zt_,zl_ HB⟩
 subst c5
 rw [if_pos rfl] at H
 replace H := Option.bind_eq_some_iff.mp H
 obtain ⟨t115,A60,H⟩ := H
 try dsimp only at H
 have A6 := am_ A60
 clear A60
 by_cases c7 : t115 = true
 case neg =>
  replace c7 := Bool.eq_false_iff.mpr c7
  subst c7
  rw [if_neg (show ¬ (false = true) by decide)] at H
  obtain rfl := Option.some.inj H
  go_enter Tryz.func68,Tryz.ntmps68
  go_wp2_with (first | ((with_reducible refine gate_dst (N := 1) rfl ?_);refine zbx (N := 1) (cs := #[.int .i64 a0_0,.int .i64 a0_1,.int .i64 a0_2,.int .i64 a0_3,.string a0_4]) (t := 52) ?_;intro gb112 hg w21 hbox hb;have BK112 := am_ (hbox);have GW112 := zw_ HB hg;have GE112 := zw_ HB hg;replace HB := zs_ HB hb;clear hb hbox hg;obtain ⟨hcz22_0,hcz22_1,hcz22_2,hcz22_3,hcz22_4,hfz22_0,hfz22_1,hfz22_2,hfz22_3,hfz22_4⟩ := zc5 BK112) | ((with_reducible refine gate_callee (f := 52) rfl ?_);refine zgl (some 5) Tryz.func52 #[.int .i64 a0_0,.int .i64 0,.int .i64 255] ?_;(with_reducible refine (Zs.calls a0_0 0 255 true _ A2.out).mono ?_);rintro e w' ⟨rfl,⟨nd,rfl⟩⟩;refine ⟨_,rfl,?_⟩) | (go_at_call 52;(with_reducible refine (Zs.calls a0_1 1 65535 true _ A4.out).mono ?_);rintro e w' ⟨rfl,⟨nd,rfl⟩⟩) | (go_at_call 52;(with_reducible refine (Zs.calls a0_2 1 4 false _ A6.out).mono ?_);rintro e w' ⟨rfl,⟨nd,rfl⟩⟩))
  go_ret
  exact ⟨zt_,zl_ HB⟩
 subst c7
 rw [if_pos rfl] at H
 replace H := Option.bind_eq_some_iff.mp H
 obtain ⟨t116,A80,H⟩ := H
 try dsimp only at H
 have A8 := am_ A80
 clear A80
 by_cases c9 : t116 = true
 case neg =>
  replace c9 := Bool.eq_false_iff.mpr c9
  subst c9
  rw [if_neg (show ¬ (false = true) by decide)] at H
  obtain rfl := Option.some.inj H
  go_enter Tryz.func68,Tryz.ntmps68
  go_wp2_with (first | ((with_reducible refine gate_dst (N := 1) rfl ?_);refine zbx (N := 1) (cs := #[.int .i64 a0_0,.int .i64 a0_1,.int .i64 a0_2,.int .i64 a0_3,.string a0_4]) (t := 52) ?_;intro gb112 hg w19 hbox hb;have BK112 := am_ (hbox);have GW112 := zw_ HB hg;have GE112 := zw_ HB hg;replace HB := zs_ HB hb;clear hb hbox hg;obtain ⟨hcz20_0,hcz20_1,hcz20_2,hcz20_3,hcz20_4,hfz20_0,hfz20_1,hfz20_2,hfz20_3,hfz20_4⟩ := zc5 BK112) | ((with_reducible refine gate_callee (f := 52) rfl ?_);refine zgl (some 5) Tryz.func52 #[.int .i64 a0_0,.int .i64 0,.int .i64 255] ?_;(with_reducible refine (Zs.calls a0_0 0 255 true _ A2.out).mono ?_);rintro e w' ⟨rfl,⟨nd,rfl⟩⟩;refine ⟨_,rfl,?_⟩) | (go_at_call 52;(with_reducible refine (Zs.calls a0_1 1 65535 true _ A4.out).mono ?_);rintro e w' ⟨rfl,⟨nd,rfl⟩⟩) | (go_at_call 52;(with_reducible refine (Zs.calls a0_2 1 4 true _ A6.out).mono ?_);rintro e w' ⟨rfl,⟨nd,rfl⟩⟩) | (go_at_call 52;(with_reducible refine (Zs.calls a0_3 0 1000 false _ A8.out).mono ?_);rintro e w' ⟨rfl,⟨nd,rfl⟩⟩))
  go_ret
  exact ⟨zt_,zl_ HB⟩
 subst c9
 rw [if_pos rfl] at H
 replace H := Option.bind_eq_some_iff.mp H
 obtain ⟨t117,A100,H⟩ := H
 try dsimp only at H
 have A10 := am_ A100
 clear A100
 by_cases c11 : t117 = true
 case neg =>
  replace c11 := Bool.eq_false_iff.mpr c11
  subst c11
  rw [if_neg (show ¬ (false = true) by decide)] at H
  obtain rfl := Option.some.inj H
  go_enter Tryz.func68,Tryz.ntmps68
  go_wp2_with (first | ((with_reducible refine gate_dst (N := 1) rfl ?_);refine zbx (N := 1) (cs := #[.int .i64 a0_0,.int .i64 a0_1,.int .i64 a0_2,.int .i64 a0_3,.string a0_4]) (t := 52) ?_;intro gb112 hg w17 hbox hb;have BK112 := am_ (hbox);have GW112 := zw_ HB hg;have GE112 := zw_ HB hg;replace HB := zs_ HB hb;clear hb hbox hg;obtain ⟨hcz18_0,hcz18_1,hcz18_2,hcz18_3,hcz18_4,hfz18_0,hfz18_1,hfz18_2,hfz18_3,hfz18_4⟩ := zc5 BK112) | ((with_reducible refine gate_callee (f := 52) rfl ?_);refine zgl (some 5) Tryz.func52 #[.int .i64 a0_0,.int .i64 0,.int .i64 255] ?_;(with_reducible refine (Zs.calls a0_0 0 255 true _ A2.out).mono ?_);rintro e w' ⟨rfl,⟨nd,rfl⟩⟩;refine ⟨_,rfl,?_⟩) | (go_at_call 52;(with_reducible refine (Zs.calls a0_1 1 65535 true _ A4.out).mono ?_);rintro e w' ⟨rfl,⟨nd,rfl⟩⟩) | (go_at_call 52;(with_reducible refine (Zs.calls a0_2 1 4 true _ A6.out).mono ?_);rintro e w' ⟨rfl,⟨nd,rfl⟩⟩) | (go_at_call 52;(with_reducible refine (Zs.calls a0_3 0 1000 true _ A8.out).mono ?_);rintro e w' ⟨rfl,⟨nd,rfl⟩⟩) | (go_at_call 75;(with_reducible refine (ZY.calls k a0_4 12 false _ A10.out).mono ?_);rintro e w' ⟨rfl,⟨nd,rfl⟩⟩))
  go_ret
  exact ⟨zt_,zl_ HB⟩
 subst c11
 rw [if_pos rfl] at H
 by_cases c12 : a0_2 = 1
 case neg =>
  rw [if_neg c12] at H
  have c12b0 := beq_eq_false_iff_ne.mpr c12
  have c12b1 := bne_iff_ne.mpr c12
  obtain rfl := Option.some.inj H
  go_enter Tryz.func68,Tryz.ntmps68
  go_wp2_with (first | ((with_reducible refine gate_dst (N := 1) rfl ?_);refine zbx (N := 1) (cs := #[.int .i64 a0_0,.int .i64 a0_1,.int .i64 a0_2,.int .i64 a0_3,.string a0_4]) (t := 52) ?_;intro gb112 hg w15 hbox hb;have BK112 := am_ (hbox);have GW112 := zw_ HB hg;have GE112 := zw_ HB hg;replace HB := zs_ HB hb;clear hb hbox hg;obtain ⟨hcz16_0,hcz16_1,hcz16_2,hcz16_3,hcz16_4,hfz16_0,hfz16_1,hfz16_2,hfz16_3,hfz16_4⟩ := zc5 BK112) | ((with_reducible refine gate_callee (f := 52) rfl ?_);refine zgl (some 5) Tryz.func52 #[.int .i64 a0_0,.int .i64 0,.int .i64 255] ?_;(with_reducible refine (Zs.calls a0_0 0 255 true _ A2.out).mono ?_);rintro e w' ⟨rfl,⟨nd,rfl⟩⟩;refine ⟨_,rfl,?_⟩) | (go_at_call 52;(with_reducible refine (Zs.calls a0_1 1 65535 true _ A4.out).mono ?_);rintro e w' ⟨rfl,⟨nd,rfl⟩⟩) | (go_at_call 52;(with_reducible refine (Zs.calls a0_2 1 4 true _ A6.out).mono ?_);rintro e w' ⟨rfl,⟨nd,rfl⟩⟩) | (go_at_call 52;(with_reducible refine (Zs.calls a0_3 0 1000 true _ A8.out).mono ?_);rintro e w' ⟨rfl,⟨nd,rfl⟩⟩) | (go_at_call 75;(with_reducible refine (ZY.calls k a0_4 12 true _ A10.out).mono ?_);rintro e w' ⟨rfl,⟨nd,rfl⟩⟩))
  go_ret
  exact ⟨zt_,zl_ HB⟩
 rw [if_pos c12] at H
 have c12b0 := beq_iff_eq.mpr c12
 have c12b1 := bne_eq_false_iff_eq.mpr c12
 clear c12
 obtain rfl := Option.some.inj H
 go_enter Tryz.func68,Tryz.ntmps68
 go_wp2_with (first | ((with_reducible refine gate_dst (N := 1) rfl ?_);refine zbx (N := 1) (cs := #[.int .i64 a0_0,.int .i64 a0_1,.int .i64 a0_2,.int .i64 a0_3,.string a0_4]) (t := 52) ?_;intro gb112 hg w13 hbox hb;have BK112 := am_ (hbox);have GW112 := zw_ HB hg;have GE112 := zw_ HB hg;replace HB := zs_ HB hb;clear hb hbox hg;obtain ⟨hcz14_0,hcz14_1,hcz14_2,hcz14_3,hcz14_4,hfz14_0,hfz14_1,hfz14_2,hfz14_3,hfz14_4⟩ := zc5 BK112) | ((with_reducible refine gate_callee (f := 52) rfl ?_);refine zgl (some 5) Tryz.func52 #[.int .i64 a0_0,.int .i64 0,.int .i64 255] ?_;(with_reducible refine (Zs.calls a0_0 0 255 true _ A2.out).mono ?_);rintro e w' ⟨rfl,⟨nd,rfl⟩⟩;refine ⟨_,rfl,?_⟩) | (go_at_call 52;(with_reducible refine (Zs.calls a0_1 1 65535 true _ A4.out).mono ?_);rintro e w' ⟨rfl,⟨nd,rfl⟩⟩) | (go_at_call 52;(with_reducible refine (Zs.calls a0_2 1 4 true _ A6.out).mono ?_);rintro e w' ⟨rfl,⟨nd,rfl⟩⟩) | (go_at_call 52;(with_reducible refine (Zs.calls a0_3 0 1000 true _ A8.out).mono ?_);rintro e w' ⟨rfl,⟨nd,rfl⟩⟩) | (go_at_call 75;(with_reducible refine (ZY.calls k a0_4 12 true _ A10.out).mono ?_);rintro e w' ⟨rfl,⟨nd,rfl⟩⟩))
 go_ret
 exact ⟨zt_,zl_ HB⟩
theorem ZR.calls (a0_0 : Int) (a0_1 : Int) (a0_2 : ByteArray) (r : Bool) (w : World) (h : ZR.f a0_0 a0_1 a0_2 = some r) :
  Calls Tryz.prog 49 #[.agg #[.int .i64 a0_0,.int .i64 a0_1,.string a0_2]] w fun e w' => e = .returned (.bool r) ∧ Below w.heap.size w w' := by
 have hu76 := Tryz.underlying76
 have HB := am_ (Below.refl w.heap.size w)
 have H : ((Zs.f a0_0 0 6).bind fun t124 => (if t124 = true then ((Zs.f a0_1 0 1000000000).bind fun t125 => (if t125 = true then (some ((a0_2.size : Int) == 8)) else (some false))) else (some false))) = some r := h
 clear h
 replace H := Option.bind_eq_some_iff.mp H
 obtain ⟨t124,A20,H⟩ := H
 try dsimp only at H
 have A2 := am_ A20
 clear A20
 by_cases c3 : t124 = true
 case neg =>
  replace c3 := Bool.eq_false_iff.mpr c3
  subst c3
  rw [if_neg (show ¬ (false = true) by decide)] at H
  obtain rfl := Option.some.inj H
  go_enter Tryz.func49,Tryz.ntmps49
  go_wp2_with (first | ((with_reducible refine gate_dst (N := 1) rfl ?_);(try (refine gate_guard (by rfl) ?_;dsimp only));refine zbx (N := 1) (cs := #[.int .i64 a0_0,.int .i64 a0_1,.string a0_2]) (t := 76) ?_;intro gb123 hg w10 hbox hb;have BK123 := am_ (hbox);have GW123 := zw_ HB hg;have GE123 := zw_ HB hg;replace HB := zs_ HB hb;clear hb hbox hg;obtain ⟨hcz11_0,hcz11_1,hcz11_2,hfz11_0,hfz11_1,hfz11_2⟩ := zc3 BK123) | ((with_reducible refine gate_callee (f := 52) rfl ?_);refine zgl (some 5) Tryz.func52 #[.int .i64 a0_0,.int .i64 0,.int .i64 6] ?_;(with_reducible refine (Zs.calls a0_0 0 6 false _ A2.out).mono ?_);rintro e w' ⟨rfl,⟨nd,rfl⟩⟩;refine ⟨_,rfl,?_⟩))
  go_ret
  exact ⟨zt_,zl_ HB⟩
 subst c3
 rw [if_pos rfl] at H
 replace H := Option.bind_eq_some_iff.mp H
 obtain ⟨t125,A40,H⟩ := H
 try dsimp only at H
 have A4 := am_ A40
 clear A40
 by_cases c5 : t125 = true
 ·subst c5
  rw [if_pos rfl] at H
  obtain rfl := Option.some.inj H
  go_enter Tryz.func49,Tryz.ntmps49
  go_wp2_with (first | ((with_reducible refine gate_dst (N := 1) rfl ?_);(try (refine gate_guard (by rfl) ?_;dsimp only));refine zbx (N := 1) (cs := #[.int .i64 a0_0,.int .i64 a0_1,.string a0_2]) (t := 76) ?_;intro gb123 hg w6 hbox hb;have BK123 := am_ (hbox);have GW123 := zw_ HB hg;have GE123 := zw_ HB hg;replace HB := zs_ HB hb;clear hb hbox hg;obtain ⟨hcz7_0,hcz7_1,hcz7_2,hfz7_0,hfz7_1,hfz7_2⟩ := zc3 BK123) | ((with_reducible refine gate_callee (f := 52) rfl ?_);refine zgl (some 5) Tryz.func52 #[.int .i64 a0_0,.int .i64 0,.int .i64 6] ?_;(with_reducible refine (Zs.calls a0_0 0 6 true _ A2.out).mono ?_);rintro e w' ⟨rfl,⟨nd,rfl⟩⟩;refine ⟨_,rfl,?_⟩) | (go_at_call 52;(with_reducible refine (Zs.calls a0_1 0 1000000000 true _ A4.out).mono ?_);rintro e w' ⟨rfl,⟨nd,rfl⟩⟩))
  go_ret
  exact ⟨zt_,zl_ HB⟩
 replace c5 := Bool.eq_false_iff.mpr c5
 subst c5
 rw [if_neg (show ¬ (false = true) by decide)] at H
 obtain rfl := Option.some.inj H
 go_enter Tryz.func49,Tryz.ntmps49
 go_wp2_with (first | ((with_reducible refine gate_dst (N := 1) rfl ?_);(try (refine gate_guard (by rfl) ?_;dsimp only));refine zbx (N := 1) (cs := #[.int .i64 a0_0,.int .i64 a0_1,.string a0_2]) (t := 76) ?_;intro gb123 hg w8 hbox hb;have BK123 := am_ (hbox);have GW123 := zw_ HB hg;have GE123 := zw_ HB hg;replace HB := zs_ HB hb;clear hb hbox hg;obtain ⟨hcz9_0,hcz9_1,hcz9_2,hfz9_0,hfz9_1,hfz9_2⟩ := zc3 BK123) | ((with_reducible refine gate_callee (f := 52) rfl ?_);refine zgl (some 5) Tryz.func52 #[.int .i64 a0_0,.int .i64 0,.int .i64 6] ?_;(with_reducible refine (Zs.calls a0_0 0 6 true _ A2.out).mono ?_);rintro e w' ⟨rfl,⟨nd,rfl⟩⟩;refine ⟨_,rfl,?_⟩) | (go_at_call 52;(with_reducible refine (Zs.calls a0_1 0 1000000000 false _ A4.out).mono ?_);rintro e w' ⟨rfl,⟨nd,rfl⟩⟩))
 go_ret
 exact ⟨zt_,zl_ HB⟩
end Go.Proofs.YtbhegbhdenngbaaGreatDoor.A
end

section
namespace Go.Proofs.YtbhegbhdenngbaaGreatDoor.A
open Go.RowKit Go.Proofs.YtbhegbhdenngbaaGreatDoorW.PrintWords Go.Proofs.YtbhegbhdenngbaaGreatDoorW.PrintLast Go.Proofs.YtbhegbhdenngbaaGreatDoorW.PrintMore
attribute [local go_sem] max2_int min2_int max_two min_two max_three min_three max_four min_four
attribute [local go_sem high] eqA52
def Ze.T8 : Bool × List (List Nat × List Nat) := (true,[([],[]),([0],[0]),([],[]),([1,2],[1,2]),([3],[3]),([4],[4]),([5],[5]),([6,5],[6]),([7],[7]),([8,7],[7,8]),([9,7,7],[7,9]),([10],[10]),([11,10],[10,11]),([10],[10]),([13,10],[10,13]),([12,14,10],[10,12,14]),([15,10],[10,15]),([16,10],[10,16]),([10],[10]),([18,10],[10,18]),([10],[10]),([19,20,10],[10,19,20]),([21,10],[10,21]),([22,10],[10,22]),([17,23,10],[10,17,23]),([10,24,7],[7,10,24]),([7,25],[7,25])])
def Ze.B8 : List Nat := [0,1,0,7,15,31,63,127,255,511,1023,2047,4095,2047,10239,32767,65535,131071,2047,264191,2047,1837055,3934207,8128511,16777215,33554431,67108863]
theorem Ze.tab8 : rtab .any (opsOf Tryz.f48 8) = Ze.T8 := by kernel_rfl
theorem Ze.bits8 : waitsOk Ze.T8.2 Ze.B8 = true := by kernel_rfl
theorem Ze.calls (k : Nat) (a0_0 : Bool) (a0_1 : Int) (a0_2 : Int) (a0_3 : Int) (a0_4 : Int) (a0_5 : ByteArray) (A0_6 : Option Addr) (c0_6 : Nat) (l0_6 : List (S76)) (r : Bool) (w : World) (hr0_6 : Kd.C k76 w A0_6 l0_6.length l0_6) (hc0_6 : l0_6.length ≤ c0_6) (h : Ze.f k a0_0 a0_1 a0_2 a0_3 a0_4 a0_5 l0_6 = some r) :
  Calls Tryz.prog 48 #[.agg #[.bool a0_0,.int .i64 a0_1,.int .i64 a0_2,.int .i64 a0_3,.int .i64 a0_4,.string a0_5,.slice A0_6 l0_6.length c0_6]] w fun e w' => e = .returned (.bool r) ∧ Below w.heap.size w w' := by
 have hu55 := Tryz.underlying55
 have hu52 := Tryz.underlying52
 have hu76 := Tryz.underlying76
 have HR0_6 := am_ hr0_6
 have HC0_6 := am_ hc0_6
 clear hr0_6 hc0_6
 have HB := am_ (Below.refl w.heap.size w)
 have H : (if a0_0 = true then (if (a0_1 == 0 && (a0_2 == 0 && (a0_3 == 0 && (a0_4 == 0 && (a0_5.toList == ([] : List UInt8)))))) = true then (some ((l0_6.length : Int) == 0)) else (some false)) else ((ZH.f k a0_1 a0_2 a0_3 a0_4 a0_5).bind fun t127 => (if t127 = true then (Ze.j0 k (decide ((l0_6.length : Int) > 7)) a0_0 a0_1 a0_2 a0_3 a0_4 a0_5 l0_6) else (Ze.j0 k true a0_0 a0_1 a0_2 a0_3 a0_4 a0_5 l0_6)))) = some r := h
 clear h
 by_cases c2 : a0_0 = true
 ·subst c2
  rw [if_pos rfl] at H
  by_cases c3 : (a0_1 == 0 && (a0_2 == 0 && (a0_3 == 0 && (a0_4 == 0 && (a0_5.toList == ([] : List UInt8)))))) = true
  ·rw [if_pos c3] at H
   have c3k := am_ c3
   have c3b0 : (a0_1 == 0 && (a0_2 == 0 && (a0_3 == 0 && (a0_4 == 0 && (a0_5.toList == ([] : List UInt8)))))) = true := c3k.out
   (try (have c3b1 : decide (a0_1 = 0 && (a0_2 == 0 && (a0_3 == 0 && (a0_4 == 0 && (a0_5.toList == ([] : List UInt8)))))) = true := by simpa using c3k.out))
   (try (have c3b2 : (a0_1 == 0 && (a0_2 == 0 && (a0_3 == 0 && (a0_4 == 0 && (a0_5.toList == ([] : List UInt8)))))) = true := by simpa using c3k.out))
   (try have c3e0 := c3b0;simp only [e3_,e4_] at c3e0)
   (try have c3e1 := c3b1;simp only [e3_,e4_] at c3e1)
   (try have c3e2 := c3b2;simp only [e3_,e4_] at c3e2)
   (try simp only [*,Bool.not_true,Bool.not_false,Bool.false_or,Bool.true_or,Bool.or_false,Bool.or_true,Bool.true_and,Bool.and_true,Bool.false_and,Bool.and_false] at c3)
   have c3bs := c3
   clear c3k
   clear c3
   obtain rfl := Option.some.inj H
   go_enter Tryz.func48,Tryz.ntmps48
   go_wp2_with (first | ((with_reducible refine gate_dst (N := 1) rfl ?_);(try (refine gate_guard (by rfl) ?_;dsimp only));refine zbx (N := 1) (cs := #[.bool true,.int .i64 a0_1,.int .i64 a0_2,.int .i64 a0_3,.int .i64 a0_4,.string a0_5,.slice A0_6 l0_6.length c0_6]) (t := 55) ?_;intro gb126 hg w4 hbox hb;have BK126 := am_ (hbox);have GW126 := zw_ HB hg;have GE126 := zw_ HB hg;replace HB := zs_ HB hb;clear hb hbox hg;obtain ⟨hcz5_0,hcz5_1,hcz5_2,hcz5_3,hcz5_4,hcz5_5,hcz5_6,hfz5_0,hfz5_1,hfz5_2,hfz5_3,hfz5_4,hfz5_5,hfz5_6⟩ := zc7 BK126))
   go_ret
   exact ⟨zt_,zl_ HB⟩
  rw [if_neg c3] at H
  have c3k := am_ c3
  have c3b0 : (a0_1 == 0 && (a0_2 == 0 && (a0_3 == 0 && (a0_4 == 0 && (a0_5.toList == ([] : List UInt8)))))) = false := by simpa using c3k.out
  (try (have c3b1 : decide (a0_1 = 0 && (a0_2 == 0 && (a0_3 == 0 && (a0_4 == 0 && (a0_5.toList == ([] : List UInt8)))))) = false := by simpa using c3k.out))
  (try (have c3b2 : (a0_1 == 0 && (a0_2 == 0 && (a0_3 == 0 && (a0_4 == 0 && (a0_5.toList == ([] : List UInt8)))))) = false := by simpa using c3k.out))
  (try (have c3b3 : ¬ (a0_1 = 0 && (a0_2 == 0 && (a0_3 == 0 && (a0_4 == 0 && (a0_5.toList == ([] : List UInt8)))))) := by simpa using c3k.out))
  (try have c3e0 := c3b0;simp only [e3_,e4_] at c3e0)
  (try have c3e1 := c3b1;simp only [e3_,e4_] at c3e1)
  (try have c3e2 := c3b2;simp only [e3_,e4_] at c3e2)
  (try have c3e3 := c3b3;simp only [e3_,e4_] at c3e3)
  (try simp only [*,Bool.not_true,Bool.not_false,Bool.false_or,Bool.true_or,Bool.or_false,Bool.or_true,Bool.true_and,Bool.and_true,Bool.false_and,Bool.and_false] at c3)
  have c3bs := c3
  clear c3k
  clear c3
  obtain rfl := Option.some.inj H
  go_enter Tryz.func48,Tryz.ntmps48
  go_wp2_with (first | ((with_reducible refine gate_dst (N := 1) rfl ?_);(try (refine gate_guard (by rfl) ?_;dsimp only));refine zbx (N := 1) (cs := #[.bool true,.int .i64 a0_1,.int .i64 a0_2,.int .i64 a0_3,.int .i64 a0_4,.string a0_5,.slice A0_6 l0_6.length c0_6]) (t := 55) ?_;intro gb126 hg w6 hbox hb;have BK126 := am_ (hbox);have GW126 := zw_ HB hg;have GE126 := zw_ HB hg;replace HB := zs_ HB hb;clear hb hbox hg;obtain ⟨hcz7_0,hcz7_1,hcz7_2,hcz7_3,hcz7_4,hcz7_5,hcz7_6,hfz7_0,hfz7_1,hfz7_2,hfz7_3,hfz7_4,hfz7_5,hfz7_6⟩ := zc7 BK126))
  go_ret
  exact ⟨zt_,zl_ HB⟩
 replace c2 := Bool.eq_false_iff.mpr c2
 subst c2
 rw [if_neg (show ¬ (false = true) by decide)] at H
 have HC8 := am_ H
 clear H
 go_enter Tryz.func48,Tryz.ntmps48
 go_upto_region 3 with (first | ((with_reducible refine gate_dst (N := 1) rfl ?_);(try (refine gate_guard (by rfl) ?_;dsimp only));refine zbx (N := 1) (cs := #[.bool false,.int .i64 a0_1,.int .i64 a0_2,.int .i64 a0_3,.int .i64 a0_4,.string a0_5,.slice A0_6 l0_6.length c0_6]) (t := 55) ?_;intro gb126 hg w9 hbox hb;have BK126 := am_ (hbox);have GW126 := zw_ HB hg;have GE126 := zw_ HB hg;replace HB := zs_ HB hb;clear hb hbox hg;obtain ⟨hcz10_0,hcz10_1,hcz10_2,hcz10_3,hcz10_4,hcz10_5,hcz10_6,hfz10_0,hfz10_1,hfz10_2,hfz10_3,hfz10_4,hfz10_5,hfz10_6⟩ := zc7 BK126))
 (try simp only [Act.put,p1_,p2_,p3_])
 go_cut [25] (fun v25 wc => ∃ (kq : Nat) (x25_7 : Bool),v25 = .bool x25_7 ∧ Aside0 (Ze.j0 kq x25_7 false a0_1 a0_2 a0_3 a0_4 a0_5 l0_6 = some r) ∧ Aside0 (kq ≤ k) ∧ Aside0 (wc.heap[gb126]? = some (.cells #[.bool false,.int .i64 a0_1,.int .i64 a0_2,.int .i64 a0_3,.int .i64 a0_4,.string a0_5,(.slice A0_6 l0_6.length c0_6)] 55 (0,0))) ∧ Aside0 (Below w.heap.size w wc))
 case first =>
  have H := HC8.out
  clear HC8
  replace H := Option.bind_eq_some_iff.mp H
  obtain ⟨t127,A110,H⟩ := H
  try dsimp only at H
  have A11 := am_ A110
  clear A110
  by_cases c12 : t127 = true
  case neg =>
   replace c12 := Bool.eq_false_iff.mpr c12
   subst c12
   rw [if_neg (show ¬ (false = true) by decide)] at H
   have H' := am_ H
   clear H
   obtain ⟨hcz16_0,hcz16_1,hcz16_2,hcz16_3,hcz16_4,hcz16_5,hcz16_6,hfz16_0,hfz16_1,hfz16_2,hfz16_3,hfz16_4,hfz16_5,hfz16_6⟩ := zc7 BK126
   go_wp2_with (first | ((with_reducible refine gate_callee (f := 68) rfl ?_);refine zgl (some 18) Tryz.func68 #[.agg #[.int .i64 a0_1,.int .i64 a0_2,.int .i64 a0_3,.int .i64 a0_4,.string a0_5]] ?_;(with_reducible refine (ZH.calls k a0_1 a0_2 a0_3 a0_4 a0_5 false _ A11.out).mono ?_);rintro e w17 ⟨rfl,hb⟩;refine ⟨_,rfl,?_⟩;replace BK126 := zb BK126 hb;replace HB := zs_ HB hb;(try clear hb)))
   go_meet
   case rel => exact ⟨_,(true),(by first | rfl | (simp;done) | (simp [*];done)),H',⟨by first | omega | exact Nat.le_refl _⟩,⟨by (with_reducible repeat (first | apply k1_ | apply k2_ | apply k3_));exact BK126.out⟩,⟨zl_ HB⟩⟩
  subst c12
  rw [if_pos rfl] at H
  have H' := am_ H
  clear H
  obtain ⟨hcz13_0,hcz13_1,hcz13_2,hcz13_3,hcz13_4,hcz13_5,hcz13_6,hfz13_0,hfz13_1,hfz13_2,hfz13_3,hfz13_4,hfz13_5,hfz13_6⟩ := zc7 BK126
  go_wp2_with (first | ((with_reducible refine gate_callee (f := 68) rfl ?_);refine zgl (some 18) Tryz.func68 #[.agg #[.int .i64 a0_1,.int .i64 a0_2,.int .i64 a0_3,.int .i64 a0_4,.string a0_5]] ?_;(with_reducible refine (ZH.calls k a0_1 a0_2 a0_3 a0_4 a0_5 true _ A11.out).mono ?_);rintro e w14 ⟨rfl,hb⟩;refine ⟨_,rfl,?_⟩;replace BK126 := zb BK126 hb;replace HB := zs_ HB hb;(try clear hb);obtain ⟨hcz15_0,hcz15_1,hcz15_2,hcz15_3,hcz15_4,hcz15_5,hcz15_6,hfz15_0,hfz15_1,hfz15_2,hfz15_3,hfz15_4,hfz15_5,hfz15_6⟩ := zc7 BK126))
  go_meet
  case rel => exact ⟨_,(decide ((l0_6.length : Int) > 7)),(by first | rfl | (simp;done) | (simp [*];done)),H',⟨by first | omega | exact Nat.le_refl _⟩,⟨by (with_reducible repeat (first | apply k1_ | apply k2_ | apply k3_));exact BK126.out⟩,⟨zl_ HB⟩⟩
 case rest =>
  clear HC8
  try clear c1
  try clear c2
  try clear p2
  try clear c3
  try clear c3b0
  try clear c3b1
  try clear c3b2
  try clear c4
  try clear c6
  try clear c12
  try clear hcz10_0
  try clear hcz10_1
  try clear hcz10_2
  try clear hcz10_3
  try clear hcz10_4
  try clear hcz10_5
  try clear hcz10_6
  try clear hcz13_0
  try clear hcz13_1
  try clear hcz13_2
  try clear hcz13_3
  try clear hcz13_4
  try clear hcz13_5
  try clear hcz13_6
  try clear hcz15_0
  try clear hcz15_1
  try clear hcz15_2
  try clear hcz15_3
  try clear hcz15_4
  try clear hcz15_5
  try clear hcz15_6
  try clear hcz16_0
  try clear hcz16_1
  try clear hcz16_2
  try clear hcz16_3
  try clear hcz16_4
  try clear hcz16_5
  try clear hcz16_6
  try clear hcz5_0
  try clear hcz5_1
  try clear hcz5_2
  try clear hcz5_3
  try clear hcz5_4
  try clear hcz5_5
  try clear hcz5_6
  try clear hcz7_0
  try clear hcz7_1
  try clear hcz7_2
  try clear hcz7_3
  try clear hcz7_4
  try clear hcz7_5
  try clear hcz7_6
  try clear hfz10_0
  try clear hfz10_1
  try clear hfz10_2
  try clear hfz10_3
  try clear hfz10_4
  try clear hfz10_5
  try clear hfz10_6
  try clear hfz13_0
  try clear hfz13_1
  try clear hfz13_2
  try clear hfz13_3
  try clear hfz13_4
  try clear hfz13_5
  try clear hfz13_6
  try clear hfz15_0
  try clear hfz15_1
  try clear hfz15_2
  try clear hfz15_3
  try clear hfz15_4
  try clear hfz15_5
  try clear hfz15_6
  try clear hfz16_0
  try clear hfz16_1
  try clear hfz16_2
  try clear hfz16_3
  try clear hfz16_4
  try clear hfz16_5
  try clear hfz16_6
  try clear hfz5_0
  try clear hfz5_1
  try clear hfz5_2
  try clear hfz5_3
  try clear hfz5_4
  try clear hfz5_5
  try clear hfz5_6
  try clear hfz7_0
  try clear hfz7_1
  try clear hfz7_2
  try clear hfz7_3
  try clear hfz7_4
  try clear hfz7_5
  try clear hfz7_6
  obtain ⟨kq,x25_7,rfl,HA,HJ7,BK126,HB⟩ := hcut
  cases kq with
  | zero => exact absurd HA.out (by simp [Ze.j0])
  | succ kj7 =>
   have H := HA.out
   clear HA
   simp only [Ze.j0] at H
   by_cases c18 : x25_7 = true
   ·subst c18
    rw [if_pos rfl] at H
    obtain rfl := Option.some.inj H
    go_wp2
    go_ret
    exact ⟨zt_,zl_ HB⟩
   replace c18 := Bool.eq_false_iff.mpr c18
   subst c18
   rw [if_neg (show ¬ (false = true) by decide)] at H
   have H' := am_ H
   clear H
   go_wp2
   go_loopg [3] kj7 (fun kq v3 w' => ∃ (x3_2 : Int),v3 = .int .i64 x3_2 ∧ Aside0 (Ze.l0 kq x3_2 false a0_1 a0_2 a0_3 a0_4 a0_5 l0_6 = some r) ∧ Aside0 (kq ≤ kj7) ∧ Aside0 (w'.heap[gb126]? = some (.cells #[.bool false,.int .i64 a0_1,.int .i64 a0_2,.int .i64 a0_3,.int .i64 a0_4,.string a0_5,(.slice A0_6 l0_6.length c0_6)] 55 (0,0))) ∧ Aside0 (Below w.heap.size w w'))
   case atStart => exact ⟨(0),(by first | rfl | (simp;done) | (simp [*];done)),H',⟨Nat.le_refl _⟩,⟨by (with_reducible repeat (first | apply k1_ | apply k2_ | apply k3_));exact BK126.out⟩,⟨zl_ HB⟩⟩
   case round =>
    clear H'
    try clear c1
    try clear c2
    try clear p2
    try clear c3
    try clear c3b0
    try clear c3b1
    try clear c3b2
    try clear c4
    try clear c6
    try clear c12
    try clear c18
    try clear hcz10_0
    try clear hcz10_1
    try clear hcz10_2
    try clear hcz10_3
    try clear hcz10_4
    try clear hcz10_5
    try clear hcz10_6
    try clear hcz13_0
    try clear hcz13_1
    try clear hcz13_2
    try clear hcz13_3
    try clear hcz13_4
    try clear hcz13_5
    try clear hcz13_6
    try clear hcz15_0
    try clear hcz15_1
    try clear hcz15_2
    try clear hcz15_3
    try clear hcz15_4
    try clear hcz15_5
    try clear hcz15_6
    try clear hcz16_0
    try clear hcz16_1
    try clear hcz16_2
    try clear hcz16_3
    try clear hcz16_4
    try clear hcz16_5
    try clear hcz16_6
    try clear hcz5_0
    try clear hcz5_1
    try clear hcz5_2
    try clear hcz5_3
    try clear hcz5_4
    try clear hcz5_5
    try clear hcz5_6
    try clear hcz7_0
    try clear hcz7_1
    try clear hcz7_2
    try clear hcz7_3
    try clear hcz7_4
    try clear hcz7_5
    try clear hcz7_6
    try clear hfz10_0
    try clear hfz10_1
    try clear hfz10_2
    try clear hfz10_3
    try clear hfz10_4
    try clear hfz10_5
    try clear hfz10_6
    try clear hfz13_0
    try clear hfz13_1
    try clear hfz13_2
    try clear hfz13_3
    try clear hfz13_4
    try clear hfz13_5
    try clear hfz13_6
    try clear hfz15_0
    try clear hfz15_1
    try clear hfz15_2
    try clear hfz15_3
    try clear hfz15_4
    try clear hfz15_5
    try clear hfz15_6
    try clear hfz16_0
    try clear hfz16_1
    try clear hfz16_2
    try clear hfz16_3
    try clear hfz16_4
    try clear hfz16_5
    try clear hfz16_6
    try clear hfz5_0
    try clear hfz5_1
    try clear hfz5_2
    try clear hfz5_3
    try clear hfz5_4
    try clear hfz5_5
    try clear hfz5_6
    try clear hfz7_0
    try clear hfz7_1
    try clear hfz7_2
    try clear hfz7_3
    try clear hfz7_4
    try clear hfz7_5
    try clear hfz7_6
    try clear p2
    obtain ⟨x3_2,rfl,HA,HK2,BK126,HB⟩ := hrel
    cases gk with
    | zero => exact absurd HA.out (by simp [Ze.l0])
    | succ k2 =>
     have H := HA.out
     clear HA
     simp only [Ze.l0] at H
     by_cases c19 : x3_2 < (l0_6.length : Int)
     case neg =>
      rw [if_neg c19] at H
      have c19b0 := decide_eq_false c19
      clear c19
      obtain rfl := Option.some.inj H
      obtain ⟨hcz40_0,hcz40_1,hcz40_2,hcz40_3,hcz40_4,hcz40_5,hcz40_6,hfz40_0,hfz40_1,hfz40_2,hfz40_3,hfz40_4,hfz40_5,hfz40_6⟩ := zc7 BK126
      go_wp2
      go_ret
      exact ⟨zt_,zl_ HB⟩
     rw [if_pos c19] at H
     have c19b0 := decide_eq_true c19
     clear c19
     by_cases c20 : 0 ≤ x3_2
     case neg =>
      rw [if_neg c20] at H
      exact absurd H (by simp)
     rw [if_pos c20] at H
     have c20b0 := decide_eq_true c20
     clear c20
     replace H := Option.bind_eq_some_iff.mp H
     obtain ⟨t129,A210,H⟩ := H
     try dsimp only at H
     have A21 := am_ A210
     clear A210
     by_cases c22 : t129 = true
     case neg =>
      replace c22 := Bool.eq_false_iff.mpr c22
      subst c22
      rw [if_neg (show ¬ (false = true) by decide)] at H
      obtain rfl := Option.some.inj H
      obtain ⟨hcz37_0,hcz37_1,hcz37_2,hcz37_3,hcz37_4,hcz37_5,hcz37_6,hfz37_0,hfz37_1,hfz37_2,hfz37_3,hfz37_4,hfz37_5,hfz37_6⟩ := zc7 BK126
      try go_wp2
      replace BK126 := am_ (blk_drew BK126.out)
      replace HB := am_ (below_drew1 HB.out)
      have p128 : 0 ≤ (x3_2 : Int) := zo_
      have q128 : x3_2 < (l0_6.length : Int) := zo_
      obtain ⟨ad128,e128,hx128_0,hx128_1,hx128_2⟩ := at_T76 HR0_6.out x3_2 p128 q128
      have hw128_2 := hx128_2
      have hw128_1 := hx128_1
      have hw128_0 := hx128_0
      cases e128
      replace hx128_0 := zx_ HB hx128_0
      replace hx128_1 := zx_ HB hx128_1
      replace hx128_2 := zx_ HB hx128_2
      replace p128 := eq_true p128
      replace q128 := eq_true q128
      refine start_ (n := 27) (S := fun w' => w'.cell? ⟨gb126,0,none⟩ = some (.bool false) ∧ w'.cell? ⟨gb126,1,none⟩ = some (.int .i64 a0_1) ∧ w'.cell? ⟨gb126,2,none⟩ = some (.int .i64 a0_2) ∧ w'.cell? ⟨gb126,3,none⟩ = some (.int .i64 a0_3) ∧ w'.cell? ⟨gb126,4,none⟩ = some (.int .i64 a0_4) ∧ w'.cell? ⟨gb126,5,none⟩ = some (.string a0_5) ∧ w'.cell? ⟨gb126,6,none⟩ = some (.slice (some ad128) l0_6.length c0_6) ∧ w'.cell? (ad128.add ((x3_2).toNat * 3)) = some (.int .i64 ((rd_T76 l0_6 x3_2).f0)) ∧ w'.cell? ⟨(ad128.add ((x3_2).toNat * 3)).block,(ad128.add ((x3_2).toNat * 3)).off + 1,none⟩ = some (.int .i64 ((rd_T76 l0_6 x3_2).f1)) ∧ w'.cell? ⟨(ad128.add ((x3_2).toNat * 3)).block,(ad128.add ((x3_2).toNat * 3)).off + 2,none⟩ = some (.string ((rd_T76 l0_6 x3_2).f2))) (ds := []) #[false,false,false,false,false,false,false,false,false,false,false,false,false,false,false,false,false,false,false,false,false,false,false,false,false,false,false] (by kernel_rfl) rfl rfl ⟨(blk_cell BK126.out 0).trans rfl,(blk_cell BK126.out 1).trans rfl,(blk_cell BK126.out 2).trans rfl,(blk_cell BK126.out 3).trans rfl,(blk_cell BK126.out 4).trans rfl,(blk_cell BK126.out 5).trans rfl,(blk_cell BK126.out 6).trans rfl,(zx_ HB hw128_0),(zx_ HB hw128_1),(zx_ HB hw128_2)⟩ (fun hHeld => ?_);refine with_tabW Ze.tab8 Ze.bits8 (fun HT_ HW_ => ?_)
      generalize wr.drew = w38 at BK126 HB hx128_0 hx128_1 hx128_2 hHeld ⊢
      refine pu_ 0 33 HT_ ?_
      refine pu_ 2 35 HT_ ?_
      refine tk_ 1 34 HT_ HW_ hHeld ?_
      refine pu_ 3 36 HT_ ?_
      refine tk_ 4 37 HT_ HW_ hHeld ?_
      refine zon 5 (N := some 38) HT_ (fun K hK => ?_)
      refine zgo Tryz.func49 #[.agg #[.int .i64 ((rd_T76 l0_6 x3_2).f0),.int .i64 ((rd_T76 l0_6 x3_2).f1),.string ((rd_T76 l0_6 x3_2).f2)]] ?_
      with_reducible refine (ZR.calls ((rd_T76 l0_6 x3_2).f0) ((rd_T76 l0_6 x3_2).f1) ((rd_T76 l0_6 x3_2).f2) false _ A21.out).mono ?_
      rintro e w39 ⟨rfl,hb⟩
      refine ⟨_,rfl,?_⟩
      replace BK126 := zb BK126 hb
      replace HB := zs_ HB hb
      try clear hb
      refine hK.out _ _ ⟨(blk_cell BK126.out 0).trans rfl,(blk_cell BK126.out 1).trans rfl,(blk_cell BK126.out 2).trans rfl,(blk_cell BK126.out 3).trans rfl,(blk_cell BK126.out 4).trans rfl,(blk_cell BK126.out 5).trans rfl,(blk_cell BK126.out 6).trans rfl,(zx_ HB hw128_0),(zx_ HB hw128_1),(zx_ HB hw128_2)⟩ (fun hHeld => ?_)
      clear hK K
      refine nm_ ?_
      refine pu_ 6 39 HT_ ?_
      refine pu_ 7 40 HT_ ?_
      refine px_ 8 41 HT_ ?_
      refine px_ 9 42 HT_ ?_
      refine px_ 10 43 HT_ ?_
      refine px_ 11 44 HT_ ?_
      refine px_ 12 45 HT_ ?_
      refine px_ 13 46 HT_ ?_
      refine px_ 14 47 HT_ ?_
      refine px_ 15 48 HT_ ?_
      refine px_ 16 49 HT_ ?_
      refine px_ 17 50 HT_ ?_
      refine px_ 18 51 HT_ ?_
      refine px_ 19 52 HT_ ?_
      refine px_ 20 53 HT_ ?_
      refine px_ 21 54 HT_ ?_
      refine px_ 22 55 HT_ ?_
      refine px_ 23 56 HT_ ?_
      refine px_ 24 57 HT_ ?_
      refine px_ 25 58 HT_ ?_
      refine pu_ 26 59 HT_ ?_
      refine done_ (done_of HT_.out (by kernel_rfl)) ?_
      try go_wp2
      go_ret
      exact ⟨zt_,zl_ HB⟩
     subst c22
     rw [if_pos rfl] at H
     by_cases c23 : x3_2 > 0
     case neg =>
      rw [if_neg c23] at H
      have c23b0 : decide (0 < x3_2) = false := decide_eq_false c23
      clear c23
      have H' := am_ H
      clear H
      obtain ⟨hcz34_0,hcz34_1,hcz34_2,hcz34_3,hcz34_4,hcz34_5,hcz34_6,hfz34_0,hfz34_1,hfz34_2,hfz34_3,hfz34_4,hfz34_5,hfz34_6⟩ := zc7 BK126
      try go_wp2
      replace BK126 := am_ (blk_drew BK126.out)
      replace HB := am_ (below_drew1 HB.out)
      have p128 : 0 ≤ (x3_2 : Int) := zo_
      have q128 : x3_2 < (l0_6.length : Int) := zo_
      obtain ⟨ad128,e128,hx128_0,hx128_1,hx128_2⟩ := at_T76 HR0_6.out x3_2 p128 q128
      have hw128_2 := hx128_2
      have hw128_1 := hx128_1
      have hw128_0 := hx128_0
      cases e128
      replace hx128_0 := zx_ HB hx128_0
      replace hx128_1 := zx_ HB hx128_1
      replace hx128_2 := zx_ HB hx128_2
      replace p128 := eq_true p128
      replace q128 := eq_true q128
      refine start_ (n := 27) (S := fun w' => w'.cell? ⟨gb126,0,none⟩ = some (.bool false) ∧ w'.cell? ⟨gb126,1,none⟩ = some (.int .i64 a0_1) ∧ w'.cell? ⟨gb126,2,none⟩ = some (.int .i64 a0_2) ∧ w'.cell? ⟨gb126,3,none⟩ = some (.int .i64 a0_3) ∧ w'.cell? ⟨gb126,4,none⟩ = some (.int .i64 a0_4) ∧ w'.cell? ⟨gb126,5,none⟩ = some (.string a0_5) ∧ w'.cell? ⟨gb126,6,none⟩ = some (.slice (some ad128) l0_6.length c0_6) ∧ w'.cell? (ad128.add ((x3_2).toNat * 3)) = some (.int .i64 ((rd_T76 l0_6 x3_2).f0)) ∧ w'.cell? ⟨(ad128.add ((x3_2).toNat * 3)).block,(ad128.add ((x3_2).toNat * 3)).off + 1,none⟩ = some (.int .i64 ((rd_T76 l0_6 x3_2).f1)) ∧ w'.cell? ⟨(ad128.add ((x3_2).toNat * 3)).block,(ad128.add ((x3_2).toNat * 3)).off + 2,none⟩ = some (.string ((rd_T76 l0_6 x3_2).f2))) (ds := []) #[false,false,false,false,false,false,false,false,false,false,false,false,false,false,false,false,false,false,false,false,false,false,false,false,false,false,false] (by kernel_rfl) rfl rfl ⟨(blk_cell BK126.out 0).trans rfl,(blk_cell BK126.out 1).trans rfl,(blk_cell BK126.out 2).trans rfl,(blk_cell BK126.out 3).trans rfl,(blk_cell BK126.out 4).trans rfl,(blk_cell BK126.out 5).trans rfl,(blk_cell BK126.out 6).trans rfl,(zx_ HB hw128_0),(zx_ HB hw128_1),(zx_ HB hw128_2)⟩ (fun hHeld => ?_);refine with_tabW Ze.tab8 Ze.bits8 (fun HT_ HW_ => ?_)
      generalize wr.drew = w35 at BK126 HB hx128_0 hx128_1 hx128_2 hHeld ⊢
      refine pu_ 0 33 HT_ ?_
      refine pu_ 2 35 HT_ ?_
      refine tk_ 1 34 HT_ HW_ hHeld ?_
      refine pu_ 3 36 HT_ ?_
      refine tk_ 4 37 HT_ HW_ hHeld ?_
      refine zon 5 (N := some 38) HT_ (fun K hK => ?_)
      refine zgo Tryz.func49 #[.agg #[.int .i64 ((rd_T76 l0_6 x3_2).f0),.int .i64 ((rd_T76 l0_6 x3_2).f1),.string ((rd_T76 l0_6 x3_2).f2)]] ?_
      with_reducible refine (ZR.calls ((rd_T76 l0_6 x3_2).f0) ((rd_T76 l0_6 x3_2).f1) ((rd_T76 l0_6 x3_2).f2) true _ A21.out).mono ?_
      rintro e w36 ⟨rfl,hb⟩
      refine ⟨_,rfl,?_⟩
      replace BK126 := zb BK126 hb
      replace HB := zs_ HB hb
      try clear hb
      refine hK.out _ _ ⟨(blk_cell BK126.out 0).trans rfl,(blk_cell BK126.out 1).trans rfl,(blk_cell BK126.out 2).trans rfl,(blk_cell BK126.out 3).trans rfl,(blk_cell BK126.out 4).trans rfl,(blk_cell BK126.out 5).trans rfl,(blk_cell BK126.out 6).trans rfl,(zx_ HB hw128_0),(zx_ HB hw128_1),(zx_ HB hw128_2)⟩ (fun hHeld => ?_)
      clear hK K
      refine nm_ ?_
      refine pu_ 6 39 HT_ ?_
      refine pu_ 7 40 HT_ ?_
      refine pu_ 8 41 HT_ ?_
      refine pu_ 9 42 HT_ ?_
      refine pu_ 10 43 HT_ ?_
      refine px_ 11 44 HT_ ?_
      refine px_ 12 45 HT_ ?_
      refine px_ 13 46 HT_ ?_
      refine px_ 14 47 HT_ ?_
      refine px_ 15 48 HT_ ?_
      refine px_ 16 49 HT_ ?_
      refine px_ 17 50 HT_ ?_
      refine px_ 18 51 HT_ ?_
      refine px_ 19 52 HT_ ?_
      refine px_ 20 53 HT_ ?_
      refine px_ 21 54 HT_ ?_
      refine px_ 22 55 HT_ ?_
      refine px_ 23 56 HT_ ?_
      refine px_ 24 57 HT_ ?_
      refine pu_ 25 58 HT_ ?_
      refine pu_ 26 59 HT_ ?_
      refine done_ (done_of HT_.out (by kernel_rfl)) ?_
      try go_wp2
      go_roundg k2
      case measure => have := HJ7.out;have := HK2.out;omega
      case rel => exact ⟨(wrap64 (x3_2 + 1)),(by first | rfl | (simp;done) | (simp [*];done)),H',⟨by have := HJ7.out;have := HK2.out;omega⟩,⟨by (with_reducible repeat (first | apply k1_ | apply k2_ | apply k3_));exact BK126.out⟩,⟨zl_ HB⟩⟩
     rw [if_pos c23] at H
     have c23b0 : decide (0 < x3_2) = true := decide_eq_true c23
     clear c23
     obtain ⟨ji24,hji24⟩ : ∃ j_ : Int,(wrap64 (x3_2 - 1)) = j_ := ⟨_,rfl⟩
     replace H : (if 0 ≤ (ji24) then (if (ji24) < (l0_6.length : Int) then (if ((rd_T76 l0_6 (ji24)).f0) ≥ ((rd_T76 l0_6 x3_2).f0) then (some false) else (Ze.l0 k2 (wrap64 (x3_2 + 1)) false a0_1 a0_2 a0_3 a0_4 a0_5 l0_6)) else (none)) else (none)) = some r := by first | (rw [hji24] at H;exact H) | (simp only [hji24] at H ⊢;exact H)
     (try rw [hji24] at A21)
     have hji24w : (IntKind.i64.wrap (x3_2 - 1)) = ji24 := (i64_w _).trans hji24
     by_cases c25 : 0 ≤ (ji24)
     case neg =>
      rw [if_neg c25] at H
      exact absurd H (by simp)
     rw [if_pos c25] at H
     have c25b0 := decide_eq_true c25
     clear c25
     by_cases c26 : (ji24) < (l0_6.length : Int)
     case neg =>
      rw [if_neg c26] at H
      exact absurd H (by simp)
     rw [if_pos c26] at H
     have c26b0 := decide_eq_true c26
     clear c26
     obtain ⟨hcz28_0,hcz28_1,hcz28_2,hcz28_3,hcz28_4,hcz28_5,hcz28_6,hfz28_0,hfz28_1,hfz28_2,hfz28_3,hfz28_4,hfz28_5,hfz28_6⟩ := zc7 BK126
     try go_wp2
     replace BK126 := am_ (blk_drew BK126.out)
     replace HB := am_ (below_drew1 HB.out)
     have p128 : 0 ≤ (x3_2 : Int) := zo_
     have q128 : x3_2 < (l0_6.length : Int) := zo_
     obtain ⟨ad128,e128,hx128_0,hx128_1,hx128_2⟩ := at_T76 HR0_6.out x3_2 p128 q128
     have hw128_2 := hx128_2
     have hw128_1 := hx128_1
     have hw128_0 := hx128_0
     cases e128
     replace hx128_0 := zx_ HB hx128_0
     replace hx128_1 := zx_ HB hx128_1
     replace hx128_2 := zx_ HB hx128_2
     replace p128 := eq_true p128
     replace q128 := eq_true q128
     have p130 : 0 ≤ ((ji24) : Int) := zo_
     have q130 : (ji24) < (l0_6.length : Int) := zo_
     obtain ⟨ad130,e130,hx130_0,hx130_1,hx130_2⟩ := at_T76 HR0_6.out (ji24) p130 q130
     have hw130_2 := hx130_2
     have hw130_1 := hx130_1
     have hw130_0 := hx130_0
     obtain rfl : ad128 = ad130 := (by injection e130)
     replace hx130_0 := zx_ HB hx130_0
     replace hx130_1 := zx_ HB hx130_1
     replace hx130_2 := zx_ HB hx130_2
     replace p130 := eq_true p130
     replace q130 := eq_true q130
     have p131 : 0 ≤ (x3_2 : Int) := zo_
     have q131 : x3_2 < (l0_6.length : Int) := zo_
     obtain ⟨ad131,e131,hx131_0,hx131_1,hx131_2⟩ := at_T76 HR0_6.out x3_2 p131 q131
     have hw131_2 := hx131_2
     have hw131_1 := hx131_1
     have hw131_0 := hx131_0
     obtain rfl : ad128 = ad131 := (by injection e131)
     replace hx131_0 := zx_ HB hx131_0
     replace hx131_1 := zx_ HB hx131_1
     replace hx131_2 := zx_ HB hx131_2
     replace p131 := eq_true p131
     replace q131 := eq_true q131
     refine start_ (n := 27) (S := fun w' => w'.cell? ⟨gb126,0,none⟩ = some (.bool false) ∧ w'.cell? ⟨gb126,1,none⟩ = some (.int .i64 a0_1) ∧ w'.cell? ⟨gb126,2,none⟩ = some (.int .i64 a0_2) ∧ w'.cell? ⟨gb126,3,none⟩ = some (.int .i64 a0_3) ∧ w'.cell? ⟨gb126,4,none⟩ = some (.int .i64 a0_4) ∧ w'.cell? ⟨gb126,5,none⟩ = some (.string a0_5) ∧ w'.cell? ⟨gb126,6,none⟩ = some (.slice (some ad128) l0_6.length c0_6) ∧ w'.cell? (ad128.add ((x3_2).toNat * 3)) = some (.int .i64 ((rd_T76 l0_6 x3_2).f0)) ∧ w'.cell? ⟨(ad128.add ((x3_2).toNat * 3)).block,(ad128.add ((x3_2).toNat * 3)).off + 1,none⟩ = some (.int .i64 ((rd_T76 l0_6 x3_2).f1)) ∧ w'.cell? ⟨(ad128.add ((x3_2).toNat * 3)).block,(ad128.add ((x3_2).toNat * 3)).off + 2,none⟩ = some (.string ((rd_T76 l0_6 x3_2).f2)) ∧ w'.cell? (ad128.add (((ji24)).toNat * 3)) = some (.int .i64 ((rd_T76 l0_6 (ji24)).f0)) ∧ w'.cell? ⟨(ad128.add (((ji24)).toNat * 3)).block,(ad128.add (((ji24)).toNat * 3)).off + 1,none⟩ = some (.int .i64 ((rd_T76 l0_6 (ji24)).f1)) ∧ w'.cell? ⟨(ad128.add (((ji24)).toNat * 3)).block,(ad128.add (((ji24)).toNat * 3)).off + 2,none⟩ = some (.string ((rd_T76 l0_6 (ji24)).f2)) ∧ w'.cell? (ad128.add ((x3_2).toNat * 3)) = some (.int .i64 ((rd_T76 l0_6 x3_2).f0)) ∧ w'.cell? ⟨(ad128.add ((x3_2).toNat * 3)).block,(ad128.add ((x3_2).toNat * 3)).off + 1,none⟩ = some (.int .i64 ((rd_T76 l0_6 x3_2).f1)) ∧ w'.cell? ⟨(ad128.add ((x3_2).toNat * 3)).block,(ad128.add ((x3_2).toNat * 3)).off + 2,none⟩ = some (.string ((rd_T76 l0_6 x3_2).f2))) (ds := []) #[false,false,false,false,false,false,false,false,false,false,false,false,false,false,false,false,false,false,false,false,false,false,false,false,false,false,false] (by kernel_rfl) rfl rfl ⟨(blk_cell BK126.out 0).trans rfl,(blk_cell BK126.out 1).trans rfl,(blk_cell BK126.out 2).trans rfl,(blk_cell BK126.out 3).trans rfl,(blk_cell BK126.out 4).trans rfl,(blk_cell BK126.out 5).trans rfl,(blk_cell BK126.out 6).trans rfl,(zx_ HB hw128_0),(zx_ HB hw128_1),(zx_ HB hw128_2),(zx_ HB hw130_0),(zx_ HB hw130_1),(zx_ HB hw130_2),(zx_ HB hw131_0),(zx_ HB hw131_1),(zx_ HB hw131_2)⟩ (fun hHeld => ?_);refine with_tabW Ze.tab8 Ze.bits8 (fun HT_ HW_ => ?_)
     generalize wr.drew = w29 at BK126 HB hx128_0 hx128_1 hx128_2 hx130_0 hx130_1 hx130_2 hx131_0 hx131_1 hx131_2 hHeld ⊢
     refine pu_ 0 33 HT_ ?_
     refine pu_ 2 35 HT_ ?_
     refine tk_ 1 34 HT_ HW_ hHeld ?_
     refine pu_ 3 36 HT_ ?_
     refine tk_ 4 37 HT_ HW_ hHeld ?_
     refine zon 5 (N := some 38) HT_ (fun K hK => ?_)
     refine zgo Tryz.func49 #[.agg #[.int .i64 ((rd_T76 l0_6 x3_2).f0),.int .i64 ((rd_T76 l0_6 x3_2).f1),.string ((rd_T76 l0_6 x3_2).f2)]] ?_
     with_reducible refine (ZR.calls ((rd_T76 l0_6 x3_2).f0) ((rd_T76 l0_6 x3_2).f1) ((rd_T76 l0_6 x3_2).f2) true _ A21.out).mono ?_
     rintro e w30 ⟨rfl,hb⟩
     refine ⟨_,rfl,?_⟩
     replace BK126 := zb BK126 hb
     replace HB := zs_ HB hb
     try clear hb
     refine hK.out _ _ ⟨(blk_cell BK126.out 0).trans rfl,(blk_cell BK126.out 1).trans rfl,(blk_cell BK126.out 2).trans rfl,(blk_cell BK126.out 3).trans rfl,(blk_cell BK126.out 4).trans rfl,(blk_cell BK126.out 5).trans rfl,(blk_cell BK126.out 6).trans rfl,(zx_ HB hw128_0),(zx_ HB hw128_1),(zx_ HB hw128_2),(zx_ HB hw130_0),(zx_ HB hw130_1),(zx_ HB hw130_2),(zx_ HB hw131_0),(zx_ HB hw131_1),(zx_ HB hw131_2)⟩ (fun hHeld => ?_)
     clear hK K
     refine nm_ ?_
     by_cases c27 : ((rd_T76 l0_6 (ji24)).f0) ≥ ((rd_T76 l0_6 x3_2).f0)
     ·rw [if_pos c27] at H
      have c27b0 : decide (((rd_T76 l0_6 x3_2).f0) ≤ ((rd_T76 l0_6 (ji24)).f0)) = true := decide_eq_true c27
      clear c27
      obtain rfl := Option.some.inj H
      refine pu_ 6 39 HT_ ?_
      refine pu_ 7 40 HT_ ?_
      refine pu_ 8 41 HT_ ?_
      refine pu_ 9 42 HT_ ?_
      refine pu_ 10 43 HT_ ?_
      refine pu_ 11 44 HT_ ?_
      refine pu_ 13 46 HT_ ?_
      refine pu_ 14 47 HT_ ?_
      refine pu_ 18 51 HT_ ?_
      refine pu_ 20 53 HT_ ?_
      refine tk_ 12 45 HT_ HW_ hHeld ?_
      refine pu_ 15 48 HT_ ?_
      refine pu_ 16 49 HT_ ?_
      refine tk_ 17 50 HT_ HW_ hHeld ?_
      refine tk_ 19 52 HT_ HW_ hHeld ?_
      refine pu_ 21 54 HT_ ?_
      refine pu_ 22 55 HT_ ?_
      refine tk_ 23 56 HT_ HW_ hHeld ?_
      refine pu_ 24 57 HT_ ?_
      refine pu_ 25 58 HT_ ?_
      refine pu_ 26 59 HT_ ?_
      refine done_ (done_of HT_.out (by kernel_rfl)) ?_
      try go_wp2
      go_ret
      exact ⟨by first | rfl | (simp [e1_,e2_] <;> rfl) | (simp only [← hji24];first | rfl | (simp [e1_,e2_] <;> rfl)) | (simp [*,e1_,e2_] <;> rfl) | (simp [e3_,e4_];done) | (simp [*,e3_,e4_];done),zl_ HB⟩
     rw [if_neg c27] at H
     have c27b0 : decide (((rd_T76 l0_6 x3_2).f0) ≤ ((rd_T76 l0_6 (ji24)).f0)) = false := decide_eq_false c27
     clear c27
     have H' := am_ H
     clear H
     refine pu_ 6 39 HT_ ?_
     refine pu_ 7 40 HT_ ?_
     refine pu_ 8 41 HT_ ?_
     refine pu_ 9 42 HT_ ?_
     refine pu_ 10 43 HT_ ?_
     refine pu_ 11 44 HT_ ?_
     refine pu_ 13 46 HT_ ?_
     refine pu_ 14 47 HT_ ?_
     refine pu_ 18 51 HT_ ?_
     refine pu_ 20 53 HT_ ?_
     refine tk_ 12 45 HT_ HW_ hHeld ?_
     refine pu_ 15 48 HT_ ?_
     refine pu_ 16 49 HT_ ?_
     refine tk_ 17 50 HT_ HW_ hHeld ?_
     refine tk_ 19 52 HT_ HW_ hHeld ?_
     refine pu_ 21 54 HT_ ?_
     refine pu_ 22 55 HT_ ?_
     refine tk_ 23 56 HT_ HW_ hHeld ?_
     refine pu_ 24 57 HT_ ?_
     refine pu_ 25 58 HT_ ?_
     refine pu_ 26 59 HT_ ?_
     refine done_ (done_of HT_.out (by kernel_rfl)) ?_
     try go_wp2
     go_roundg k2
     case measure => have := HJ7.out;have := HK2.out;omega
     case rel => exact ⟨(wrap64 (x3_2 + 1)),(by first | rfl | (simp;done) | (simp [*];done)),H',⟨by have := HJ7.out;have := HK2.out;omega⟩,⟨by (with_reducible repeat (first | apply k1_ | apply k2_ | apply k3_));exact BK126.out⟩,⟨zl_ HB⟩⟩
end Go.Proofs.YtbhegbhdenngbaaGreatDoor.A
end

section
namespace Go.Proofs.YtbhegbhdenngbaaGreatDoor.A
open Go.RowKit Go.Proofs.YtbhegbhdenngbaaGreatDoorW.PrintWords Go.Proofs.YtbhegbhdenngbaaGreatDoorW.PrintLast Go.Proofs.YtbhegbhdenngbaaGreatDoorW.PrintMore
attribute [local go_sem] max2_int min2_int max_two min_two max_three min_three max_four min_four
theorem ZC.calls (k : Nat) (a0 : ByteArray) (r : Int) (w : World) (h : ZC.f k a0 = some r) :
  Calls Tryz.prog 46 #[.string a0] w fun e w' => e = .returned (.int .i64 r) ∧ Drawn0 w w' := by
 have H : (ZC.l0 k a0 0 0) = some r := h
 clear h
 have H' := am_ H
 clear H
 go_enter Tryz.func46,Tryz.ntmps46
 go_wp2
 go_loopg [3,4] k (fun kq v3 v4 w' => ∃ (x3_1 : Int) (x4_1 : Int),v3 = .int .i64 x3_1 ∧ v4 = .int .i64 x4_1 ∧ Aside0 (ZC.l0 kq a0 x3_1 x4_1 = some r) ∧ Aside0 (kq ≤ k) ∧ Drawn0 w w')
 case atStart => exact ⟨(0),(0),(by first | rfl | (simp;done) | (simp [*];done)),(by first | rfl | (simp;done) | (simp [*];done)),H',⟨Nat.le_refl _⟩,by repeat (first | exact Drawn0.refl _ | apply Drawn0.step)⟩
 case round =>
  clear H'
  obtain ⟨x3_1,x4_1,rfl,rfl,HA,HK1,⟨m1,rfl⟩⟩ := hrel
  cases gk with
  | zero => exact absurd HA.out (by simp [ZC.l0])
  | succ k1 =>
   have H := HA.out
   clear HA
   simp only [ZC.l0] at H
   by_cases c2 : x4_1 < (a0.size : Int)
   case neg =>
    rw [if_neg c2] at H
    have c2b0 := decide_eq_false c2
    clear c2
    obtain rfl := Option.some.inj H
    go_wp2
    go_ret
    exact ⟨by first | rfl | (simp;done) | (simp [*];done),by repeat (first | exact Drawn0.refl _ | apply Drawn0.step)⟩
   rw [if_pos c2] at H
   have c2b0 := decide_eq_true c2
   clear c2
   by_cases c3 : 0 ≤ x4_1
   case neg =>
    rw [if_neg c3] at H
    exact absurd H (by simp)
   rw [if_pos c3] at H
   have c3b0 := decide_eq_true c3
   clear c3
   have H' := am_ H
   clear H
   have p4 : 0 ≤ (x4_1 : Int) := zo_
   have q4 : x4_1 < (a0.size : Int) := zo_
   have hx4 := bt_at a0 x4_1
   replace p4 := eq_true p4
   replace q4 := eq_true q4
   go_wp2
   go_roundg k1
   case measure => have := HK1.out;omega
   case rel => exact ⟨(wrap64 ((wrap64 (x3_1 * 256)) + (wrap64 (bt a0 x4_1)))),(wrap64 (x4_1 + 1)),(by first | rfl | (simp;done) | (simp [*];done)),(by first | rfl | (simp;done) | (simp [*];done)),H',⟨by have := HK1.out;omega⟩,by repeat (first | exact Drawn0.refl _ | apply Drawn0.step)⟩
def Zl.T3 : Bool × List (List Nat × List Nat) := (true,[([],[]),([0],[0]),([1],[1]),([],[]),([3],[3]),([4],[4]),([],[]),([6],[6]),([7],[7]),([],[]),([9],[9]),([10,5],[10]),([],[]),([12],[12]),([2,5,8,11,13],[2,5,8,11,13]),([],[]),([15,14,11,0,1,2,3,4,5,6,7,8,9,10,11,12,13,14,15],[14,15])])
def Zl.B3 : List Nat := [0,1,3,0,8,24,0,64,192,0,512,1592,0,4096,16383,0,65535]
theorem Zl.tab3 : rtab .any (opsOf Tryz.f47 3) = Zl.T3 := by kernel_rfl
theorem Zl.bits3 : waitsOk Zl.T3.2 Zl.B3 = true := by kernel_rfl
theorem Zl.calls (k : Nat) (a0 : ByteArray) (r1 : Int) (r2 : Int) (r3 : Int) (r4 : Int) (r5 : ByteArray) (r6 : Bool) (w : World) (h : Zl.f k a0 = some (r1,r2,r3,r4,r5,r6)) :
  Calls Tryz.prog 47 #[.string a0] w fun e w' => e = .returned (.tuple #[.agg #[.int .i64 r1,.int .i64 r2,.int .i64 r3,.int .i64 r4,.string r5],.bool r6]) ∧ Below w.heap.size w w' := by
 have hu52 := Tryz.underlying52
 have HB := am_ (Below.refl w.heap.size w)
 have H : (if (a0.size : Int) < 7 then (Zl.j0 k a0 true) else (if 6 < (a0.size : Int) then (Zl.j0 k a0 ((a0.size : Int) != (wrap64 (7 + (wrap64 (bt a0 6)))))) else (none))) = some (r1,r2,r3,r4,r5,r6) := h
 clear h
 have HC2 := am_ H
 clear H
 go_enter Tryz.func47,Tryz.ntmps47
 go_upto_region 1 with (first | ((with_reducible refine gate_dst (N := 2) rfl ?_);(try (refine gate_guard (by rfl) ?_;dsimp only));refine zbx (N := 2) (cs := #[.int .i64 0,.int .i64 0,.int .i64 0,.int .i64 0,.string ⟨#[]⟩]) (t := 52) ?_;intro gb118 hg w3 hbox hb;have BK118 := am_ (hbox);have GW118 := zw_ HB hg;have GE118 := zw_ HB hg;replace HB := zs_ HB hb;clear hb hbox hg))
 (try simp only [Act.put,p1_,p2_,p3_])
 go_cut [16] (fun v16 wc => ∃ (kq : Nat) (x16_1 : Bool),v16 = .bool x16_1 ∧ Aside0 (Zl.j0 kq a0 x16_1 = some (r1,r2,r3,r4,r5,r6)) ∧ Aside0 (kq ≤ k) ∧ Aside0 (wc.heap[gb118]? = some (.cells #[.int .i64 0,.int .i64 0,.int .i64 0,.int .i64 0,.string ⟨#[]⟩] 52 (0,0))) ∧ Aside0 (Below w.heap.size w wc))
 case first =>
  have H := HC2.out
  clear HC2
  by_cases c4 : (a0.size : Int) < 7
  ·rw [if_pos c4] at H
   have c4b0 := decide_eq_true c4
   have c4b1 : decide (a0.size < 7) = true := decide_eq_true (by omega)
   clear c4
   (first | rw [c4b0] | (simp only [i64_w,i32_w];rw [c4b0]) | skip)
   have H' := am_ H
   clear H
   go_wp2
   go_meet
   case rel => exact ⟨_,(true),(by first | rfl | (simp;done) | (simp [*];done)),H',⟨by first | omega | exact Nat.le_refl _⟩,⟨by (with_reducible repeat (first | apply k1_ | apply k2_ | apply k3_));exact BK118.out⟩,⟨zl_ HB⟩⟩
  rw [if_neg c4] at H
  have c4b0 := decide_eq_false c4
  have c4b1 : decide (a0.size < 7) = false := decide_eq_false (by omega)
  clear c4
  (first | rw [c4b0] | (simp only [i64_w,i32_w];rw [c4b0]) | skip)
  by_cases c5 : 6 < (a0.size : Int)
  case neg =>
   rw [if_neg c5] at H
   exact absurd H (by simp)
  rw [if_pos c5] at H
  have c5b0 := decide_eq_true c5
  have c5b1 : decide (6 < a0.size) = true := decide_eq_true (by omega)
  clear c5
  have H' := am_ H
  clear H
  have p6 : 0 ≤ (6 : Int) := (by omega)
  have q6 : 6 < a0.size := (by have : (6 : Int) < (a0.size : Int) := zo_;omega)
  have hx6 : ∀ h : 6 < a0.size,((a0[6]'h).toNat : Int) = bt a0 6 := bt_at a0 6
  clear p6
  have qi6 : (6 < (a0.size : Int)) = True := eq_true (zo_)
  replace q6 := eq_true q6
  go_wp2
  go_meet
  case rel => exact ⟨_,(((a0.size : Int) != (wrap64 (7 + (wrap64 (bt a0 6)))))),(by first | rfl | (simp;done) | (simp [*];done)),H',⟨by first | omega | exact Nat.le_refl _⟩,⟨by (with_reducible repeat (first | apply k1_ | apply k2_ | apply k3_));exact BK118.out⟩,⟨zl_ HB⟩⟩
 case rest =>
  clear HC2
  try clear p2
  try clear c4
  try clear c4b0
  try clear c4b1
  try clear c5
  try clear c5b0
  try clear c5b1
  try clear p6
  try clear q6
  try clear hx6
  try clear qi6
  try clear p6
  try clear q6
  obtain ⟨kq,x16_1,rfl,HA,HJ1,BK118,HB⟩ := hcut
  cases kq with
  | zero => exact absurd HA.out (by simp [Zl.j0])
  | succ kj1 =>
   have H := HA.out
   clear HA
   simp only [Zl.j0] at H
   by_cases c7 : x16_1 = true
   ·subst c7
    rw [if_pos rfl] at H
    simp only [Option.some.injEq,Prod.mk.injEq] at H
    obtain ⟨rfl,rfl,rfl,rfl,rfl,rfl⟩ := H
    obtain ⟨hcz8_0,hcz8_1,hcz8_2,hcz8_3,hcz8_4,hfz8_0,hfz8_1,hfz8_2,hfz8_3,hfz8_4⟩ := zc5 BK118
    go_wp2
    refine bodyPost_ret (results_ct rfl _ _ gb118 52 #[.int .i64 0,.int .i64 0,.int .i64 0,.int .i64 0,.string ⟨#[]⟩] (0,0) _ rfl (zq BK118) Tryz.underlying52 rfl (by kernel_rfl)) rfl ?_
    exact ⟨zt_,zl_ HB⟩
   replace c7 := Bool.eq_false_iff.mpr c7
   subst c7
   rw [if_neg (show ¬ (false = true) by decide)] at H
   by_cases c9 : 0 < (a0.size : Int)
   case neg =>
    rw [if_neg c9] at H
    exact absurd H (by simp)
   rw [if_pos c9] at H
   have c9b0 := decide_eq_true c9
   have c9b1 : decide (0 < a0.size) = true := decide_eq_true (by omega)
   clear c9
   by_cases c11 : 1 ≤ 3
   case neg =>
    rw [if_neg c11] at H
    exact absurd H (by simp)
   rw [if_pos c11] at H
   have c11b0 := eq_true c11
   have c11b1 := decide_eq_true c11
   clear c11
   by_cases c12 : 3 ≤ (a0.size : Int)
   case neg =>
    rw [if_neg c12] at H
    exact absurd H (by simp)
   rw [if_pos c12] at H
   have c12b0 := eq_true c12
   have c12b1 := decide_eq_true c12
   clear c12
   replace H := Option.bind_eq_some_iff.mp H
   obtain ⟨t119,A130,H⟩ := H
   try dsimp only at H
   have A13 := am_ A130
   clear A130
   by_cases c14 : 3 < (a0.size : Int)
   case neg =>
    rw [if_neg c14] at H
    exact absurd H (by simp)
   rw [if_pos c14] at H
   have c14b0 := decide_eq_true c14
   have c14b1 : decide (3 < a0.size) = true := decide_eq_true (by omega)
   clear c14
   by_cases c16 : 4 ≤ 6
   case neg =>
    rw [if_neg c16] at H
    exact absurd H (by simp)
   rw [if_pos c16] at H
   have c16b0 := eq_true c16
   have c16b1 := decide_eq_true c16
   clear c16
   by_cases c17 : 6 ≤ (a0.size : Int)
   case neg =>
    rw [if_neg c17] at H
    exact absurd H (by simp)
   rw [if_pos c17] at H
   have c17b0 := eq_true c17
   have c17b1 := decide_eq_true c17
   clear c17
   replace H := Option.bind_eq_some_iff.mp H
   obtain ⟨t120,A180,H⟩ := H
   try dsimp only at H
   have A18 := am_ A180
   clear A180
   by_cases c19 : 7 ≤ (a0.size : Int)
   case neg =>
    rw [if_neg c19] at H
    exact absurd H (by simp)
   rw [if_pos c19] at H
   have c19b0 := eq_true c19
   have c19b1 := decide_eq_true c19
   clear c19
   replace H := Option.bind_eq_some_iff.mp H
   obtain ⟨t122,A200,H⟩ := H
   try dsimp only at H
   have A20 := am_ A200
   clear A200
   simp only [Option.some.injEq,Prod.mk.injEq] at H
   obtain ⟨rfl,rfl,rfl,rfl,rfl,rfl⟩ := H
   try go_wp2
   replace BK118 := am_ (blk_drew BK118.out)
   replace HB := am_ (below_drew1 HB.out)
   have p10 : 0 ≤ (0 : Int) := (by omega)
   have q10 : 0 < a0.size := (by have : (0 : Int) < (a0.size : Int) := zo_;omega)
   have hx10 : ∀ h : 0 < a0.size,((a0[0]'h).toNat : Int) = bt a0 0 := bt_at a0 0
   clear p10
   have qi10 : (0 < (a0.size : Int)) = True := eq_true (zo_)
   replace q10 := eq_true q10
   have p15 : 0 ≤ (3 : Int) := (by omega)
   have q15 : 3 < a0.size := (by have : (3 : Int) < (a0.size : Int) := zo_;omega)
   have hx15 : ∀ h : 3 < a0.size,((a0[3]'h).toNat : Int) = bt a0 3 := bt_at a0 3
   clear p15
   have qi15 : (3 < (a0.size : Int)) = True := eq_true (zo_)
   replace q15 := eq_true q15
   refine start_ (n := 17) (S := fun w' => True) (ds := []) #[false,false,false,false,false,false,false,false,false,false,false,false,false,false,false,false,false] (by kernel_rfl) rfl rfl trivial (fun hHeld => ?_);refine with_tabW Zl.tab3 Zl.bits3 (fun HT_ HW_ => ?_)
   generalize wc.drew = w21 at BK118 HB hHeld ⊢
   refine pu_ 0 18 HT_ ?_
   refine pu_ 3 21 HT_ ?_
   refine pu_ 4 22 HT_ ?_
   refine pu_ 6 24 HT_ ?_
   refine pu_ 9 27 HT_ ?_
   refine pu_ 10 28 HT_ ?_
   refine pu_ 12 30 HT_ ?_
   refine pu_ 13 31 HT_ ?_
   refine take_ (i := 1) (N := some 19) (v := ?_) (a' := ?_) #[true,true,false,true,true,false,true,false,false,true,true,false,true,true,false,false,false] rfl rfl (take_ofW HT_.out HW_.out (by kernel_rfl)) (fun _ _ _ h => h) (Or.inl ⟨by rfl,?_⟩) hHeld ?_ ?_
   rotate_left
   ·intro w' _
    go_simp
    with_reducible rfl
   rotate_left
   ·simp only [Act.put,p1_,p2_,p3_,i64_w,i32_w]
    rfl
   refine pu_ 2 20 HT_ ?_
   refine take_ (i := 7) (N := some 25) (v := ?_) (a' := ?_) #[true,true,true,true,true,false,true,true,false,true,true,false,true,true,false,false,false] rfl rfl (take_ofW HT_.out HW_.out (by kernel_rfl)) (fun _ _ _ h => h) (Or.inl ⟨by rfl,?_⟩) hHeld ?_ ?_
   rotate_left
   ·intro w' _
    go_simp
    with_reducible rfl
   rotate_left
   ·simp only [Act.put,p1_,p2_,p3_,i64_w,i32_w]
    rfl
   refine pu_ 8 26 HT_ ?_
   refine join_ (σ := Nat) 1 #[true,true,true,true,true,true,true,true,true,true,true,true,true,true,true,true,false] (fun s_ => [(23,.int .i64 t119),(29,.int .i64 t120),(4,.pointer (some ⟨s_,0,none⟩)),(32,.agg #[.int .i64 (wrap64 (bt a0 0)),.int .i64 t119,.int .i64 (wrap64 (bt a0 3)),.int .i64 t120,.string (a0.extract 7 a0.size)])]) (fun s_ w' => (w'.heap[gb118]? = some (.cells #[.int .i64 0,.int .i64 0,.int .i64 0,.int .i64 0,.string ⟨#[]⟩] 52 (0,0))) ∧ (w'.heap[s_]? = some (.cells #[.int .i64 0,.int .i64 0,.int .i64 0,.int .i64 0,.string ⟨#[]⟩] 52 (0,0))) ∧ (w.heap.size ≤ s_) ∧ (w.heap.size ≤ s_) ∧ (gb118 ≠ s_) ∧ (s_ ≠ gb118) ∧ (Below w.heap.size w w')) ?_ ?_
   rotate_left
   ·intro hCont
    refine two_ (i := 5) (j := 15) (Ni := some 23) (Nj := some 4) #[true,true,true,true,true,true,true,true,true,true,true,false,true,true,false,false,false] #[true,true,true,true,true,false,true,true,true,true,true,false,true,true,false,true,false] rfl rfl rfl rfl (two_of HT_.out (by kernel_rfl)) (by decide) (by decide) (fun K hK => ?_) (fun K hK => ?_)
    ·skip
     refine zgo Tryz.func46 #[.string (a0.extract 1 3)] ?_
     with_reducible refine (ZC.calls kj1 (a0.extract 1 3) t119 _ A13.out).mono ?_
     rintro e w' ⟨rfl,⟨nd,rfl⟩⟩
     refine ⟨_,rfl,?_⟩
     refine hK.out _ _ trivial (fun hHeld => ?_)
     clear hK K
     refine nm_ ?_
     refine two_ (i := 11) (j := 15) (Ni := some 29) (Nj := some 4) #[true,true,true,true,true,true,true,true,true,true,true,true,true,true,false,false,false] #[true,true,true,true,true,true,true,true,true,true,true,false,true,true,false,true,false] rfl rfl rfl rfl (two_of HT_.out (by kernel_rfl)) (by decide) (by decide) (fun K hK => ?_) (fun K hK => ?_)
     ·skip
      refine zgo Tryz.func46 #[.string (a0.extract 4 6)] ?_
      with_reducible refine (ZC.calls kj1 (a0.extract 4 6) t120 _ A18.out).mono ?_
      rintro e w' ⟨rfl,⟨nd,rfl⟩⟩
      refine ⟨_,rfl,?_⟩
      refine hK.out _ _ trivial (fun hHeld => ?_)
      clear hK K
      refine nm_ ?_
      refine pu_ 14 32 HT_ ?_
      refine zon 15 (N := some 4) HT_ (fun K hK => ?_)
      refine box_step ?hg (N := 4) ?hd (cs := #[.int .i64 0,.int .i64 0,.int .i64 0,.int .i64 0,.string ⟨#[]⟩]) (t := 52) ?hr ?_;(case hd => rfl);(case hg => rfl);(case hr => first | (go_simp;done) | (go_simp;rfl))
      intro gb121 hg w22 hbox hb
      have BK121 := am_ (hbox)
      have GW121 := zw_ HB hg
      have GE121 := zw_ HB hg
      replace HB := zs_ HB hb
      have NB118_121 := zl hg BK118
      have NB121_118 := zg hg BK118
      replace BK118 := zb BK118 hb
      clear hb hbox hg
      refine hK.out _ _ trivial (fun hHeld => ?_)
      clear hK K
      refine nm_ ?_
      exact norm_ (by simp only [putAll,Act.put,p1_,p2_,p3_]) (hCont (gb121) _ ⟨(zk BK118),(zk BK121),GW121.out,GE121.out,NB118_121.out,NB121_118.out,(zl_ HB)⟩)
     ·skip
      refine box_step ?hg (N := 4) ?hd (cs := #[.int .i64 0,.int .i64 0,.int .i64 0,.int .i64 0,.string ⟨#[]⟩]) (t := 52) ?hr ?_;(case hd => rfl);(case hg => rfl);(case hr => first | (go_simp;done) | (go_simp;rfl))
      intro gb121 hg w22 hbox hb
      have BK121 := am_ (hbox)
      have GW121 := zw_ HB hg
      have GE121 := zw_ HB hg
      replace HB := zs_ HB hb
      have NB118_121 := zl hg BK118
      have NB121_118 := zg hg BK118
      replace BK118 := zb BK118 hb
      clear hb hbox hg
      refine hK.out _ _ trivial (fun hHeld => ?_)
      clear hK K
      refine nm_ ?_
      refine zon 11 (N := some 29) HT_ (fun K hK => ?_)
      refine zgo Tryz.func46 #[.string (a0.extract 4 6)] ?_
      with_reducible refine (ZC.calls kj1 (a0.extract 4 6) t120 _ A18.out).mono ?_
      rintro e w' ⟨rfl,⟨nd,rfl⟩⟩
      refine ⟨_,rfl,?_⟩
      refine hK.out _ _ trivial (fun hHeld => ?_)
      clear hK K
      refine nm_ ?_
      refine pu_ 14 32 HT_ ?_
      exact norm_ (by simp only [putAll,Act.put,p1_,p2_,p3_]) (hCont (gb121) _ ⟨(zk BK118),(zk BK121),GW121.out,GE121.out,NB118_121.out,NB121_118.out,(zl_ HB)⟩)
    ·skip
     refine box_step ?hg (N := 4) ?hd (cs := #[.int .i64 0,.int .i64 0,.int .i64 0,.int .i64 0,.string ⟨#[]⟩]) (t := 52) ?hr ?_;(case hd => rfl);(case hg => rfl);(case hr => first | (go_simp;done) | (go_simp;rfl))
     intro gb121 hg w22 hbox hb
     have BK121 := am_ (hbox)
     have GW121 := zw_ HB hg
     have GE121 := zw_ HB hg
     replace HB := zs_ HB hb
     have NB118_121 := zl hg BK118
     have NB121_118 := zg hg BK118
     replace BK118 := zb BK118 hb
     clear hb hbox hg
     refine hK.out _ _ trivial (fun hHeld => ?_)
     clear hK K
     refine nm_ ?_
     refine zon 5 (N := some 23) HT_ (fun K hK => ?_)
     refine zgo Tryz.func46 #[.string (a0.extract 1 3)] ?_
     with_reducible refine (ZC.calls kj1 (a0.extract 1 3) t119 _ A13.out).mono ?_
     rintro e w' ⟨rfl,⟨nd,rfl⟩⟩
     refine ⟨_,rfl,?_⟩
     refine hK.out _ _ trivial (fun hHeld => ?_)
     clear hK K
     refine nm_ ?_
     refine zon 11 (N := some 29) HT_ (fun K hK => ?_)
     refine zgo Tryz.func46 #[.string (a0.extract 4 6)] ?_
     with_reducible refine (ZC.calls kj1 (a0.extract 4 6) t120 _ A18.out).mono ?_
     rintro e w' ⟨rfl,⟨nd,rfl⟩⟩
     refine ⟨_,rfl,?_⟩
     refine hK.out _ _ trivial (fun hHeld => ?_)
     clear hK K
     refine nm_ ?_
     refine pu_ 14 32 HT_ ?_
     exact norm_ (by simp only [putAll,Act.put,p1_,p2_,p3_]) (hCont (gb121) _ ⟨(zk BK118),(zk BK121),GW121.out,GE121.out,NB118_121.out,NB121_118.out,(zl_ HB)⟩)
   rintro gb121 w23 ⟨h0_,h1_,h2_,h3_,h4_,h5_,h6_⟩
   have n0_ : Aside0 (w23.heap[gb118]? = some (.cells #[.int .i64 0,.int .i64 0,.int .i64 0,.int .i64 0,.string ⟨#[]⟩] 52 (0,0))) := ⟨h0_⟩
   have n1_ : Aside0 (w23.heap[gb121]? = some (.cells #[.int .i64 0,.int .i64 0,.int .i64 0,.int .i64 0,.string ⟨#[]⟩] 52 (0,0))) := ⟨h1_⟩
   have n2_ : Aside0 (w.heap.size ≤ gb121) := ⟨h2_⟩
   have n3_ : Aside0 (w.heap.size ≤ gb121) := ⟨h3_⟩
   have n4_ : Aside0 (gb118 ≠ gb121) := ⟨h4_⟩
   have n5_ : Aside0 (gb121 ≠ gb118) := ⟨h5_⟩
   have n6_ : Aside0 (Below w.heap.size w w23) := ⟨h6_⟩
   clear BK118
   clear HB
   clear h0_ h1_ h2_ h3_ h4_ h5_ h6_
   have BK118 := n0_
   have BK121 := n1_
   have GW121 := n2_
   have GE121 := n3_
   have NB118_121 := n4_
   have NB121_118 := n5_
   have HB := n6_
   clear n0_ n1_ n2_ n3_ n4_ n5_ n6_
   have hHeld := trivial
   refine norm_ (a' := ?_) ?_ ?_
   rotate_left
   ·simp only [putAll,Act.put,p1_,p2_,p3_]
    rfl
   refine zon 16 (N := none) HT_ (fun K hK => ?_)
   have hs24 : w23.cell? ⟨gb121,0,none⟩ = some (.int .i64 0) := (blk_cell BK121.out 0).trans rfl
   have hfs24 := blk_frozen BK121.out 0
   have hns24_0 := NB118_121.out
   have hms24_0 := NB121_118.out
   have hs25 : w23.cell? ⟨gb121,1,none⟩ = some (.int .i64 0) := (blk_cell BK121.out 1).trans rfl
   have hfs25 := blk_frozen BK121.out 1
   have hns25_0 := NB118_121.out
   have hms25_0 := NB121_118.out
   have hs26 : w23.cell? ⟨gb121,2,none⟩ = some (.int .i64 0) := (blk_cell BK121.out 2).trans rfl
   have hfs26 := blk_frozen BK121.out 2
   have hns26_0 := NB118_121.out
   have hms26_0 := NB121_118.out
   have hs27 : w23.cell? ⟨gb121,3,none⟩ = some (.int .i64 0) := (blk_cell BK121.out 3).trans rfl
   have hfs27 := blk_frozen BK121.out 3
   have hns27_0 := NB118_121.out
   have hms27_0 := NB121_118.out
   have hs28 : w23.cell? ⟨gb121,4,none⟩ = some (.string ⟨#[]⟩) := (blk_cell BK121.out 4).trans rfl
   have hfs28 := blk_frozen BK121.out 4
   have hns28_0 := NB118_121.out
   have hms28_0 := NB121_118.out
   refine skip_ (w1 := ?_) (by rfl) rfl ?_ ?_
   rotate_left
   ·go_simp
    rfl
   refine hK.out _ _ trivial (fun hHeld => ?_)
   clear hK K
   refine done_ (done_of HT_.out (by kernel_rfl)) ?_
   try go_wp2
   have n0_ : Aside0 ((((((w23.setCell ⟨gb121,0,none⟩ (.int .i64 (wrap64 (bt a0 0)))).setCell ⟨gb121,1,none⟩ (.int .i64 t119)).setCell ⟨gb121,2,none⟩ (.int .i64 (wrap64 (bt a0 3)))).setCell ⟨gb121,3,none⟩ (.int .i64 t120)).setCell ⟨gb121,4,none⟩ (.string (a0.extract 7 a0.size))).heap[gb118]? = some (.cells #[.int .i64 0,.int .i64 0,.int .i64 0,.int .i64 0,.string ⟨#[]⟩] 52 (0,0))) := ⟨zq BK118⟩
   have n1_ : Aside0 ((((((w23.setCell ⟨gb121,0,none⟩ (.int .i64 (wrap64 (bt a0 0)))).setCell ⟨gb121,1,none⟩ (.int .i64 t119)).setCell ⟨gb121,2,none⟩ (.int .i64 (wrap64 (bt a0 3)))).setCell ⟨gb121,3,none⟩ (.int .i64 t120)).setCell ⟨gb121,4,none⟩ (.string (a0.extract 7 a0.size))).heap[gb121]? = some (.cells #[.int .i64 (wrap64 (bt a0 0)),.int .i64 t119,.int .i64 (wrap64 (bt a0 3)),.int .i64 t120,.string (a0.extract 7 a0.size)] 52 (0,0))) := ⟨zq BK121⟩
   have n2_ : Aside0 (Below w.heap.size w (((((w23.setCell ⟨gb121,0,none⟩ (.int .i64 (wrap64 (bt a0 0)))).setCell ⟨gb121,1,none⟩ (.int .i64 t119)).setCell ⟨gb121,2,none⟩ (.int .i64 (wrap64 (bt a0 3)))).setCell ⟨gb121,3,none⟩ (.int .i64 t120)).setCell ⟨gb121,4,none⟩ (.string (a0.extract 7 a0.size)))) := ⟨zl_ HB⟩
   (try clear BK118)
   (try clear BK121)
   (try clear HB)
   generalize (((((w23.setCell ⟨gb121,0,none⟩ (.int .i64 (wrap64 (bt a0 0)))).setCell ⟨gb121,1,none⟩ (.int .i64 t119)).setCell ⟨gb121,2,none⟩ (.int .i64 (wrap64 (bt a0 3)))).setCell ⟨gb121,3,none⟩ (.int .i64 t120)).setCell ⟨gb121,4,none⟩ (.string (a0.extract 7 a0.size))) = w29 at n0_ n1_ n2_ ⊢
   have BK118 := n0_
   have BK121 := n1_
   have HB := n2_
   clear n0_ n1_ n2_
   replace BK118 := am_ (blk_drew BK118.out)
   replace BK121 := am_ (blk_drew BK121.out)
   replace HB := am_ (below_drew1 HB.out)
   refine start_ (n := 5) (S := fun w' => w'.cell? ⟨gb121,0,none⟩ = some (.int .i64 (wrap64 (bt a0 0))) ∧ w'.cell? ⟨gb121,1,none⟩ = some (.int .i64 t119) ∧ w'.cell? ⟨gb121,2,none⟩ = some (.int .i64 (wrap64 (bt a0 3))) ∧ w'.cell? ⟨gb121,3,none⟩ = some (.int .i64 t120) ∧ w'.cell? ⟨gb121,4,none⟩ = some (.string (a0.extract 7 a0.size))) (ds := []) #[false,false,false,false,false] (by kernel_rfl) rfl rfl ⟨(blk_cell BK121.out 0).trans rfl,(blk_cell BK121.out 1).trans rfl,(blk_cell BK121.out 2).trans rfl,(blk_cell BK121.out 3).trans rfl,(blk_cell BK121.out 4).trans rfl⟩ (fun hHeld => ?_)
   generalize w29.drew = w30 at BK118 BK121 HB hHeld ⊢
   refine take_ (i := 0) (N := some 33) (v := ?_) (a' := ?_) #[true,false,false,false,false] rfl rfl (by kernel_rfl) (fun _ _ _ h => h) (Or.inl ⟨by rfl,?_⟩) hHeld ?_ ?_
   rotate_left
   ·rintro w' ⟨s0,s1,s2,s3,s4⟩
    go_simp
    with_reducible rfl
   rotate_left
   ·simp only [Act.put,p1_,p2_,p3_,i64_w,i32_w]
    rfl
   refine take_ (i := 1) (N := some 34) (v := ?_) (a' := ?_) #[true,true,false,false,false] rfl rfl (by kernel_rfl) (fun _ _ _ h => h) (Or.inl ⟨by rfl,?_⟩) hHeld ?_ ?_
   rotate_left
   ·rintro w' ⟨s0,s1,s2,s3,s4⟩
    go_simp
    with_reducible rfl
   rotate_left
   ·simp only [Act.put,p1_,p2_,p3_,i64_w,i32_w]
    rfl
   refine one_ (i := 2) (N := some 35) #[true,true,true,false,false] rfl rfl (by kernel_rfl) (by decide) (fun K hK => ?_)
   refine zgo Tryz.func68 #[.agg #[.int .i64 (wrap64 (bt a0 0)),.int .i64 t119,.int .i64 (wrap64 (bt a0 3)),.int .i64 t120,.string (a0.extract 7 a0.size)]] ?_
   with_reducible refine (ZH.calls kj1 (wrap64 (bt a0 0)) t119 (wrap64 (bt a0 3)) t120 (a0.extract 7 a0.size) t122 _ A20.out).mono ?_
   rintro e w31 ⟨rfl,hb⟩
   refine ⟨_,rfl,?_⟩
   replace BK118 := zb BK118 hb
   replace BK121 := zb BK121 hb
   replace HB := zs_ HB hb
   try clear hb
   refine hK.out _ _ ⟨(blk_cell BK121.out 0).trans rfl,(blk_cell BK121.out 1).trans rfl,(blk_cell BK121.out 2).trans rfl,(blk_cell BK121.out 3).trans rfl,(blk_cell BK121.out 4).trans rfl⟩ (fun hHeld => ?_)
   clear hK K
   refine nm_ ?_
   refine one_ (i := 3) (N := none) #[true,true,true,true,false] rfl rfl (by kernel_rfl) (by decide) (fun K hK => ?_)
   have hs32 : w31.cell? ⟨gb118,0,none⟩ = some (.int .i64 0) := (blk_cell BK118.out 0).trans rfl
   have hfs32 := blk_frozen BK118.out 0
   have hns32_1 := NB121_118.out
   have hms32_1 := NB118_121.out
   have hs33 : w31.cell? ⟨gb118,1,none⟩ = some (.int .i64 0) := (blk_cell BK118.out 1).trans rfl
   have hfs33 := blk_frozen BK118.out 1
   have hns33_1 := NB121_118.out
   have hms33_1 := NB118_121.out
   have hs34 : w31.cell? ⟨gb118,2,none⟩ = some (.int .i64 0) := (blk_cell BK118.out 2).trans rfl
   have hfs34 := blk_frozen BK118.out 2
   have hns34_1 := NB121_118.out
   have hms34_1 := NB118_121.out
   have hs35 : w31.cell? ⟨gb118,3,none⟩ = some (.int .i64 0) := (blk_cell BK118.out 3).trans rfl
   have hfs35 := blk_frozen BK118.out 3
   have hns35_1 := NB121_118.out
   have hms35_1 := NB118_121.out
   have hs36 : w31.cell? ⟨gb118,4,none⟩ = some (.string ⟨#[]⟩) := (blk_cell BK118.out 4).trans rfl
   have hfs36 := blk_frozen BK118.out 4
   have hns36_1 := NB121_118.out
   have hms36_1 := NB118_121.out
   refine skip_ (w1 := ?_) (by rfl) rfl ?_ ?_
   rotate_left
   ·go_simp
    rfl
   refine hK.out _ _ ⟨((cell_far (p := ⟨gb118,_,none⟩) NB121_118.out _).trans (((cell_far (p := ⟨gb118,_,none⟩) NB121_118.out _).trans (((cell_far (p := ⟨gb118,_,none⟩) NB121_118.out _).trans (((cell_far (p := ⟨gb118,_,none⟩) NB121_118.out _).trans (((cell_far (p := ⟨gb118,_,none⟩) NB121_118.out _).trans (hHeld.1)))))))))),((cell_far (p := ⟨gb118,_,none⟩) NB121_118.out _).trans (((cell_far (p := ⟨gb118,_,none⟩) NB121_118.out _).trans (((cell_far (p := ⟨gb118,_,none⟩) NB121_118.out _).trans (((cell_far (p := ⟨gb118,_,none⟩) NB121_118.out _).trans (((cell_far (p := ⟨gb118,_,none⟩) NB121_118.out _).trans (hHeld.2.1)))))))))),((cell_far (p := ⟨gb118,_,none⟩) NB121_118.out _).trans (((cell_far (p := ⟨gb118,_,none⟩) NB121_118.out _).trans (((cell_far (p := ⟨gb118,_,none⟩) NB121_118.out _).trans (((cell_far (p := ⟨gb118,_,none⟩) NB121_118.out _).trans (((cell_far (p := ⟨gb118,_,none⟩) NB121_118.out _).trans (hHeld.2.2.1)))))))))),((cell_far (p := ⟨gb118,_,none⟩) NB121_118.out _).trans (((cell_far (p := ⟨gb118,_,none⟩) NB121_118.out _).trans (((cell_far (p := ⟨gb118,_,none⟩) NB121_118.out _).trans (((cell_far (p := ⟨gb118,_,none⟩) NB121_118.out _).trans (((cell_far (p := ⟨gb118,_,none⟩) NB121_118.out _).trans (hHeld.2.2.2.1)))))))))),((cell_far (p := ⟨gb118,_,none⟩) NB121_118.out _).trans (((cell_far (p := ⟨gb118,_,none⟩) NB121_118.out _).trans (((cell_far (p := ⟨gb118,_,none⟩) NB121_118.out _).trans (((cell_far (p := ⟨gb118,_,none⟩) NB121_118.out _).trans (((cell_far (p := ⟨gb118,_,none⟩) NB121_118.out _).trans (hHeld.2.2.2.2))))))))))⟩ (fun hHeld => ?_)
   clear hK K
   refine pure_ (i := 4) (N := some 3) (v := ?_) (a' := ?_) #[true,true,true,true,true] rfl rfl (by kernel_rfl) (fun _ _ _ h => h) (Or.inl ⟨by rfl,?_⟩) ?_ ?_
   rotate_left
   ·intro w'
    go_simp
    with_reducible rfl
   rotate_left
   ·simp only [Act.put,p1_,p2_,p3_,i64_w,i32_w]
    rfl
   refine done_ (by kernel_rfl) ?_
   try go_wp2
   refine bodyPost_ret (results_ct rfl _ _ gb118 52 #[.int .i64 (wrap64 (bt a0 0)),.int .i64 t119,.int .i64 (wrap64 (bt a0 3)),.int .i64 t120,.string (a0.extract 7 a0.size)] (0,0) _ rfl (zq BK118) Tryz.underlying52 rfl (by kernel_rfl)) rfl ?_
   exact ⟨zt_,zl_ HB⟩
def Zg.T13 : Bool × List (List Nat × List Nat) := (true,[([],[]),([0],[0]),([],[]),([2],[2]),([3],[3]),([],[]),([5],[5]),([6],[6]),([],[]),([8],[8]),([4,7,9],[4,7,9]),([10],[10]),([1,11,7],[1,11]),([0,1,2,3,4,5,6,7,8,9,10,11,12],[]),([13,12,12,0,1,2,3,4,5,6,7,8,9,10,11,12],[12,13])])
def Zg.B13 : List Nat := [0,1,0,4,12,0,32,96,0,256,1020,2044,4095,8191,16383]
theorem Zg.tab13 : rtab .any (opsOf Tryz.f33 13) = Zg.T13 := by kernel_rfl
theorem Zg.bits13 : waitsOk Zg.T13.2 Zg.B13 = true := by kernel_rfl
def Zg.T16 : Bool × List (List Nat × List Nat) := (true,[([],[]),([],[]),([1],[1]),([2],[2]),([3,2,2],[2,3]),([2,4],[2,4]),([0,4,0],[0]),([5,6,0,1,2,3,4,5,6],[5])])
def Zg.B16 : List Nat := [0,0,2,6,14,30,31,127]
theorem Zg.tab16 : rtab .any (opsOf Tryz.f33 16) = Zg.T16 := by kernel_rfl
theorem Zg.bits16 : waitsOk Zg.T16.2 Zg.B16 = true := by kernel_rfl
theorem Zg.calls (k : Nat) (a0 : ByteArray) (r1 : Bool) (r2 : Int) (r3 : Int) (r4 : Int) (r5 : Int) (r6 : ByteArray) (r7 : List (S76)) (r8 : Bool) (w : World) (h : Zg.f k a0 = some (r1,r2,r3,r4,r5,r6,r7,r8)) :
  Calls Tryz.prog 33 #[.string a0] w fun e w' => ∃ v6_ : Value,e = .returned (.tuple #[.agg #[.bool r1,.int .i64 r2,.int .i64 r3,.int .i64 r4,.int .i64 r5,.string r6,v6_],.bool r8]) ∧ Kd.R k76 76 w' w.heap.size (fun _ => True) v6_ r7 ∧ Below w.heap.size w w' := by
 have hu55 := Tryz.underlying55
 have hu76 := Tryz.underlying76
 have hu52 := Tryz.underlying52
 have HB := am_ (Below.refl w.heap.size w)
 have H : (if a0.toList = ([] : List UInt8) then (some (false,0,0,0,0,(⟨#[]⟩ : ByteArray),([] : List (S76)),false)) else (if 0 < (a0.size : Int) then (if (wrap64 (bt a0 0)) = 0 then (some (true,0,0,0,0,(⟨#[]⟩ : ByteArray),(([] : List (S76))),((a0.size : Int) == 1))) else (if (a0.size : Int) < (wrap64 (1 + (wrap64 (13 * (wrap64 ((wrap64 (bt a0 0)) - 1)))))) then (some (false,0,0,0,0,(⟨#[]⟩ : ByteArray),([] : List (S76)),false)) else (Zg.l0 k a0 (wrap64 (bt a0 0)) 0 false 0 0 0 0 (⟨#[]⟩ : ByteArray) (([] : List (S76)))))) else (none))) = some (r1,r2,r3,r4,r5,r6,r7,r8) := h
 clear h
 by_cases c2 : a0.toList = ([] : List UInt8)
 ·rw [if_pos c2] at H
  have c2b0 := beq_iff_eq.mpr c2
  have c2b1 := bne_eq_false_iff_eq.mpr c2
  (try have c2e0 := c2b0;simp only [e3_,e4_] at c2e0)
  (try have c2e1 := c2b1;simp only [e3_,e4_] at c2e1)
  clear c2
  simp only [Option.some.injEq,Prod.mk.injEq] at H
  obtain ⟨rfl,rfl,rfl,rfl,rfl,rfl,rfl,rfl⟩ := H
  go_enter Tryz.func33,Tryz.ntmps33
  go_wp2_with (first | ((with_reducible refine gate_dst (N := 2) rfl ?_);refine zbx (N := 2) (cs := #[.bool false,.int .i64 0,.int .i64 0,.int .i64 0,.int .i64 0,.string ⟨#[]⟩,.slice none 0 0]) (t := 55) ?_;intro gb132 hg w3 hbox hb;have BK132 := am_ (hbox);have GW132 := zw_ HB hg;have GE132 := zw_ HB hg;replace HB := zs_ HB hb;clear hb hbox hg;obtain ⟨hcz4_0,hcz4_1,hcz4_2,hcz4_3,hcz4_4,hcz4_5,hcz4_6,hfz4_0,hfz4_1,hfz4_2,hfz4_3,hfz4_4,hfz4_5,hfz4_6⟩ := zc7 BK132))
  refine bodyPost_ret (results_ct rfl _ _ gb132 55 #[.bool false,.int .i64 0,.int .i64 0,.int .i64 0,.int .i64 0,.string ⟨#[]⟩,.slice none 0 0] (0,0) _ rfl (zq BK132) Tryz.underlying55 rfl (by kernel_rfl)) rfl ?_
  exact ⟨_,zt_,by first | exact Kd.R_nil _ _ _ _ _ | exact Kd.N_nil _ _ _ _ _ | exact Kd.V_nil _ _ _ _ _ | exact Kd.Q_nil _ _ _ _ _ | exact Kd.S_nil _ _ _ _ _,zl_ HB⟩
 rw [if_neg c2] at H
 have c2b0 := beq_eq_false_iff_ne.mpr c2
 have c2b1 := bne_iff_ne.mpr c2
 (try have c2e0 := c2b0;simp only [e3_,e4_] at c2e0)
 (try have c2e1 := c2b1;simp only [e3_,e4_] at c2e1)
 by_cases c5 : 0 < (a0.size : Int)
 case neg =>
  rw [if_neg c5] at H
  exact absurd H (by simp)
 rw [if_pos c5] at H
 have c5b0 := decide_eq_true c5
 have c5b1 : decide (0 < a0.size) = true := decide_eq_true (by omega)
 clear c5
 by_cases c7 : (wrap64 (bt a0 0)) = 0
 ·rw [if_pos c7] at H
  have c7b0 := beq_iff_eq.mpr c7
  have c7b1 := bne_eq_false_iff_eq.mpr c7
  clear c7
  obtain ⟨y133,hy133⟩ : ∃ y_ : List (S76),y_ = (([] : List (S76))) := ⟨_,rfl⟩
  replace H : (some (true,0,0,0,0,(⟨#[]⟩ : ByteArray),y133,((a0.size : Int) == 1))) = some (r1,r2,r3,r4,r5,r6,r7,r8) := by first | (rw [hy133];with_reducible exact H) | (have H2_ := (Option.bind_some _ _).symm.trans H;rw [hy133];with_reducible exact H2_) | (have H2_ := (Option.bind_some _ _).symm.trans H;with_reducible exact H2_) | with_reducible exact H | (rw [hy133];exact H) | exact H
  have Ny133 := am_ hy133
  clear hy133
  simp only [Option.some.injEq,Prod.mk.injEq] at H
  obtain ⟨rfl,rfl,rfl,rfl,rfl,rfl,rfl,rfl⟩ := H
  go_enter Tryz.func33,Tryz.ntmps33
  go_wp2_with (first | ((with_reducible refine gate_dst (N := 2) rfl ?_);refine zbx (N := 2) (cs := #[.bool false,.int .i64 0,.int .i64 0,.int .i64 0,.int .i64 0,.string ⟨#[]⟩,.slice none 0 0]) (t := 55) ?_;intro gb132 hg w8 hbox hb;have BK132 := am_ (hbox);have GW132 := zw_ HB hg;have GE132 := zw_ HB hg;replace HB := zs_ HB hb;clear hb hbox hg;have p6 : 0 ≤ (0 : Int) := (by omega);have q6 : 0 < a0.size := (by have : (0 : Int) < (a0.size : Int) := zo_;omega);have hx6 : ∀ h : 0 < a0.size,((a0[0]'h).toNat : Int) = bt a0 0 := bt_at a0 0;clear p6;have qi6 : (0 < (a0.size : Int)) = True := eq_true (zo_);replace q6 := eq_true q6) | ((with_reducible refine gate_dst (N := 18) rfl ?_);refine Kd.R_lit k76 _ 76 ?hg (N := 18) ?hd (xs := ([] : List (S76))) (inner := []) (ok := fun _ => True) (okp := fun _ => True) ?hr ?hp (fun _ hk => hk) trivial (Below.refl _ _) (Nat.le_refl _) (by simp) ?_;(case hd => rfl);(case hg => rfl);(case hr => first | (go_simp;done) | (go_simp;rfl));(case hp => exact (Reps.none _ _));intro v134 w9 ho10 hb hg_ hnew_;clear hg_ hnew_;(first | rw [← Ny133.out] at ho10 | (simp only [Int.reduceToNat] at ho10;rw [← Ny133.out] at ho10));have HO135 := am_ (Kd.R_lower ho10 (below_size (zl_ HB)));replace BK132 := zb BK132 hb;replace HB := zs_ HB hb;clear hb ho10;obtain ⟨Ao11,co11,eo11⟩ := Kd.R_slice HO135.out;subst eo11;obtain ⟨hcz12_0,hcz12_1,hcz12_2,hcz12_3,hcz12_4,hcz12_5,hcz12_6,hfz12_0,hfz12_1,hfz12_2,hfz12_3,hfz12_4,hfz12_5,hfz12_6⟩ := zc7 BK132))
  refine bodyPost_ret (results_ct rfl _ _ gb132 55 #[.bool true,.int .i64 0,.int .i64 0,.int .i64 0,.int .i64 0,.string ⟨#[]⟩,.slice Ao11 y133.length co11] (0,0) _ rfl (zq BK132) Tryz.underlying55 rfl (by kernel_rfl)) rfl ?_
  exact ⟨_,zt_,by (with_reducible repeat (first | apply r1_ | apply r2_ | apply r3_));exact Kd.R_mono (zrf (Kd.R_types HO135.out BK132.out (by decide))) (fun _ hk => trivial),zl_ HB⟩
 rw [if_neg c7] at H
 have c7b0 := beq_eq_false_iff_ne.mpr c7
 have c7b1 := bne_iff_ne.mpr c7
 by_cases c13 : (a0.size : Int) < (wrap64 (1 + (wrap64 (13 * (wrap64 ((wrap64 (bt a0 0)) - 1))))))
 ·rw [if_pos c13] at H
  have c13b0 := decide_eq_true c13
  clear c13
  simp only [Option.some.injEq,Prod.mk.injEq] at H
  obtain ⟨rfl,rfl,rfl,rfl,rfl,rfl,rfl,rfl⟩ := H
  go_enter Tryz.func33,Tryz.ntmps33
  go_wp2_with (first | ((with_reducible refine gate_dst (N := 2) rfl ?_);refine zbx (N := 2) (cs := #[.bool false,.int .i64 0,.int .i64 0,.int .i64 0,.int .i64 0,.string ⟨#[]⟩,.slice none 0 0]) (t := 55) ?_;intro gb132 hg w14 hbox hb;have BK132 := am_ (hbox);have GW132 := zw_ HB hg;have GE132 := zw_ HB hg;replace HB := zs_ HB hb;clear hb hbox hg;have p6 : 0 ≤ (0 : Int) := (by omega);have q6 : 0 < a0.size := (by have : (0 : Int) < (a0.size : Int) := zo_;omega);have hx6 : ∀ h : 0 < a0.size,((a0[0]'h).toNat : Int) = bt a0 0 := bt_at a0 0;clear p6;have qi6 : (0 < (a0.size : Int)) = True := eq_true (zo_);replace q6 := eq_true q6;obtain ⟨hcz15_0,hcz15_1,hcz15_2,hcz15_3,hcz15_4,hcz15_5,hcz15_6,hfz15_0,hfz15_1,hfz15_2,hfz15_3,hfz15_4,hfz15_5,hfz15_6⟩ := zc7 BK132))
  refine bodyPost_ret (results_ct rfl _ _ gb132 55 #[.bool false,.int .i64 0,.int .i64 0,.int .i64 0,.int .i64 0,.string ⟨#[]⟩,.slice none 0 0] (0,0) _ rfl (zq BK132) Tryz.underlying55 rfl (by kernel_rfl)) rfl ?_
  exact ⟨_,zt_,by first | exact Kd.R_nil _ _ _ _ _ | exact Kd.N_nil _ _ _ _ _ | exact Kd.V_nil _ _ _ _ _ | exact Kd.Q_nil _ _ _ _ _ | exact Kd.S_nil _ _ _ _ _,zl_ HB⟩
 rw [if_neg c13] at H
 have c13b0 := decide_eq_false c13
 clear c13
 obtain ⟨y136,hy136⟩ : ∃ y_ : List (S76),y_ = (([] : List (S76))) := ⟨_,rfl⟩
 replace H : (Zg.l0 k a0 (wrap64 (bt a0 0)) 0 false 0 0 0 0 (⟨#[]⟩ : ByteArray) y136) = some (r1,r2,r3,r4,r5,r6,r7,r8) := by first | (rw [hy136];with_reducible exact H) | (have H2_ := (Option.bind_some _ _).symm.trans H;rw [hy136];with_reducible exact H2_) | (have H2_ := (Option.bind_some _ _).symm.trans H;with_reducible exact H2_) | with_reducible exact H | (rw [hy136];exact H) | exact H
 have Ny136 := am_ hy136
 clear hy136
 have H' := am_ H
 clear H
 go_enter Tryz.func33,Tryz.ntmps33
 go_wp2_with (first | ((with_reducible refine gate_dst (N := 2) rfl ?_);refine zbx (N := 2) (cs := #[.bool false,.int .i64 0,.int .i64 0,.int .i64 0,.int .i64 0,.string ⟨#[]⟩,.slice none 0 0]) (t := 55) ?_;intro gb132 hg w16 hbox hb;have BK132 := am_ (hbox);have GW132 := zw_ HB hg;have GE132 := zw_ HB hg;replace HB := zs_ HB hb;clear hb hbox hg;have p6 : 0 ≤ (0 : Int) := (by omega);have q6 : 0 < a0.size := (by have : (0 : Int) < (a0.size : Int) := zo_;omega);have hx6 : ∀ h : 0 < a0.size,((a0[0]'h).toNat : Int) = bt a0 0 := bt_at a0 0;clear p6;have qi6 : (0 < (a0.size : Int)) = True := eq_true (zo_);replace q6 := eq_true q6) | ((with_reducible refine gate_dst (N := 31) rfl ?_);refine Kd.R_lit k76 _ 76 ?hg (N := 31) ?hd (xs := ([] : List (S76))) (inner := []) (ok := fun _ => True) (okp := fun _ => True) ?hr ?hp (fun _ hk => hk) trivial (Below.refl _ _) (Nat.le_refl _) (by simp) ?_;(case hd => rfl);(case hg => rfl);(case hr => first | (go_simp;done) | (go_simp;rfl));(case hp => exact (Reps.none _ _));intro v137 w17 ho18 hb hg_ hnew_;clear hg_ hnew_;(first | rw [← Ny136.out] at ho18 | (simp only [Int.reduceToNat] at ho18;rw [← Ny136.out] at ho18));have HO138 := am_ (Kd.R_lower ho18 (below_size (zl_ HB)));replace BK132 := zb BK132 hb;replace HB := zs_ HB hb;clear hb ho18;obtain ⟨Ao19,co19,eo19⟩ := Kd.R_slice HO138.out;subst eo19) | ((with_reducible refine gate_dst (N := 5) rfl ?_);refine zbx (N := 5) (cs := #[.bool false,.int .i64 0,.int .i64 0,.int .i64 0,.int .i64 0,.string ⟨#[]⟩,.slice none 0 0]) (t := 55) ?_;intro gb139 hg w20 hbox hb;replace HO138 := zrb HO138 hb;have BK139 := am_ (hbox);have GW139 := zw_ HB hg;have GE139 := zw_ HB hg;replace HB := zs_ HB hb;have NB132_139 := zl hg BK132;have NB139_132 := zg hg BK132;replace BK132 := zb BK132 hb;clear hb hbox hg;have hnb21 := NB139_132.out;have hnc21 := NB132_139.out;obtain ⟨hcz22_0,hcz22_1,hcz22_2,hcz22_3,hcz22_4,hcz22_5,hcz22_6,hfz22_0,hfz22_1,hfz22_2,hfz22_3,hfz22_4,hfz22_5,hfz22_6⟩ := zc7 BK139))
 go_loopg [6] k (fun kq v6 w' => ∃ (x6_1 : Int) (x140006_1 : List (S76)) (u140006 : Value),v6 = .int .i64 x6_1 ∧ Aside0 (Zg.l0 kq a0 (wrap64 (bt a0 0)) x6_1 false 0 0 0 0 (⟨#[]⟩ : ByteArray) x140006_1 = some (r1,r2,r3,r4,r5,r6,r7,r8)) ∧ Aside0 (kq ≤ k) ∧ Aside0 (Kd.R k76 76 w' w.heap.size (fun _ => True) u140006 x140006_1) ∧ Aside0 (w'.heap[gb132]? = some (.cells #[.bool false,.int .i64 0,.int .i64 0,.int .i64 0,.int .i64 0,.string ⟨#[]⟩,(.slice none 0 0)] 55 (0,0))) ∧ Aside0 (w'.heap[gb139]? = some (.cells #[.bool false,.int .i64 0,.int .i64 0,.int .i64 0,.int .i64 0,.string ⟨#[]⟩,u140006] 55 (0,0))) ∧ Aside0 (Below w.heap.size w w'))
 case atStart => exact ⟨(0),(y136),(.slice Ao19 y136.length co19),(by first | rfl | (simp;done) | (simp [*];done)),H',⟨Nat.le_refl _⟩,⟨by (with_reducible repeat (first | apply r1_ | apply r2_ | apply r3_));exact Kd.R_mono (zrf (Kd.R_types HO138.out BK139.out (by decide))) (fun _ hk => trivial)⟩,⟨zq BK132⟩,⟨zq BK139⟩,⟨zl_ HB⟩⟩
 case round =>
  clear H'
  try clear c1
  try clear c2
  try clear c2b0
  try clear c2b1
  try clear p2
  try clear c3
  try clear c5
  try clear c5b0
  try clear c5b1
  try clear p6
  try clear q6
  try clear hx6
  try clear qi6
  try clear c7
  try clear c7b0
  try clear c7b1
  try clear c13
  try clear c13b0
  try clear c21
  try clear hcz12_0
  try clear hcz12_1
  try clear hcz12_2
  try clear hcz12_3
  try clear hcz12_4
  try clear hcz12_5
  try clear hcz12_6
  try clear hcz15_0
  try clear hcz15_1
  try clear hcz15_2
  try clear hcz15_3
  try clear hcz15_4
  try clear hcz15_5
  try clear hcz15_6
  try clear hcz22_0
  try clear hcz22_1
  try clear hcz22_2
  try clear hcz22_3
  try clear hcz22_4
  try clear hcz22_5
  try clear hcz22_6
  try clear hcz4_0
  try clear hcz4_1
  try clear hcz4_2
  try clear hcz4_3
  try clear hcz4_4
  try clear hcz4_5
  try clear hcz4_6
  try clear hfz12_0
  try clear hfz12_1
  try clear hfz12_2
  try clear hfz12_3
  try clear hfz12_4
  try clear hfz12_5
  try clear hfz12_6
  try clear hfz15_0
  try clear hfz15_1
  try clear hfz15_2
  try clear hfz15_3
  try clear hfz15_4
  try clear hfz15_5
  try clear hfz15_6
  try clear hfz22_0
  try clear hfz22_1
  try clear hfz22_2
  try clear hfz22_3
  try clear hfz22_4
  try clear hfz22_5
  try clear hfz22_6
  try clear hfz4_0
  try clear hfz4_1
  try clear hfz4_2
  try clear hfz4_3
  try clear hfz4_4
  try clear hfz4_5
  try clear hfz4_6
  try clear p6
  try clear q6
  obtain ⟨x6_1,x140006_1,u140006,rfl,HA,HK1,HO_140006,BK132,BK139,HB⟩ := hrel
  cases gk with
  | zero => exact absurd HA.out (by simp [Zg.l0])
  | succ k1 =>
   have H := HA.out
   clear HA
   simp only [Zg.l0] at H
   by_cases c23 : x6_1 < (wrap64 ((wrap64 (bt a0 0)) - 1))
   ·rw [if_pos c23] at H
    have c23b0 := decide_eq_true c23
    clear c23
    obtain ⟨ji24,hji24⟩ : ∃ j_ : Int,(wrap64 (1 + (wrap64 (13 * x6_1)))) = j_ := ⟨_,rfl⟩
    replace H : (if 0 ≤ (ji24) then (if (ji24) ≤ (wrap64 (14 + (wrap64 (13 * x6_1)))) then (if (wrap64 (14 + (wrap64 (13 * x6_1)))) ≤ (a0.size : Int) then (if 0 < ((a0.extract ((ji24) : Int).toNat ((wrap64 (14 + (wrap64 (13 * x6_1)))) : Int).toNat).size : Int) then (if 1 ≤ 5 then (if 5 ≤ ((a0.extract ((ji24) : Int).toNat ((wrap64 (14 + (wrap64 (13 * x6_1)))) : Int).toNat).size : Int) then ((ZC.f k1 ((a0.extract ((ji24) : Int).toNat ((wrap64 (14 + (wrap64 (13 * x6_1)))) : Int).toNat).extract 1 5)).bind fun t140 => (if x140006_1.length < 4398046511104 then (Zg.l0 k1 a0 (wrap64 (bt a0 0)) (wrap64 (x6_1 + 1)) false 0 0 0 0 (⟨#[]⟩ : ByteArray) (x140006_1 ++ [(⟨wrap64 (bt (a0.extract ((ji24) : Int).toNat ((wrap64 (14 + (wrap64 (13 * x6_1)))) : Int).toNat) 0),t140,(a0.extract ((ji24) : Int).toNat ((wrap64 (14 + (wrap64 (13 * x6_1)))) : Int).toNat).extract 5 (((wrap64 (14 + (wrap64 (13 * x6_1)))) : Int).toNat - ((ji24) : Int).toNat)⟩ : S76)])) else (none))) else (none)) else (none)) else (none)) else (none)) else (none)) else (none)) = some (r1,r2,r3,r4,r5,r6,r7,r8) := by first | (rw [hji24] at H;exact H) | (simp only [hji24] at H ⊢;exact H)
    have hji24w : (IntKind.i64.wrap (1 + (wrap64 (13 * x6_1)))) = ji24 := (i64_w _).trans hji24
    by_cases c25 : 0 ≤ (ji24)
    case neg =>
     rw [if_neg c25] at H
     exact absurd H (by simp)
    rw [if_pos c25] at H
    have c25b0 := eq_true c25
    have c25b1 := decide_eq_true c25
    clear c25
    by_cases c26 : (ji24) ≤ (wrap64 (14 + (wrap64 (13 * x6_1))))
    case neg =>
     rw [if_neg c26] at H
     exact absurd H (by simp)
    rw [if_pos c26] at H
    have c26b0 := eq_true c26
    have c26b1 := decide_eq_true c26
    by_cases c27 : (wrap64 (14 + (wrap64 (13 * x6_1)))) ≤ (a0.size : Int)
    case neg =>
     rw [if_neg c27] at H
     exact absurd H (by simp)
    rw [if_pos c27] at H
    have c27b0 := eq_true c27
    have c27b1 := decide_eq_true c27
    by_cases c28 : 0 < ((a0.extract ((ji24) : Int).toNat ((wrap64 (14 + (wrap64 (13 * x6_1)))) : Int).toNat).size : Int)
    case neg =>
     rw [if_neg c28] at H
     exact absurd H (by simp)
    rw [if_pos c28] at H
    have c28b0 := decide_eq_true c28
    (try (have c28x0 := c28b0;simp only [ByteArray.size_extract] at c28x0;rw [Nat.min_eq_left (by first | omega | (have h_ := o1_ (by first | (with_reducible assumption) | assumption : decide ((wrap64 (14 + (wrap64 (13 * x6_1)))) ≤ (a0.size : Int)) = true);omega))] at c28x0))
    (try (have c28y0 := eq_true (o1_ c28x0)))
    have c28b1 : decide (0 < (a0.extract ((ji24) : Int).toNat ((wrap64 (14 + (wrap64 (13 * x6_1)))) : Int).toNat).size) = true := decide_eq_true (by omega)
    (try (have c28x1 := c28b1;simp only [ByteArray.size_extract] at c28x1;rw [Nat.min_eq_left (by first | omega | (have h_ := o1_ (by first | (with_reducible assumption) | assumption : decide ((wrap64 (14 + (wrap64 (13 * x6_1)))) ≤ (a0.size : Int)) = true);omega))] at c28x1))
    (try (have c28y1 := eq_true (o1_ c28x1)))
    clear c28
    by_cases c30 : 1 ≤ 5
    case neg =>
     rw [if_neg c30] at H
     exact absurd H (by simp)
    rw [if_pos c30] at H
    have c30b0 := eq_true c30
    have c30b1 := decide_eq_true c30
    clear c30
    by_cases c31 : 5 ≤ ((a0.extract ((ji24) : Int).toNat ((wrap64 (14 + (wrap64 (13 * x6_1)))) : Int).toNat).size : Int)
    case neg =>
     rw [if_neg c31] at H
     exact absurd H (by simp)
    rw [if_pos c31] at H
    have c31b0 := eq_true c31
    (try (have c31x0 := c31b0;simp only [ByteArray.size_extract] at c31x0;rw [Nat.min_eq_left (by first | omega | (have h_ := o1_ (by first | (with_reducible assumption) | assumption : decide ((wrap64 (14 + (wrap64 (13 * x6_1)))) ≤ (a0.size : Int)) = true);omega))] at c31x0))
    (try (have c31y0 := eq_true (o1_ c31x0)))
    have c31b1 := decide_eq_true c31
    (try (have c31x1 := c31b1;simp only [ByteArray.size_extract] at c31x1;rw [Nat.min_eq_left (by first | omega | (have h_ := o1_ (by first | (with_reducible assumption) | assumption : decide ((wrap64 (14 + (wrap64 (13 * x6_1)))) ≤ (a0.size : Int)) = true);omega))] at c31x1))
    (try (have c31y1 := eq_true (o1_ c31x1)))
    replace H := Option.bind_eq_some_iff.mp H
    obtain ⟨t140,A320,H⟩ := H
    try dsimp only at H
    have A32 := am_ A320
    clear A320
    have c33b0 := eq_true (zo_ : 5 ≤ ((a0.extract ((ji24) : Int).toNat ((wrap64 (14 + (wrap64 (13 * x6_1)))) : Int).toNat).size : Int))
    (try (have c33x0 := c33b0;simp only [ByteArray.size_extract] at c33x0;rw [Nat.min_eq_left (by first | omega | (have h_ := o1_ (by first | (with_reducible assumption) | assumption : decide ((wrap64 (14 + (wrap64 (13 * x6_1)))) ≤ (a0.size : Int)) = true);omega))] at c33x0))
    (try (have c33y0 := eq_true (o1_ c33x0)))
    by_cases c34 : x140006_1.length < 4398046511104
    case neg =>
     rw [if_neg c34] at H
     exact absurd H (by simp)
    rw [if_pos c34] at H
    have LMc34 := am_ c34
    clear c34
    obtain ⟨y141,hy141⟩ : ∃ y_ : List (S76),y_ = (x140006_1 ++ [(⟨wrap64 (bt (a0.extract ((ji24) : Int).toNat ((wrap64 (14 + (wrap64 (13 * x6_1)))) : Int).toNat) 0),t140,(a0.extract ((ji24) : Int).toNat ((wrap64 (14 + (wrap64 (13 * x6_1)))) : Int).toNat).extract 5 (((wrap64 (14 + (wrap64 (13 * x6_1)))) : Int).toNat - ((ji24) : Int).toNat)⟩ : S76)]) := ⟨_,rfl⟩
    replace H : (Zg.l0 k1 a0 (wrap64 (bt a0 0)) (wrap64 (x6_1 + 1)) false 0 0 0 0 (⟨#[]⟩ : ByteArray) y141) = some (r1,r2,r3,r4,r5,r6,r7,r8) := by first | (rw [hy141];with_reducible exact H) | (have H2_ := (Option.bind_some _ _).symm.trans H;rw [hy141];with_reducible exact H2_) | (have H2_ := (Option.bind_some _ _).symm.trans H;with_reducible exact H2_) | with_reducible exact H | (rw [hy141];exact H) | exact H
    have Ny141 := am_ hy141
    clear hy141
    have H' := am_ H
    clear H
    try go_wp2
    replace HO_140006 := am_ (Kd.R_drew HO_140006.out)
    replace BK132 := am_ (blk_drew BK132.out)
    replace BK139 := am_ (blk_drew BK139.out)
    replace HB := am_ (below_drew1 HB.out)
    have p29 : 0 ≤ (0 : Int) := (by omega)
    have q29 : 0 < (a0.extract ((ji24) : Int).toNat ((wrap64 (14 + (wrap64 (13 * x6_1)))) : Int).toNat).size := (by have : (0 : Int) < ((a0.extract ((ji24) : Int).toNat ((wrap64 (14 + (wrap64 (13 * x6_1)))) : Int).toNat).size : Int) := zo_;omega)
    have hx29 : ∀ h : 0 < (a0.extract ((ji24) : Int).toNat ((wrap64 (14 + (wrap64 (13 * x6_1)))) : Int).toNat).size,(((a0.extract ((ji24) : Int).toNat ((wrap64 (14 + (wrap64 (13 * x6_1)))) : Int).toNat)[0]'h).toNat : Int) = bt (a0.extract ((ji24) : Int).toNat ((wrap64 (14 + (wrap64 (13 * x6_1)))) : Int).toNat) 0 := bt_at (a0.extract ((ji24) : Int).toNat ((wrap64 (14 + (wrap64 (13 * x6_1)))) : Int).toNat) 0
    clear p29
    have qi29 : (0 < ((a0.extract ((ji24) : Int).toNat ((wrap64 (14 + (wrap64 (13 * x6_1)))) : Int).toNat).size : Int)) = True := eq_true (zo_)
    replace q29 := eq_true q29
    refine start_ (n := 15) (S := fun w' => w'.cell? ⟨gb139,0,none⟩ = some (.bool false) ∧ w'.cell? ⟨gb139,1,none⟩ = some (.int .i64 0) ∧ w'.cell? ⟨gb139,2,none⟩ = some (.int .i64 0) ∧ w'.cell? ⟨gb139,3,none⟩ = some (.int .i64 0) ∧ w'.cell? ⟨gb139,4,none⟩ = some (.int .i64 0) ∧ w'.cell? ⟨gb139,5,none⟩ = some (.string ⟨#[]⟩) ∧ w'.cell? ⟨gb139,6,none⟩ = some (u140006)) (ds := [14]) #[false,false,false,false,false,false,false,false,false,false,false,false,false,false,false] (by kernel_rfl) rfl rfl ⟨(blk_cell BK139.out 0).trans rfl,(blk_cell BK139.out 1).trans rfl,(blk_cell BK139.out 2).trans rfl,(blk_cell BK139.out 3).trans rfl,(blk_cell BK139.out 4).trans rfl,(blk_cell BK139.out 5).trans rfl,(blk_cell BK139.out 6).trans rfl⟩ (fun hHeld => ?_);refine with_tabW Zg.tab13 Zg.bits13 (fun HT_ HW_ => ?_)
    generalize wr.drew = w35 at HO_140006 BK132 BK139 HB hHeld ⊢
    refine pu_ 0 47 HT_ ?_
    refine pu_ 2 49 HT_ ?_
    refine pu_ 5 52 HT_ ?_
    refine pu_ 6 53 HT_ ?_
    refine pu_ 8 55 HT_ ?_
    refine pu_ 9 56 HT_ ?_
    refine tk_ 1 48 HT_ HW_ hHeld ?_
    refine tk_ 3 50 HT_ HW_ hHeld ?_
    refine pu_ 4 51 HT_ ?_
    refine zon 7 (N := some 54) HT_ (fun K hK => ?_)
    refine goes_ Tryz.func46 (by kernel_rfl) rfl #[.string ((a0.extract ((ji24) : Int).toNat ((wrap64 (14 + (wrap64 (13 * x6_1)))) : Int).toNat).extract 1 5)] (by rfl) rfl rfl (by (try simp only [m1_,m2_,m3_]);first | done | (simp only [hji24];rfl) | rfl | (simp only [d1_,d2_];rfl)) ?_
    with_reducible refine (ZC.calls k1 ((a0.extract ((ji24) : Int).toNat ((wrap64 (14 + (wrap64 (13 * x6_1)))) : Int).toNat).extract 1 5) t140 _ A32.out).mono ?_
    rintro e w' ⟨rfl,⟨nd,rfl⟩⟩
    refine ⟨_,rfl,?_⟩
    refine hK.out _ _ ⟨(blk_cell BK139.out 0).trans rfl,(blk_cell BK139.out 1).trans rfl,(blk_cell BK139.out 2).trans rfl,(blk_cell BK139.out 3).trans rfl,(blk_cell BK139.out 4).trans rfl,(blk_cell BK139.out 5).trans rfl,(blk_cell BK139.out 6).trans rfl⟩ (fun hHeld => ?_)
    clear hK K
    refine nm_ ?_
    refine pu_ 10 57 HT_ ?_
    refine zon 11 (N := some 58) HT_ (fun K hK => ?_)
    refine value_ (w1 := ?_) (v := ?_) (by rfl) rfl ?_ ?_
    rotate_left 2
    ·go_simp
     constructor
     ·rfl
     ·rfl
    refine hK.out _ _ ⟨(blk_cell (blk_alloc BK139.out _) 0).trans rfl,(blk_cell (blk_alloc BK139.out _) 1).trans rfl,(blk_cell (blk_alloc BK139.out _) 2).trans rfl,(blk_cell (blk_alloc BK139.out _) 3).trans rfl,(blk_cell (blk_alloc BK139.out _) 4).trans rfl,(blk_cell (blk_alloc BK139.out _) 5).trans rfl,(blk_cell (blk_alloc BK139.out _) 6).trans rfl⟩ (fun hHeld => ?_)
    clear hK K
    refine nm_ ?_
    refine zon 12 (N := some 59) HT_ (fun K hK => ?_)
    refine Kd.R_append_step k76 (w0 := w) w.heap.size (by rfl) (.tmp 48) (.tmp 58) 53 76 (.agg #[(.int .i64 0),(.int .i64 0),(.string ⟨#[]⟩)]) 32 rfl Tryz.underlying53 info76 rfl (by decide) (by omega) u140006 x140006_1 (⟨wrap64 (bt (a0.extract ((ji24) : Int).toNat ((wrap64 (14 + (wrap64 (13 * x6_1)))) : Int).toNat) 0),t140,(a0.extract ((ji24) : Int).toNat ((wrap64 (14 + (wrap64 (13 * x6_1)))) : Int).toNat).extract 5 (((wrap64 (14 + (wrap64 (13 * x6_1)))) : Int).toNat - ((ji24) : Int).toNat)⟩ : S76) [.int .i64 (wrap64 (bt (a0.extract ((ji24) : Int).toNat ((wrap64 (14 + (wrap64 (13 * x6_1)))) : Int).toNat) 0)),.int .i64 t140,.string ((a0.extract ((ji24) : Int).toNat ((wrap64 (14 + (wrap64 (13 * x6_1)))) : Int).toNat).extract 5 (((wrap64 (14 + (wrap64 (13 * x6_1)))) : Int).toNat - ((ji24) : Int).toNat))] (fun _ => True) (fun _ => False) rfl rfl ?aP (fun _ hk => hk.elim) ?aF ?aO ?aB ?aS ?aL ?_
    (case aP => exact k76_mkM _ _ _ (⟨wrap64 (bt (a0.extract ((ji24) : Int).toNat ((wrap64 (14 + (wrap64 (13 * x6_1)))) : Int).toNat) 0),t140,(a0.extract ((ji24) : Int).toNat ((wrap64 (14 + (wrap64 (13 * x6_1)))) : Int).toNat).extract 5 (((wrap64 (14 + (wrap64 (13 * x6_1)))) : Int).toNat - ((ji24) : Int).toNat)⟩ : S76))
    (case aB => exact (zl_ HB))
    (case aF => exact (fun _ _ => trivial))
    (case aO => exact (zr HO_140006))
    (case aS => exact (below_size (zl_ HB)))
    (case aL => have := LMc34.out;omega)
    intro v142 w36 ho hb hg hat
    rw [← Ny141.out] at ho
    replace BK132 := am_ (blk_grown (g := gb132) (o := .cells #[.bool false,.int .i64 0,.int .i64 0,.int .i64 0,.int .i64 0,.string ⟨#[]⟩,.slice none 0 0] 55 (0,0)) (zk BK132) hg (Kd.R_ne HO_140006.out BK132.out (by decide)))
    replace BK139 := am_ (blk_grown (g := gb139) (o := .cells #[.bool false,.int .i64 0,.int .i64 0,.int .i64 0,.int .i64 0,.string ⟨#[]⟩,u140006] 55 (0,0)) (zk BK139) hg (Kd.R_ne HO_140006.out BK139.out (by decide)))
    replace HB := am_ (hb)
    have HO143 := am_ (ho)
    clear HO_140006
    clear ho hb hg hat
    obtain ⟨Ao37,co37,eo37⟩ := Kd.R_slice HO143.out
    (first | subst eo37 | (injection eo37 with f1_ f2_ f3_;have f4_ := f1_.symm;have f5_ := f3_.symm;clear f1_ f2_ f3_;subst f4_;subst f5_))
    refine hK.out _ _ ⟨(blk_cell BK139.out 0).trans rfl,(blk_cell BK139.out 1).trans rfl,(blk_cell BK139.out 2).trans rfl,(blk_cell BK139.out 3).trans rfl,(blk_cell BK139.out 4).trans rfl,(blk_cell BK139.out 5).trans rfl,(blk_cell BK139.out 6).trans rfl⟩ (fun hHeld => ?_)
    clear hK K
    refine nm_ ?_
    refine pu_ 13 60 HT_ ?_
    refine last_ (i := 14) (N := none) #[true,true,true,true,true,true,true,true,true,true,true,true,true,true,true] rfl rfl (one_of HT_.out (by kernel_rfl)) (by decide) (fun K hK => ?_)
    have hs38 : w36.cell? ⟨gb139,6,none⟩ = some (u140006) := (blk_cell BK139.out 6).trans rfl
    have hfs38 := blk_frozen BK139.out 6
    have hns38_0 := NB132_139.out
    have hms38_0 := NB139_132.out
    refine skip_ (w1 := ?_) (by rfl) rfl ?_ ?_
    rotate_left
    ·go_simp
     rfl
    refine hK.out _ _ ?_
    clear hK K
    refine done_ (done_of HT_.out (by kernel_rfl)) ?_
    try go_wp2
    go_roundg k1
    case measure => have := HK1.out;omega
    case rel => exact ⟨(wrap64 (x6_1 + 1)),(y141),(.slice Ao37 y141.length co37),(by first | rfl | (simp;done) | (simp [*];done)),H',⟨by have := HK1.out;omega⟩,⟨by (with_reducible repeat (first | apply r1_ | apply r2_ | apply r3_));exact Kd.R_mono (zrf (Kd.R_types HO143.out BK139.out (by decide))) (fun _ hk => trivial)⟩,⟨zq BK132⟩,⟨zq BK139⟩,⟨zl_ HB⟩⟩
   rw [if_neg c23] at H
   have c23b0 := decide_eq_false c23
   clear c23
   obtain ⟨ji39,hji39⟩ : ∃ j_ : Int,(wrap64 (1 + (wrap64 (13 * (wrap64 ((wrap64 (bt a0 0)) - 1)))))) = j_ := ⟨_,rfl⟩
   replace H : (if 0 ≤ (ji39) then (if (ji39) ≤ (a0.size : Int) then ((Zl.f k1 (a0.extract ((ji39) : Int).toNat a0.size)).bind fun bt144 => (if bt144.2.2.2.2.2 = true then ((Ze.f k1 false bt144.1 bt144.2.1 bt144.2.2.1 bt144.2.2.2.1 bt144.2.2.2.2.1 x140006_1).bind fun t151 => (some (false,bt144.1,bt144.2.1,bt144.2.2.1,bt144.2.2.2.1,bt144.2.2.2.2.1,x140006_1,t151))) else (some (false,bt144.1,bt144.2.1,bt144.2.2.1,bt144.2.2.2.1,bt144.2.2.2.2.1,x140006_1,false)))) else (none)) else (none)) = some (r1,r2,r3,r4,r5,r6,r7,r8) := by first | (rw [hji39] at H;exact H) | (simp only [hji39] at H ⊢;exact H)
   (try rw [hji39] at c13b0)
   have hji39w : (IntKind.i64.wrap (1 + (wrap64 (13 * (wrap64 ((wrap64 (bt a0 0)) - 1)))))) = ji39 := (i64_w _).trans hji39
   by_cases c40 : 0 ≤ (ji39)
   case neg =>
    rw [if_neg c40] at H
    exact absurd H (by simp)
   rw [if_pos c40] at H
   have c40b0 := eq_true c40
   have c40b1 := decide_eq_true c40
   clear c40
   by_cases c41 : (ji39) ≤ (a0.size : Int)
   case neg =>
    rw [if_neg c41] at H
    exact absurd H (by simp)
   rw [if_pos c41] at H
   have c41b0 := eq_true c41
   have c41b1 := decide_eq_true c41
   clear c41
   replace H := Option.bind_eq_some_iff.mp H
   obtain ⟨⟨t144,t145,t146,t147,t148,t149⟩,A420,H⟩ := H
   try dsimp only at H
   have A42 := am_ A420
   clear A420
   try go_wp2_with (first | ((with_reducible refine gate_callee (f := 47) rfl ?_);refine goesL_ (some 68) rfl rfl Tryz.func47 (by kernel_rfl) rfl #[.string (a0.extract ((ji39) : Int).toNat a0.size)] rfl (by (try simp only [m1_,m2_,m3_]);first | done | (simp only [hji39];rfl) | rfl | (simp only [d1_,d2_];rfl)) ?_;(with_reducible refine (Zl.calls k1 (a0.extract ((ji39) : Int).toNat a0.size) t144 t145 t146 t147 t148 t149 _ A42.out).mono ?_);rintro e w45 ⟨rfl,hb⟩;refine ⟨_,rfl,?_⟩;replace HO_140006 := zrb HO_140006 hb;replace BK132 := zb BK132 hb;replace BK139 := zb BK139 hb;replace HB := zs_ HB hb;(try clear hb);(try clear hi)) | ((with_reducible refine gate_dst (N := 8) rfl ?_);refine zbx (N := 8) (cs := #[.int .i64 0,.int .i64 0,.int .i64 0,.int .i64 0,.string ⟨#[]⟩]) (t := 52) ?_;intro gb150 hg w46 hbox hb;replace HO_140006 := zrb HO_140006 hb;have BK150 := am_ (hbox);have GW150 := zw_ HB hg;have GE150 := zw_ HB hg;replace HB := zs_ HB hb;have NB132_150 := zl hg BK132;have NB150_132 := zg hg BK132;replace BK132 := zb BK132 hb;have NB139_150 := zl hg BK139;have NB150_139 := zg hg BK139;replace BK139 := zb BK139 hb;clear hb hbox hg;have hnb47 := NB150_132.out;have hnc47 := NB132_150.out;have hnb48 := NB150_139.out;have hnc48 := NB139_150.out;obtain ⟨hcz49_0,hcz49_1,hcz49_2,hcz49_3,hcz49_4,hfz49_0,hfz49_1,hfz49_2,hfz49_3,hfz49_4⟩ := zc5 BK150;have hnb50 := NB139_132.out;have hnc50 := NB132_139.out;obtain ⟨hcz51_0,hcz51_1,hcz51_2,hcz51_3,hcz51_4,hcz51_5,hcz51_6,hfz51_0,hfz51_1,hfz51_2,hfz51_3,hfz51_4,hfz51_5,hfz51_6⟩ := zc7 BK139))
   have n0_ : Aside0 (Kd.R k76 76 ((((((((((w46.setCell ⟨gb150,0,none⟩ (.int .i64 t144)).setCell ⟨gb150,1,none⟩ (.int .i64 t145)).setCell ⟨gb150,2,none⟩ (.int .i64 t146)).setCell ⟨gb150,3,none⟩ (.int .i64 t147)).setCell ⟨gb150,4,none⟩ (.string t148)).setCell ⟨gb139,1,none⟩ (.int .i64 t144)).setCell ⟨gb139,2,none⟩ (.int .i64 t145)).setCell ⟨gb139,3,none⟩ (.int .i64 t146)).setCell ⟨gb139,4,none⟩ (.int .i64 t147)).setCell ⟨gb139,5,none⟩ (.string t148)) w.heap.size (fun _ => True) u140006 x140006_1) := ⟨by (with_reducible repeat (first | apply r1_ | apply r2_ | apply r3_));exact Kd.R_mono (Kd.Rf (Kd.Rf (Kd.Rf (Kd.Rf (Kd.Rf (Kd.R_far (p := ⟨gb150,4,none⟩) (Kd.R_far (p := ⟨gb150,3,none⟩) (Kd.R_far (p := ⟨gb150,2,none⟩) (Kd.R_far (p := ⟨gb150,1,none⟩) (Kd.R_far (p := ⟨gb150,0,none⟩) (Kd.R_types (Kd.R_types HO_140006.out BK150.out (by decide)) BK139.out (by decide)) (fun _ hk => hk.1.2) (.int .i64 t144)) (fun _ hk => hk.1.2) (.int .i64 t145)) (fun _ hk => hk.1.2) (.int .i64 t146)) (fun _ hk => hk.1.2) (.int .i64 t147)) (fun _ hk => hk.1.2) (.string t148))))))) (fun _ hk => trivial)⟩
   have n1_ : Aside0 (((((((((((w46.setCell ⟨gb150,0,none⟩ (.int .i64 t144)).setCell ⟨gb150,1,none⟩ (.int .i64 t145)).setCell ⟨gb150,2,none⟩ (.int .i64 t146)).setCell ⟨gb150,3,none⟩ (.int .i64 t147)).setCell ⟨gb150,4,none⟩ (.string t148)).setCell ⟨gb139,1,none⟩ (.int .i64 t144)).setCell ⟨gb139,2,none⟩ (.int .i64 t145)).setCell ⟨gb139,3,none⟩ (.int .i64 t146)).setCell ⟨gb139,4,none⟩ (.int .i64 t147)).setCell ⟨gb139,5,none⟩ (.string t148)).heap[gb132]? = some (.cells #[.bool false,.int .i64 0,.int .i64 0,.int .i64 0,.int .i64 0,.string ⟨#[]⟩,.slice none 0 0] 55 (0,0))) := ⟨zq BK132⟩
   have n2_ : Aside0 (((((((((((w46.setCell ⟨gb150,0,none⟩ (.int .i64 t144)).setCell ⟨gb150,1,none⟩ (.int .i64 t145)).setCell ⟨gb150,2,none⟩ (.int .i64 t146)).setCell ⟨gb150,3,none⟩ (.int .i64 t147)).setCell ⟨gb150,4,none⟩ (.string t148)).setCell ⟨gb139,1,none⟩ (.int .i64 t144)).setCell ⟨gb139,2,none⟩ (.int .i64 t145)).setCell ⟨gb139,3,none⟩ (.int .i64 t146)).setCell ⟨gb139,4,none⟩ (.int .i64 t147)).setCell ⟨gb139,5,none⟩ (.string t148)).heap[gb139]? = some (.cells #[.bool false,.int .i64 t144,.int .i64 t145,.int .i64 t146,.int .i64 t147,.string t148,u140006] 55 (0,0))) := ⟨zq BK139⟩
   have n3_ : Aside0 (((((((((((w46.setCell ⟨gb150,0,none⟩ (.int .i64 t144)).setCell ⟨gb150,1,none⟩ (.int .i64 t145)).setCell ⟨gb150,2,none⟩ (.int .i64 t146)).setCell ⟨gb150,3,none⟩ (.int .i64 t147)).setCell ⟨gb150,4,none⟩ (.string t148)).setCell ⟨gb139,1,none⟩ (.int .i64 t144)).setCell ⟨gb139,2,none⟩ (.int .i64 t145)).setCell ⟨gb139,3,none⟩ (.int .i64 t146)).setCell ⟨gb139,4,none⟩ (.int .i64 t147)).setCell ⟨gb139,5,none⟩ (.string t148)).heap[gb150]? = some (.cells #[.int .i64 t144,.int .i64 t145,.int .i64 t146,.int .i64 t147,.string t148] 52 (0,0))) := ⟨zq BK150⟩
   have n4_ : Aside0 (Below w.heap.size w ((((((((((w46.setCell ⟨gb150,0,none⟩ (.int .i64 t144)).setCell ⟨gb150,1,none⟩ (.int .i64 t145)).setCell ⟨gb150,2,none⟩ (.int .i64 t146)).setCell ⟨gb150,3,none⟩ (.int .i64 t147)).setCell ⟨gb150,4,none⟩ (.string t148)).setCell ⟨gb139,1,none⟩ (.int .i64 t144)).setCell ⟨gb139,2,none⟩ (.int .i64 t145)).setCell ⟨gb139,3,none⟩ (.int .i64 t146)).setCell ⟨gb139,4,none⟩ (.int .i64 t147)).setCell ⟨gb139,5,none⟩ (.string t148))) := ⟨zl_ HB⟩
   (try clear HO_140006)
   (try clear BK132)
   (try clear BK139)
   (try clear BK150)
   (try clear HB)
   generalize ((((((((((w46.setCell ⟨gb150,0,none⟩ (.int .i64 t144)).setCell ⟨gb150,1,none⟩ (.int .i64 t145)).setCell ⟨gb150,2,none⟩ (.int .i64 t146)).setCell ⟨gb150,3,none⟩ (.int .i64 t147)).setCell ⟨gb150,4,none⟩ (.string t148)).setCell ⟨gb139,1,none⟩ (.int .i64 t144)).setCell ⟨gb139,2,none⟩ (.int .i64 t145)).setCell ⟨gb139,3,none⟩ (.int .i64 t146)).setCell ⟨gb139,4,none⟩ (.int .i64 t147)).setCell ⟨gb139,5,none⟩ (.string t148)) = w52 at n0_ n1_ n2_ n3_ n4_ ⊢
   have HO_140006 := n0_
   have BK132 := n1_
   have BK139 := n2_
   have BK150 := n3_
   have HB := n4_
   clear n0_ n1_ n2_ n3_ n4_
   replace HO_140006 := am_ (Kd.R_drew HO_140006.out)
   replace BK132 := am_ (blk_drew BK132.out)
   replace BK139 := am_ (blk_drew BK139.out)
   replace BK150 := am_ (blk_drew BK150.out)
   replace HB := am_ (below_drew1 HB.out)
   obtain ⟨Ao54,co54,eo54⟩ := Kd.R_slice HO_140006.out
   (first | subst eo54 | (injection eo54 with f1_ f2_ f3_;have f4_ := f1_.symm;have f5_ := f3_.symm;clear f1_ f2_ f3_;subst f4_;subst f5_))
   refine start_ (n := 8) (S := fun w' => w'.cell? ⟨gb139,0,none⟩ = some (.bool false) ∧ w'.cell? ⟨gb139,1,none⟩ = some (.int .i64 t144) ∧ w'.cell? ⟨gb139,2,none⟩ = some (.int .i64 t145) ∧ w'.cell? ⟨gb139,3,none⟩ = some (.int .i64 t146) ∧ w'.cell? ⟨gb139,4,none⟩ = some (.int .i64 t147) ∧ w'.cell? ⟨gb139,5,none⟩ = some (.string t148) ∧ w'.cell? ⟨gb139,6,none⟩ = some (.slice Ao54 x140006_1.length co54)) (ds := []) #[false,false,false,false,false,false,false,false] (by kernel_rfl) rfl rfl ⟨(blk_cell BK139.out 0).trans rfl,(blk_cell BK139.out 1).trans rfl,(blk_cell BK139.out 2).trans rfl,(blk_cell BK139.out 3).trans rfl,(blk_cell BK139.out 4).trans rfl,(blk_cell BK139.out 5).trans rfl,(blk_cell BK139.out 6).trans rfl⟩ (fun hHeld => ?_);refine with_tabW Zg.tab16 Zg.bits16 (fun HT_ HW_ => ?_)
   generalize w52.drew = w53 at HO_140006 BK132 BK139 BK150 HB hHeld ⊢
   by_cases c43 : t149 = true
   case neg =>
    replace c43 := Bool.eq_false_iff.mpr c43
    subst c43
    rw [if_neg (show ¬ (false = true) by decide)] at H
    simp only [Option.some.injEq,Prod.mk.injEq] at H
    obtain ⟨rfl,rfl,rfl,rfl,rfl,rfl,rfl,rfl⟩ := H
    refine pu_ 1 74 HT_ ?_
    refine pu_ 2 75 HT_ ?_
    refine px_ 3 76 HT_ ?_
    refine px_ 4 77 HT_ ?_
    refine pu_ 5 78 HT_ ?_
    refine tk_ 0 73 HT_ HW_ hHeld ?_
    refine zon 6 (N := none) HT_ (fun K hK => ?_)
    have hs72 : w53.cell? ⟨gb132,0,none⟩ = some (.bool false) := (blk_cell BK132.out 0).trans rfl
    have hfs72 := blk_frozen BK132.out 0
    have hns72_1 := NB139_132.out
    have hns72_2 := NB150_132.out
    have hms72_1 := NB132_139.out
    have hms72_2 := NB132_150.out
    have hs73 : w53.cell? ⟨gb132,1,none⟩ = some (.int .i64 0) := (blk_cell BK132.out 1).trans rfl
    have hfs73 := blk_frozen BK132.out 1
    have hns73_1 := NB139_132.out
    have hns73_2 := NB150_132.out
    have hms73_1 := NB132_139.out
    have hms73_2 := NB132_150.out
    have hs74 : w53.cell? ⟨gb132,2,none⟩ = some (.int .i64 0) := (blk_cell BK132.out 2).trans rfl
    have hfs74 := blk_frozen BK132.out 2
    have hns74_1 := NB139_132.out
    have hns74_2 := NB150_132.out
    have hms74_1 := NB132_139.out
    have hms74_2 := NB132_150.out
    have hs75 : w53.cell? ⟨gb132,3,none⟩ = some (.int .i64 0) := (blk_cell BK132.out 3).trans rfl
    have hfs75 := blk_frozen BK132.out 3
    have hns75_1 := NB139_132.out
    have hns75_2 := NB150_132.out
    have hms75_1 := NB132_139.out
    have hms75_2 := NB132_150.out
    have hs76 : w53.cell? ⟨gb132,4,none⟩ = some (.int .i64 0) := (blk_cell BK132.out 4).trans rfl
    have hfs76 := blk_frozen BK132.out 4
    have hns76_1 := NB139_132.out
    have hns76_2 := NB150_132.out
    have hms76_1 := NB132_139.out
    have hms76_2 := NB132_150.out
    have hs77 : w53.cell? ⟨gb132,5,none⟩ = some (.string ⟨#[]⟩) := (blk_cell BK132.out 5).trans rfl
    have hfs77 := blk_frozen BK132.out 5
    have hns77_1 := NB139_132.out
    have hns77_2 := NB150_132.out
    have hms77_1 := NB132_139.out
    have hms77_2 := NB132_150.out
    have hs79 : w53.cell? ⟨gb132,6,none⟩ = some (.slice none 0 0) := (blk_cell BK132.out 6).trans rfl
    have hfs79 := blk_frozen BK132.out 6
    have hns79_1 := NB139_132.out
    have hns79_2 := NB150_132.out
    have hms79_1 := NB132_139.out
    have hms79_2 := NB132_150.out
    refine skip_ (w1 := ?_) (by rfl) rfl ?_ ?_
    rotate_left
    ·go_simp
     rfl
    refine hK.out _ _ ⟨((cell_far (p := ⟨gb132,_,none⟩) NB139_132.out _).trans (((cell_far (p := ⟨gb132,_,none⟩) NB139_132.out _).trans (((cell_far (p := ⟨gb132,_,none⟩) NB139_132.out _).trans (((cell_far (p := ⟨gb132,_,none⟩) NB139_132.out _).trans (((cell_far (p := ⟨gb132,_,none⟩) NB139_132.out _).trans (((cell_far (p := ⟨gb132,_,none⟩) NB139_132.out _).trans (((cell_far (p := ⟨gb132,_,none⟩) NB139_132.out _).trans (hHeld.1)))))))))))))),((cell_far (p := ⟨gb132,_,none⟩) NB139_132.out _).trans (((cell_far (p := ⟨gb132,_,none⟩) NB139_132.out _).trans (((cell_far (p := ⟨gb132,_,none⟩) NB139_132.out _).trans (((cell_far (p := ⟨gb132,_,none⟩) NB139_132.out _).trans (((cell_far (p := ⟨gb132,_,none⟩) NB139_132.out _).trans (((cell_far (p := ⟨gb132,_,none⟩) NB139_132.out _).trans (((cell_far (p := ⟨gb132,_,none⟩) NB139_132.out _).trans (hHeld.2.1)))))))))))))),((cell_far (p := ⟨gb132,_,none⟩) NB139_132.out _).trans (((cell_far (p := ⟨gb132,_,none⟩) NB139_132.out _).trans (((cell_far (p := ⟨gb132,_,none⟩) NB139_132.out _).trans (((cell_far (p := ⟨gb132,_,none⟩) NB139_132.out _).trans (((cell_far (p := ⟨gb132,_,none⟩) NB139_132.out _).trans (((cell_far (p := ⟨gb132,_,none⟩) NB139_132.out _).trans (((cell_far (p := ⟨gb132,_,none⟩) NB139_132.out _).trans (hHeld.2.2.1)))))))))))))),((cell_far (p := ⟨gb132,_,none⟩) NB139_132.out _).trans (((cell_far (p := ⟨gb132,_,none⟩) NB139_132.out _).trans (((cell_far (p := ⟨gb132,_,none⟩) NB139_132.out _).trans (((cell_far (p := ⟨gb132,_,none⟩) NB139_132.out _).trans (((cell_far (p := ⟨gb132,_,none⟩) NB139_132.out _).trans (((cell_far (p := ⟨gb132,_,none⟩) NB139_132.out _).trans (((cell_far (p := ⟨gb132,_,none⟩) NB139_132.out _).trans (hHeld.2.2.2.1)))))))))))))),((cell_far (p := ⟨gb132,_,none⟩) NB139_132.out _).trans (((cell_far (p := ⟨gb132,_,none⟩) NB139_132.out _).trans (((cell_far (p := ⟨gb132,_,none⟩) NB139_132.out _).trans (((cell_far (p := ⟨gb132,_,none⟩) NB139_132.out _).trans (((cell_far (p := ⟨gb132,_,none⟩) NB139_132.out _).trans (((cell_far (p := ⟨gb132,_,none⟩) NB139_132.out _).trans (((cell_far (p := ⟨gb132,_,none⟩) NB139_132.out _).trans (hHeld.2.2.2.2.1)))))))))))))),((cell_far (p := ⟨gb132,_,none⟩) NB139_132.out _).trans (((cell_far (p := ⟨gb132,_,none⟩) NB139_132.out _).trans (((cell_far (p := ⟨gb132,_,none⟩) NB139_132.out _).trans (((cell_far (p := ⟨gb132,_,none⟩) NB139_132.out _).trans (((cell_far (p := ⟨gb132,_,none⟩) NB139_132.out _).trans (((cell_far (p := ⟨gb132,_,none⟩) NB139_132.out _).trans (((cell_far (p := ⟨gb132,_,none⟩) NB139_132.out _).trans (hHeld.2.2.2.2.2.1)))))))))))))),((cell_far (p := ⟨gb132,_,none⟩) NB139_132.out _).trans (((cell_far (p := ⟨gb132,_,none⟩) NB139_132.out _).trans (((cell_far (p := ⟨gb132,_,none⟩) NB139_132.out _).trans (((cell_far (p := ⟨gb132,_,none⟩) NB139_132.out _).trans (((cell_far (p := ⟨gb132,_,none⟩) NB139_132.out _).trans (((cell_far (p := ⟨gb132,_,none⟩) NB139_132.out _).trans (((cell_far (p := ⟨gb132,_,none⟩) NB139_132.out _).trans (hHeld.2.2.2.2.2.2))))))))))))))⟩ (fun hHeld => ?_)
    clear hK K
    refine pu_ 7 3 HT_ ?_
    refine done_ (done_of HT_.out (by kernel_rfl)) ?_
    try go_wp2
    refine bodyPost_ret (results_ct rfl _ _ gb132 55 #[.bool false,.int .i64 t144,.int .i64 t145,.int .i64 t146,.int .i64 t147,.string t148,.slice Ao54 x140006_1.length co54] (0,0) _ rfl (zq BK132) Tryz.underlying55 rfl (by kernel_rfl)) rfl ?_
    exact ⟨_,by first | rfl | (simp [e1_,e2_] <;> rfl) | (simp only [← hji39];first | rfl | (simp [e1_,e2_] <;> rfl)) | (simp [*,e1_,e2_] <;> rfl) | (simp [e3_,e4_];done) | (simp [*,e3_,e4_];done),by (with_reducible repeat (first | apply r1_ | apply r2_ | apply r3_));exact Kd.R_mono (zrf (Kd.R_types HO_140006.out BK132.out (by decide))) (fun _ hk => trivial),zl_ HB⟩
   subst c43
   rw [if_pos rfl] at H
   replace H := Option.bind_eq_some_iff.mp H
   obtain ⟨t151,A440,H⟩ := H
   try dsimp only at H
   have A44 := am_ A440
   clear A440
   simp only [Option.some.injEq,Prod.mk.injEq] at H
   obtain ⟨rfl,rfl,rfl,rfl,rfl,rfl,rfl,rfl⟩ := H
   refine pu_ 1 74 HT_ ?_
   refine pu_ 2 75 HT_ ?_
   refine tk_ 0 73 HT_ HW_ hHeld ?_
   refine tk_ 3 76 HT_ HW_ hHeld ?_
   refine zon 4 (N := some 77) HT_ (fun K hK => ?_)
   refine zgo Tryz.func48 #[.agg #[.bool false,.int .i64 t144,.int .i64 t145,.int .i64 t146,.int .i64 t147,.string t148,.slice Ao54 x140006_1.length co54]] ?_
   with_reducible refine (Ze.calls k1 false t144 t145 t146 t147 t148 _ _ x140006_1 t151 _ ?side1 ?side2 A44.out).mono ?_
   (case side1 => repeat (first | exact (Kd.R_reads' HO_140006.out).2.2 | (with_reducible refine Kd.C_alloc ?_ _) | (with_reducible refine Kd.C_drewN ?_ _) | (with_reducible refine Kd.C_drew ?_)))
   (case side2 => exact (Kd.R_reads' HO_140006.out).2.1)
   rintro e w55 ⟨rfl,hb⟩
   refine ⟨_,rfl,?_⟩
   replace HO_140006 := zrb HO_140006 hb
   replace BK132 := zb BK132 hb
   replace BK139 := zb BK139 hb
   replace BK150 := zb BK150 hb
   replace HB := zs_ HB hb
   try clear hb
   refine hK.out _ _ ⟨(blk_cell BK139.out 0).trans rfl,(blk_cell BK139.out 1).trans rfl,(blk_cell BK139.out 2).trans rfl,(blk_cell BK139.out 3).trans rfl,(blk_cell BK139.out 4).trans rfl,(blk_cell BK139.out 5).trans rfl,(blk_cell BK139.out 6).trans rfl⟩ (fun hHeld => ?_)
   clear hK K
   refine nm_ ?_
   refine pu_ 5 78 HT_ ?_
   refine zon 6 (N := none) HT_ (fun K hK => ?_)
   have hs56 : w55.cell? ⟨gb132,0,none⟩ = some (.bool false) := (blk_cell BK132.out 0).trans rfl
   have hfs56 := blk_frozen BK132.out 0
   have hns56_1 := NB139_132.out
   have hns56_2 := NB150_132.out
   have hms56_1 := NB132_139.out
   have hms56_2 := NB132_150.out
   have hs57 : w55.cell? ⟨gb132,1,none⟩ = some (.int .i64 0) := (blk_cell BK132.out 1).trans rfl
   have hfs57 := blk_frozen BK132.out 1
   have hns57_1 := NB139_132.out
   have hns57_2 := NB150_132.out
   have hms57_1 := NB132_139.out
   have hms57_2 := NB132_150.out
   have hs58 : w55.cell? ⟨gb132,2,none⟩ = some (.int .i64 0) := (blk_cell BK132.out 2).trans rfl
   have hfs58 := blk_frozen BK132.out 2
   have hns58_1 := NB139_132.out
   have hns58_2 := NB150_132.out
   have hms58_1 := NB132_139.out
   have hms58_2 := NB132_150.out
   have hs59 : w55.cell? ⟨gb132,3,none⟩ = some (.int .i64 0) := (blk_cell BK132.out 3).trans rfl
   have hfs59 := blk_frozen BK132.out 3
   have hns59_1 := NB139_132.out
   have hns59_2 := NB150_132.out
   have hms59_1 := NB132_139.out
   have hms59_2 := NB132_150.out
   have hs60 : w55.cell? ⟨gb132,4,none⟩ = some (.int .i64 0) := (blk_cell BK132.out 4).trans rfl
   have hfs60 := blk_frozen BK132.out 4
   have hns60_1 := NB139_132.out
   have hns60_2 := NB150_132.out
   have hms60_1 := NB132_139.out
   have hms60_2 := NB132_150.out
   have hs61 : w55.cell? ⟨gb132,5,none⟩ = some (.string ⟨#[]⟩) := (blk_cell BK132.out 5).trans rfl
   have hfs61 := blk_frozen BK132.out 5
   have hns61_1 := NB139_132.out
   have hns61_2 := NB150_132.out
   have hms61_1 := NB132_139.out
   have hms61_2 := NB132_150.out
   have hs62 : w55.cell? ⟨gb132,6,none⟩ = some (.slice none 0 0) := (blk_cell BK132.out 6).trans rfl
   have hfs62 := blk_frozen BK132.out 6
   have hns62_1 := NB139_132.out
   have hns62_2 := NB150_132.out
   have hms62_1 := NB132_139.out
   have hms62_2 := NB132_150.out
   refine skip_ (w1 := ?_) (by rfl) rfl ?_ ?_
   rotate_left
   ·go_simp
    rfl
   refine hK.out _ _ ⟨((cell_far (p := ⟨gb132,_,none⟩) NB139_132.out _).trans (((cell_far (p := ⟨gb132,_,none⟩) NB139_132.out _).trans (((cell_far (p := ⟨gb132,_,none⟩) NB139_132.out _).trans (((cell_far (p := ⟨gb132,_,none⟩) NB139_132.out _).trans (((cell_far (p := ⟨gb132,_,none⟩) NB139_132.out _).trans (((cell_far (p := ⟨gb132,_,none⟩) NB139_132.out _).trans (((cell_far (p := ⟨gb132,_,none⟩) NB139_132.out _).trans (hHeld.1)))))))))))))),((cell_far (p := ⟨gb132,_,none⟩) NB139_132.out _).trans (((cell_far (p := ⟨gb132,_,none⟩) NB139_132.out _).trans (((cell_far (p := ⟨gb132,_,none⟩) NB139_132.out _).trans (((cell_far (p := ⟨gb132,_,none⟩) NB139_132.out _).trans (((cell_far (p := ⟨gb132,_,none⟩) NB139_132.out _).trans (((cell_far (p := ⟨gb132,_,none⟩) NB139_132.out _).trans (((cell_far (p := ⟨gb132,_,none⟩) NB139_132.out _).trans (hHeld.2.1)))))))))))))),((cell_far (p := ⟨gb132,_,none⟩) NB139_132.out _).trans (((cell_far (p := ⟨gb132,_,none⟩) NB139_132.out _).trans (((cell_far (p := ⟨gb132,_,none⟩) NB139_132.out _).trans (((cell_far (p := ⟨gb132,_,none⟩) NB139_132.out _).trans (((cell_far (p := ⟨gb132,_,none⟩) NB139_132.out _).trans (((cell_far (p := ⟨gb132,_,none⟩) NB139_132.out _).trans (((cell_far (p := ⟨gb132,_,none⟩) NB139_132.out _).trans (hHeld.2.2.1)))))))))))))),((cell_far (p := ⟨gb132,_,none⟩) NB139_132.out _).trans (((cell_far (p := ⟨gb132,_,none⟩) NB139_132.out _).trans (((cell_far (p := ⟨gb132,_,none⟩) NB139_132.out _).trans (((cell_far (p := ⟨gb132,_,none⟩) NB139_132.out _).trans (((cell_far (p := ⟨gb132,_,none⟩) NB139_132.out _).trans (((cell_far (p := ⟨gb132,_,none⟩) NB139_132.out _).trans (((cell_far (p := ⟨gb132,_,none⟩) NB139_132.out _).trans (hHeld.2.2.2.1)))))))))))))),((cell_far (p := ⟨gb132,_,none⟩) NB139_132.out _).trans (((cell_far (p := ⟨gb132,_,none⟩) NB139_132.out _).trans (((cell_far (p := ⟨gb132,_,none⟩) NB139_132.out _).trans (((cell_far (p := ⟨gb132,_,none⟩) NB139_132.out _).trans (((cell_far (p := ⟨gb132,_,none⟩) NB139_132.out _).trans (((cell_far (p := ⟨gb132,_,none⟩) NB139_132.out _).trans (((cell_far (p := ⟨gb132,_,none⟩) NB139_132.out _).trans (hHeld.2.2.2.2.1)))))))))))))),((cell_far (p := ⟨gb132,_,none⟩) NB139_132.out _).trans (((cell_far (p := ⟨gb132,_,none⟩) NB139_132.out _).trans (((cell_far (p := ⟨gb132,_,none⟩) NB139_132.out _).trans (((cell_far (p := ⟨gb132,_,none⟩) NB139_132.out _).trans (((cell_far (p := ⟨gb132,_,none⟩) NB139_132.out _).trans (((cell_far (p := ⟨gb132,_,none⟩) NB139_132.out _).trans (((cell_far (p := ⟨gb132,_,none⟩) NB139_132.out _).trans (hHeld.2.2.2.2.2.1)))))))))))))),((cell_far (p := ⟨gb132,_,none⟩) NB139_132.out _).trans (((cell_far (p := ⟨gb132,_,none⟩) NB139_132.out _).trans (((cell_far (p := ⟨gb132,_,none⟩) NB139_132.out _).trans (((cell_far (p := ⟨gb132,_,none⟩) NB139_132.out _).trans (((cell_far (p := ⟨gb132,_,none⟩) NB139_132.out _).trans (((cell_far (p := ⟨gb132,_,none⟩) NB139_132.out _).trans (((cell_far (p := ⟨gb132,_,none⟩) NB139_132.out _).trans (hHeld.2.2.2.2.2.2))))))))))))))⟩ (fun hHeld => ?_)
   clear hK K
   refine pu_ 7 3 HT_ ?_
   refine done_ (done_of HT_.out (by kernel_rfl)) ?_
   try go_wp2
   refine bodyPost_ret (results_ct rfl _ _ gb132 55 #[.bool false,.int .i64 t144,.int .i64 t145,.int .i64 t146,.int .i64 t147,.string t148,.slice Ao54 x140006_1.length co54] (0,0) _ rfl (zq BK132) Tryz.underlying55 rfl (by kernel_rfl)) rfl ?_
   exact ⟨_,by first | rfl | (simp [e1_,e2_] <;> rfl) | (simp only [← hji39];first | rfl | (simp [e1_,e2_] <;> rfl)) | (simp [*,e1_,e2_] <;> rfl) | (simp [e3_,e4_];done) | (simp [*,e3_,e4_];done),by (with_reducible repeat (first | apply r1_ | apply r2_ | apply r3_));exact Kd.R_mono (zrf (Kd.R_types HO_140006.out BK132.out (by decide))) (fun _ hk => trivial),zl_ HB⟩
end Go.Proofs.YtbhegbhdenngbaaGreatDoor.A
end

section
namespace Go.Proofs.YtbhegbhdenngbaaGreatDoor.A
open Go.RowKit Go.Proofs.YtbhegbhdenngbaaGreatDoorW.PrintWords Go.Proofs.YtbhegbhdenngbaaGreatDoorW.PrintLast Go.Proofs.YtbhegbhdenngbaaGreatDoorW.PrintMore
theorem Au.of_R {W : World} {base g n cap e : Nat} {ok : Nat → Prop} {xs : List Int} (h : Kd.R (Kd.int .u32) e W base ok (.slice (some ⟨g,0,none⟩) n cap) xs) : Au W g xs := by
 have hn := (Kd.R_reads' h).1
 refine ⟨fun j hj => ?_,fun j hj => ?_⟩
 ·have := (Kd.R_celln 0 h (j : Int) (by omega) (by omega)).1
  simpa [rdOf] using this
 ·have := (Kd.R_celln 0 h (j : Int) (by omega) (by omega)).2
  simpa using this
theorem C_cells {k : IntKind} {W : World} {A : Option Addr} {n : Nat} {xs : List Int} (h : Kd.C (Kd.int k) W A n xs) (hn : 0 < n) : ∃ ad,A = some ad ∧ ∀ j,j < n → W.cell? (ad.add j) = some (.int k (xs.getD j 0)) := by
 obtain ⟨ad,e,c⟩ := Kd.at_int h 0 (by decide) (by omega)
 refine ⟨ad,e,fun j hj => ?_⟩
 obtain ⟨ad2,e2,c2⟩ := Kd.at_int h (j : Int) (by omega) (by omega)
 obtain rfl : ad = ad2 := Option.some.inj (e.symm.trans e2)
 simpa [rd] using c2
structure Sk (w W : World) (n gw : Nat) (lw : List Int) : Prop where
 hw : Au W gw lw
 mine : n ≤ gw
 lt : gw < W.heap.size
 below : Below n w W
theorem Sk.drew {w W : World} {n gw : Nat} {lw : List Int} (h : Sk w W n gw lw) : Sk w W.drew n gw lw := ⟨h.hw.drew,h.mine,h.lt,below_drew_h h.below⟩
theorem Sk.word {w W : World} {n gw : Nat} {lw : List Int} (h : Sk w W n gw lw) (j : Nat) (hj : j < lw.length) (x : Int) : Sk w (W.setCell ⟨gw,j,none⟩ (.int .u32 x)) n gw (lw.set j x) :=
 ⟨h.hw.set j hj x,h.mine,by simpa [World.setCell] using h.lt,below_set_h h.below h.mine⟩
structure Sv (w W : World) (n gw gv : Nat) (lw la : List Int) : Prop where
 hw : Au W gw lw
 ha : Au W gv la
 mw : n ≤ gw
 mv : n ≤ gv
 tw : gw < W.heap.size
 tv : gv < W.heap.size
 below : Below n w W
theorem Sv.drew {w W : World} {n gw gv : Nat} {lw la : List Int} (h : Sv w W n gw gv lw la) : Sv w W.drew n gw gv lw la := ⟨h.hw.drew,h.ha.drew,h.mw,h.mv,h.tw,h.tv,below_drew_h h.below⟩
theorem Sv.lit {w W : World} {n gw gv : Nat} {lw la : List Int} (h : Sv w W n gw gv lw la) (l : List Int) (t : Nat) : Sv w (W.alloc (.cells (l.map (Value.int .u32)).toArray t)) n gw W.heap.size lw l := by
 have h1 := h.tw
 have h2 := h.mw
 have hs := alloc_sz W (.cells (l.map (Value.int .u32)).toArray t)
 have e : ∀ k,k < W.heap.size → (W.alloc (.cells (l.map (Value.int .u32)).toArray t)).heap[k]? = W.heap[k]? := fun k hk => by rw [alloc_at,if_neg (by omega)]
 refine ⟨h.hw.at (e _ h.tw),Au.of_row (e := t) _ ?_,h.mw,by omega,by omega,by omega,⟨h.below.os,h.below.tape,h.below.output,by have := h.below.size;omega,fun k hk => (e k (by omega)).trans (h.below.block k hk)⟩⟩
 rw [alloc_at,if_pos rfl]
theorem append8 {P : Program} {ops : Array Oper} {rest : List Oper} {o : Oper} {a : Act} {Q : Exit → Act → World → Prop} {w W : World} {n gw g g0 c0 : Nat} {lw l0 : List Int} (t e : TypeId) (hgd : o.guard = none) (s x : Operand)
  (ho : o.op = .call { callee := .builtin .append,args := #[s,x],argTypes := #[t,t] }) (ht : P.underlying t = some (.slice e)) (hinfo : (P.info? e).map (fun i => (i.zero,i.size,i.bytes)) = some (some (.int .u32 0),1,4))
  (hs : a.eval s = .slice (some ⟨g,0,none⟩) 0 0) (hx : a.eval x = .slice (some ⟨g0,0,none⟩) 8 c0) (hl0 : l0.length = 8) (hc : Au W g0 l0) (F : Sk w W n gw lw)
  (h : ∀ gv cv w1,Sv w w1 n gw gv lw l0 → wpList P ops Q rest (a.put o.dst (.slice (some ⟨gv,0,none⟩) 8 cv)) w1) : wpList P ops Q (o :: rest) a W := by
 obtain ⟨i,hi,hzz⟩ := Option.map_eq_some_iff.1 hinfo
 simp only [Prod.mk.injEq] at hzz
 obtain ⟨hz,hs1,hb1⟩ := hzz
 have hnl : (l0.map (Value.int .u32)).length = 8 := by simp [hl0]
 have h48' : ¬ (281474976710656 < Builtin.nextslicecap 8 0 * i.bytes) := by rw [hb1];decide
 have hf0 := run_firstCells_some (P := P) W.drew 1 0 ⟨g,0,none⟩ 0 0 [] rfl (fun j v hj => by simp at hj)
 have hf8 := run_firstCells_some (P := P) W.drew 1 8 ⟨g0,0,none⟩ 8 c0 (l0.map (Value.int .u32)) (by simp [hl0]) (fun j v hj => by
  rw [add_plain]
  have hjl : j < l0.length := by
   have := (List.getElem?_eq_some_iff.1 hj).1
   omega
  have := hc.cell j hjl
  simp only [List.getElem?_map,List.getElem?_eq_getElem hjl,Option.map_some,Option.some.injEq] at hj
  subst hj
  simpa [List.getD,hjl] using this)
 have hzc : (Value.int .u32 0).cells = #[.int .u32 0] := rfl
 have hr : (Builtin.append_ #[t,t] o.type #[.slice (some ⟨g,0,none⟩) 0 0,.slice (some ⟨g0,0,none⟩) 8 c0]).run P W = .ok (.slice (some ⟨W.heap.size,0,none⟩) 8 (grownCap W 8 0 e))
   (W.drew.alloc (.cells ((l0.map (Value.int .u32)).toArray ++ Builtin.zeroCells #[.int .u32 0] (grownCap W 8 0 e - 8)) e)) := by
  rw [← hs1] at hf0 hf8
  simp [Builtin.append_,run_underlying ht,sizeOf,typeInfo,zeroValue,hi,hz,Builtin.lenOf,h48',Question.forced,hf0,hf8,newRow,grownCap,hzc]
 refine wpList_plain hgd fun K hK => ?_
 unfold Oper.wp execOp
 simp only [ho,resolve,invoke,builtin,Sem.run_bind,Sem.run_pure,Result.andThen_ok,List.map_toArray,List.map_cons,List.map_nil,hs,hx,hr]
 refine hK _ _ (h _ _ _ ?_)
 have h1 := F.lt
 have h2 := F.mine
 have hsz : (W.drew.alloc (.cells ((l0.map (Value.int .u32)).toArray ++ Builtin.zeroCells #[.int .u32 0] (grownCap W 8 0 e - 8)) e)).heap.size = W.heap.size + 1 := alloc_sz _ _
 have e2 : ∀ k,k < W.heap.size → (W.drew.alloc (.cells ((l0.map (Value.int .u32)).toArray ++ Builtin.zeroCells #[.int .u32 0] (grownCap W 8 0 e - 8)) e)).heap[k]? = W.heap[k]? := fun k hk => by
  rw [alloc_at,if_neg (by show ¬ k = W.heap.size;omega)]
  rfl
 have e3 : (W.drew.alloc (.cells ((l0.map (Value.int .u32)).toArray ++ Builtin.zeroCells #[.int .u32 0] (grownCap W 8 0 e - 8)) e)).heap[W.heap.size]? = some (.cells ((l0.map (Value.int .u32)).toArray ++ Builtin.zeroCells #[.int .u32 0] (grownCap W 8 0 e - 8)) e) := by
  rw [alloc_at,if_pos (by rfl)]
 refine ⟨F.hw.at (e2 _ F.lt),⟨fun j hj => ?_,fun j hj => ?_⟩,F.mine,by omega,by omega,by omega,⟨F.below.os,F.below.tape,F.below.output,by rw [hsz];have := F.below.size;omega,fun k hk => (e2 k (by omega)).trans (F.below.block k hk)⟩⟩
 ·unfold World.cell?
  rw [e3]
  have hj2 : j < (l0.map (Value.int .u32)).toArray.size := by simpa using hj
  simp only [Option.isSome_none,Bool.false_eq_true,if_false]
  rw [Array.getElem?_append_left hj2]
  simp [List.getD,hj]
 ·unfold World.frozen?
  rw [e3]
  simp
structure St (w0 w W : World) (S : Nat → Prop) (g0 c0 gv : Nat) (lh la : List Int) : Prop where
 hr : Kd.R (Kd.int .u32) 69 W w0.heap.size S (.slice (some ⟨g0,0,none⟩) 8 c0) lh
 ha : Au W gv la
 ne : gv ≠ g0
 below : Below w0.heap.size w0 W
 kept : Kept w W S
theorem St.drew {w0 w W : World} {S : Nat → Prop} {g0 c0 gv : Nat} {lh la : List Int} (h : St w0 w W S g0 c0 gv lh la) : St w0 w W.drew S g0 c0 gv lh la :=
 ⟨Kd.R_drew h.hr,h.ha.drew,h.ne,below_drew_h h.below,h.kept.drew⟩
theorem St.set {w0 w W : World} {S : Nat → Prop} {g0 c0 gv : Nat} {lh la : List Int} (h : St w0 w W S g0 c0 gv lh la) (j : Nat) (x : Int) : St w0 w (W.setCell ⟨g0,j,none⟩ (.int .u32 x)) S g0 c0 gv (lh.set j x) la := by
 have hp := Kd.R_putn h.hr (j : Int) x
 rw [Int.toNat_natCast] at hp
 exact ⟨hp,h.ha.far h.ne j _,h.ne,below_set_h h.below (Kd.R_base h.hr _ rfl),h.kept.setCell (p := ⟨g0,j,none⟩) (.inl (h.hr.1 _ rfl)) _⟩
set_option maxHeartbeats 4000000 in
set_option maxRecDepth 100000 in
theorem sblock_walk (S : Nat → Prop) (g0 c0 : Nat) (l0 l1 l2 r : List Int) (ad1 ad2 : Addr) (c1 c2 : Nat) (w0 w : World) (hB : Below w0.heap.size w0 w) (ho0 : Kd.R (Kd.int .u32) 69 w w0.heap.size S (.slice (some ⟨g0,0,none⟩) 8 c0) l0)
  (hr1 : ∀ W,Kept w W S → ∀ j,j < 64 → W.cell? (ad1.add j) = some (.int .u8 (l1.getD j 0))) (hr2 : ∀ W,Kept w W S → ∀ j,j < 64 → W.cell? (ad2.add j) = some (.int .u32 (l2.getD j 0)))
  (h0 : l0.length = 8) (h1 : l1.length = 64) (h2 : l2.length = 64) (hc1 : 64 ≤ c1) (hc2 : 64 ≤ c2) (H : Zc.v l0 l1 l2 = some r) :
  Calls Tryz.prog 56 #[.slice (some ⟨g0,0,none⟩) 8 c0,.slice (some ad1) 64 c1,.slice (some ad2) 64 c2] w fun e w' => e = .returned (.tuple #[]) ∧ Kd.R (Kd.int .u32) 69 w' w0.heap.size S (.slice (some ⟨g0,0,none⟩) 8 c0) r ∧ Below w0.heap.size w0 w' ∧ Kept w w' S := by
 have H0 := Aside0.mk (start0 _ _ _ _ H)
 have HR1 := Aside0.mk hr1
 have HR2 := Aside0.mk hr2
 have HO := Aside0.mk ho0
 have HB := Aside0.mk hB
 have HL := Aside0.mk (And.intro h0 (And.intro h1 h2))
 clear H hr1 hr2 ho0 hB h0 h1 h2
 go_enter Tryz.func56,Tryz.ntmps56
 go_wp2_with (first | ((with_reducible refine gate_dst (N := 18) rfl ?_);refine Kd.R_make (Kd.int .u32) _ 69 rfl (N := 18) rfl 86 _ _ rfl 64 rfl rfl Tryz.underlying86 (.int .u32 0) 4 info69 rfl (by decide) (by omega) 0 (ok := fun _ => True) (okp := fun _ => True) rfl (fun _ hk => hk) trivial (by omega) (by omega) (Below.refl _ _) (Nat.le_refl _) ?_;intro v1 w1 ho hb hg_ hnew_;clear hg_ hnew_;simp only [Int.reduceToNat] at ho;obtain ⟨gw,cw,rfl,hbase,hlt,-⟩ := Kd.R_form ho (by simp);rw [List.length_replicate] at ho ⊢;have hcw := (Kd.R_reads' ho).2.1;have F := Aside0.mk (Sk.mk (Au.of_R ho) hbase hlt hb);clear ho hb hbase hlt))
 obtain ⟨hl0,hl1,hl2⟩ := HL.out
 go_loopg [7] 16 (fun gg v7 wr => ∃ (i : Nat) (ws : List Int),i ≤ 16 ∧ gg + i = 16 ∧ v7 = .int .i64 (i : Int) ∧ ws.length = 64 ∧ Aside0 (Zc.lv0 l0 l1 l2 ws (i : Int) = some r) ∧ Aside0 (Sk w wr w.heap.size gw ws))
 case atStart => exact ⟨0,_,by omega,rfl,rfl,List.length_replicate,H0,F⟩
 case round =>
  clear F H0
  obtain ⟨i,ws,hi,hg,rfl,hws,H0,F⟩ := hrel
  by_cases hlt : i < 16
  ·have c1 : ((i : Int) < 16) := by omega
   have hk := Kept.of_below F.out.below S
   obtain ⟨q0,hq0⟩ : ∃ q,q = 4 * i := ⟨_,rfl⟩
   obtain ⟨q1,hq1⟩ : ∃ q,q = 4 * i + 1 := ⟨_,rfl⟩
   obtain ⟨q2,hq2⟩ : ∃ q,q = 4 * i + 2 := ⟨_,rfl⟩
   obtain ⟨q3,hq3⟩ : ∃ q,q = 4 * i + 3 := ⟨_,rfl⟩
   have w0 : IntKind.i64.wrap (4 * (i : Int)) = (q0 : Int) := (w64id _ (by omega) (by omega)).trans (by omega)
   have w1 : IntKind.i64.wrap ((q0 : Int) + 1) = (q1 : Int) := by clear w0;exact (w64id _ (by omega) (by omega)).trans (by omega)
   have w2 : IntKind.i64.wrap ((q0 : Int) + 2) = (q2 : Int) := by clear w0 w1;exact (w64id _ (by omega) (by omega)).trans (by omega)
   have w3 : IntKind.i64.wrap ((q0 : Int) + 3) = (q3 : Int) := by clear w0 w1 w2;exact (w64id _ (by omega) (by omega)).trans (by omega)
   have b0 := HR1.out wr hk q0 (by clear w0 w1 w2 w3;omega)
   have b1 := HR1.out wr hk q1 (by clear w0 w1 w2 w3;omega)
   have b2 := HR1.out wr hk q2 (by clear w0 w1 w2 w3;omega)
   have b3 := HR1.out wr hk q3 (by clear w0 w1 w2 w3;omega)
   have e0 : (q0 : Int) < 64 := by clear w0 w1 w2 w3;omega
   have e1 : (q1 : Int) < 64 := by clear w0 w1 w2 w3;omega
   have e2 : (q2 : Int) < 64 := by clear w0 w1 w2 w3;omega
   have e3 : (q3 : Int) < 64 := by clear w0 w1 w2 w3;omega
   have ei : (i : Int) < 64 := by clear w0 w1 w2 w3;omega
   have g4 : i < ws.length := by clear w0 w1 w2 w3;omega
   have z0 := F.out.hw.cell i g4
   have z1 := F.out.hw.free i g4
   have H1 := Aside0.mk (step0 _ _ _ _ _ _ hl1 hws hlt H0.out)
   rw [← hq1,← hq2,← hq3,← hq0] at H1
   generalize hx0 : l1.getD q0 0 = x0 at b0 H1
   generalize hx1 : l1.getD q1 0 = x1 at b1 H1
   generalize hx2 : l1.getD q2 0 = x2 at b2 H1
   generalize hx3 : l1.getD q3 0 = x3 at b3 H1
   generalize ws.getD i 0 = xi at z0
   clear hq0 hq1 hq2 hq3 hx0 hx1 hx2 hx3 hk H0
   go_wp2
   go_still_tail 36,(by kernel_rfl)
   change wpList _ _ _ _ _ wr.drew
   have z2 : wr.drew.cell? ⟨gw,i,none⟩ = some (.int .u32 xi) := z0
   have z3 : wr.drew.frozen? ⟨gw,i,none⟩ = false := z1
   have F2 := Aside0.mk (F.out.drew.word i g4 (word4 x0 x1 x2 x3))
   generalize wr.drew = w4 at z2 z3 F2 ⊢
   clear z0 z1 b0 b1 b2 b3 F
   go_wp2
   go_roundg (16 - (i + 1))
   case measure => omega
   case rel => exact ⟨i + 1,_,by omega,by omega,by go_num,by rw [List.length_set];exact hws,H1,F2⟩
  ·have hlt2 : ¬ ((i : Int) < 16) := by omega
   have H1 := Aside0.mk (exit0 _ _ _ _ _ _ hlt2 H0.out)
   clear H0
   go_wp2
   go_loopg [8] 48 (fun gg v8 wr => ∃ (i : Nat) (ws : List Int),i ≤ 64 ∧ 16 ≤ i ∧ gg + i = 64 ∧ v8 = .int .i64 (i : Int) ∧ ws.length = 64 ∧ Aside0 (Zc.lv1 l0 l2 ws (i : Int) = some r) ∧ Aside0 (Sk w wr w.heap.size gw ws))
   case atStart => exact ⟨16,ws,by omega,by omega,rfl,rfl,hws,H1,F⟩
   case round =>
    clear F H1 hlt2 hlt hi hws
    obtain ⟨i,ws,hi,h16,hg,rfl,hws,H0,F⟩ := hrel
    by_cases hlt : i < 64
    ·have c1 : ((i : Int) < 64) := by omega
     obtain ⟨q0,hq0⟩ : ∃ q,q = i - 16 := ⟨_,rfl⟩
     obtain ⟨q1,hq1⟩ : ∃ q,q = i - 15 := ⟨_,rfl⟩
     obtain ⟨q2,hq2⟩ : ∃ q,q = i - 7 := ⟨_,rfl⟩
     obtain ⟨q3,hq3⟩ : ∃ q,q = i - 2 := ⟨_,rfl⟩
     have w0 : IntKind.i64.wrap ((i : Int) - 16) = (q0 : Int) := (w64id _ (by omega) (by omega)).trans (by omega)
     have w1 : IntKind.i64.wrap ((i : Int) - 15) = (q1 : Int) := by clear w0;exact (w64id _ (by omega) (by omega)).trans (by omega)
     have w2 : IntKind.i64.wrap ((i : Int) - 7) = (q2 : Int) := by clear w0 w1;exact (w64id _ (by omega) (by omega)).trans (by omega)
     have w3 : IntKind.i64.wrap ((i : Int) - 2) = (q3 : Int) := by clear w0 w1 w2;exact (w64id _ (by omega) (by omega)).trans (by omega)
     have g0 : q0 < ws.length := by clear w0 w1 w2 w3;omega
     have g1 : q1 < ws.length := by clear w0 w1 w2 w3;omega
     have g2 : q2 < ws.length := by clear w0 w1 w2 w3;omega
     have g3 : q3 < ws.length := by clear w0 w1 w2 w3;omega
     have g4 : i < ws.length := by clear w0 w1 w2 w3;omega
     have b0 := F.out.hw.cell q0 g0
     have b1 := F.out.hw.cell q1 g1
     have b2 := F.out.hw.cell q2 g2
     have b3 := F.out.hw.cell q3 g3
     have e0 : (q0 : Int) < 64 := by clear w0 w1 w2 w3;omega
     have e1 : (q1 : Int) < 64 := by clear w0 w1 w2 w3;omega
     have e2 : (q2 : Int) < 64 := by clear w0 w1 w2 w3;omega
     have e3 : (q3 : Int) < 64 := by clear w0 w1 w2 w3;omega
     have z0 := F.out.hw.cell i g4
     have z1 := F.out.hw.free i g4
     have H1 := Aside0.mk (step1 _ _ _ _ _ hws h16 hlt H0.out)
     rw [← hq0,← hq1,← hq2,← hq3] at H1
     generalize hx0 : ws.getD q0 0 = x0 at b0 H1
     generalize hx1 : ws.getD q1 0 = x1 at b1 H1
     generalize hx2 : ws.getD q2 0 = x2 at b2 H1
     generalize hx3 : ws.getD q3 0 = x3 at b3 H1
     generalize ws.getD i 0 = xi at z0
     clear hq0 hq1 hq2 hq3 hx0 hx1 hx2 hx3 g0 g1 g2 g3 H0
     go_wp2
     refine wp_region_still_tail 32 (by kernel_rfl) (by kernel_rfl) ?_
     simp only [List.take_succ_cons,List.take_zero,List.drop_succ_cons,List.drop_zero]
     repeat still_step
     still_call (stn7 _ _)
     repeat still_step
     still_call (stn18 _ _)
     repeat still_step
     still_call (stn17 _ _)
     repeat still_step
     still_call (stn19 _ _)
     repeat still_step
     refine wpStill_nil ?_
     change wpList _ _ _ _ _ wr.drew
     have z2 : wr.drew.cell? ⟨gw,i,none⟩ = some (.int .u32 xi) := z0
     have z3 : wr.drew.frozen? ⟨gw,i,none⟩ = false := z1
     have F2 := Aside0.mk (F.out.drew.word i g4 (wordX x0 (sig x1 7 18 (x1 / 8)) x2 (sig x3 17 19 (x3 / 1024))))
     generalize wr.drew = w4 at z2 z3 F2 ⊢
     clear z0 z1 b0 b1 b2 b3 F w0 w1 w2 w3
     go_wp2
     go_roundg (64 - (i + 1))
     case measure => omega
     case rel => exact ⟨i + 1,_,by omega,by omega,by omega,by go_num,by rw [List.length_set];exact hws,H1,F2⟩
    ·have hlt2 : ¬ ((i : Int) < 64) := by omega
     have H1 := Aside0.mk (exit1 _ _ _ _ hl0 _ hlt2 H0.out)
     clear H0
     have hA0 : Aside0 (Au w g0 l0) := Aside0.mk (Au.of_R HO.out)
     have hg0 := Kd.R_lt HO.out g0 rfl
     have HG := Aside0.mk hg0
     clear hg0
     go_wp2_with (first | ((with_reducible refine gate_builtin (b := .append) (xs := #[.tmp 105,.tmp 106]) rfl ?_);at_builtin;refine append8 (l0 := l0) 86 69 rfl (.tmp 105) (.tmp 106) rfl Tryz.underlying86 info69 (by rfl) (by rfl) hl0 ((hA0.out.at (F.out.below.block g0 HG.out)).at (by first | rfl | (rw [alloc_at,if_neg (by have := HG.out;have := F.out.below.size;omega)]))) (w := w) (n := w.heap.size) (gw := gw) (lw := ws) (by first | exact F.out | exact ⟨F.out.hw.at (by rw [alloc_at,if_neg (by have := F.out.lt;omega)]),F.out.mine,by rw [alloc_sz];have := F.out.lt;omega,⟨F.out.below.os,F.out.below.tape,F.out.below.output,by rw [alloc_sz];have := F.out.below.size;omega,fun k hk => by rw [alloc_at,if_neg (by have := F.out.below.size;omega)];exact F.out.below.block k hk⟩⟩) ?_;clear F;intro gv cv w6 F0;have F := Aside0.mk F0;clear F0))
     obtain ⟨h0,h1,h2,h3,h4,h5,h6,h7,rfl⟩ := eight hl0
     go_loopg [11,12] 64 (fun gg v11 v12 wr => ∃ (i gv cv : Nat) (a0 a1 a2 a3 a4 a5 a6 a7 : Int),i ≤ 64 ∧ gg + i = 64 ∧ v11 = .slice (some ⟨gv,0,none⟩) 8 cv ∧ v12 = .int .i64 (i : Int) ∧ Aside0 (Zc.lv2 [h0,h1,h2,h3,h4,h5,h6,h7] l2 ws [a0,a1,a2,a3,a4,a5,a6,a7] (i : Int) = some r) ∧ Aside0 (Sv w wr w.heap.size gw gv ws [a0,a1,a2,a3,a4,a5,a6,a7]))
     case atStart => exact ⟨0,gv,cv,h0,h1,h2,h3,h4,h5,h6,h7,by omega,rfl,rfl,rfl,H1,F⟩
     case round =>
      clear F H1 hlt2 hlt hi h16
      obtain ⟨i,gv,cv,a0,a1,a2,a3,a4,a5,a6,a7,hi,hg,rfl,rfl,H0,F⟩ := hrel
      by_cases hlt : i < 64
      ·have c1 : ((i : Int) < 64) := by omega
       have hk := Kept.of_below F.out.below S
       obtain ⟨⟨c0_,d1,d2,d3,d4,d5,d6,d7⟩,-⟩ := F.out.ha.eight
       have bk := HR2.out wr hk i hlt
       have bw := F.out.hw.cell i (by omega)
       clear hk
       obtain ⟨xk,hxk⟩ : ∃ x,l2.getD i 0 = x := ⟨_,rfl⟩
       obtain ⟨xw,hxw⟩ : ∃ x,ws.getD i 0 = x := ⟨_,rfl⟩
       rw [hxk] at bk
       rw [hxw] at bw
       have HX := Aside0.mk (And.intro hxk hxw)
       clear hxk hxw
       go_wp2
       refine wp_region_still_lit (by kernel_rfl) (by kernel_rfl) ?_
       repeat still_step
       still_call (stn6 _ _)
       repeat still_step
       still_call (stn11 _ _)
       repeat still_step
       still_call (stn25 _ _)
       repeat still_step
       refine wpStill_nil ?_
       have F3 := Aside0.mk F.out.drew
       have c0d : wr.drew.cell? _ = _ := c0_
       have d1_ : wr.drew.cell? _ = _ := d1
       have d2_ : wr.drew.cell? _ = _ := d2
       have d3_ : wr.drew.cell? _ = _ := d3
       have d4_ : wr.drew.cell? _ = _ := d4
       have d5_ : wr.drew.cell? _ = _ := d5
       have d6_ : wr.drew.cell? _ = _ := d6
       have d7_ : wr.drew.cell? _ = _ := d7
       clear c0_ d1 d2 d3 d4 d5 d6 d7 bk bw F
       generalize hxp : IntKind.u32.wrap (IntKind.u32.wrap (_ + xk) + xw) = xp
       have hp : pX a7 a4 a5 a6 xk xw = xp := hxp
       have HP := Aside0.mk ((pX_eq _ _ _ _ _ _).symm.trans hp)
       clear hxp hp
       rw [show ({ heap := wr.heap,tape := wr.tape,drawn := wr.drawn + 1,os := wr.os,output := wr.output } : World) = wr.drew from rfl]
       generalize wr.drew = w6 at c0d d1_ d2_ d3_ d4_ d5_ d6_ d7_ F3 ⊢
       go_wp2
       refine wp_region_still_lit (by kernel_rfl) (by kernel_rfl) ?_
       repeat still_step
       still_call (stn2 _ _)
       repeat still_step
       still_call (stn13 _ _)
       repeat still_step
       still_call (stn22 _ _)
       repeat still_step
       refine wpStill_nil ?_
       obtain ⟨⟨c0_,d1,d2,d3,d4,d5,d6,d7⟩,-⟩ := F3.out.drew.ha.eight
       have F4 := Aside0.mk F3.out.drew
       clear c0d d1_ d2_ d3_ d4_ d5_ d6_ d7_ F3
       generalize hxq : IntKind.u32.wrap (_ + Go.bits .xor .u32 _ (Go.bits .and .u32 a1 a2)) = xq
       have hq : qW a0 a1 a2 = xq := hxq
       have HQ := Aside0.mk hq
       clear hxq hq
       rw [show ({ heap := w6.heap,tape := w6.tape,drawn := w6.drawn + 1,os := w6.os,output := w6.output } : World) = w6.drew from rfl]
       generalize w6.drew = w7 at c0_ d1 d2 d3 d4 d5 d6 d7 F4 ⊢
       have H1 := Aside0.mk (step2w _ _ _ _ _ _ _ _ _ _ _ _ _ hws hl2 hlt xk xw xp xq HX.out.1 HX.out.2 HP.out HQ.out H0.out)
       clear H0
       go_wp2
       refine wp_region_still_tail 26 (by kernel_rfl) (by kernel_rfl) ?_
       simp only [List.take_succ_cons,List.take_zero,List.drop_succ_cons,List.drop_zero]
       repeat still_step
       refine wpStill_nil ?_
       change wpList _ _ _ _ _ w7.drew
       have F5 := Aside0.mk F4.out.drew
       clear c0_ d1 d2 d3 d4 d5 d6 d7 F4
       generalize w7.drew = w8 at F5 ⊢
       go_wp2
       go_roundg (64 - (i + 1))
       case measure => omega
       case rel => exact ⟨i + 1,w8.heap.size,8,(xp + xq) % 4294967296,a0,a1,a2,(a3 + xp) % 4294967296,a4,a5,a6,by omega,by omega,rfl,by go_num,H1,⟨F5.out.lit [(xp + xq) % 4294967296,a0,a1,a2,(a3 + xp) % 4294967296,a4,a5,a6] 69⟩⟩
      ·have hlt2 : ¬ ((i : Int) < 64) := by omega
       have H1 := Aside0.mk (exit2 _ _ _ _ _ _ hlt2 H0.out)
       clear H0
       have F2 : Aside0 (St w0 w wr S g0 c0 gv [h0,h1,h2,h3,h4,h5,h6,h7] [a0,a1,a2,a3,a4,a5,a6,a7]) := Aside0.mk ⟨Kd.R_below HO.out F.out.below,F.out.ha,by have := F.out.mv;have := HG.out;omega,HB.out.trans (F.out.below.mono HB.out.size),Kept.of_below F.out.below S⟩
       clear F
       go_wp2
       go_loopg [17] 8 (fun gg v17 wr => ∃ (i : Nat) (lh : List Int),i ≤ 8 ∧ gg + i = 8 ∧ v17 = .int .i64 (i : Int) ∧ lh.length = 8 ∧ Aside0 (Zc.lv3 lh [a0,a1,a2,a3,a4,a5,a6,a7] (i : Int) = some r) ∧ Aside0 (St w0 w wr S g0 c0 gv lh [a0,a1,a2,a3,a4,a5,a6,a7]))
       case atStart => exact ⟨0,_,by omega,rfl,rfl,rfl,H1,F2⟩
       case round =>
        clear F2 H1 hlt2 hlt hi
        obtain ⟨i,lh,hi,hg,rfl,hlh,H0,F⟩ := hrel
        by_cases hlt : i < 8
        ·have c1 : ((i : Int) < 8) := by omega
         have H1 := Aside0.mk (step3 _ _ _ _ hlh rfl hlt H0.out)
         obtain ⟨b0,z1⟩ := Kd.R_celln 0 F.out.hr (i : Int) (by omega) (by omega)
         have b1 := F.out.ha.cell i (by simpa using hlt)
         rw [Int.toNat_natCast] at b0 z1
         have b0' : wr.cell? ⟨g0,i,none⟩ = some (.int .u32 (lh.getD i 0)) := by simpa [rdOf] using b0
         clear H0 b0
         obtain ⟨x0,hx0⟩ : ∃ x,lh.getD i 0 = x := ⟨_,rfl⟩
         obtain ⟨x1,hx1⟩ : ∃ x,([a0,a1,a2,a3,a4,a5,a6,a7] : List Int).getD i 0 = x := ⟨_,rfl⟩
         rw [hx0] at b0' H1
         rw [hx1] at b1 H1
         rw [u32w_h] at H1
         clear hx0 hx1
         go_wp2
         refine wp_region_still_tail 10 (by kernel_rfl) (by kernel_rfl) ?_
         simp only [List.take_succ_cons,List.take_zero,List.drop_succ_cons,List.drop_zero]
         repeat still_step
         refine wpStill_nil ?_
         change wpList _ _ _ _ _ wr.drew
         have z2 : wr.drew.cell? ⟨g0,i,none⟩ = some (.int .u32 x0) := b0'
         have z3 : wr.drew.frozen? ⟨g0,i,none⟩ = false := z1
         have F2 := Aside0.mk (F.out.drew.set i ((x0 + x1) % 4294967296))
         generalize wr.drew = w4 at z2 z3 F2 ⊢
         clear z1 b0' b1 F
         go_wp2
         go_roundg (8 - (i + 1))
         case measure => omega
         case rel => exact ⟨i + 1,_,by omega,by omega,by go_num,by rw [List.length_set];exact hlh,H1,F2⟩
        ·have hlt2 : ¬ ((i : Int) < 8) := by omega
         have e := exit3 _ _ _ _ hlt2 H0.out
         subst e
         clear H0
         go_wp2
         first | go_end0 | ((try simp only [Exit.inBlock,Exit.then]);refine bodyPost_ret (results_none rfl _ _ _) rfl ?_)
         exact ⟨rfl,F.out.hr,F.out.below,F.out.kept⟩
end Go.Proofs.YtbhegbhdenngbaaGreatDoor.A
end

section
namespace Go.Proofs.YtbhegbhdenngbaaGreatDoor.A
open Go.RowKit Go.Proofs.YtbhegbhdenngbaaGreatDoorW.PrintWords Go.Proofs.YtbhegbhdenngbaaGreatDoorW.PrintLast Go.Proofs.YtbhegbhdenngbaaGreatDoorW.PrintMore
attribute [local go_sem] max2_int min2_int max_two min_two max_three min_three max_four min_four
theorem Zc.calls (k : Nat) (P0_ : Nat → Prop) (u9000_ : Value) (l0 : List Int) (A1 : Option Addr) (c1 : Nat) (l1 : List Int) (A2 : Option Addr) (c2 : Nat) (l2 : List Int) (r : List Int) (w0 w : World) (hB : Below w0.heap.size w0 w) (ho0 : Kd.R (Kd.int .u32) 69 w w0.heap.size P0_ u9000_ l0) (hr1 : ∀ W_,Kept w W_ (fun k_ => P0_ k_) → Kd.C (Kd.int .u8) W_ A1 l1.length l1) (hc1 : l1.length ≤ c1) (hr2 : ∀ W_,Kept w W_ (fun k_ => P0_ k_) → Kd.C (Kd.int .u32) W_ A2 l2.length l2) (hc2 : l2.length ≤ c2) (h : Zc.f k l0 l1 l2 = some r) :
  Calls Tryz.prog 56 #[u9000_,.slice A1 l1.length c1,.slice A2 l2.length c2] w fun e w' => e = .returned (.tuple #[]) ∧ Kd.R (Kd.int .u32) 69 w' w0.heap.size (fun k_ => (P0_ k_ ∨ w.heap.size ≤ k_)) u9000_ r ∧ Below w0.heap.size w0 w' ∧ Kept w w' (fun k_ => P0_ k_) := by
 unfold Zc.f at h
 by_cases c : l0.length = 8 ∧ l1.length = 64 ∧ l2.length = 64
 case neg =>
  rw [if_neg c] at h
  cases h
 have hv : Zc.v l0 l1 l2 = some r := (Zc.v_lim l0 l1 l2).up k r h
 obtain ⟨h0,h1,h2⟩ := c
 obtain ⟨g0,c0,rfl,-,-,-⟩ := Kd.R_form ho0 (by omega)
 obtain ⟨ad1,rfl,-⟩ := C_cells (hr1 w (Kept.refl w _)) (by omega)
 obtain ⟨ad2,rfl,-⟩ := C_cells (hr2 w (Kept.refl w _)) (by omega)
 have k1 : ∀ W,Kept w W P0_ → ∀ j,j < 64 → W.cell? (ad1.add j) = some (.int .u8 (l1.getD j 0)) := fun W hk j hj => by
  obtain ⟨ad,e,hc⟩ := C_cells (hr1 W hk) (by omega)
  injection e with e
  subst e
  exact hc j (by omega)
 have k2 : ∀ W,Kept w W P0_ → ∀ j,j < 64 → W.cell? (ad2.add j) = some (.int .u32 (l2.getD j 0)) := fun W hk j hj => by
  obtain ⟨ad,e,hc⟩ := C_cells (hr2 W hk) (by omega)
  injection e with e
  subst e
  exact hc j (by omega)
 rw [h0] at ho0 ⊢
 rw [h1] at hc1 ⊢
 rw [h2] at hc2 ⊢
 exact (sblock_walk P0_ g0 c0 l0 l1 l2 r ad1 ad2 c1 c2 w0 w hB ho0 k1 k2 h0 h1 h2 hc1 hc2 hv).mono fun e w' ⟨he,hr,hb,hk⟩ => ⟨he,Kd.R_mono hr (fun k_ hk_ => .inl hk_),hb,hk⟩
theorem Yq.calls  (r : List Int) (w : World) (h : Yq.f  = some r) :
  Calls Tryz.prog 55 #[] w fun e w' => ∃ v0_ : Value,e = .returned (v0_) ∧ Kd.R (Kd.int .u32) 69 w' w.heap.size (fun _ => True) v0_ r ∧ Below w.heap.size w w' := by
 have HB := am_ (Below.refl w.heap.size w)
 have H : (some (([1116352408,1899447441,3049323471,3921009573,961987163,1508970993,2453635748,2870763221,3624381080,310598401,607225278,1426881987,1925078388,2162078206,2614888103,3248222580,3835390401,4022224774,264347078,604807628,770255983,1249150122,1555081692,1996064986,2554220882,2821834349,2952996808,3210313671,3336571891,3584528711,113926993,338241895,666307205,773529912,1294757372,1396182291,1695183700,1986661051,2177026350,2456956037,2730485921,2820302411,3259730800,3345764771,3516065817,3600352804,4094571909,275423344,430227734,506948616,659060556,883997877,958139571,1322822218,1537002063,1747873779,1955562222,2024104815,2227730452,2361852424,2428436474,2756734187,3204031479,3329325298] : List Int))) = some r := h
 clear h
 obtain ⟨y152,hy152⟩ : ∃ y_ : List Int,y_ = (([1116352408,1899447441,3049323471,3921009573,961987163,1508970993,2453635748,2870763221,3624381080,310598401,607225278,1426881987,1925078388,2162078206,2614888103,3248222580,3835390401,4022224774,264347078,604807628,770255983,1249150122,1555081692,1996064986,2554220882,2821834349,2952996808,3210313671,3336571891,3584528711,113926993,338241895,666307205,773529912,1294757372,1396182291,1695183700,1986661051,2177026350,2456956037,2730485921,2820302411,3259730800,3345764771,3516065817,3600352804,4094571909,275423344,430227734,506948616,659060556,883997877,958139571,1322822218,1537002063,1747873779,1955562222,2024104815,2227730452,2361852424,2428436474,2756734187,3204031479,3329325298] : List Int)) := ⟨_,rfl⟩
 replace H : (some y152) = some r := by first | (rw [hy152];with_reducible exact H) | (have H2_ := (Option.bind_some _ _).symm.trans H;rw [hy152];with_reducible exact H2_) | (have H2_ := (Option.bind_some _ _).symm.trans H;with_reducible exact H2_) | with_reducible exact H | (rw [hy152];exact H) | exact H
 have Ny152 := am_ hy152
 clear hy152
 obtain rfl := Option.some.inj H
 go_enter Tryz.func55,Tryz.ntmps55
 go_wp2_with (first | ((with_reducible refine gate_dst (N := 1) rfl ?_);refine Kd.R_lit (Kd.int .u32) _ 69 ?hg (N := 1) ?hd (xs := ([1116352408,1899447441,3049323471,3921009573,961987163,1508970993,2453635748,2870763221,3624381080,310598401,607225278,1426881987,1925078388,2162078206,2614888103,3248222580,3835390401,4022224774,264347078,604807628,770255983,1249150122,1555081692,1996064986,2554220882,2821834349,2952996808,3210313671,3336571891,3584528711,113926993,338241895,666307205,773529912,1294757372,1396182291,1695183700,1986661051,2177026350,2456956037,2730485921,2820302411,3259730800,3345764771,3516065817,3600352804,4094571909,275423344,430227734,506948616,659060556,883997877,958139571,1322822218,1537002063,1747873779,1955562222,2024104815,2227730452,2361852424,2428436474,2756734187,3204031479,3329325298] : List Int)) (inner := [.int .u32 1116352408,.int .u32 1899447441,.int .u32 3049323471,.int .u32 3921009573,.int .u32 961987163,.int .u32 1508970993,.int .u32 2453635748,.int .u32 2870763221,.int .u32 3624381080,.int .u32 310598401,.int .u32 607225278,.int .u32 1426881987,.int .u32 1925078388,.int .u32 2162078206,.int .u32 2614888103,.int .u32 3248222580,.int .u32 3835390401,.int .u32 4022224774,.int .u32 264347078,.int .u32 604807628,.int .u32 770255983,.int .u32 1249150122,.int .u32 1555081692,.int .u32 1996064986,.int .u32 2554220882,.int .u32 2821834349,.int .u32 2952996808,.int .u32 3210313671,.int .u32 3336571891,.int .u32 3584528711,.int .u32 113926993,.int .u32 338241895,.int .u32 666307205,.int .u32 773529912,.int .u32 1294757372,.int .u32 1396182291,.int .u32 1695183700,.int .u32 1986661051,.int .u32 2177026350,.int .u32 2456956037,.int .u32 2730485921,.int .u32 2820302411,.int .u32 3259730800,.int .u32 3345764771,.int .u32 3516065817,.int .u32 3600352804,.int .u32 4094571909,.int .u32 275423344,.int .u32 430227734,.int .u32 506948616,.int .u32 659060556,.int .u32 883997877,.int .u32 958139571,.int .u32 1322822218,.int .u32 1537002063,.int .u32 1747873779,.int .u32 1955562222,.int .u32 2024104815,.int .u32 2227730452,.int .u32 2361852424,.int .u32 2428436474,.int .u32 2756734187,.int .u32 3204031479,.int .u32 3329325298]) (ok := fun _ => True) (okp := fun _ => True) ?hr ?hp (fun _ hk => hk) trivial (Below.refl _ _) (Nat.le_refl _) (by simp) ?_;(case hd => rfl);(case hg => rfl);(case hr => first | (go_simp;done) | (go_simp;rfl));(case hp => exact (Reps.one (show Kd.M (Kd.int .u32) _ _ _ 1116352408 [.int .u32 1116352408] from rfl) (Reps.one (show Kd.M (Kd.int .u32) _ _ _ 1899447441 [.int .u32 1899447441] from rfl) (Reps.one (show Kd.M (Kd.int .u32) _ _ _ 3049323471 [.int .u32 3049323471] from rfl) (Reps.one (show Kd.M (Kd.int .u32) _ _ _ 3921009573 [.int .u32 3921009573] from rfl) (Reps.one (show Kd.M (Kd.int .u32) _ _ _ 961987163 [.int .u32 961987163] from rfl) (Reps.one (show Kd.M (Kd.int .u32) _ _ _ 1508970993 [.int .u32 1508970993] from rfl) (Reps.one (show Kd.M (Kd.int .u32) _ _ _ 2453635748 [.int .u32 2453635748] from rfl) (Reps.one (show Kd.M (Kd.int .u32) _ _ _ 2870763221 [.int .u32 2870763221] from rfl) (Reps.one (show Kd.M (Kd.int .u32) _ _ _ 3624381080 [.int .u32 3624381080] from rfl) (Reps.one (show Kd.M (Kd.int .u32) _ _ _ 310598401 [.int .u32 310598401] from rfl) (Reps.one (show Kd.M (Kd.int .u32) _ _ _ 607225278 [.int .u32 607225278] from rfl) (Reps.one (show Kd.M (Kd.int .u32) _ _ _ 1426881987 [.int .u32 1426881987] from rfl) (Reps.one (show Kd.M (Kd.int .u32) _ _ _ 1925078388 [.int .u32 1925078388] from rfl) (Reps.one (show Kd.M (Kd.int .u32) _ _ _ 2162078206 [.int .u32 2162078206] from rfl) (Reps.one (show Kd.M (Kd.int .u32) _ _ _ 2614888103 [.int .u32 2614888103] from rfl) (Reps.one (show Kd.M (Kd.int .u32) _ _ _ 3248222580 [.int .u32 3248222580] from rfl) (Reps.one (show Kd.M (Kd.int .u32) _ _ _ 3835390401 [.int .u32 3835390401] from rfl) (Reps.one (show Kd.M (Kd.int .u32) _ _ _ 4022224774 [.int .u32 4022224774] from rfl) (Reps.one (show Kd.M (Kd.int .u32) _ _ _ 264347078 [.int .u32 264347078] from rfl) (Reps.one (show Kd.M (Kd.int .u32) _ _ _ 604807628 [.int .u32 604807628] from rfl) (Reps.one (show Kd.M (Kd.int .u32) _ _ _ 770255983 [.int .u32 770255983] from rfl) (Reps.one (show Kd.M (Kd.int .u32) _ _ _ 1249150122 [.int .u32 1249150122] from rfl) (Reps.one (show Kd.M (Kd.int .u32) _ _ _ 1555081692 [.int .u32 1555081692] from rfl) (Reps.one (show Kd.M (Kd.int .u32) _ _ _ 1996064986 [.int .u32 1996064986] from rfl) (Reps.one (show Kd.M (Kd.int .u32) _ _ _ 2554220882 [.int .u32 2554220882] from rfl) (Reps.one (show Kd.M (Kd.int .u32) _ _ _ 2821834349 [.int .u32 2821834349] from rfl) (Reps.one (show Kd.M (Kd.int .u32) _ _ _ 2952996808 [.int .u32 2952996808] from rfl) (Reps.one (show Kd.M (Kd.int .u32) _ _ _ 3210313671 [.int .u32 3210313671] from rfl) (Reps.one (show Kd.M (Kd.int .u32) _ _ _ 3336571891 [.int .u32 3336571891] from rfl) (Reps.one (show Kd.M (Kd.int .u32) _ _ _ 3584528711 [.int .u32 3584528711] from rfl) (Reps.one (show Kd.M (Kd.int .u32) _ _ _ 113926993 [.int .u32 113926993] from rfl) (Reps.one (show Kd.M (Kd.int .u32) _ _ _ 338241895 [.int .u32 338241895] from rfl) (Reps.one (show Kd.M (Kd.int .u32) _ _ _ 666307205 [.int .u32 666307205] from rfl) (Reps.one (show Kd.M (Kd.int .u32) _ _ _ 773529912 [.int .u32 773529912] from rfl) (Reps.one (show Kd.M (Kd.int .u32) _ _ _ 1294757372 [.int .u32 1294757372] from rfl) (Reps.one (show Kd.M (Kd.int .u32) _ _ _ 1396182291 [.int .u32 1396182291] from rfl) (Reps.one (show Kd.M (Kd.int .u32) _ _ _ 1695183700 [.int .u32 1695183700] from rfl) (Reps.one (show Kd.M (Kd.int .u32) _ _ _ 1986661051 [.int .u32 1986661051] from rfl) (Reps.one (show Kd.M (Kd.int .u32) _ _ _ 2177026350 [.int .u32 2177026350] from rfl) (Reps.one (show Kd.M (Kd.int .u32) _ _ _ 2456956037 [.int .u32 2456956037] from rfl) (Reps.one (show Kd.M (Kd.int .u32) _ _ _ 2730485921 [.int .u32 2730485921] from rfl) (Reps.one (show Kd.M (Kd.int .u32) _ _ _ 2820302411 [.int .u32 2820302411] from rfl) (Reps.one (show Kd.M (Kd.int .u32) _ _ _ 3259730800 [.int .u32 3259730800] from rfl) (Reps.one (show Kd.M (Kd.int .u32) _ _ _ 3345764771 [.int .u32 3345764771] from rfl) (Reps.one (show Kd.M (Kd.int .u32) _ _ _ 3516065817 [.int .u32 3516065817] from rfl) (Reps.one (show Kd.M (Kd.int .u32) _ _ _ 3600352804 [.int .u32 3600352804] from rfl) (Reps.one (show Kd.M (Kd.int .u32) _ _ _ 4094571909 [.int .u32 4094571909] from rfl) (Reps.one (show Kd.M (Kd.int .u32) _ _ _ 275423344 [.int .u32 275423344] from rfl) (Reps.one (show Kd.M (Kd.int .u32) _ _ _ 430227734 [.int .u32 430227734] from rfl) (Reps.one (show Kd.M (Kd.int .u32) _ _ _ 506948616 [.int .u32 506948616] from rfl) (Reps.one (show Kd.M (Kd.int .u32) _ _ _ 659060556 [.int .u32 659060556] from rfl) (Reps.one (show Kd.M (Kd.int .u32) _ _ _ 883997877 [.int .u32 883997877] from rfl) (Reps.one (show Kd.M (Kd.int .u32) _ _ _ 958139571 [.int .u32 958139571] from rfl) (Reps.one (show Kd.M (Kd.int .u32) _ _ _ 1322822218 [.int .u32 1322822218] from rfl) (Reps.one (show Kd.M (Kd.int .u32) _ _ _ 1537002063 [.int .u32 1537002063] from rfl) (Reps.one (show Kd.M (Kd.int .u32) _ _ _ 1747873779 [.int .u32 1747873779] from rfl) (Reps.one (show Kd.M (Kd.int .u32) _ _ _ 1955562222 [.int .u32 1955562222] from rfl) (Reps.one (show Kd.M (Kd.int .u32) _ _ _ 2024104815 [.int .u32 2024104815] from rfl) (Reps.one (show Kd.M (Kd.int .u32) _ _ _ 2227730452 [.int .u32 2227730452] from rfl) (Reps.one (show Kd.M (Kd.int .u32) _ _ _ 2361852424 [.int .u32 2361852424] from rfl) (Reps.one (show Kd.M (Kd.int .u32) _ _ _ 2428436474 [.int .u32 2428436474] from rfl) (Reps.one (show Kd.M (Kd.int .u32) _ _ _ 2756734187 [.int .u32 2756734187] from rfl) (Reps.one (show Kd.M (Kd.int .u32) _ _ _ 3204031479 [.int .u32 3204031479] from rfl) (Reps.one (show Kd.M (Kd.int .u32) _ _ _ 3329325298 [.int .u32 3329325298] from rfl) (Reps.none _ _))))))))))))))))))))))))))))))))))))))))))))))))))))))))))))))))));intro v153 w1 ho2 hb hg_ hnew_;clear hg_ hnew_;(first | rw [← Ny152.out] at ho2 | (simp only [Int.reduceToNat] at ho2;rw [← Ny152.out] at ho2));have HO154 := am_ (Kd.R_lower ho2 (below_size (zl_ HB)));replace HB := zs_ HB hb;clear hb ho2))
 go_ret
 exact ⟨_,zt_,zr HO154,zl_ HB⟩
def Zb.T18 : Bool × List (List Nat × List Nat) := (true,[([],[]),([],[]),([],[]),([1,2],[1,2]),([3],[3]),([4],[4]),([5],[5]),([],[]),([],[]),([7,8],[7,8]),([9],[9]),([10],[10]),([11],[11]),([],[]),([],[]),([13,14],[13,14]),([15],[15]),([16],[16]),([17],[17]),([],[]),([],[]),([19,20],[19,20]),([21],[21]),([22],[22]),([6,12,18,23],[6,12,18,23]),([0,24],[0,24]),([25,25,0,1,2,3,4,5,6,7,8,9,10,11,12,13,14,15,16,17,18,19,20,21,22,23,24,25],[0,25])])
def Zb.B18 : List Nat := [0,0,0,6,14,30,62,0,0,384,896,1920,3968,0,0,24576,57344,122880,253952,0,0,1572864,3670016,7864320,16777214,33554431,67108863]
theorem Zb.tab18 : rtab .any (opsOf Tryz.f38 18) = Zb.T18 := by kernel_rfl
theorem Zb.bits18 : waitsOk Zb.T18.2 Zb.B18 = true := by kernel_rfl
theorem Zb.calls (k : Nat) (A0 : Option Addr) (c0 : Nat) (l0 : List Int) (r : ByteArray) (w : World) (hr0 : Kd.C (Kd.int .u8) w A0 l0.length l0) (hc0 : l0.length ≤ c0) (h : Zb.f k l0 = some r) :
  Calls Tryz.prog 38 #[.slice A0 l0.length c0] w fun e w' => e = .returned (.string r) ∧ Below w.heap.size w w' := by
 have HR0 := am_ hr0
 have HC0 := am_ hc0
 clear hr0 hc0
 have HB := am_ (Below.refl w.heap.size w)
 have H : ((some (([] : List Int) : List Int)).bind fun y211 => (if y211.length + l0.length < 140737488355328 then ((some (y211 ++ l0 : List Int)).bind fun y214 => (if y214.length < 140737488355328 then (Zb.l0 k l0 (([1779033703,3144134277,1013904242,2773480762,1359893119,2600822924,528734635,1541459225] : List Int)) (y214 ++ [128])) else (none))) else (none))) = some r := h
 clear h
 obtain ⟨y208,hy208⟩ : ∃ y_ : List Int,y_ = (([1779033703,3144134277,1013904242,2773480762,1359893119,2600822924,528734635,1541459225] : List Int)) := ⟨_,rfl⟩
 replace H : ((some (([] : List Int) : List Int)).bind fun y211 => (if y211.length + l0.length < 140737488355328 then ((some (y211 ++ l0 : List Int)).bind fun y214 => (if y214.length < 140737488355328 then (Zb.l0 k l0 y208 (y214 ++ [128])) else (none))) else (none))) = some r := by first | (rw [hy208];with_reducible exact H) | (have H2_ := (Option.bind_some _ _).symm.trans H;rw [hy208];with_reducible exact H2_) | (have H2_ := (Option.bind_some _ _).symm.trans H;with_reducible exact H2_) | with_reducible exact H | (rw [hy208];exact H) | exact H
 have Ny208 := am_ hy208
 clear hy208
 obtain ⟨y211,hy211⟩ : ∃ y_ : List Int,y_ = (([] : List Int)) := ⟨_,rfl⟩
 replace H : (if y211.length + l0.length < 140737488355328 then ((some (y211 ++ l0 : List Int)).bind fun y214 => (if y214.length < 140737488355328 then (Zb.l0 k l0 y208 (y214 ++ [128])) else (none))) else (none)) = some r := by first | (rw [hy211];with_reducible exact H) | (have H2_ := (Option.bind_some _ _).symm.trans H;rw [hy211];with_reducible exact H2_) | (have H2_ := (Option.bind_some _ _).symm.trans H;with_reducible exact H2_) | with_reducible exact H | (rw [hy211];exact H) | exact H
 have Ny211 := am_ hy211
 clear hy211
 by_cases c2 : y211.length + l0.length < 140737488355328
 case neg =>
  rw [if_neg c2] at H
  exact absurd H (by simp)
 rw [if_pos c2] at H
 have LMc2 := am_ c2
 clear c2
 obtain ⟨y214,hy214⟩ : ∃ y_ : List Int,y_ = (y211 ++ l0) := ⟨_,rfl⟩
 replace H : (if y214.length < 140737488355328 then (Zb.l0 k l0 y208 (y214 ++ [128])) else (none)) = some r := by first | (rw [hy214];with_reducible exact H) | (have H2_ := (Option.bind_some _ _).symm.trans H;rw [hy214];with_reducible exact H2_) | (have H2_ := (Option.bind_some _ _).symm.trans H;with_reducible exact H2_) | with_reducible exact H | (rw [hy214];exact H) | exact H
 have Ny214 := am_ hy214
 clear hy214
 by_cases c3 : y214.length < 140737488355328
 case neg =>
  rw [if_neg c3] at H
  exact absurd H (by simp)
 rw [if_pos c3] at H
 have LMc3 := am_ c3
 clear c3
 obtain ⟨y217,hy217⟩ : ∃ y_ : List Int,y_ = (y214 ++ [128]) := ⟨_,rfl⟩
 replace H : (Zb.l0 k l0 y208 y217) = some r := by first | (rw [hy217];with_reducible exact H) | (have H2_ := (Option.bind_some _ _).symm.trans H;rw [hy217];with_reducible exact H2_) | (have H2_ := (Option.bind_some _ _).symm.trans H;with_reducible exact H2_) | with_reducible exact H | (rw [hy217];exact H) | exact H
 have Ny217 := am_ hy217
 clear hy217
 have H' := am_ H
 clear H
 go_enter Tryz.func38,Tryz.ntmps38
 go_wp2_with (first | ((with_reducible refine gate_dst (N := 10) rfl ?_);refine Kd.R_lit (Kd.int .u32) _ 69 ?hg (N := 10) ?hd (xs := ([1779033703,3144134277,1013904242,2773480762,1359893119,2600822924,528734635,1541459225] : List Int)) (inner := [.int .u32 1779033703,.int .u32 3144134277,.int .u32 1013904242,.int .u32 2773480762,.int .u32 1359893119,.int .u32 2600822924,.int .u32 528734635,.int .u32 1541459225]) (ok := fun _ => True) (okp := fun _ => True) ?hr ?hp (fun _ hk => hk) trivial (Below.refl _ _) (Nat.le_refl _) (by simp) ?_;(case hd => rfl);(case hg => rfl);(case hr => first | (go_simp;done) | (go_simp;rfl));(case hp => exact (Reps.one (show Kd.M (Kd.int .u32) _ _ _ 1779033703 [.int .u32 1779033703] from rfl) (Reps.one (show Kd.M (Kd.int .u32) _ _ _ 3144134277 [.int .u32 3144134277] from rfl) (Reps.one (show Kd.M (Kd.int .u32) _ _ _ 1013904242 [.int .u32 1013904242] from rfl) (Reps.one (show Kd.M (Kd.int .u32) _ _ _ 2773480762 [.int .u32 2773480762] from rfl) (Reps.one (show Kd.M (Kd.int .u32) _ _ _ 1359893119 [.int .u32 1359893119] from rfl) (Reps.one (show Kd.M (Kd.int .u32) _ _ _ 2600822924 [.int .u32 2600822924] from rfl) (Reps.one (show Kd.M (Kd.int .u32) _ _ _ 528734635 [.int .u32 528734635] from rfl) (Reps.one (show Kd.M (Kd.int .u32) _ _ _ 1541459225 [.int .u32 1541459225] from rfl) (Reps.none _ _))))))))));intro v209 w4 ho5 hb hg_ hnew_;clear hg_ hnew_;(first | rw [← Ny208.out] at ho5 | (simp only [Int.reduceToNat] at ho5;rw [← Ny208.out] at ho5));have HO210 := am_ (Kd.R_lower ho5 (below_size (zl_ HB)));replace HB := zs_ HB hb;clear hb ho5) | ((with_reducible refine gate_dst (N := 11) rfl ?_);refine Kd.R_lit (Kd.int .u8) _ 5 ?hg (N := 11) ?hd (xs := ([] : List Int)) (inner := []) (ok := fun _ => True) (okp := fun _ => True) ?hr ?hp (fun _ hk => hk) trivial (Below.refl _ _) (Nat.le_refl _) (by simp) ?_;(case hd => rfl);(case hg => rfl);(case hr => first | (go_simp;done) | (go_simp;rfl));(case hp => exact (Reps.none _ _));intro v212 w6 ho7 hb hg_ hnew_;clear hg_ hnew_;(first | rw [← Ny211.out] at ho7 | (simp only [Int.reduceToNat] at ho7;rw [← Ny211.out] at ho7));replace HO210 := zrb HO210 hb;have HO213 := am_ (Kd.R_lower ho7 (below_size (zl_ HB)));replace HB := zs_ HB hb;clear hb ho7) | ((with_reducible refine gate_builtin (b := .append) (xs := #[.tmp 11,.tmp 12]) rfl ?_);at_builtin;refine Kd.R_append_rows (Kd.int .u8) (w0 := w) w.heap.size rfl (.tmp 11) (.tmp 12) 65 5 (.int .u8 0) 1 rfl Tryz.underlying65 info5 rfl (by decide) (by omega) v212 y211 l0 _ _ _ (fun _ => True) (fun _ => False) rfl rfl ?aO ?aR (fun _ _ h => h) (fun _ h => h.elim) ?aF ?aB ?aS ?aL ?_;(case aR => exact zc_ HR0 HB);(case aB => exact (zl_ HB));(case aF => exact (fun _ _ => trivial));(case aO => exact (zr HO213));(case aS => exact (below_size (zl_ HB)));(case aL => have := LMc2.out;omega);intro v215 w8 ho hb hg hat;rw [← Ny214.out] at ho;replace HO210 := am_ (Kd.R_over' (zr HO210) (Kd.R_typed (zr HO213)) (by decide) hg);replace HB := am_ (hb);have HO216 := am_ (ho);clear HO213;clear ho hb hg hat) | ((with_reducible refine gate_builtin (b := .append) (xs := #[.tmp 13,.tmp 14]) rfl ?_);at_builtin;refine Kd.R_append (Kd.int .u8) (w0 := w) w.heap.size rfl (.tmp 13) (.tmp 14) 65 5 (.int .u8 0) 1 rfl Tryz.underlying65 info5 rfl (by decide) (by omega) v215 y214 128 [.int .u8 128] (fun _ => True) (fun _ => False) rfl rfl ?aP (fun _ hk => hk.elim) ?aF ?aO ?aB ?aS ?aL ?_;(case aP => exact rfl);(case aB => exact (zl_ HB));(case aF => exact (fun _ _ => trivial));(case aO => exact (zr HO216));(case aS => exact (below_size (zl_ HB)));(case aL => have := LMc3.out;omega);intro v218 w9 ho hb hg hat;rw [← Ny217.out] at ho;replace HO210 := am_ (Kd.R_over' (zr HO210) (Kd.R_typed (zr HO216)) (by decide) hg);replace HB := am_ (hb);have HO219 := am_ (ho);clear HO216;clear ho hb hg hat))
 go_loopg [4] k (fun kq v4 w' => ∃ (x4_1 : List Int),Aside0 (Zb.l0 kq l0 y208 x4_1 = some r) ∧ Aside0 (kq ≤ k) ∧ Aside0 (Kd.R (Kd.int .u32) 69 w' w.heap.size (fun _ => True) v209 y208) ∧ Aside0 (Kd.R (Kd.int .u8) 5 w' w.heap.size (fun _ => True) v4 x4_1) ∧ Aside0 (Below w.heap.size w w'))
 case atStart => exact ⟨(y217),H',⟨Nat.le_refl _⟩,⟨zr HO210⟩,⟨zr HO219⟩,⟨zl_ HB⟩⟩
 case round =>
  clear H'
  try clear c2
  try clear p2
  try clear c3
  obtain ⟨x4_1,HA,HK1,HO_3,HO_4,HB⟩ := hrel
  cases gk with
  | zero => exact absurd HA.out (by simp [Zb.l0])
  | succ k1 =>
   have H := HA.out
   clear HA
   simp only [Zb.l0] at H
   by_cases c10 : ((x4_1.length : Int) % 64) = 56
   case neg =>
    rw [if_neg c10] at H
    have c10b0 := beq_eq_false_iff_ne.mpr c10
    have c10b1 := bne_iff_ne.mpr c10
    by_cases c44 : x4_1.length < 140737488355328
    case neg =>
     rw [if_neg c44] at H
     exact absurd H (by simp)
    rw [if_pos c44] at H
    have LMc44 := am_ c44
    clear c44
    obtain ⟨y220,hy220⟩ : ∃ y_ : List Int,y_ = (x4_1 ++ [0]) := ⟨_,rfl⟩
    replace H : (Zb.l0 k1 l0 y208 y220) = some r := by first | (rw [hy220];with_reducible exact H) | (have H2_ := (Option.bind_some _ _).symm.trans H;rw [hy220];with_reducible exact H2_) | (have H2_ := (Option.bind_some _ _).symm.trans H;with_reducible exact H2_) | with_reducible exact H | (rw [hy220];exact H) | exact H
    have Ny220 := am_ hy220
    clear hy220
    have H' := am_ H
    clear H
    obtain ⟨Ao45,co45,eo45⟩ := Kd.R_slice HO_4.out
    subst eo45
    go_wp2_with (first | ((with_reducible refine gate_builtin (b := .append) (xs := #[.tmp 20,.tmp 21]) rfl ?_);at_builtin;refine Kd.R_append (Kd.int .u8) (w0 := w) w.heap.size rfl (.tmp 20) (.tmp 21) 65 5 (.int .u8 0) 1 rfl Tryz.underlying65 info5 rfl (by decide) (by omega) (.slice Ao45 x4_1.length co45) x4_1 0 [.int .u8 0] (fun _ => True) (fun _ => False) rfl rfl ?aP (fun _ hk => hk.elim) ?aF ?aO ?aB ?aS ?aL ?_;(case aP => exact rfl);(case aB => exact (zl_ HB));(case aF => exact (fun _ _ => trivial));(case aO => exact (zr HO_4));(case aS => exact (below_size (zl_ HB)));(case aL => have := LMc44.out;omega);intro v221 w46 ho hb hg hat;rw [← Ny220.out] at ho;replace HO_3 := am_ (Kd.R_over' (zr HO_3) (Kd.R_typed (zr HO_4)) (by decide) hg);replace HB := am_ (hb);have HO222 := am_ (ho);clear HO_4;clear ho hb hg hat))
    go_roundg k1
    case measure => have := HK1.out;omega
    case rel => exact ⟨(y220),H',⟨by have := HK1.out;omega⟩,⟨zr HO_3⟩,⟨zr HO222⟩,⟨zl_ HB⟩⟩
   rw [if_pos c10] at H
   have c10b0 := beq_iff_eq.mpr c10
   have c10b1 := bne_eq_false_iff_eq.mpr c10
   clear c10
   have H' := am_ H
   clear H
   obtain ⟨Ao11,co11,eo11⟩ := Kd.R_slice HO_4.out
   subst eo11
   go_wp2
   go_loopg [4,5] k1 (fun kq v4 v5 w' => ∃ (x4_2 : List Int) (x5_2 : Int),v5 = .int .i64 x5_2 ∧ Aside0 (Zb.l1 kq l0 y208 x4_2 x5_2 = some r) ∧ Aside0 (kq ≤ k1) ∧ Aside0 (Kd.R (Kd.int .u32) 69 w' w.heap.size (fun _ => True) v209 y208) ∧ Aside0 (Kd.R (Kd.int .u8) 5 w' w.heap.size (fun _ => True) v4 x4_2) ∧ Aside0 (Below w.heap.size w w'))
   case atStart => exact ⟨(x4_1),(7),(by first | rfl | (simp;done) | (simp [*];done)),H',⟨Nat.le_refl _⟩,⟨zr HO_3⟩,⟨zr HO_4⟩,⟨zl_ HB⟩⟩
   case round =>
    clear H'
    try clear c1
    try clear c2
    try clear p2
    try clear c3
    try clear c10
    try clear c10b0
    try clear c10b1
    try clear p2
    obtain ⟨x4_2,x5_2,rfl,HA,HK2,HO_3,HO_4,HB⟩ := hrel
    cases gk with
    | zero => exact absurd HA.out (by simp [Zb.l1])
    | succ k2 =>
     have H := HA.out
     clear HA
     simp only [Zb.l1] at H
     by_cases c12 : x5_2 ≥ 0
     ·rw [if_pos c12] at H
      have c12b0 : decide (0 ≤ x5_2) = true := decide_eq_true c12
      clear c12
      obtain ⟨ji13,hji13⟩ : ∃ j_ : Int,(IntKind.u64.wrap (wrap64 (8 * x5_2))) = j_ := ⟨_,rfl⟩
      replace H : (if 0 ≤ (ji13) then (if x4_2.length < 140737488355328 then (Zb.l1 k2 l0 y208 (x4_2 ++ [(shr .i64 (wrap64 (8 * (l0.length : Int))) (ji13)) % 256]) (wrap64 (x5_2 - 1))) else (none)) else (none)) = some r := by first | (rw [hji13] at H;exact H) | (simp only [hji13] at H ⊢;exact H)
      by_cases c14 : 0 ≤ (ji13)
      case neg =>
       rw [if_neg c14] at H
       exact absurd H (by simp)
      rw [if_pos c14] at H
      have c14b0 := eq_true c14
      have c14b1 := decide_eq_true c14
      clear c14
      obtain ⟨ji15,hji15⟩ : ∃ j_ : Int,(shr .i64 (wrap64 (8 * (l0.length : Int))) (ji13)) = j_ := ⟨_,rfl⟩
      replace H : (if x4_2.length < 140737488355328 then (Zb.l1 k2 l0 y208 (x4_2 ++ [(ji15) % 256]) (wrap64 (x5_2 - 1))) else (none)) = some r := by first | (rw [hji15] at H;exact H) | (simp only [hji15] at H ⊢;exact H)
      have hji15_ : ((wrap64 (8 * (l0.length : Int))) / 2 ^ min (ji13).toNat 64) = ji15 := hji15
      have hji15z : (ji13) ≤ 64 → ((wrap64 (8 * (l0.length : Int))) / 2 ^ (ji13).toNat) = ji15 := shr_small hji15
      by_cases c16 : x4_2.length < 140737488355328
      case neg =>
       rw [if_neg c16] at H
       exact absurd H (by simp)
      rw [if_pos c16] at H
      have LMc16 := am_ c16
      clear c16
      obtain ⟨y223,hy223⟩ : ∃ y_ : List Int,y_ = (x4_2 ++ [(ji15) % 256]) := ⟨_,rfl⟩
      replace H : (Zb.l1 k2 l0 y208 y223 (wrap64 (x5_2 - 1))) = some r := by first | (rw [hy223];with_reducible exact H) | (have H2_ := (Option.bind_some _ _).symm.trans H;rw [hy223];with_reducible exact H2_) | (have H2_ := (Option.bind_some _ _).symm.trans H;with_reducible exact H2_) | with_reducible exact H | (rw [hy223];exact H) | exact H
      have Ny223 := am_ hy223
      clear hy223
      have H' := am_ H
      clear H
      go_wp2_with (first | ((with_reducible refine gate_builtin (b := .append) (xs := #[.tmp 27,.tmp 36]) rfl ?_);at_builtin;refine Kd.R_append (Kd.int .u8) (w0 := w) w.heap.size rfl (.tmp 27) (.tmp 36) 65 5 (.int .u8 0) 1 rfl Tryz.underlying65 info5 rfl (by decide) (by omega) u4 x4_2 ((ji15) % 256) [.int .u8 ((ji15) % 256)] (fun _ => True) (fun _ => False) rfl rfl ?aP (fun _ hk => hk.elim) ?aF ?aO ?aB ?aS ?aL ?_;(case aP => exact rfl);(case aB => exact (zl_ HB));(case aF => exact (fun _ _ => trivial));(case aO => exact (zr HO_4));(case aS => exact (below_size (zl_ HB)));(case aL => have := LMc16.out;omega);intro v224 w17 ho hb hg hat;rw [← Ny223.out] at ho;replace HO_3 := am_ (Kd.R_over' (zr HO_3) (Kd.R_typed (zr HO_4)) (by decide) hg);replace HB := am_ (hb);have HO225 := am_ (ho);clear HO_4;clear ho hb hg hat))
      go_roundg k2
      case measure => have := HK1.out;have := HK2.out;omega
      case rel => exact ⟨(y223),(wrap64 (x5_2 - 1)),(by first | rfl | (simp;done) | (simp [*];done)),H',⟨by have := HK1.out;have := HK2.out;omega⟩,⟨zr HO_3⟩,⟨zr HO225⟩,⟨zl_ HB⟩⟩
     rw [if_neg c12] at H
     have c12b0 : decide (0 ≤ x5_2) = false := decide_eq_false c12
     clear c12
     replace H := Option.bind_eq_some_iff.mp H
     obtain ⟨t226,A180,H⟩ := H
     try dsimp only at H
     have A18 := am_ A180
     clear A180
     have H' := am_ H
     clear H
     go_wp2_with (first | ((with_reducible refine gate_callee (f := 55) rfl ?_);refine zgl (some 38) Tryz.func55 #[] ?_;(with_reducible refine (Yq.calls  t226 _ A18.out).mono ?_);rintro e w19 ⟨v227,rfl,ho0,hb⟩;refine ⟨_,rfl,?_⟩;replace HO_4 := zrb HO_4 hb;have HO228 := am_ (Kd.R_lower (Kd.R_new' ho0 (Kd.R_lt (zr HO_3))) (below_size (zl_ HB)));replace HO_3 := am_ (Kd.R_elder' (zr HO_3) (Kd.R_base ho0) hb);replace HB := zs_ HB hb;(try clear hb);(try clear ho0)))
     go_loopg [7] k2 (fun kq v7 w' => ∃ (x3_3 : List Int) (x7_3 : Int),v7 = .int .i64 x7_3 ∧ Aside0 (Zb.l2 kq x3_3 x4_2 t226 x7_3 = some r) ∧ Aside0 (kq ≤ k2) ∧ Aside0 (Kd.R (Kd.int .u32) 69 w' w.heap.size (fun k_ => some k_ ≠ (v227 : Value).ownBlock) v209 x3_3) ∧ Aside0 (Kd.R (Kd.int .u8) 5 w' w.heap.size (fun _ => True) u4 x4_2) ∧ Aside0 (Kd.R (Kd.int .u32) 69 w' w.heap.size (fun k_ => some k_ ≠ (v209 : Value).ownBlock) v227 t226) ∧ Aside0 (Below w.heap.size w w'))
     case atStart => exact ⟨(y208),(0),(by first | rfl | (simp;done) | (simp [*];done)),H',⟨Nat.le_refl _⟩,⟨by (with_reducible repeat (first | apply r1_ | apply r2_ | apply r3_));exact Kd.R_mono HO_3.out (fun _ hk => hk.2)⟩,⟨zr HO_4⟩,⟨by (with_reducible repeat (first | apply r1_ | apply r2_ | apply r3_));exact Kd.R_mono HO228.out (fun _ hk => hk.2)⟩,⟨zl_ HB⟩⟩
     case round =>
      clear H'
      try clear c1
      try clear c2
      try clear p2
      try clear c3
      try clear c5
      try clear p6
      try clear c10
      try clear c10b0
      try clear c10b1
      try clear c12
      try clear c12b0
      try clear c14
      try clear c14b0
      try clear c14b1
      try clear c16
      try clear p2
      obtain ⟨x3_3,x7_3,rfl,HA,HK3,HO_3,HO_4,HO_6,HB⟩ := hrel
      cases gk with
      | zero => exact absurd HA.out (by simp [Zb.l2])
      | succ k3 =>
       have H := HA.out
       clear HA
       simp only [Zb.l2] at H
       by_cases c20 : x7_3 < (x4_2.length : Int)
       ·rw [if_pos c20] at H
        obtain ⟨je_,hje_⟩ : ∃ j_ : Int,(wrap64 (x7_3 + 64)) = j_ := ⟨_,rfl⟩
        rw [hje_] at H
        have hje_w : (IntKind.i64.wrap (x7_3 + 64)) = je_ := (i64_w _).trans hje_
        clear hje_
        have c20b0 := decide_eq_true c20
        clear c20
        by_cases c21 : 0 ≤ x7_3
        case neg =>
         rw [if_neg c21] at H
         exact absurd H (by simp)
        rw [if_pos c21] at H
        have c21b0 := eq_true c21
        have c21b1 := decide_eq_true c21
        clear c21
        by_cases c22 : x7_3 ≤ (je_)
        case neg =>
         rw [if_neg c22] at H
         exact absurd H (by simp)
        rw [if_pos c22] at H
        have c22b0 := eq_true c22
        have c22b1 := decide_eq_true c22
        by_cases c23 : (je_) ≤ (x4_2.length : Int)
        case neg =>
         rw [if_neg c23] at H
         exact absurd H (by simp)
        rw [if_pos c23] at H
        have c23b0 := eq_true c23
        have c23b1 := decide_eq_true c23
        obtain ⟨y229,hy229⟩ : ∃ y_ : List Int,y_ = ((x4_2.take ((je_) : Int).toNat).drop (x7_3 : Int).toNat) := ⟨_,rfl⟩
        replace H : ((Zc.f k3 x3_3 y229 t226).bind fun t233 => (Zb.l2 k3 t233 x4_2 t226 (je_))) = some r := by first | (rw [hy229];with_reducible exact H) | (have H2_ := (Option.bind_some _ _).symm.trans H;rw [hy229];with_reducible exact H2_) | (have H2_ := (Option.bind_some _ _).symm.trans H;with_reducible exact H2_) | with_reducible exact H | (rw [hy229];exact H) | exact H
        have Ny229 := am_ hy229
        clear hy229
        replace H := Option.bind_eq_some_iff.mp H
        obtain ⟨t233,A240,H⟩ := H
        try dsimp only at H
        have A24 := am_ A240
        clear A240
        have H' := am_ H
        clear H
        obtain ⟨Ao25,co25,eo25⟩ := Kd.R_slice HO_4.out
        subst eo25
        have q26 : ((je_) : Int) ≤ ((x4_2.length : Int) : Int) := zo_
        obtain ⟨i026,hi026,_,hsz26,_⟩ := info_parts info5
        have hroom26 : x4_2.length ≤ co25 := (Kd.R_reads' HO_4.out).2.1
        have hC26 : Kd.C (Kd.int .u8) _ Ao25 x4_2.length x4_2 := (Kd.R_reads' HO_4.out).2.2
        have ql26 : (x7_3 : Int) ≤ ((je_) : Int) := zo_
        have q026 : (0 : Int) ≤ (x7_3 : Int) := zo_
        have hcut26 := cut_mid (P := Tryz.prog) 65 5 .i64 .i64 Tryz.underlying65 hi026 1 hsz26 Ao25 x4_2.length co25 x7_3 (je_) q026 ql26 q26 hroom26
        have hr26 := Kd.C_mid (lo := (x7_3 : Int).toNat) (hi := ((je_) : Int).toNat) (c := co25) hC26 (by omega) (by omega) hroom26
        obtain ⟨A26,hA26⟩ : ∃ A1,A1 = (if co25 = (x7_3 : Int).toNat then Ao25 else (Ao25 : Option Addr).map (·.add ((x7_3 : Int).toNat * 1))) := ⟨_,rfl⟩
        obtain ⟨c26,hc26⟩ : ∃ c1,c1 = co25 - (x7_3 : Int).toNat := ⟨_,rfl⟩
        have hy26 : y229.length = ((je_) : Int).toNat - (x7_3 : Int).toNat := (by rw [Ny229.out,d1_,d2_] <;> omega)
        rw [show ((x4_2).take ((je_) : Int).toNat).drop (x7_3 : Int).toNat = y229 from Ny229.out.symm] at hr26
        replace hr26 : Kd.C (Kd.int .u8) _ A26 y229.length y229 := (by rw [hA26];exact hr26)
        rw [← hy26,← hA26,← hc26] at hcut26
        have HR232 := am_ hr26
        have HC232 := am_ (show y229.length ≤ c26 from by rw [hy26,hc26];exact Nat.sub_le_sub_right (Nat.le_trans (by omega) hroom26) _)
        clear hr26 hC26 hroom26 hi026 hsz26 hc26
        have KY26 := am_ hy26
        have KA26 := am_ hA26
        clear hy26 hA26
        have KL26 := am_ (show ((je_) : Int).toNat ≤ x4_2.length from by omega)
        have KM26 := am_ (show (x7_3 : Int).toNat ≤ ((je_) : Int).toNat from by omega)
        replace q26 := eq_true q26
        obtain ⟨Ao27,co27,eo27⟩ := Kd.R_slice HO_3.out
        subst eo27
        obtain ⟨Ao28,co28,eo28⟩ := Kd.R_slice HO_6.out
        subst eo28
        go_wp2_with (first | ((with_reducible refine gate_callee (f := 56) rfl ?_);refine zgl (some 52) Tryz.func56 #[.slice Ao27 x3_3.length co27,.slice A26 y229.length c26,.slice Ao28 t226.length co28] ?_;(with_reducible refine (Zc.calls k3 (fun k_ => some k_ = (.slice Ao27 x3_3.length co27 : Value).ownBlock) (.slice Ao27 x3_3.length co27) x3_3 _ _ y229 _ _ t226 t233 w _ ?side1 ?side2 ?side3 ?side4 ?side5 ?side6 A24.out).mono ?_);(case side1 => exact zl_ HB);(case side2 => exact Kd.R_tight rfl HO_3.out);(case side3 => exact fun W1_ hk1_ => (show Kd.C (Kd.int .u8) W1_ A26 y229.length y229 from by rw [Ny229.out,KA26.out];exact Kd.C_mid (lo := (x7_3 : Int).toNat) (hi := ((je_) : Int).toNat) (c := co25) (Kd.C_kept_own ((Kd.R_apart' HO_4.out (Kd.R_typed HO_3.out) (by decide))) (fun k_ hk_ hs_ => (hk_.2) hs_) W1_ hk1_) KM26.out KL26.out ((Kd.R_reads' HO_4.out).2.1)));(case side4 => exact HC232.out);(case side5 => exact Kd.C_kept_own (HO_6.out) (fun k_ hk_ hs_ => (hk_) hs_));(case side6 => exact (Kd.R_reads' HO_6.out).2.1);rintro e w29 ⟨rfl,hy0,hb,hkp⟩;refine ⟨_,rfl,?_⟩;replace HO_4 := am_ (Kd.R_mono (ok' := fun k_ => True) (Kd.R_keptB ((Kd.R_apart' HO_4.out (Kd.R_typed HO_3.out) (by decide))) hkp (fun k_ hk_ hs_ => (hk_.2) hs_)) (fun k_ hk_ => trivial));replace HO_3 := am_ (Kd.R_reok rfl hy0 (fun k_ e_ => HO_3.out.1 k_ e_));replace HO_6 := am_ (Kd.R_mono (ok' := fun k_ => some k_ ≠ (.slice Ao27 x3_3.length co27 : Value).ownBlock) (Kd.R_keptB (HO_6.out) hkp (fun k_ hk_ hs_ => (hk_) hs_)) (fun k_ hk_ => hk_.1));replace HB := am_ (hb);(try clear hb);(try clear hkp);(try clear hy0)))
        go_roundg k3
        case measure => have := HK1.out;have := HK2.out;have := HK3.out;omega
        case rel => exact ⟨(t233),(je_),(by first | rfl | (simp;done) | (simp [*];done)),H',⟨by have := HK1.out;have := HK2.out;have := HK3.out;omega⟩,⟨zr HO_3⟩,⟨zr HO_4⟩,⟨zr HO_6⟩,⟨zl_ HB⟩⟩
       rw [if_neg c20] at H
       have c20b0 := decide_eq_false c20
       clear c20
       obtain ⟨y234,hy234⟩ : ∃ y_ : List Int,y_ = (([] : List Int)) := ⟨_,rfl⟩
       replace H : (Zb.l3 k3 x3_3 y234 0) = some r := by first | (rw [hy234];with_reducible exact H) | (have H2_ := (Option.bind_some _ _).symm.trans H;rw [hy234];with_reducible exact H2_) | (have H2_ := (Option.bind_some _ _).symm.trans H;with_reducible exact H2_) | with_reducible exact H | (rw [hy234];exact H) | exact H
       have Ny234 := am_ hy234
       clear hy234
       have H' := am_ H
       clear H
       obtain ⟨Ao30,co30,eo30⟩ := Kd.R_slice HO_4.out
       subst eo30
       go_wp2_with (first | ((with_reducible refine gate_dst (N := 53) rfl ?_);refine Kd.R_lit (Kd.int .u8) _ 5 ?hg (N := 53) ?hd (xs := ([] : List Int)) (inner := []) (ok := fun _ => True) (okp := fun _ => True) ?hr ?hp (fun _ hk => hk) trivial (Below.refl _ _) (Nat.le_refl _) (by simp) ?_;(case hd => rfl);(case hg => rfl);(case hr => first | (go_simp;done) | (go_simp;rfl));(case hp => exact (Reps.none _ _));intro v235 w31 ho32 hb hg_ hnew_;clear hg_ hnew_;(first | rw [← Ny234.out] at ho32 | (simp only [Int.reduceToNat] at ho32;rw [← Ny234.out] at ho32));replace HO_3 := zrb HO_3 hb;have HO236 := am_ (Kd.R_lower (Kd.R_new' ho32 (Kd.R_lt (zr HO_4))) (below_size (zl_ HB)));replace HB := zs_ HB hb;clear hb ho32))
       go_loopg [8,9] k3 (fun kq v8 v9 w' => ∃ (x8_4 : List Int) (x9_4 : Int),v9 = .int .i64 x9_4 ∧ Aside0 (Zb.l3 kq x3_3 x8_4 x9_4 = some r) ∧ Aside0 (kq ≤ k3) ∧ Aside0 (Kd.R (Kd.int .u32) 69 w' w.heap.size (fun _ => True) v209 x3_3) ∧ Aside0 (Kd.R (Kd.int .u8) 5 w' w.heap.size (fun _ => True) v8 x8_4) ∧ Aside0 (Below w.heap.size w w'))
       case atStart => exact ⟨(y234),(0),(by first | rfl | (simp;done) | (simp [*];done)),H',⟨Nat.le_refl _⟩,⟨by (with_reducible repeat (first | apply r1_ | apply r2_ | apply r3_));exact Kd.R_mono HO_3.out (fun _ hk => trivial)⟩,⟨by (with_reducible repeat (first | apply r1_ | apply r2_ | apply r3_));exact Kd.R_mono HO236.out (fun _ hk => trivial)⟩,⟨zl_ HB⟩⟩
       case round =>
        clear H'
        try clear c1
        try clear c2
        try clear p2
        try clear q2
        try clear c3
        try clear c5
        try clear p6
        try clear c10
        try clear c10b0
        try clear c10b1
        try clear c12
        try clear c12b0
        try clear c14
        try clear c14b0
        try clear c14b1
        try clear c16
        try clear c20
        try clear c20b0
        try clear c21
        try clear c21b0
        try clear c21b1
        try clear c22
        try clear c22b0
        try clear c22b1
        try clear c23
        try clear c23b0
        try clear c23b1
        try clear c26
        try clear q26
        try clear p2
        try clear p6
        try clear q026
        try clear q26
        obtain ⟨x8_4,x9_4,rfl,HA,HK4,HO_3,HO_8,HB⟩ := hrel
        cases gk with
        | zero => exact absurd HA.out (by simp [Zb.l3])
        | succ k4 =>
         have H := HA.out
         clear HA
         simp only [Zb.l3] at H
         by_cases c33 : x9_4 < 8
         case neg =>
          rw [if_neg c33] at H
          have c33b0 := decide_eq_false c33
          clear c33
          obtain rfl := Option.some.inj H
          have hcv43 := own_string (P := Tryz.prog) Tryz.underlying65 Tryz.underlying5 Tryz.underlying9 (Kd.own_of_R HO_8.out)
          go_wp2
          go_ret
          exact ⟨zt_,zl_ HB⟩
         rw [if_pos c33] at H
         have c33b0 := decide_eq_true c33
         clear c33
         by_cases c34 : 0 ≤ x9_4
         case neg =>
          rw [if_neg c34] at H
          exact absurd H (by simp)
         rw [if_pos c34] at H
         have c34b0 := decide_eq_true c34
         clear c34
         by_cases c35 : x9_4 < (x3_3.length : Int)
         case neg =>
          rw [if_neg c35] at H
          exact absurd H (by simp)
         rw [if_pos c35] at H
         have c35b0 := decide_eq_true c35
         clear c35
         obtain ⟨y241,hy241⟩ : ∃ y_ : List Int,y_ = (([((rd x3_3 x9_4) / 16777216) % 256,((rd x3_3 x9_4) / 65536) % 256,((rd x3_3 x9_4) / 256) % 256,(rd x3_3 x9_4) % 256] : List Int)) := ⟨_,rfl⟩
         replace H : (if x8_4.length + y241.length < 140737488355328 then (Zb.l3 k4 x3_3 (x8_4 ++ y241) (wrap64 (x9_4 + 1))) else (none)) = some r := by first | (rw [hy241];with_reducible exact H) | (have H2_ := (Option.bind_some _ _).symm.trans H;rw [hy241];with_reducible exact H2_) | (have H2_ := (Option.bind_some _ _).symm.trans H;with_reducible exact H2_) | with_reducible exact H | (rw [hy241];exact H) | exact H
         have Ny241 := am_ hy241
         clear hy241
         by_cases c36 : x8_4.length + y241.length < 140737488355328
         case neg =>
          rw [if_neg c36] at H
          exact absurd H (by simp)
         rw [if_pos c36] at H
         have LMc36 := am_ c36
         clear c36
         obtain ⟨y244,hy244⟩ : ∃ y_ : List Int,y_ = (x8_4 ++ y241) := ⟨_,rfl⟩
         replace H : (Zb.l3 k4 x3_3 y244 (wrap64 (x9_4 + 1))) = some r := by first | (rw [hy244];with_reducible exact H) | (have H2_ := (Option.bind_some _ _).symm.trans H;rw [hy244];with_reducible exact H2_) | (have H2_ := (Option.bind_some _ _).symm.trans H;with_reducible exact H2_) | with_reducible exact H | (rw [hy244];exact H) | exact H
         have Ny244 := am_ hy244
         clear hy244
         have H' := am_ H
         clear H
         try go_wp2
         replace HO_3 := am_ (Kd.R_drew HO_3.out)
         replace HO_8 := am_ (Kd.R_drew HO_8.out)
         replace HB := am_ (below_drew1 HB.out)
         obtain ⟨Ao38,co38,eo38⟩ := Kd.R_slice HO_3.out
         (first | subst eo38 | (injection eo38 with f1_ f2_ f3_;have f4_ := f1_.symm;have f5_ := f3_.symm;clear f1_ f2_ f3_;subst f4_;subst f5_))
         have p237 : 0 ≤ (x9_4 : Int) := zo_
         have q237 : x9_4 < (x3_3.length : Int) := zo_
         obtain ⟨ad237,e237,hx237_0⟩ := Kd.at_int (Kd.R_reads' HO_3.out).2.2 x9_4 p237 q237
         cases e237
         replace p237 := eq_true p237
         replace q237 := eq_true q237
         have p238 : 0 ≤ (x9_4 : Int) := zo_
         have q238 : x9_4 < (x3_3.length : Int) := zo_
         obtain ⟨ad238,e238,hx238_0⟩ := Kd.at_int (Kd.R_reads' HO_3.out).2.2 x9_4 p238 q238
         obtain rfl : ad237 = ad238 := (by injection e238)
         replace p238 := eq_true p238
         replace q238 := eq_true q238
         have p239 : 0 ≤ (x9_4 : Int) := zo_
         have q239 : x9_4 < (x3_3.length : Int) := zo_
         obtain ⟨ad239,e239,hx239_0⟩ := Kd.at_int (Kd.R_reads' HO_3.out).2.2 x9_4 p239 q239
         obtain rfl : ad237 = ad239 := (by injection e239)
         replace p239 := eq_true p239
         replace q239 := eq_true q239
         have p240 : 0 ≤ (x9_4 : Int) := zo_
         have q240 : x9_4 < (x3_3.length : Int) := zo_
         obtain ⟨ad240,e240,hx240_0⟩ := Kd.at_int (Kd.R_reads' HO_3.out).2.2 x9_4 p240 q240
         obtain rfl : ad237 = ad240 := (by injection e240)
         replace p240 := eq_true p240
         replace q240 := eq_true q240
         refine start_ (n := 27) (S := fun w' => w'.cell? (ad237.add (x9_4).toNat) = some (.int .u32 (rd x3_3 x9_4)) ∧ w'.cell? (ad237.add (x9_4).toNat) = some (.int .u32 (rd x3_3 x9_4)) ∧ w'.cell? (ad237.add (x9_4).toNat) = some (.int .u32 (rd x3_3 x9_4)) ∧ w'.cell? (ad237.add (x9_4).toNat) = some (.int .u32 (rd x3_3 x9_4))) (ds := [25]) #[false,false,false,false,false,false,false,false,false,false,false,false,false,false,false,false,false,false,false,false,false,false,false,false,false,false,false] (by kernel_rfl) rfl rfl ⟨hx237_0,hx238_0,hx239_0,hx240_0⟩ (fun hHeld => ?_);refine with_tabW Zb.tab18 Zb.bits18 (fun HT_ HW_ => ?_)
         generalize wr.drew = w37 at HO_3 HO_8 HB hx237_0 hx238_0 hx239_0 hx240_0 hHeld ⊢
         refine pu_ 0 58 HT_ ?_
         refine pu_ 1 59 HT_ ?_
         refine pu_ 2 60 HT_ ?_
         refine pu_ 3 61 HT_ ?_
         refine pu_ 7 65 HT_ ?_
         refine pu_ 8 66 HT_ ?_
         refine pu_ 9 67 HT_ ?_
         refine pu_ 13 71 HT_ ?_
         refine pu_ 14 72 HT_ ?_
         refine pu_ 15 73 HT_ ?_
         refine pu_ 19 77 HT_ ?_
         refine pu_ 20 78 HT_ ?_
         refine pu_ 21 79 HT_ ?_
         refine tk_ 4 62 HT_ HW_ hHeld ?_
         refine pu_ 5 63 HT_ ?_
         refine pu_ 6 64 HT_ ?_
         refine tk_ 10 68 HT_ HW_ hHeld ?_
         refine pu_ 11 69 HT_ ?_
         refine pu_ 12 70 HT_ ?_
         refine tk_ 16 74 HT_ HW_ hHeld ?_
         refine pu_ 17 75 HT_ ?_
         refine pu_ 18 76 HT_ ?_
         refine tk_ 22 80 HT_ HW_ hHeld ?_
         refine pu_ 23 81 HT_ ?_
         refine zon 24 (N := some 82) HT_ (fun K hK => ?_)
         refine Kd.R_lit_step (Kd.int .u8) _ 5 ?hg (N := 82) ?hd (xs := ([((rd x3_3 x9_4) / 16777216) % 256,((rd x3_3 x9_4) / 65536) % 256,((rd x3_3 x9_4) / 256) % 256,(rd x3_3 x9_4) % 256] : List Int)) (inner := [.int .u8 (((rd x3_3 x9_4) / 16777216) % 256),.int .u8 (((rd x3_3 x9_4) / 65536) % 256),.int .u8 (((rd x3_3 x9_4) / 256) % 256),.int .u8 ((rd x3_3 x9_4) % 256)]) (ok := fun _ => True) (okp := fun _ => True) ?hr ?hp (fun _ hk => hk) trivial (Below.refl _ _) (Nat.le_refl _) (by simp) ?_;(case hd => rfl);(case hg => rfl);(case hr => first | (go_simp;done) | (go_simp;rfl));(case hp => exact (Reps.one (show Kd.M (Kd.int .u8) _ _ _ (((rd x3_3 x9_4) / 16777216) % 256) [.int .u8 (((rd x3_3 x9_4) / 16777216) % 256)] from rfl) (Reps.one (show Kd.M (Kd.int .u8) _ _ _ (((rd x3_3 x9_4) / 65536) % 256) [.int .u8 (((rd x3_3 x9_4) / 65536) % 256)] from rfl) (Reps.one (show Kd.M (Kd.int .u8) _ _ _ (((rd x3_3 x9_4) / 256) % 256) [.int .u8 (((rd x3_3 x9_4) / 256) % 256)] from rfl) (Reps.one (show Kd.M (Kd.int .u8) _ _ _ ((rd x3_3 x9_4) % 256) [.int .u8 ((rd x3_3 x9_4) % 256)] from rfl) (Reps.none _ _))))))
         intro v242 w39 ho40 hb hg_ hnew_
         have HS0_ := (hb.cell (World.block_lt_of_cell? _ _ (hHeld.1))).trans (hHeld.1)
         have HS1_ := (hb.cell (World.block_lt_of_cell? _ _ (hHeld.2.1))).trans (hHeld.2.1)
         have HS2_ := (hb.cell (World.block_lt_of_cell? _ _ (hHeld.2.2.1))).trans (hHeld.2.2.1)
         have HS3_ := (hb.cell (World.block_lt_of_cell? _ _ (hHeld.2.2.2))).trans (hHeld.2.2.2)
         clear hg_ hnew_
         (first | rw [← Ny241.out] at ho40 | (simp only [Int.reduceToNat] at ho40;rw [← Ny241.out] at ho40))
         replace HO_3 := zrb HO_3 hb
         have HO243 := am_ (Kd.R_lower (Kd.R_new' ho40 (Kd.R_lt (zr HO_8))) (below_size (zl_ HB)))
         replace HO_8 := am_ (Kd.R_elder' (zr HO_8) (Kd.R_base ho40) hb)
         replace HB := zs_ HB hb
         clear hb ho40
         obtain ⟨Ao42,co42,eo42⟩ := Kd.R_slice HO243.out
         (first | subst eo42 | (injection eo42 with f1_ f2_ f3_;have f4_ := f1_.symm;have f5_ := f3_.symm;clear f1_ f2_ f3_;subst f4_;subst f5_))
         refine hK.out _ _ ⟨HS0_,HS1_,HS2_,HS3_⟩ (fun hHeld => ?_)
         clear hK K
         refine nm_ ?_
         refine last_ (i := 25) (N := some 83) #[true,true,true,true,true,true,true,true,true,true,true,true,true,true,true,true,true,true,true,true,true,true,true,true,true,true,false] rfl rfl (one_of HT_.out (by kernel_rfl)) (by decide) (fun K hK => ?_)
         refine Kd.R_append_rows_step (Kd.int .u8) (w0 := w) w.heap.size (by rfl) (.tmp 58) (.tmp 82) 65 5 (.int .u8 0) 1 rfl Tryz.underlying65 info5 rfl (by decide) (by omega) u8 x8_4 y241 _ _ _ (fun k_ => some k_ ≠ (.slice Ao42 y241.length co42 : Value).ownBlock) (fun _ => False) rfl rfl ?aO ?aR (fun _ _ h => h) (fun _ h => h.elim) ?aF ?aB ?aS ?aL ?_
         (case aR => repeat (first | exact (Kd.R_reads' HO243.out).2.2 | (with_reducible refine Kd.C_alloc ?_ _) | (with_reducible refine Kd.C_drewN ?_ _) | (with_reducible refine Kd.C_drew ?_)))
         (case aB => exact (zl_ HB))
         (case aF => exact (fun k_ hk => Kd.fresh' (Kd.R_lt (zr HO243)) k_ hk))
         (case aO => exact (by (with_reducible repeat (first | apply r1_ | apply r2_ | apply r3_));exact Kd.R_mono HO_8.out (fun _ hk => hk.2)))
         (case aS => exact (below_size (zl_ HB)))
         (case aL => have := LMc36.out;omega)
         intro v245 w41 ho hb hg hat
         rw [← Ny244.out] at ho
         replace HO_3 := am_ (Kd.R_over' (zr HO_3) (Kd.R_typed (zr HO_8)) (by decide) hg)
         replace HB := am_ (hb)
         have HO246 := am_ (ho)
         clear HO_8
         clear ho hb hg hat
         refine hK.out _ _ ?_
         clear hK K
         refine nm_ ?_
         refine pu_ 26 8 HT_ ?_
         refine done_ (done_of HT_.out (by kernel_rfl)) ?_
         try go_wp2
         go_roundg k4
         case measure => have := HK1.out;have := HK2.out;have := HK3.out;have := HK4.out;omega
         case rel => exact ⟨(y244),(wrap64 (x9_4 + 1)),(by first | rfl | (simp;done) | (simp [*];done)),H',⟨by have := HK1.out;have := HK2.out;have := HK3.out;have := HK4.out;omega⟩,⟨zr HO_3⟩,⟨by (with_reducible repeat (first | apply r1_ | apply r2_ | apply r3_));exact Kd.R_mono HO246.out (fun _ hk => trivial)⟩,⟨zl_ HB⟩⟩
theorem ZT.calls (k : Nat) (a0 : Int) (r : ByteArray) (w : World) (h : ZT.f k a0 = some r) :
  Calls Tryz.prog 53 #[.int .i64 a0] w fun e w' => e = .returned (.string r) ∧ Below w.heap.size w w' := by
 have HB := am_ (Below.refl w.heap.size w)
 have H : ((some (([(a0) % 256] : List Int) : List Int)).bind fun y247 => (if 8 + (strOfNums y247).size ≤ 9223372036854775807 then (if ((⟨#[110,111,100,101,32,107,101,121]⟩ : ByteArray) ++ (strOfNums y247)).size ≤ 140737488355328 then ((Zb.f k (bytesOf ((⟨#[110,111,100,101,32,107,101,121]⟩ : ByteArray) ++ (strOfNums y247)))).bind fun t253 => (some t253)) else (none)) else (none))) = some r := h
 clear h
 obtain ⟨y247,hy247⟩ : ∃ y_ : List Int,y_ = (([(a0) % 256] : List Int)) := ⟨_,rfl⟩
 replace H : (if 8 + (strOfNums y247).size ≤ 9223372036854775807 then (if ((⟨#[110,111,100,101,32,107,101,121]⟩ : ByteArray) ++ (strOfNums y247)).size ≤ 140737488355328 then ((Zb.f k (bytesOf ((⟨#[110,111,100,101,32,107,101,121]⟩ : ByteArray) ++ (strOfNums y247)))).bind fun t253 => (some t253)) else (none)) else (none)) = some r := by first | (rw [hy247];with_reducible exact H) | (have H2_ := (Option.bind_some _ _).symm.trans H;rw [hy247];with_reducible exact H2_) | (have H2_ := (Option.bind_some _ _).symm.trans H;with_reducible exact H2_) | with_reducible exact H | (rw [hy247];exact H) | exact H
 have Ny247 := am_ hy247
 clear hy247
 by_cases c2 : 8 + (strOfNums y247).size ≤ 9223372036854775807
 case neg =>
  rw [if_neg c2] at H
  exact absurd H (by simp)
 rw [if_pos c2] at H
 have c2b0 := eq_true c2
 have c2b1 := decide_eq_true c2
 try have c2b2 : (9223372036854775807 < 8 + (strOfNums y247).size) = False := eq_false (Nat.not_lt.2 c2)
 by_cases c3 : ((⟨#[110,111,100,101,32,107,101,121]⟩ : ByteArray) ++ (strOfNums y247)).size ≤ 140737488355328
 case neg =>
  rw [if_neg c3] at H
  exact absurd H (by simp)
 rw [if_pos c3] at H
 have c3b0 := eq_true c3
 have c3b1 := decide_eq_true c3
 obtain ⟨y250,hy250⟩ : ∃ y_ : List Int,y_ = (bytesOf ((⟨#[110,111,100,101,32,107,101,121]⟩ : ByteArray) ++ (strOfNums y247))) := ⟨_,rfl⟩
 replace H : ((Zb.f k y250).bind fun t253 => (some t253)) = some r := by first | (rw [hy250];with_reducible exact H) | (have H2_ := (Option.bind_some _ _).symm.trans H;rw [hy250];with_reducible exact H2_) | (have H2_ := (Option.bind_some _ _).symm.trans H;with_reducible exact H2_) | with_reducible exact H | (rw [hy250];exact H) | exact H
 have Ny250 := am_ hy250
 clear hy250
 replace H := Option.bind_eq_some_iff.mp H
 obtain ⟨t253,A40,H⟩ := H
 try dsimp only at H
 have A4 := am_ A40
 clear A40
 obtain rfl := Option.some.inj H
 go_enter Tryz.func53,Tryz.ntmps53
 go_wp2_with (first | ((with_reducible refine gate_dst (N := 5) rfl ?_);refine Kd.R_lit (Kd.int .u8) _ 5 ?hg (N := 5) ?hd (xs := ([(a0) % 256] : List Int)) (inner := [.int .u8 ((a0) % 256)]) (ok := fun _ => True) (okp := fun _ => True) ?hr ?hp (fun _ hk => hk) trivial (Below.refl _ _) (Nat.le_refl _) (by simp) ?_;(case hd => rfl);(case hg => rfl);(case hr => first | (go_simp;done) | (go_simp;rfl));(case hp => exact (Reps.one (show Kd.M (Kd.int .u8) _ _ _ ((a0) % 256) [.int .u8 ((a0) % 256)] from rfl) (Reps.none _ _)));intro v248 w5 ho6 hb hg_ hnew_;clear hg_ hnew_;(first | rw [← Ny247.out] at ho6 | (simp only [Int.reduceToNat] at ho6;rw [← Ny247.out] at ho6));have HO249 := am_ (Kd.R_lower ho6 (below_size (zl_ HB)));replace HB := zs_ HB hb;clear hb ho6;have hcv7 := own_string (P := Tryz.prog) Tryz.underlying65 Tryz.underlying5 Tryz.underlying9 (Kd.own_of_R HO249.out)) | ((with_reducible refine gate_dst (N := 8) rfl ?_);refine Kd.V_conv (Kd.int .u8) rfl _ 5 rfl (N := 8) rfl 9 65 _ rfl ((⟨#[110,111,100,101,32,107,101,121]⟩ : ByteArray) ++ (strOfNums y247)) rfl Tryz.underlying9 Tryz.underlying65 Tryz.underlying5 (ok := fun k_ => w5.heap.size ≤ k_) (okp := fun _ => False) (fun _ hk => hk.elim) (Nat.le_refl _) (by have := o1_ (by first | (with_reducible assumption) | assumption : decide (((⟨#[110,111,100,101,32,107,101,121]⟩ : ByteArray) ++ (strOfNums y247)).size ≤ 140737488355328) = true);omega) (Below.refl _ _) (Nat.le_refl _) ?_;intro v251 w8 ho9 hb hg_ hnew_;clear hg_ hnew_;(first | rw [← Ny250.out] at ho9 | (simp only [Int.reduceToNat] at ho9;rw [← Ny250.out] at ho9));have HO252 := am_ (Kd.V_lower (Kd.V_mono (ok' := fun k_ => some k_ ≠ (v248 : Value).ownBlock) ho9 (fun k_ hk_ => (Kd.fresh' (Kd.R_lt (zr HO249)) k_ hk_))) (below_size (zl_ HB)));replace HB := zs_ HB hb;clear hb ho9;obtain ⟨Ao10,co10,eo10⟩ := Kd.V_slice HO252.out;subst eo10) | ((with_reducible refine gate_callee (f := 38) rfl ?_);refine zgl (some 9) Tryz.func38 #[.slice Ao10 y250.length co10] ?_;(with_reducible refine (Zb.calls k _ _ y250 t253 _ ?side1 ?side2 A4.out).mono ?_);(case side1 => repeat (first | exact (Kd.V_reads' HO252.out).2.2 | (with_reducible refine Kd.C_alloc ?_ _) | (with_reducible refine Kd.C_drewN ?_ _) | (with_reducible refine Kd.C_drew ?_)));(case side2 => exact (Kd.V_reads' HO252.out).2.1);rintro e w11 ⟨rfl,hb⟩;refine ⟨_,rfl,?_⟩;replace HB := zs_ HB hb;(try clear hb)))
 go_ret
 exact ⟨zt_,zl_ HB⟩
end Go.Proofs.YtbhegbhdenngbaaGreatDoor.A
end

section
namespace Go.Proofs.YtbhegbhdenngbaaGreatDoor.A
open Go.RowKit Go.Proofs.YtbhegbhdenngbaaGreatDoorW.PrintWords Go.Proofs.YtbhegbhdenngbaaGreatDoorW.PrintLast Go.Proofs.YtbhegbhdenngbaaGreatDoorW.PrintMore
theorem bm_C {W : World} {g cap : Nat} {l : List Int} (h : Bm W g cap l) (hl : l.length ≤ 140737488355328) : Kd.C (Kd.int .u8) W (some ⟨g,0,none⟩) l.length l :=
 Kd.C_of_reads (enc := Value.int .u8) (d := (0 : Int)) (h1 := fun _ => rfl) ⟨rfl,by omega,fun hn => ⟨⟨g,0,none⟩,rfl,fun j hj => by rw [add0];exact h.cell j hj⟩⟩
theorem firstCells_C {P : Program} {W : World} {A : Option Addr} {c : Nat} {ys : List Int} (hC : Kd.C (Kd.int .u8) W A ys.length ys) : ∀ W',W'.heap = W.heap → (Builtin.firstCells 1 ys.length (.slice A ys.length c)).run P W' = .ok (nums .u8 ys).toArray W' := by
 intro W' hW
 by_cases h0 : 0 < ys.length
 ·obtain ⟨ad,e,cc⟩ := Kd.at_int hC 0 (by decide) (by omega)
  subst e
  refine run_firstCells_some (P := P) W' 1 ys.length ad ys.length c (nums .u8 ys) (by rw [nums_length];omega) (fun j v hj => ?_)
  have hjl : j < ys.length := by
   have := (List.getElem?_eq_some_iff.1 hj).1
   rw [nums_length] at this
   exact this
  obtain ⟨ad2,e2,c2⟩ := Kd.at_int hC (j : Int) (by omega) (by omega)
  obtain rfl : ad = ad2 := Option.some.inj e2
  rw [Int.toNat_natCast] at c2
  have hc : W'.cell? (ad.add j) = W.cell? (ad.add j) := by unfold World.cell?;rw [hW]
  rw [hc,c2]
  simp only [nums,List.getElem?_map,List.getElem?_eq_getElem hjl,Option.map_some,Option.some.injEq] at hj
  subst hj
  simp [rd,List.getD,hjl]
 ·have h1 : ys = [] := List.eq_nil_of_length_eq_zero (by omega)
  subst h1
  cases A with
  | none => simp [Builtin.firstCells,nums]
  | some ad => exact run_firstCells_some (P := P) W' 1 0 ad 0 c [] rfl (fun j v hj => by simp at hj)
theorem appendC_hs {P : Program} {ops : Array Oper} {rest : List Oper} {o : Oper} {a : Act} {Q : Exit → Act → World → Prop} {w W : World} {n g cap : Nat} {l ys : List Int} {A : Option Addr} {c : Nat} (t e : TypeId) (hgd : o.guard = none) (s x : Operand)
  (ho : o.op = .call { callee := .builtin .append,args := #[s,x],argTypes := #[t,t] })
  (ht : P.underlying t = some (.slice e)) (hinfo : (P.info? e).map (fun i => (i.zero,i.size,i.bytes)) = some (some (.int .u8 0),1,1))
  (hs : a.eval s = .slice (some ⟨g,0,none⟩) l.length cap) (hx : a.eval x = .slice A ys.length c) (hC : Kd.C (Kd.int .u8) W A ys.length ys) (hne : 0 < l.length) (HB : Hs w W n g cap l) (hl : l.length + ys.length ≤ 140737488355328)
  (h : ∀ g' cap' w1,Hs w w1 n g' cap' (l ++ ys) → wpList P ops Q rest (a.put o.dst (.slice (some ⟨g',0,none⟩) (l ++ ys).length cap')) w1) :
  wpList P ops Q (o :: rest) a W := by
 obtain ⟨g',cap',w1,hr,hb,hg,hat⟩ := run_append_bm (P := P) (W := W) t t o.type e ht (Or.inr ht) hinfo (.slice A ys.length c) ys (fun W' => by simp [Builtin.lenOf]) (firstCells_C hC) HB.row hl
 refine wpList_plain hgd fun K hK => ?_
 unfold Oper.wp execOp
 simp only [ho,resolve,invoke,builtin,Sem.run_bind,Sem.run_pure,Result.andThen_ok,List.map_toArray,List.map_cons,List.map_nil,hs,hx,hr]
 refine hK _ _ ?_
 have := h g' cap' w1 (HB.after hb (by have := hb.room;rw [List.length_append] at this;omega) hg hat)
 rwa [List.length_append] at this
set_option maxHeartbeats 2000000 in
set_option maxRecDepth 100000 in
theorem mac_walk (k : Nat) (a0 : Int) (A1 : Option Addr) (c1 : Nat) (l1 : List Int) (t t2 : ByteArray) (w : World) (hr1 : Kd.C (Kd.int .u8) w A1 l1.length l1) (hc1 : l1.length ≤ c1) (h1 : ZT.f k a0 = some t) (hz : t.size + l1.length < 140737488355328) (h0 : 0 < t.size) (h2 : Zb.f k (bytesOf t ++ l1) = some t2) (h8 : 8 ≤ t2.size) :
  Calls Tryz.prog 36 #[.int .i64 a0,.slice A1 l1.length c1] w fun e w' => e = .returned (.string (t2.extract 0 8)) ∧ Below w.heap.size w w' := by
 have HR := Aside0.mk hr1
 have HC := Aside0.mk hc1
 have H1 := Aside0.mk h1
 have H2 := Aside0.mk h2
 have hb : (bytesOf t).length = t.size := bytesOf_length t
 have HZ := Aside0.mk (And.intro hb (And.intro hz h0))
 clear hr1 hc1 h1 h2 hb hz h0
 have h8i : (8 : Int) ≤ (t2.size : Int) := by omega
 go_enter Tryz.func36,Tryz.ntmps36
 go_wp2_with (first | (go_at_call 53;with_reducible refine (ZT.calls k a0 t _ H1.out).mono ?_;rintro e w1 ⟨rfl,hb1⟩;have B1 := Aside0.mk hb1;clear hb1) | ((with_reducible refine gate_dst (N := 7) rfl ?_);refine conv_hs 5 rfl 9 65 _ rfl t rfl Tryz.underlying9 Tryz.underlying65 Tryz.underlying5 ?_;intro g cap w2 F0;have F := Aside0.mk F0;clear F0) | ((with_reducible refine gate_builtin (b := .append) (xs := #[.tmp 7,.tmp 8]) rfl ?_);at_builtin;refine appendC_hs (l := bytesOf t) (ys := l1) 65 5 rfl (.tmp 7) (.tmp 8) rfl Tryz.underlying65 info5 (by rw [HZ.out.1];rfl) rfl (Kd.C_below HR.out (Below.trans B1.out (F.out.below.mono B1.out.size))) (by have := HZ.out;omega) F.out (by have := HZ.out;omega) ?_;clear F;intro g' cap' w3 F0;have F := Aside0.mk F0;clear F0) | (go_at_call 38;refine calls_of_args (args' := #[.slice (some ⟨g',0,none⟩) (bytesOf t ++ l1).length cap']) (by rw [List.length_append]) ?_;with_reducible refine (Zb.calls k (some ⟨g',0,none⟩) cap' (bytesOf t ++ l1) t2 _ (bm_C F.out.row (by have := HZ.out;rw [List.length_append];omega)) F.out.row.room H2.out).mono ?_;rintro e w4 ⟨rfl,hb4⟩;have B4 := Aside0.mk (Below.trans (Below.trans B1.out (F.out.below.mono B1.out.size)) (hb4.mono (Nat.le_trans B1.out.size F.out.below.size)));clear hb4 F B1))
 go_ret
 exact ⟨by first | rfl | (simp;done),B4.out⟩
end Go.Proofs.YtbhegbhdenngbaaGreatDoor.A
end

section
namespace Go.Proofs.YtbhegbhdenngbaaGreatDoor.A
open Go.RowKit Go.Proofs.YtbhegbhdenngbaaGreatDoorW.PrintWords Go.Proofs.YtbhegbhdenngbaaGreatDoorW.PrintLast Go.Proofs.YtbhegbhdenngbaaGreatDoorW.PrintMore
attribute [local go_sem] max2_int min2_int max_two min_two max_three min_three max_four min_four
theorem ZS.calls (k : Nat) (a0 : Int) (A1 : Option Addr) (c1 : Nat) (l1 : List Int) (r : ByteArray) (w : World) (hr1 : Kd.C (Kd.int .u8) w A1 l1.length l1) (hc1 : l1.length ≤ c1) (h : ZS.f k a0 l1 = some r) :
  Calls Tryz.prog 36 #[.int .i64 a0,.slice A1 l1.length c1] w fun e w' => e = .returned (.string r) ∧ Below w.heap.size w w' := by
 unfold ZS.f at h
 obtain ⟨t1,h1,h⟩ := Option.bind_eq_some_iff.1 h
 by_cases c : t1.size + l1.length < 140737488355328 ∧ 0 < t1.size
 case neg =>
  rw [if_neg c] at h
  cases h
 rw [if_pos c] at h
 obtain ⟨t2,h2,h⟩ := Option.bind_eq_some_iff.1 h
 by_cases c8 : 8 ≤ t2.size
 case neg =>
  rw [if_neg c8] at h
  cases h
 rw [if_pos c8] at h
 obtain rfl := Option.some.inj h
 exact mac_walk k a0 A1 c1 l1 t1 t2 w hr1 hc1 h1 c.1 c.2 h2 c8
theorem Zt.calls (k : Nat) (a0 : Int) (a1 : Int) (r : List Int) (w : World) (h : Zt.f k a0 a1 = some r) :
  Calls Tryz.prog 54 #[.int .i64 a0,.int .i64 a1] w fun e w' => ∃ v0_ : Value,e = .returned (v0_) ∧ Kd.R (Kd.int .u8) 5 w' w.heap.size (fun _ => True) v0_ r ∧ Below w.heap.size w w' := by
 have HB := am_ (Below.refl w.heap.size w)
 have H : (Zt.l0 k a0 (([] : List Int)) (wrap64 (a1 - 1))) = some r := h
 clear h
 obtain ⟨y254,hy254⟩ : ∃ y_ : List Int,y_ = (([] : List Int)) := ⟨_,rfl⟩
 replace H : (Zt.l0 k a0 y254 (wrap64 (a1 - 1))) = some r := by first | (rw [hy254];with_reducible exact H) | (have H2_ := (Option.bind_some _ _).symm.trans H;rw [hy254];with_reducible exact H2_) | (have H2_ := (Option.bind_some _ _).symm.trans H;with_reducible exact H2_) | with_reducible exact H | (rw [hy254];exact H) | exact H
 have Ny254 := am_ hy254
 clear hy254
 have H' := am_ H
 clear H
 go_enter Tryz.func54,Tryz.ntmps54
 go_wp2_with (first | ((with_reducible refine gate_dst (N := 7) rfl ?_);refine Kd.R_lit (Kd.int .u8) _ 5 ?hg (N := 7) ?hd (xs := ([] : List Int)) (inner := []) (ok := fun _ => True) (okp := fun _ => True) ?hr ?hp (fun _ hk => hk) trivial (Below.refl _ _) (Nat.le_refl _) (by simp) ?_;(case hd => rfl);(case hg => rfl);(case hr => first | (go_simp;done) | (go_simp;rfl));(case hp => exact (Reps.none _ _));intro v255 w3 ho4 hb hg_ hnew_;clear hg_ hnew_;(first | rw [← Ny254.out] at ho4 | (simp only [Int.reduceToNat] at ho4;rw [← Ny254.out] at ho4));have HO256 := am_ (Kd.R_lower ho4 (below_size (zl_ HB)));replace HB := zs_ HB hb;clear hb ho4))
 go_loopg [5,6] k (fun kq v5 v6 w' => ∃ (x5_1 : List Int) (x6_1 : Int),v6 = .int .i64 x6_1 ∧ Aside0 (Zt.l0 kq a0 x5_1 x6_1 = some r) ∧ Aside0 (kq ≤ k) ∧ Aside0 (Kd.R (Kd.int .u8) 5 w' w.heap.size (fun _ => True) v5 x5_1) ∧ Aside0 (Below w.heap.size w w'))
 case atStart => exact ⟨(y254),(wrap64 (a1 - 1)),(by first | rfl | (simp;done) | (simp [*];done)),H',⟨Nat.le_refl _⟩,⟨zr HO256⟩,⟨zl_ HB⟩⟩
 case round =>
  clear H'
  try clear p2
  obtain ⟨x5_1,x6_1,rfl,HA,HK1,HO_5,HB⟩ := hrel
  cases gk with
  | zero => exact absurd HA.out (by simp [Zt.l0])
  | succ k1 =>
   have H := HA.out
   clear HA
   simp only [Zt.l0] at H
   by_cases c5 : x6_1 ≥ 0
   case neg =>
    rw [if_neg c5] at H
    have c5b0 : decide (0 ≤ x6_1) = false := decide_eq_false c5
    clear c5
    obtain rfl := Option.some.inj H
    go_wp2
    go_ret
    exact ⟨_,zt_,zr HO_5,zl_ HB⟩
   rw [if_pos c5] at H
   have c5b0 : decide (0 ≤ x6_1) = true := decide_eq_true c5
   clear c5
   obtain ⟨ji6,hji6⟩ : ∃ j_ : Int,(IntKind.u64.wrap (wrap64 (8 * x6_1))) = j_ := ⟨_,rfl⟩
   replace H : (if 0 ≤ (ji6) then (if x5_1.length < 140737488355328 then (Zt.l0 k1 a0 (x5_1 ++ [(shr .i64 a0 (ji6)) % 256]) (wrap64 (x6_1 - 1))) else (none)) else (none)) = some r := by first | (rw [hji6] at H;exact H) | (simp only [hji6] at H ⊢;exact H)
   by_cases c7 : 0 ≤ (ji6)
   case neg =>
    rw [if_neg c7] at H
    exact absurd H (by simp)
   rw [if_pos c7] at H
   have c7b0 := eq_true c7
   have c7b1 := decide_eq_true c7
   clear c7
   obtain ⟨ji8,hji8⟩ : ∃ j_ : Int,(shr .i64 a0 (ji6)) = j_ := ⟨_,rfl⟩
   replace H : (if x5_1.length < 140737488355328 then (Zt.l0 k1 a0 (x5_1 ++ [(ji8) % 256]) (wrap64 (x6_1 - 1))) else (none)) = some r := by first | (rw [hji8] at H;exact H) | (simp only [hji8] at H ⊢;exact H)
   have hji8_ : (a0 / 2 ^ min (ji6).toNat 64) = ji8 := hji8
   have hji8z : (ji6) ≤ 64 → (a0 / 2 ^ (ji6).toNat) = ji8 := shr_small hji8
   by_cases c9 : x5_1.length < 140737488355328
   case neg =>
    rw [if_neg c9] at H
    exact absurd H (by simp)
   rw [if_pos c9] at H
   have LMc9 := am_ c9
   clear c9
   obtain ⟨y257,hy257⟩ : ∃ y_ : List Int,y_ = (x5_1 ++ [(ji8) % 256]) := ⟨_,rfl⟩
   replace H : (Zt.l0 k1 a0 y257 (wrap64 (x6_1 - 1))) = some r := by first | (rw [hy257];with_reducible exact H) | (have H2_ := (Option.bind_some _ _).symm.trans H;rw [hy257];with_reducible exact H2_) | (have H2_ := (Option.bind_some _ _).symm.trans H;with_reducible exact H2_) | with_reducible exact H | (rw [hy257];exact H) | exact H
   have Ny257 := am_ hy257
   clear hy257
   have H' := am_ H
   clear H
   go_wp2_with (first | ((with_reducible refine gate_builtin (b := .append) (xs := #[.tmp 14,.tmp 21]) rfl ?_);at_builtin;refine Kd.R_append (Kd.int .u8) (w0 := w) w.heap.size rfl (.tmp 14) (.tmp 21) 65 5 (.int .u8 0) 1 rfl Tryz.underlying65 info5 rfl (by decide) (by omega) u5 x5_1 ((ji8) % 256) [.int .u8 ((ji8) % 256)] (fun _ => True) (fun _ => False) rfl rfl ?aP (fun _ hk => hk.elim) ?aF ?aO ?aB ?aS ?aL ?_;(case aP => exact rfl);(case aB => exact (zl_ HB));(case aF => exact (fun _ _ => trivial));(case aO => exact (zr HO_5));(case aS => exact (below_size (zl_ HB)));(case aL => have := LMc9.out;omega);intro v258 w10 ho hb hg hat;rw [← Ny257.out] at ho;replace HB := am_ (hb);have HO259 := am_ (ho);clear HO_5;clear ho hb hg hat))
   go_roundg k1
   case measure => have := HK1.out;omega
   case rel => exact ⟨(y257),(wrap64 (x6_1 - 1)),(by first | rfl | (simp;done) | (simp [*];done)),H',⟨by have := HK1.out;omega⟩,⟨zr HO259⟩,⟨zl_ HB⟩⟩
end Go.Proofs.YtbhegbhdenngbaaGreatDoor.A
end

section
namespace Go.Proofs.YtbhegbhdenngbaaGreatDoor.A
open Go.RowKit Go.Proofs.YtbhegbhdenngbaaGreatDoorW.PrintWords Go.Proofs.YtbhegbhdenngbaaGreatDoorW.PrintLast Go.Proofs.YtbhegbhdenngbaaGreatDoorW.PrintMore
set_option maxHeartbeats 2000000 in
set_option maxRecDepth 100000 in
theorem reading_walk (k : Nat) (a0 a1 : Int) (t1 : List Int) (r : ByteArray) (w : World) (h1 : Zt.f k a1 4 = some t1) (hl : 5 + t1.length < 140737488355328) (h2 : ZS.f k a0 (([99,108,111,99,107] : List Int) ++ t1) = some r) :
  Calls Tryz.prog 50 #[.int .i64 a0,.int .i64 a1] w fun e w' => e = .returned (.string r) ∧ Below w.heap.size w w' := by
 have H1 := Aside0.mk h1
 have H2 := Aside0.mk h2
 have HL := Aside0.mk hl
 clear h1 h2 hl
 go_enter Tryz.func50,Tryz.ntmps50
 go_wp2_with (first
  | ((with_reducible refine gate_dst (N := 7) rfl ?_);refine convlit_hs 65 5 [99,108,111,99,107] rfl (.tmp 6) rfl Tryz.underlying65 Tryz.underlying5 rfl rfl (by decide) rfl ?_;intro g cap w1 F0;have F := Aside0.mk F0;clear F0)
  | (go_at_call 54;with_reducible refine (Zt.calls k a1 4 t1 _ H1.out).mono ?_;rintro e w2 ⟨v2,rfl,ho2,hb2⟩;obtain ⟨A2,c2,e2⟩ := Kd.R_slice ho2;subst e2;have HN := Aside0.mk ho2;have F' := Aside0.mk (F.out.on hb2);clear F hb2 ho2)
  | ((with_reducible refine gate_builtin (b := .append) (xs := #[.tmp 7,.tmp 9]) rfl ?_);at_builtin;refine appendC_hs (l := [99,108,111,99,107]) (ys := t1) 65 5 rfl (.tmp 7) (.tmp 9) rfl Tryz.underlying65 info5 rfl rfl (Kd.R_reads' HN.out).2.2 (by decide) F'.out (by have := HL.out;show 5 + t1.length ≤ _;omega) ?_;clear F' HN;intro g' cap' w3 F0;have F := Aside0.mk F0;clear F0)
  | (go_at_call 36;refine (ZS.calls k a0 (some ⟨g',0,none⟩) cap' (([99,108,111,99,107] : List Int) ++ t1) r _ (bmC F.out.row (by have := HL.out;show ([99,108,111,99,107] ++ t1 : List Int).length ≤ _;rw [List.length_append];show 5 + t1.length ≤ _;omega)) F.out.row.room H2.out).mono ?_;rintro e w6 ⟨rfl,hb6⟩;have B := Aside0.mk (Below.trans F.out.below (hb6.mono (by have := F.out.below.size;exact this)));clear hb6 F))
 go_ret
 exact ⟨rfl,B.out⟩
end Go.Proofs.YtbhegbhdenngbaaGreatDoor.A
end

section
namespace Go.Proofs.YtbhegbhdenngbaaGreatDoor.A
open Go.RowKit Go.Proofs.YtbhegbhdenngbaaGreatDoorW.PrintWords Go.Proofs.YtbhegbhdenngbaaGreatDoorW.PrintLast Go.Proofs.YtbhegbhdenngbaaGreatDoorW.PrintMore
attribute [local go_sem] max2_int min2_int max_two min_two max_three min_three max_four min_four
theorem ZL.calls (k : Nat) (a0 : Int) (a1 : Int) (r : ByteArray) (w : World) (h : ZL.f k a0 a1 = some r) :
  Calls Tryz.prog 50 #[.int .i64 a0,.int .i64 a1] w fun e w' => e = .returned (.string r) ∧ Below w.heap.size w w' := by
 have H : ((some (([99,108,111,99,107] : List Int) : List Int)).bind fun y1 => ((Zt.f k a1 4).bind fun t1 => (if y1.length + t1.length < 140737488355328 then ((ZS.f k a0 (y1 ++ t1)).bind fun t2 => (some t2)) else (none)))) = some r := h
 clear h
 rw [Option.bind_some] at H
 obtain ⟨t1,h1,H⟩ := Option.bind_eq_some_iff.1 H
 by_cases c : ([99,108,111,99,107] : List Int).length + t1.length < 140737488355328
 case neg =>
  rw [if_neg c] at H
  cases H
 rw [if_pos c] at H
 obtain ⟨t2,h2,H⟩ := Option.bind_eq_some_iff.1 H
 obtain rfl := Option.some.inj H
 exact reading_walk k a0 a1 t1 _ w h1 (by simpa using c) h2
theorem Zk.calls (k : Nat) (A0 : Option Addr) (c0 : Nat) (l0 : List Int) (r : List Int) (w : World) (hr0 : Kd.C (Kd.int .i64) w A0 l0.length l0) (hc0 : l0.length ≤ c0) (h : Zk.f k l0 = some r) :
  Calls Tryz.prog 51 #[.slice A0 l0.length c0] w fun e w' => ∃ v0_ : Value,e = .returned (v0_) ∧ Kd.R (Kd.int .i64) 3 w' w.heap.size (fun _ => True) v0_ r ∧ Below w.heap.size w w' := by
 have HR0 := am_ hr0
 have HC0 := am_ hc0
 clear hr0 hc0
 have HB := am_ (Below.refl w.heap.size w)
 have H : ((some (([] : List Int) : List Int)).bind fun y270 => (if y270.length + l0.length < 17592186044416 then (Zk.l0 k (y270 ++ l0) 1) else (none))) = some r := h
 clear h
 obtain ⟨y270,hy270⟩ : ∃ y_ : List Int,y_ = (([] : List Int)) := ⟨_,rfl⟩
 replace H : (if y270.length + l0.length < 17592186044416 then (Zk.l0 k (y270 ++ l0) 1) else (none)) = some r := by first | (rw [hy270];with_reducible exact H) | (have H2_ := (Option.bind_some _ _).symm.trans H;rw [hy270];with_reducible exact H2_) | (have H2_ := (Option.bind_some _ _).symm.trans H;with_reducible exact H2_) | with_reducible exact H | (rw [hy270];exact H) | exact H
 have Ny270 := am_ hy270
 clear hy270
 by_cases c2 : y270.length + l0.length < 17592186044416
 case neg =>
  rw [if_neg c2] at H
  exact absurd H (by simp)
 rw [if_pos c2] at H
 have LMc2 := am_ c2
 clear c2
 obtain ⟨y273,hy273⟩ : ∃ y_ : List Int,y_ = (y270 ++ l0) := ⟨_,rfl⟩
 replace H : (Zk.l0 k y273 1) = some r := by first | (rw [hy273];with_reducible exact H) | (have H2_ := (Option.bind_some _ _).symm.trans H;rw [hy273];with_reducible exact H2_) | (have H2_ := (Option.bind_some _ _).symm.trans H;with_reducible exact H2_) | with_reducible exact H | (rw [hy273];exact H) | exact H
 have Ny273 := am_ hy273
 clear hy273
 have H' := am_ H
 clear H
 go_enter Tryz.func51,Tryz.ntmps51
 go_wp2_with (first | ((with_reducible refine gate_dst (N := 7) rfl ?_);refine Kd.R_lit (Kd.int .i64) _ 3 ?hg (N := 7) ?hd (xs := ([] : List Int)) (inner := []) (ok := fun _ => True) (okp := fun _ => True) ?hr ?hp (fun _ hk => hk) trivial (Below.refl _ _) (Nat.le_refl _) (by simp) ?_;(case hd => rfl);(case hg => rfl);(case hr => first | (go_simp;done) | (go_simp;rfl));(case hp => exact (Reps.none _ _));intro v271 w3 ho4 hb hg_ hnew_;clear hg_ hnew_;(first | rw [← Ny270.out] at ho4 | (simp only [Int.reduceToNat] at ho4;rw [← Ny270.out] at ho4));have HO272 := am_ (Kd.R_lower ho4 (below_size (zl_ HB)));replace HB := zs_ HB hb;clear hb ho4) | ((with_reducible refine gate_builtin (b := .append) (xs := #[.tmp 7,.tmp 8]) rfl ?_);at_builtin;refine Kd.R_append_rows (Kd.int .i64) (w0 := w) w.heap.size rfl (.tmp 7) (.tmp 8) 80 3 (.int .i64 0) 8 rfl Tryz.underlying80 info3 rfl (by decide) (by omega) v271 y270 l0 _ _ _ (fun _ => True) (fun _ => False) rfl rfl ?aO ?aR (fun _ _ h => h) (fun _ h => h.elim) ?aF ?aB ?aS ?aL ?_;(case aR => exact zc_ HR0 HB);(case aB => exact (zl_ HB));(case aF => exact (fun _ _ => trivial));(case aO => exact (zr HO272));(case aS => exact (below_size (zl_ HB)));(case aL => have := LMc2.out;omega);intro v274 w5 ho hb hg hat;rw [← Ny273.out] at ho;replace HB := am_ (hb);have HO275 := am_ (ho);clear HO272;clear ho hb hg hat))
 repeat (go_quiet (first | ((with_reducible refine gate_dst (N := 7) rfl ?_);refine Kd.R_lit (Kd.int .i64) _ 3 ?hg (N := 7) ?hd (xs := ([] : List Int)) (inner := []) (ok := fun _ => True) (okp := fun _ => True) ?hr ?hp (fun _ hk => hk) trivial (Below.refl _ _) (Nat.le_refl _) (by simp) ?_;(case hd => rfl);(case hg => rfl);(case hr => first | (go_simp;done) | (go_simp;rfl));(case hp => exact (Reps.none _ _));intro v271 w3 ho4 hb hg_ hnew_;clear hg_ hnew_;(first | rw [← Ny270.out] at ho4 | (simp only [Int.reduceToNat] at ho4;rw [← Ny270.out] at ho4));have n0_ := am_ (Kd.R_lower ho4 (below_size (zl_ HB)));have n1_ := zs_ HB hb;clear HB;have HO272 := n0_;have HB := n1_;clear n0_ n1_;clear hb ho4) | ((with_reducible refine gate_builtin (b := .append) (xs := #[.tmp 7,.tmp 8]) rfl ?_);at_builtin;refine Kd.R_append_rows (Kd.int .i64) (w0 := w) w.heap.size rfl (.tmp 7) (.tmp 8) 80 3 (.int .i64 0) 8 rfl Tryz.underlying80 info3 rfl (by decide) (by omega) v271 y270 l0 _ _ _ (fun _ => True) (fun _ => False) rfl rfl ?aO ?aR (fun _ _ h => h) (fun _ h => h.elim) ?aF ?aB ?aS ?aL ?_;(case aR => exact zc_ HR0 HB);(case aB => exact (zl_ HB));(case aF => exact (fun _ _ => trivial));(case aO => exact (zr HO272));(case aS => exact (below_size (zl_ HB)));(case aL => have := LMc2.out;omega);intro v274 w5 ho hb hg hat;rw [← Ny273.out] at ho;have n0_ := am_ (hb);have n1_ := am_ (ho);clear HB;clear HO272;have HB := n0_;have HO275 := n1_;clear n0_ n1_;clear ho hb hg hat));try go_wp2_with (first | ((with_reducible refine gate_dst (N := 7) rfl ?_);refine Kd.R_lit (Kd.int .i64) _ 3 ?hg (N := 7) ?hd (xs := ([] : List Int)) (inner := []) (ok := fun _ => True) (okp := fun _ => True) ?hr ?hp (fun _ hk => hk) trivial (Below.refl _ _) (Nat.le_refl _) (by simp) ?_;(case hd => rfl);(case hg => rfl);(case hr => first | (go_simp;done) | (go_simp;rfl));(case hp => exact (Reps.none _ _));intro v271 w3 ho4 hb hg_ hnew_;clear hg_ hnew_;(first | rw [← Ny270.out] at ho4 | (simp only [Int.reduceToNat] at ho4;rw [← Ny270.out] at ho4));have n0_ := am_ (Kd.R_lower ho4 (below_size (zl_ HB)));have n1_ := zs_ HB hb;clear HB;have HO272 := n0_;have HB := n1_;clear n0_ n1_;clear hb ho4) | ((with_reducible refine gate_builtin (b := .append) (xs := #[.tmp 7,.tmp 8]) rfl ?_);at_builtin;refine Kd.R_append_rows (Kd.int .i64) (w0 := w) w.heap.size rfl (.tmp 7) (.tmp 8) 80 3 (.int .i64 0) 8 rfl Tryz.underlying80 info3 rfl (by decide) (by omega) v271 y270 l0 _ _ _ (fun _ => True) (fun _ => False) rfl rfl ?aO ?aR (fun _ _ h => h) (fun _ h => h.elim) ?aF ?aB ?aS ?aL ?_;(case aR => exact zc_ HR0 HB);(case aB => exact (zl_ HB));(case aF => exact (fun _ _ => trivial));(case aO => exact (zr HO272));(case aS => exact (below_size (zl_ HB)));(case aL => have := LMc2.out;omega);intro v274 w5 ho hb hg hat;rw [← Ny273.out] at ho;have n0_ := am_ (hb);have n1_ := am_ (ho);clear HB;clear HO272;have HB := n0_;have HO275 := n1_;clear n0_ n1_;clear ho hb hg hat)))
 go_loopg [4] k (fun kq v4 w' => ∃ (x3_1 : List Int) (x4_1 : Int),v4 = .int .i64 x4_1 ∧ Aside0 (Zk.l0 kq x3_1 x4_1 = some r) ∧ Aside0 (kq ≤ k) ∧ Aside0 (Kd.R (Kd.int .i64) 3 w' w.heap.size (fun _ => True) v274 x3_1) ∧ Aside0 (Below w.heap.size w w'))
 case atStart => exact ⟨(y273),(1),(by first | rfl | (simp;done) | (simp [*];done)),H',⟨Nat.le_refl _⟩,⟨zr HO275⟩,⟨zl_ HB⟩⟩
 case round =>
  clear H'
  try clear c2
  try clear p2
  try clear c5
  obtain ⟨x3_1,x4_1,rfl,HA,HK1,HO_3,HB⟩ := hrel
  cases gk with
  | zero => exact absurd HA.out (by simp [Zk.l0])
  | succ k1 =>
   have H := HA.out
   clear HA
   simp only [Zk.l0] at H
   by_cases c6 : x4_1 < (x3_1.length : Int)
   case neg =>
    rw [if_neg c6] at H
    have c6b0 := decide_eq_false c6
    clear c6
    obtain rfl := Option.some.inj H
    obtain ⟨Ao21,co21,eo21⟩ := Kd.R_slice HO_3.out
    subst eo21
    go_wp2
    repeat (go_quiet (fail);try go_wp2)
    go_ret
    exact ⟨_,zt_,zr HO_3,zl_ HB⟩
   rw [if_pos c6] at H
   have c6b0 := decide_eq_true c6
   clear c6
   have H' := am_ H
   clear H
   obtain ⟨Ao7,co7,eo7⟩ := Kd.R_slice HO_3.out
   subst eo7
   go_wp2
   repeat (go_quiet (fail);try go_wp2)
   go_loopg [5] k1 (fun kq v5 w' => ∃ (x3_2 : List Int) (x5_2 : Int),v5 = .int .i64 x5_2 ∧ Aside0 (Zk.l1 kq x3_2 x4_1 x5_2 = some r) ∧ Aside0 (kq ≤ k1) ∧ Aside0 (Kd.R (Kd.int .i64) 3 w' w.heap.size (fun _ => True) (.slice Ao7 x3_1.length co7) x3_2) ∧ Aside0 (Below w.heap.size w w'))
   case atStart => exact ⟨(x3_1),(x4_1),(by first | rfl | (simp;done) | (simp [*];done)),H',⟨Nat.le_refl _⟩,⟨zr HO_3⟩,⟨zl_ HB⟩⟩
   case round =>
    clear H'
    try clear c2
    try clear p2
    try clear c5
    try clear c6
    try clear c6b0
    try clear p2
    obtain ⟨x3_2,x5_2,rfl,HA,HK2,HO_3,HB⟩ := hrel
    have hl3_2 := (Kd.R_reads' HO_3.out).1
    rw [hl3_2] at HO_3
    (try simp only [hl3_2])
    cases gk with
    | zero => exact absurd HA.out (by simp [Zk.l1])
    | succ k2 =>
     have H := HA.out
     clear HA
     simp only [Zk.l1] at H
     by_cases c8 : x5_2 > 0
     case neg =>
      rw [if_neg c8] at H
      have c8b0 : decide (0 < x5_2) = false := decide_eq_false c8
      clear c8
      have H' := am_ H
      clear H
      go_wp2
      repeat (go_quiet (fail);try go_wp2)
      (try simp only [← hl3_2])
      go_roundg k2
      case measure => have := HK1.out;have := HK2.out;omega
      case rel => exact ⟨(x3_2),(wrap64 (x4_1 + 1)),(by first | rfl | (simp;done) | (simp [*];done)),H',⟨by have := HK1.out;have := HK2.out;omega⟩,⟨by (try simp only [hl3_2]);(with_reducible repeat (first | apply r1_ | apply r2_ | apply r3_));exact HO_3.out⟩,⟨zl_ HB⟩⟩
     rw [if_pos c8] at H
     have c8b0 : decide (0 < x5_2) = true := decide_eq_true c8
     clear c8
     obtain ⟨ji9,hji9⟩ : ∃ j_ : Int,(wrap64 (x5_2 - 1)) = j_ := ⟨_,rfl⟩
     replace H : (if 0 ≤ (ji9) then (if (ji9) < (x3_2.length : Int) then (if 0 ≤ x5_2 then (if x5_2 < (x3_2.length : Int) then (if (rd x3_2 (ji9)) > (rd x3_2 x5_2) then (Zk.l1 k2 ((x3_2.set (x5_2 : Int).toNat (rd x3_2 (ji9))).set ((ji9) : Int).toNat (rd x3_2 x5_2)) x4_1 ji9) else (Zk.l0 k2 x3_2 (wrap64 (x4_1 + 1)))) else (none)) else (none)) else (none)) else (none)) = some r := by first | (rw [hji9] at H;exact H) | (simp only [hji9] at H ⊢;exact H)
     have hji9w : (IntKind.i64.wrap (x5_2 - 1)) = ji9 := (i64_w _).trans hji9
     by_cases c10 : 0 ≤ (ji9)
     case neg =>
      rw [if_neg c10] at H
      exact absurd H (by simp)
     rw [if_pos c10] at H
     have c10b0 := decide_eq_true c10
     clear c10
     by_cases c11 : (ji9) < (x3_2.length : Int)
     case neg =>
      rw [if_neg c11] at H
      exact absurd H (by simp)
     rw [if_pos c11] at H
     have c11b0 := decide_eq_true c11
     clear c11
     by_cases c12 : 0 ≤ x5_2
     case neg =>
      rw [if_neg c12] at H
      exact absurd H (by simp)
     rw [if_pos c12] at H
     have c12b0 := decide_eq_true c12
     clear c12
     by_cases c13 : x5_2 < (x3_2.length : Int)
     case neg =>
      rw [if_neg c13] at H
      exact absurd H (by simp)
     rw [if_pos c13] at H
     have c13b0 := decide_eq_true c13
     clear c13
     by_cases c14 : (rd x3_2 (ji9)) > (rd x3_2 x5_2)
     case neg =>
      rw [if_neg c14] at H
      have c14b0 : decide ((rd x3_2 x5_2) < (rd x3_2 (ji9))) = false := decide_eq_false c14
      clear c14
      have H' := am_ H
      clear H
      have p276 : 0 ≤ ((ji9) : Int) := zo_
      have q276 : (ji9) < (x3_2.length : Int) := zo_
      obtain ⟨ad276,e276,hx276_0⟩ := Kd.at_int (Kd.R_reads' HO_3.out).2.2 (ji9) p276 q276
      cases e276
      replace p276 := eq_true p276
      replace q276 := eq_true q276
      have p277 : 0 ≤ (x5_2 : Int) := zo_
      have q277 : x5_2 < (x3_2.length : Int) := zo_
      obtain ⟨ad277,e277,hx277_0⟩ := Kd.at_int (Kd.R_reads' HO_3.out).2.2 x5_2 p277 q277
      obtain rfl : ad276 = ad277 := (by injection e277)
      replace p277 := eq_true p277
      replace q277 := eq_true q277
      go_wp2
      repeat (go_quiet (fail);try go_wp2)
      (try simp only [← hl3_2])
      go_roundg k2
      case measure => have := HK1.out;have := HK2.out;omega
      case rel => exact ⟨(x3_2),(wrap64 (x4_1 + 1)),(by first | rfl | (simp;done) | (simp [*];done)),H',⟨by have := HK1.out;have := HK2.out;omega⟩,⟨by (try simp only [hl3_2]);(with_reducible repeat (first | apply r1_ | apply r2_ | apply r3_));exact HO_3.out⟩,⟨zl_ HB⟩⟩
     rw [if_pos c14] at H
     have c14b0 : decide ((rd x3_2 x5_2) < (rd x3_2 (ji9))) = true := decide_eq_true c14
     clear c14
     obtain ⟨y280,hy280⟩ : ∃ y_ : List Int,y_ = (x3_2.set (x5_2 : Int).toNat (rd x3_2 (ji9))) := ⟨_,rfl⟩
     replace H : (Zk.l1 k2 (y280.set ((ji9) : Int).toNat (rd x3_2 x5_2)) x4_1 ji9) = some r := by first | (rw [hy280];with_reducible exact H) | (have H2_ := (Option.bind_some _ _).symm.trans H;rw [hy280];with_reducible exact H2_) | (have H2_ := (Option.bind_some _ _).symm.trans H;with_reducible exact H2_) | with_reducible exact H | (rw [hy280];exact H) | exact H
     have Ny280 := am_ hy280
     clear hy280
     obtain ⟨y281,hy281⟩ : ∃ y_ : List Int,y_ = (y280.set ((ji9) : Int).toNat (rd x3_2 x5_2)) := ⟨_,rfl⟩
     replace H : (Zk.l1 k2 y281 x4_1 ji9) = some r := by first | (rw [hy281];with_reducible exact H) | (have H2_ := (Option.bind_some _ _).symm.trans H;rw [hy281];with_reducible exact H2_) | (have H2_ := (Option.bind_some _ _).symm.trans H;with_reducible exact H2_) | with_reducible exact H | (rw [hy281];exact H) | exact H
     have Ny281 := am_ hy281
     clear hy281
     have H' := am_ H
     clear H
     have p276 : 0 ≤ ((ji9) : Int) := zo_
     have q276 : (ji9) < (x3_2.length : Int) := zo_
     obtain ⟨ad276,e276,hx276_0⟩ := Kd.at_int (Kd.R_reads' HO_3.out).2.2 (ji9) p276 q276
     cases e276
     replace p276 := eq_true p276
     replace q276 := eq_true q276
     have p277 : 0 ≤ (x5_2 : Int) := zo_
     have q277 : x5_2 < (x3_2.length : Int) := zo_
     obtain ⟨ad277,e277,hx277_0⟩ := Kd.at_int (Kd.R_reads' HO_3.out).2.2 x5_2 p277 q277
     obtain rfl : ad276 = ad277 := (by injection e277)
     replace p277 := eq_true p277
     replace q277 := eq_true q277
     have p278 : 0 ≤ (x5_2 : Int) := zo_
     have q278 : x5_2 < (x3_2.length : Int) := zo_
     obtain ⟨ad278,e278,hx278_0⟩ := Kd.at_int (Kd.R_reads' HO_3.out).2.2 x5_2 p278 q278
     obtain rfl : ad276 = ad278 := (by injection e278)
     replace p278 := eq_true p278
     replace q278 := eq_true q278
     have p279 : 0 ≤ ((ji9) : Int) := zo_
     have q279 : (ji9) < (x3_2.length : Int) := zo_
     obtain ⟨ad279,e279,hx279_0⟩ := Kd.at_int (Kd.R_reads' HO_3.out).2.2 (ji9) p279 q279
     obtain rfl : ad276 = ad279 := (by injection e279)
     replace p279 := eq_true p279
     replace q279 := eq_true q279
     have p15 : 0 ≤ (x5_2 : Int) := zo_
     have q15 : (x5_2 : Int) < ((x3_2.length : Int) : Int) := zo_
     obtain ⟨go15,co15,eo15,gb15,gl15,cl15,HG15⟩ := Kd.R_form HO_3.out (by omega)
     (first | cases eo15 | (injection eo15 with ea_ en_ ec_;(first | subst ea_ | (injection ea_ with ea_;subst ea_));subst ec_;clear en_))
     have GB15 := am_ gb15
     have GG15 := am_ HG15
     clear gb15 gl15 HG15
     (first | simp only [add_plain] at hx276_0 | skip)
     (first | simp only [add_plain] at hx277_0 | skip)
     (first | simp only [add_plain] at hx278_0 | skip)
     (first | simp only [add_plain] at hx279_0 | skip)
     obtain ⟨hx15_0,hf15_0⟩ := Kd.R_celln 0 HO_3.out (x5_2 : Int) p15 q15
     replace p15 := eq_true p15
     replace q15 := eq_true q15
     have HP17 := Kd.R_putg HO_3.out (x5_2 : Int) (rd x3_2 (ji9))
     go_wp2_with (first | ((with_reducible refine gate_store (t := 3) (p := 44) rfl ?_);(try (rw [drewN_self wr];generalize hq_ : World.drewN wr _ = wr;have n0_ := am_ (Kd.R_at hq_ HO_3.out);have n1_ := am_ (below_at hq_ HB.out);clear hq_ HO_3 HB;have HO_3 := n0_;have HB := n1_;clear n0_ n1_;(try (have HP17 := Kd.R_putg HO_3.out (x5_2 : Int) (rd x3_2 (ji9))));(try (obtain ⟨hyq_,hzq_⟩ := Kd.R_celln 0 HO_3.out (x5_2 : Int) (zo_) (zo_)))));refine store_event (t := 3) (p := 44) (v := ?vo_w18) (w1 := (wr.setCell ⟨go15,(x5_2 : Int).toNat,none⟩ (.int .i64 (rd x3_2 (ji9))))) ?hg ?ho ?hn ?hr ?_;(case ho => rfl);(case hg => rfl);(case hn => rfl);(case hr => first | (go_simp;done) | (go_simp;rfl));intro w18 hw;have hg : wr.grownBy w18 (some go15) := (by rw [hw];exact HP17.2);have hp_ : Kd.R (Kd.int .i64) 3 w18 w.heap.size (fun _ => True) (.slice (some ⟨go15,0,none⟩) x3_2.length co7) y280 := (by rw [hw,Ny280.out];exact HP17.1);clear HP17;replace HO_3 := am_ (hp_);replace HB := am_ ((by rw [hw];exact below_set (HB.out) GB15.out : Below w.heap.size w w18));clear hg hw hp_;have p16 : 0 ≤ ((ji9) : Int) := zo_;have q16 : ((ji9) : Int) < ((x3_2.length : Int) : Int) := zo_;obtain ⟨hx16_0,hf16_0⟩ := Kd.R_celln 0 HO_3.out ((ji9) : Int) p16 q16;replace p16 := eq_true p16;replace q16 := eq_true q16;obtain ⟨hy19_,hz19_⟩ := Kd.R_celln 0 HO_3.out ((ji9) : Int) (zo_) (zo_);have HP19 := Kd.R_putg HO_3.out ((ji9) : Int) (rd x3_2 x5_2)) | ((with_reducible refine gate_store (t := 3) (p := 49) rfl ?_);(try (rw [drewN_self w18];generalize hq_ : World.drewN w18 _ = w18;have n0_ := am_ (Kd.R_at hq_ HO_3.out);have n1_ := am_ (below_at hq_ HB.out);clear hq_ HO_3 HB;have HO_3 := n0_;have HB := n1_;clear n0_ n1_;(try (obtain ⟨hy19_,hz19_⟩ := Kd.R_celln 0 HO_3.out ((ji9) : Int) (zo_) (zo_)));(try (have HP19 := Kd.R_putg HO_3.out ((ji9) : Int) (rd x3_2 x5_2)))));refine store_event (t := 3) (p := 49) (v := ?vo_w20) (w1 := (w18.setCell ⟨go15,((ji9) : Int).toNat,none⟩ (.int .i64 (rd x3_2 x5_2)))) ?hg ?ho ?hn ?hr ?_;(case ho => rfl);(case hg => rfl);(case hn => rfl);(case hr => first | (go_simp;done) | (go_simp;rfl));intro w20 hw;have hg : w18.grownBy w20 (some go15) := (by rw [hw];exact HP19.2);have hp_ : Kd.R (Kd.int .i64) 3 w20 w.heap.size (fun _ => True) (.slice (some ⟨go15,0,none⟩) x3_2.length co7) y281 := (by rw [hw,Ny281.out];exact HP19.1);clear HP19;replace HO_3 := am_ (hp_);replace HB := am_ ((by rw [hw];exact below_set (HB.out) GB15.out : Below w.heap.size w w20));clear hg hw hp_))
     repeat (go_quiet (first | ((with_reducible refine gate_store (t := 3) (p := 44) rfl ?_);(try (rw [drewN_self wr];generalize hq_ : World.drewN wr _ = wr;have n0_ := am_ (Kd.R_at hq_ HO_3.out);have n1_ := am_ (below_at hq_ HB.out);clear hq_ HO_3 HB;have HO_3 := n0_;have HB := n1_;clear n0_ n1_;(try (have HP17 := Kd.R_putg HO_3.out (x5_2 : Int) (rd x3_2 (ji9))));(try (obtain ⟨hyq_,hzq_⟩ := Kd.R_celln 0 HO_3.out (x5_2 : Int) (zo_) (zo_)))));refine store_event (t := 3) (p := 44) (v := ?vo_w18) (w1 := (wr.setCell ⟨go15,(x5_2 : Int).toNat,none⟩ (.int .i64 (rd x3_2 (ji9))))) ?hg ?ho ?hn ?hr ?_;(case ho => rfl);(case hg => rfl);(case hn => rfl);(case hr => first | (go_simp;done) | (go_simp;rfl));intro w18 hw;have hg : wr.grownBy w18 (some go15) := (by rw [hw];exact HP17.2);have hp_ : Kd.R (Kd.int .i64) 3 w18 w.heap.size (fun _ => True) (.slice (some ⟨go15,0,none⟩) x3_2.length co7) y280 := (by rw [hw,Ny280.out];exact HP17.1);clear HP17;have n0_ := am_ (hp_);have n1_ := am_ ((by rw [hw];exact below_set (HB.out) GB15.out : Below w.heap.size w w18));clear HO_3;clear HB;have HO_3 := n0_;have HB := n1_;clear n0_ n1_;clear hg hw hp_;have p16 : 0 ≤ ((ji9) : Int) := zo_;have q16 : ((ji9) : Int) < ((x3_2.length : Int) : Int) := zo_;obtain ⟨hx16_0,hf16_0⟩ := Kd.R_celln 0 HO_3.out ((ji9) : Int) p16 q16;replace p16 := eq_true p16;replace q16 := eq_true q16;obtain ⟨hy19_,hz19_⟩ := Kd.R_celln 0 HO_3.out ((ji9) : Int) (zo_) (zo_);have HP19 := Kd.R_putg HO_3.out ((ji9) : Int) (rd x3_2 x5_2)) | ((with_reducible refine gate_store (t := 3) (p := 49) rfl ?_);(try (rw [drewN_self w18];generalize hq_ : World.drewN w18 _ = w18;have n0_ := am_ (Kd.R_at hq_ HO_3.out);have n1_ := am_ (below_at hq_ HB.out);clear hq_ HO_3 HB;have HO_3 := n0_;have HB := n1_;clear n0_ n1_;(try (obtain ⟨hy19_,hz19_⟩ := Kd.R_celln 0 HO_3.out ((ji9) : Int) (zo_) (zo_)));(try (have HP19 := Kd.R_putg HO_3.out ((ji9) : Int) (rd x3_2 x5_2)))));refine store_event (t := 3) (p := 49) (v := ?vo_w20) (w1 := (w18.setCell ⟨go15,((ji9) : Int).toNat,none⟩ (.int .i64 (rd x3_2 x5_2)))) ?hg ?ho ?hn ?hr ?_;(case ho => rfl);(case hg => rfl);(case hn => rfl);(case hr => first | (go_simp;done) | (go_simp;rfl));intro w20 hw;have hg : w18.grownBy w20 (some go15) := (by rw [hw];exact HP19.2);have hp_ : Kd.R (Kd.int .i64) 3 w20 w.heap.size (fun _ => True) (.slice (some ⟨go15,0,none⟩) x3_2.length co7) y281 := (by rw [hw,Ny281.out];exact HP19.1);clear HP19;have n0_ := am_ (hp_);have n1_ := am_ ((by rw [hw];exact below_set (HB.out) GB15.out : Below w.heap.size w w20));clear HO_3;clear HB;have HO_3 := n0_;have HB := n1_;clear n0_ n1_;clear hg hw hp_));try go_wp2_with (first | ((with_reducible refine gate_store (t := 3) (p := 44) rfl ?_);(try (rw [drewN_self wr];generalize hq_ : World.drewN wr _ = wr;have n0_ := am_ (Kd.R_at hq_ HO_3.out);have n1_ := am_ (below_at hq_ HB.out);clear hq_ HO_3 HB;have HO_3 := n0_;have HB := n1_;clear n0_ n1_;(try (have HP17 := Kd.R_putg HO_3.out (x5_2 : Int) (rd x3_2 (ji9))));(try (obtain ⟨hyq_,hzq_⟩ := Kd.R_celln 0 HO_3.out (x5_2 : Int) (zo_) (zo_)))));refine store_event (t := 3) (p := 44) (v := ?vo_w18) (w1 := (wr.setCell ⟨go15,(x5_2 : Int).toNat,none⟩ (.int .i64 (rd x3_2 (ji9))))) ?hg ?ho ?hn ?hr ?_;(case ho => rfl);(case hg => rfl);(case hn => rfl);(case hr => first | (go_simp;done) | (go_simp;rfl));intro w18 hw;have hg : wr.grownBy w18 (some go15) := (by rw [hw];exact HP17.2);have hp_ : Kd.R (Kd.int .i64) 3 w18 w.heap.size (fun _ => True) (.slice (some ⟨go15,0,none⟩) x3_2.length co7) y280 := (by rw [hw,Ny280.out];exact HP17.1);clear HP17;have n0_ := am_ (hp_);have n1_ := am_ ((by rw [hw];exact below_set (HB.out) GB15.out : Below w.heap.size w w18));clear HO_3;clear HB;have HO_3 := n0_;have HB := n1_;clear n0_ n1_;clear hg hw hp_;have p16 : 0 ≤ ((ji9) : Int) := zo_;have q16 : ((ji9) : Int) < ((x3_2.length : Int) : Int) := zo_;obtain ⟨hx16_0,hf16_0⟩ := Kd.R_celln 0 HO_3.out ((ji9) : Int) p16 q16;replace p16 := eq_true p16;replace q16 := eq_true q16;obtain ⟨hy19_,hz19_⟩ := Kd.R_celln 0 HO_3.out ((ji9) : Int) (zo_) (zo_);have HP19 := Kd.R_putg HO_3.out ((ji9) : Int) (rd x3_2 x5_2)) | ((with_reducible refine gate_store (t := 3) (p := 49) rfl ?_);(try (rw [drewN_self w18];generalize hq_ : World.drewN w18 _ = w18;have n0_ := am_ (Kd.R_at hq_ HO_3.out);have n1_ := am_ (below_at hq_ HB.out);clear hq_ HO_3 HB;have HO_3 := n0_;have HB := n1_;clear n0_ n1_;(try (obtain ⟨hy19_,hz19_⟩ := Kd.R_celln 0 HO_3.out ((ji9) : Int) (zo_) (zo_)));(try (have HP19 := Kd.R_putg HO_3.out ((ji9) : Int) (rd x3_2 x5_2)))));refine store_event (t := 3) (p := 49) (v := ?vo_w20) (w1 := (w18.setCell ⟨go15,((ji9) : Int).toNat,none⟩ (.int .i64 (rd x3_2 x5_2)))) ?hg ?ho ?hn ?hr ?_;(case ho => rfl);(case hg => rfl);(case hn => rfl);(case hr => first | (go_simp;done) | (go_simp;rfl));intro w20 hw;have hg : w18.grownBy w20 (some go15) := (by rw [hw];exact HP19.2);have hp_ : Kd.R (Kd.int .i64) 3 w20 w.heap.size (fun _ => True) (.slice (some ⟨go15,0,none⟩) x3_2.length co7) y281 := (by rw [hw,Ny281.out];exact HP19.1);clear HP19;have n0_ := am_ (hp_);have n1_ := am_ ((by rw [hw];exact below_set (HB.out) GB15.out : Below w.heap.size w w20));clear HO_3;clear HB;have HO_3 := n0_;have HB := n1_;clear n0_ n1_;clear hg hw hp_)))
     (try simp only [← hl3_2])
     go_roundg k2
     case measure => have := HK1.out;have := HK2.out;omega
     case rel => exact ⟨(y281),(ji9),(by first | rfl | (simp;done) | (simp only [← hji9] <;> (first | rfl | simp)) | (simp [*];done)),H',⟨by have := HK1.out;have := HK2.out;omega⟩,⟨by (try simp only [hl3_2]);(with_reducible repeat (first | apply r1_ | apply r2_ | apply r3_));exact HO_3.out⟩,⟨zl_ HB⟩⟩
def Zv.T9 : Bool × List (List Nat × List Nat) := (true,[([],[]),([0],[0]),([1],[1]),([2,1],[2]),([3],[3]),([4,3],[3,4]),([3],[3]),([5,6,3],[3,5,6]),([3,7],[3,7]),([8,3],[8]),([9],[9]),([10,9],[9,10]),([11,9,9],[9,11]),([12],[12]),([12],[12]),([14,12],[12,14]),([13,15,12],[12,13,15]),([16,12],[12,16]),([17,12],[12,17]),([12],[12]),([19,12],[12,19]),([18,20,12],[12,18,20]),([12,21,9],[9,12,21]),([9,22],[9,22]),([23,12],[23]),([24],[24]),([25,24],[24,25]),([24],[24]),([27,24],[24,27]),([26,28,24,24],[24,26,28]),([24],[24]),([30,24],[24,30]),([29,31,24],[24,29,31]),([24,32],[24,32])])
def Zv.B9 : List Nat := [0,1,3,7,15,31,15,127,255,511,1023,2047,4095,8191,8191,24575,65535,131071,262143,8191,532479,2097151,4194303,8388607,16777215,33554431,67108863,33554431,167772159,536870911,33554431,1107296255,4294967295,8589934591]
theorem Zv.tab9 : rtab .any (opsOf Tryz.f34 9) = Zv.T9 := by kernel_rfl
theorem Zv.bits9 : waitsOk Zv.T9.2 Zv.B9 = true := by kernel_rfl
theorem Zv.calls (k : Nat) (a0 : Int) (A1 : Option Addr) (c1 : Nat) (l1 : List (S76)) (r1 : Int) (r2 : Bool) (w : World) (hr1 : Kd.C k76 w A1 l1.length l1) (hc1 : l1.length ≤ c1) (h : Zv.f k a0 l1 = some (r1,r2)) :
  Calls Tryz.prog 34 #[.int .i64 a0,.slice A1 l1.length c1] w fun e w' => e = .returned (.tuple #[.int .i64 r1,.bool r2]) ∧ Below w.heap.size w w' := by
 have hu76 := Tryz.underlying76
 have HR1 := am_ hr1
 have HC1 := am_ hc1
 clear hr1 hc1
 have HB := am_ (Below.refl w.heap.size w)
 have H : (if (l1.length : Int) = (wrap64 ((wrap64 (2 * (wrap64 (Int.tdiv (wrap64 (a0 - 1)) 3)))) + 1)) then (Zv.l0 k a0 l1 (wrap64 (Int.tdiv (wrap64 (a0 - 1)) 3)) (([] : List Int)) 0) else (some (0,false))) = some (r1,r2) := h
 clear h
 by_cases c3 : (l1.length : Int) = (wrap64 ((wrap64 (2 * (wrap64 (Int.tdiv (wrap64 (a0 - 1)) 3)))) + 1))
 case neg =>
  rw [if_neg c3] at H
  have c3b0 := beq_eq_false_iff_ne.mpr c3
  have c3b1 := bne_iff_ne.mpr c3
  simp only [Option.some.injEq,Prod.mk.injEq] at H
  obtain ⟨rfl,rfl⟩ := H
  go_enter Tryz.func34,Tryz.ntmps34
  go_wp2
  go_ret2
  exact ⟨zt_,zl_ HB⟩
 rw [if_pos c3] at H
 have c3b0 := beq_iff_eq.mpr c3
 have c3b1 := bne_eq_false_iff_eq.mpr c3
 clear c3
 obtain ⟨y282,hy282⟩ : ∃ y_ : List Int,y_ = (([] : List Int)) := ⟨_,rfl⟩
 replace H : (Zv.l0 k a0 l1 (wrap64 (Int.tdiv (wrap64 (a0 - 1)) 3)) y282 0) = some (r1,r2) := by first | (rw [hy282];with_reducible exact H) | (have H2_ := (Option.bind_some _ _).symm.trans H;rw [hy282];with_reducible exact H2_) | (have H2_ := (Option.bind_some _ _).symm.trans H;with_reducible exact H2_) | with_reducible exact H | (rw [hy282];exact H) | exact H
 have Ny282 := am_ hy282
 clear hy282
 have H' := am_ H
 clear H
 go_enter Tryz.func34,Tryz.ntmps34
 go_wp2_with (first | ((with_reducible refine gate_dst (N := 19) rfl ?_);refine Kd.R_lit (Kd.int .i64) _ 3 ?hg (N := 19) ?hd (xs := ([] : List Int)) (inner := []) (ok := fun _ => True) (okp := fun _ => True) ?hr ?hp (fun _ hk => hk) trivial (Below.refl _ _) (Nat.le_refl _) (by simp) ?_;(case hd => rfl);(case hg => rfl);(case hr => first | (go_simp;done) | (go_simp;rfl));(case hp => exact (Reps.none _ _));intro v283 w4 ho5 hb hg_ hnew_;clear hg_ hnew_;(first | rw [← Ny282.out] at ho5 | (simp only [Int.reduceToNat] at ho5;rw [← Ny282.out] at ho5));have HO284 := am_ (Kd.R_lower ho5 (below_size (zl_ HB)));replace HB := zs_ HB hb;clear hb ho5))
 go_loopg [7,8] k (fun kq v7 v8 w' => ∃ (x7_1 : List Int) (x8_1 : Int),v8 = .int .i64 x8_1 ∧ Aside0 (Zv.l0 kq a0 l1 (wrap64 (Int.tdiv (wrap64 (a0 - 1)) 3)) x7_1 x8_1 = some (r1,r2)) ∧ Aside0 (kq ≤ k) ∧ Aside0 (Kd.R (Kd.int .i64) 3 w' w.heap.size (fun _ => True) v7 x7_1) ∧ Aside0 (Below w.heap.size w w'))
 case atStart => exact ⟨(y282),(0),(by first | rfl | (simp;done) | (simp [*];done)),H',⟨Nat.le_refl _⟩,⟨zr HO284⟩,⟨zl_ HB⟩⟩
 case round =>
  clear H'
  try clear c1
  try clear p2
  try clear c3
  try clear c3b0
  try clear c3b1
  obtain ⟨x7_1,x8_1,rfl,HA,HK1,HO_7,HB⟩ := hrel
  cases gk with
  | zero => exact absurd HA.out (by simp [Zv.l0])
  | succ k1 =>
   have H := HA.out
   clear HA
   simp only [Zv.l0] at H
   by_cases c6 : x8_1 < (l1.length : Int)
   case neg =>
    rw [if_neg c6] at H
    have c6b0 := decide_eq_false c6
    clear c6
    replace H := Option.bind_eq_some_iff.mp H
    obtain ⟨t285,A650,H⟩ := H
    try dsimp only at H
    have A65 := am_ A650
    clear A650
    obtain ⟨ji66,hji66⟩ : ∃ j_ : Int,(wrap64 (Int.tdiv (wrap64 (a0 - 1)) 3)) = j_ := ⟨_,rfl⟩
    replace H : (if 0 ≤ (ji66) then (if (ji66) < (t285.length : Int) then (some (rd t285 (ji66),true)) else (none)) else (none)) = some (r1,r2) := by first | (rw [hji66] at H;exact H) | (simp only [hji66] at H ⊢;exact H)
    (try rw [hji66] at c3b0)
    (try rw [hji66] at c3b1)
    (try rw [hji66] at A65)
    have hji66w : (IntKind.i64.wrap (Int.tdiv (wrap64 (a0 - 1)) 3)) = ji66 := (i64_w _).trans hji66
    by_cases c67 : 0 ≤ (ji66)
    case neg =>
     rw [if_neg c67] at H
     exact absurd H (by simp)
    rw [if_pos c67] at H
    have c67b0 := decide_eq_true c67
    clear c67
    by_cases c68 : (ji66) < (t285.length : Int)
    case neg =>
     rw [if_neg c68] at H
     exact absurd H (by simp)
    rw [if_pos c68] at H
    have c68b0 := decide_eq_true c68
    clear c68
    simp only [Option.some.injEq,Prod.mk.injEq] at H
    obtain ⟨rfl,rfl⟩ := H
    obtain ⟨Ao69,co69,eo69⟩ := Kd.R_slice HO_7.out
    subst eo69
    go_wp2_with (first | ((with_reducible refine gate_callee (f := 51) rfl ?_);refine zgl (some 70) Tryz.func51 #[.slice Ao69 x7_1.length co69] ?_;(with_reducible refine (Zk.calls k1 _ _ x7_1 t285 _ ?side1 ?side2 A65.out).mono ?_);(case side1 => repeat (first | exact (Kd.R_reads' HO_7.out).2.2 | (with_reducible refine Kd.C_alloc ?_ _) | (with_reducible refine Kd.C_drewN ?_ _) | (with_reducible refine Kd.C_drew ?_)));(case side2 => exact (Kd.R_reads' HO_7.out).2.1);rintro e w70 ⟨v286,rfl,ho0,hb⟩;refine ⟨_,rfl,?_⟩;have HO287 := am_ (Kd.R_lower (Kd.R_new' ho0 (Kd.R_lt (zr HO_7))) (below_size (zl_ HB)));replace HB := zs_ HB hb;(try clear hb);(try clear ho0);obtain ⟨Ao71,co71,eo71⟩ := Kd.R_slice HO287.out;subst eo71;have p288 : 0 ≤ ((ji66) : Int) := zo_;have q288 : (ji66) < (t285.length : Int) := zo_;obtain ⟨ad288,e288,hx288_0⟩ := Kd.at_int (Kd.R_reads' HO287.out).2.2 (ji66) p288 q288;cases e288;replace p288 := eq_true p288;replace q288 := eq_true q288))
    go_ret2
    exact ⟨by first | rfl | (simp [e1_,e2_] <;> rfl) | (simp only [← hji66];first | rfl | (simp [e1_,e2_] <;> rfl)) | (simp [*,e1_,e2_] <;> rfl) | (simp [e3_,e4_];done) | (simp [*,e3_,e4_];done),zl_ HB⟩
   rw [if_pos c6] at H
   have c6b0 := decide_eq_true c6
   clear c6
   by_cases c7 : 0 ≤ x8_1
   case neg =>
    rw [if_neg c7] at H
    exact absurd H (by simp)
   rw [if_pos c7] at H
   have c7b0 := decide_eq_true c7
   clear c7
   replace H := Option.bind_eq_some_iff.mp H
   obtain ⟨t291,A80,H⟩ := H
   try dsimp only at H
   have A8 := am_ A80
   clear A80
   have p289 : 0 ≤ (x8_1 : Int) := zo_
   have q289 : x8_1 < (l1.length : Int) := zo_
   obtain ⟨ad289,e289,hx289_0,hx289_1,hx289_2⟩ := at_T76 HR1.out x8_1 p289 q289
   cases e289
   replace hx289_0 := zx_ HB hx289_0
   replace hx289_1 := zx_ HB hx289_1
   replace hx289_2 := zx_ HB hx289_2
   replace p289 := eq_true p289
   replace q289 := eq_true q289
   try go_wp2_with (first | ((with_reducible refine gate_dst (N := 9) rfl ?_);refine zbx (N := 9) (cs := #[.int .i64 0,.int .i64 0,.string ⟨#[]⟩]) (t := 76) ?_;intro gb290 hg w11 hbox hb;replace HO_7 := zrb HO_7 hb;have BK290 := am_ (hbox);have GW290 := zw_ HB hg;have GE290 := zw_ HB hg;replace HB := zs_ HB hb;clear hb hbox hg;obtain ⟨hcz12_0,hcz12_1,hcz12_2,hfz12_0,hfz12_1,hfz12_2⟩ := zc3 BK290))
   have n0_ : Aside0 (Kd.R (Kd.int .i64) 3 (((w11.setCell ⟨gb290,0,none⟩ (.int .i64 ((rd_T76 l1 x8_1).f0))).setCell ⟨gb290,1,none⟩ (.int .i64 ((rd_T76 l1 x8_1).f1))).setCell ⟨gb290,2,none⟩ (.string ((rd_T76 l1 x8_1).f2))) w.heap.size (fun _ => True) u7 x7_1) := ⟨by (with_reducible repeat (first | apply r1_ | apply r2_ | apply r3_));exact Kd.R_mono (zrf (Kd.R_types HO_7.out BK290.out (by decide))) (fun _ hk => trivial)⟩
   have n1_ : Aside0 ((((w11.setCell ⟨gb290,0,none⟩ (.int .i64 ((rd_T76 l1 x8_1).f0))).setCell ⟨gb290,1,none⟩ (.int .i64 ((rd_T76 l1 x8_1).f1))).setCell ⟨gb290,2,none⟩ (.string ((rd_T76 l1 x8_1).f2))).heap[gb290]? = some (.cells #[.int .i64 ((rd_T76 l1 x8_1).f0),.int .i64 ((rd_T76 l1 x8_1).f1),.string ((rd_T76 l1 x8_1).f2)] 76 (0,0))) := ⟨zq BK290⟩
   have n2_ : Aside0 (Below w.heap.size w (((w11.setCell ⟨gb290,0,none⟩ (.int .i64 ((rd_T76 l1 x8_1).f0))).setCell ⟨gb290,1,none⟩ (.int .i64 ((rd_T76 l1 x8_1).f1))).setCell ⟨gb290,2,none⟩ (.string ((rd_T76 l1 x8_1).f2)))) := ⟨zl_ HB⟩
   (try clear HO_7)
   (try clear BK290)
   (try clear HB)
   generalize (((w11.setCell ⟨gb290,0,none⟩ (.int .i64 ((rd_T76 l1 x8_1).f0))).setCell ⟨gb290,1,none⟩ (.int .i64 ((rd_T76 l1 x8_1).f1))).setCell ⟨gb290,2,none⟩ (.string ((rd_T76 l1 x8_1).f2))) = w13 at n0_ n1_ n2_ ⊢
   have HO_7 := n0_
   have BK290 := n1_
   have HB := n2_
   clear n0_ n1_ n2_
   replace HO_7 := am_ (Kd.R_drew HO_7.out)
   replace BK290 := am_ (blk_drew BK290.out)
   replace HB := am_ (below_drew1 HB.out)
   by_cases c9 : t291 = true
   case neg =>
    replace c9 := Bool.eq_false_iff.mpr c9
    subst c9
    rw [if_neg (show ¬ (false = true) by decide)] at H
    simp only [Option.some.injEq,Prod.mk.injEq] at H
    obtain ⟨rfl,rfl⟩ := H
    refine start_ (n := 34) (S := fun w' => w'.cell? ⟨gb290,0,none⟩ = some (.int .i64 ((rd_T76 l1 x8_1).f0)) ∧ w'.cell? ⟨gb290,1,none⟩ = some (.int .i64 ((rd_T76 l1 x8_1).f1)) ∧ w'.cell? ⟨gb290,2,none⟩ = some (.string ((rd_T76 l1 x8_1).f2))) (ds := []) #[false,false,false,false,false,false,false,false,false,false,false,false,false,false,false,false,false,false,false,false,false,false,false,false,false,false,false,false,false,false,false,false,false,false] (by kernel_rfl) rfl rfl ⟨(blk_cell BK290.out 0).trans rfl,(blk_cell BK290.out 1).trans rfl,(blk_cell BK290.out 2).trans rfl⟩ (fun hHeld => ?_);refine with_tabW Zv.tab9 Zv.bits9 (fun HT_ HW_ => ?_)
    generalize w13.drew = w63 at HO_7 BK290 HB hHeld ⊢
    refine tk_ 0 30 HT_ HW_ hHeld ?_
    refine zon 1 (N := some 31) HT_ (fun K hK => ?_)
    refine zgo Tryz.func49 #[.agg #[.int .i64 ((rd_T76 l1 x8_1).f0),.int .i64 ((rd_T76 l1 x8_1).f1),.string ((rd_T76 l1 x8_1).f2)]] ?_
    with_reducible refine (ZR.calls ((rd_T76 l1 x8_1).f0) ((rd_T76 l1 x8_1).f1) ((rd_T76 l1 x8_1).f2) false _ A8.out).mono ?_
    rintro e w64 ⟨rfl,hb⟩
    refine ⟨_,rfl,?_⟩
    replace BK290 := zb BK290 hb
    replace HB := zs_ HB hb
    try clear hb
    refine hK.out _ _ ⟨(blk_cell BK290.out 0).trans rfl,(blk_cell BK290.out 1).trans rfl,(blk_cell BK290.out 2).trans rfl⟩ (fun hHeld => ?_)
    clear hK K
    refine nm_ ?_
    refine pu_ 2 32 HT_ ?_
    refine pu_ 3 33 HT_ ?_
    refine px_ 4 34 HT_ ?_
    refine px_ 5 35 HT_ ?_
    refine px_ 6 36 HT_ ?_
    refine px_ 7 37 HT_ ?_
    refine pu_ 8 38 HT_ ?_
    refine pu_ 9 39 HT_ ?_
    refine px_ 10 40 HT_ ?_
    refine px_ 11 41 HT_ ?_
    refine px_ 12 42 HT_ ?_
    refine px_ 13 43 HT_ ?_
    refine px_ 14 44 HT_ ?_
    refine px_ 15 45 HT_ ?_
    refine px_ 16 46 HT_ ?_
    refine px_ 17 47 HT_ ?_
    refine px_ 18 48 HT_ ?_
    refine px_ 19 49 HT_ ?_
    refine px_ 20 50 HT_ ?_
    refine px_ 21 51 HT_ ?_
    refine px_ 22 52 HT_ ?_
    refine pu_ 23 53 HT_ ?_
    refine pu_ 24 54 HT_ ?_
    refine px_ 25 55 HT_ ?_
    refine px_ 26 56 HT_ ?_
    refine px_ 27 57 HT_ ?_
    refine px_ 28 58 HT_ ?_
    refine px_ 29 59 HT_ ?_
    refine px_ 30 60 HT_ ?_
    refine px_ 31 61 HT_ ?_
    refine px_ 32 62 HT_ ?_
    refine pu_ 33 63 HT_ ?_
    refine done_ (done_of HT_.out (by kernel_rfl)) ?_
    try go_wp2
    go_ret2
    exact ⟨zt_,zl_ HB⟩
   subst c9
   rw [if_pos rfl] at H
   by_cases c10 : ((rd_T76 l1 x8_1).f0) ≥ a0
   ·rw [if_pos c10] at H
    have c10b0 : decide (a0 ≤ ((rd_T76 l1 x8_1).f0)) = true := decide_eq_true c10
    clear c10
    simp only [Option.some.injEq,Prod.mk.injEq] at H
    obtain ⟨rfl,rfl⟩ := H
    refine start_ (n := 34) (S := fun w' => w'.cell? ⟨gb290,0,none⟩ = some (.int .i64 ((rd_T76 l1 x8_1).f0)) ∧ w'.cell? ⟨gb290,1,none⟩ = some (.int .i64 ((rd_T76 l1 x8_1).f1)) ∧ w'.cell? ⟨gb290,2,none⟩ = some (.string ((rd_T76 l1 x8_1).f2))) (ds := []) #[false,false,false,false,false,false,false,false,false,false,false,false,false,false,false,false,false,false,false,false,false,false,false,false,false,false,false,false,false,false,false,false,false,false] (by kernel_rfl) rfl rfl ⟨(blk_cell BK290.out 0).trans rfl,(blk_cell BK290.out 1).trans rfl,(blk_cell BK290.out 2).trans rfl⟩ (fun hHeld => ?_);refine with_tabW Zv.tab9 Zv.bits9 (fun HT_ HW_ => ?_)
    generalize w13.drew = w14 at HO_7 BK290 HB hHeld ⊢
    refine tk_ 0 30 HT_ HW_ hHeld ?_
    refine zon 1 (N := some 31) HT_ (fun K hK => ?_)
    refine zgo Tryz.func49 #[.agg #[.int .i64 ((rd_T76 l1 x8_1).f0),.int .i64 ((rd_T76 l1 x8_1).f1),.string ((rd_T76 l1 x8_1).f2)]] ?_
    with_reducible refine (ZR.calls ((rd_T76 l1 x8_1).f0) ((rd_T76 l1 x8_1).f1) ((rd_T76 l1 x8_1).f2) true _ A8.out).mono ?_
    rintro e w15 ⟨rfl,hb⟩
    refine ⟨_,rfl,?_⟩
    replace HO_7 := zrb HO_7 hb
    replace BK290 := zb BK290 hb
    replace HB := zs_ HB hb
    try clear hb
    refine hK.out _ _ ⟨(blk_cell BK290.out 0).trans rfl,(blk_cell BK290.out 1).trans rfl,(blk_cell BK290.out 2).trans rfl⟩ (fun hHeld => ?_)
    clear hK K
    refine nm_ ?_
    refine pu_ 2 32 HT_ ?_
    refine pu_ 3 33 HT_ ?_
    refine pu_ 4 34 HT_ ?_
    refine pu_ 6 36 HT_ ?_
    refine tk_ 5 35 HT_ HW_ hHeld ?_
    refine pu_ 7 37 HT_ ?_
    refine pu_ 8 38 HT_ ?_
    refine pu_ 9 39 HT_ ?_
    refine px_ 10 40 HT_ ?_
    refine px_ 11 41 HT_ ?_
    refine px_ 12 42 HT_ ?_
    refine px_ 13 43 HT_ ?_
    refine px_ 14 44 HT_ ?_
    refine px_ 15 45 HT_ ?_
    refine px_ 16 46 HT_ ?_
    refine px_ 17 47 HT_ ?_
    refine px_ 18 48 HT_ ?_
    refine px_ 19 49 HT_ ?_
    refine px_ 20 50 HT_ ?_
    refine px_ 21 51 HT_ ?_
    refine px_ 22 52 HT_ ?_
    refine pu_ 23 53 HT_ ?_
    refine pu_ 24 54 HT_ ?_
    refine px_ 25 55 HT_ ?_
    refine px_ 26 56 HT_ ?_
    refine px_ 27 57 HT_ ?_
    refine px_ 28 58 HT_ ?_
    refine px_ 29 59 HT_ ?_
    refine px_ 30 60 HT_ ?_
    refine px_ 31 61 HT_ ?_
    refine px_ 32 62 HT_ ?_
    refine pu_ 33 63 HT_ ?_
    refine done_ (done_of HT_.out (by kernel_rfl)) ?_
    try go_wp2
    go_ret2
    exact ⟨zt_,zl_ HB⟩
   rw [if_neg c10] at H
   have c10b0 : decide (a0 ≤ ((rd_T76 l1 x8_1).f0)) = false := decide_eq_false c10
   clear c10
   by_cases c16 : x8_1 > 0
   case neg =>
    rw [if_neg c16] at H
    have c16b0 : decide (0 < x8_1) = false := decide_eq_false c16
    clear c16
    replace H := Option.bind_eq_some_iff.mp H
    obtain ⟨t297,A430,H⟩ := H
    try dsimp only at H
    have A43 := am_ A430
    clear A430
    refine start_ (n := 34) (S := fun w' => w'.cell? ⟨gb290,0,none⟩ = some (.int .i64 ((rd_T76 l1 x8_1).f0)) ∧ w'.cell? ⟨gb290,1,none⟩ = some (.int .i64 ((rd_T76 l1 x8_1).f1)) ∧ w'.cell? ⟨gb290,2,none⟩ = some (.string ((rd_T76 l1 x8_1).f2))) (ds := []) #[false,false,false,false,false,false,false,false,false,false,false,false,false,false,false,false,false,false,false,false,false,false,false,false,false,false,false,false,false,false,false,false,false,false] (by kernel_rfl) rfl rfl ⟨(blk_cell BK290.out 0).trans rfl,(blk_cell BK290.out 1).trans rfl,(blk_cell BK290.out 2).trans rfl⟩ (fun hHeld => ?_);refine with_tabW Zv.tab9 Zv.bits9 (fun HT_ HW_ => ?_)
    generalize w13.drew = w49 at HO_7 BK290 HB hHeld ⊢
    refine tk_ 0 30 HT_ HW_ hHeld ?_
    refine zon 1 (N := some 31) HT_ (fun K hK => ?_)
    refine zgo Tryz.func49 #[.agg #[.int .i64 ((rd_T76 l1 x8_1).f0),.int .i64 ((rd_T76 l1 x8_1).f1),.string ((rd_T76 l1 x8_1).f2)]] ?_
    with_reducible refine (ZR.calls ((rd_T76 l1 x8_1).f0) ((rd_T76 l1 x8_1).f1) ((rd_T76 l1 x8_1).f2) true _ A8.out).mono ?_
    rintro e w50 ⟨rfl,hb⟩
    refine ⟨_,rfl,?_⟩
    replace HO_7 := zrb HO_7 hb
    replace BK290 := zb BK290 hb
    replace HB := zs_ HB hb
    try clear hb
    refine hK.out _ _ ⟨(blk_cell BK290.out 0).trans rfl,(blk_cell BK290.out 1).trans rfl,(blk_cell BK290.out 2).trans rfl⟩ (fun hHeld => ?_)
    clear hK K
    refine nm_ ?_
    refine pu_ 2 32 HT_ ?_
    refine pu_ 3 33 HT_ ?_
    refine pu_ 4 34 HT_ ?_
    refine pu_ 6 36 HT_ ?_
    refine tk_ 5 35 HT_ HW_ hHeld ?_
    refine pu_ 7 37 HT_ ?_
    refine pu_ 8 38 HT_ ?_
    refine pu_ 9 39 HT_ ?_
    refine pu_ 10 40 HT_ ?_
    refine pu_ 11 41 HT_ ?_
    refine pu_ 12 42 HT_ ?_
    refine px_ 13 43 HT_ ?_
    refine px_ 14 44 HT_ ?_
    refine px_ 15 45 HT_ ?_
    refine px_ 16 46 HT_ ?_
    refine px_ 17 47 HT_ ?_
    refine px_ 18 48 HT_ ?_
    refine px_ 19 49 HT_ ?_
    refine px_ 20 50 HT_ ?_
    refine px_ 21 51 HT_ ?_
    refine pu_ 22 52 HT_ ?_
    refine pu_ 23 53 HT_ ?_
    refine pu_ 24 54 HT_ ?_
    refine pu_ 25 55 HT_ ?_
    refine pu_ 27 57 HT_ ?_
    refine pu_ 30 60 HT_ ?_
    refine tk_ 26 56 HT_ HW_ hHeld ?_
    refine tk_ 28 58 HT_ HW_ hHeld ?_
    refine tk_ 31 61 HT_ HW_ hHeld ?_
    refine zon 29 (N := some 59) HT_ (fun K hK => ?_)
    refine zgo Tryz.func50 #[.int .i64 ((rd_T76 l1 x8_1).f0),.int .i64 ((rd_T76 l1 x8_1).f1)] ?_
    with_reducible refine (ZL.calls k1 ((rd_T76 l1 x8_1).f0) ((rd_T76 l1 x8_1).f1) t297 _ A43.out).mono ?_
    rintro e w51 ⟨rfl,hb⟩
    refine ⟨_,rfl,?_⟩
    replace HO_7 := zrb HO_7 hb
    replace BK290 := zb BK290 hb
    replace HB := zs_ HB hb
    try clear hb
    refine hK.out _ _ ⟨(blk_cell BK290.out 0).trans rfl,(blk_cell BK290.out 1).trans rfl,(blk_cell BK290.out 2).trans rfl⟩ (fun hHeld => ?_)
    clear hK K
    refine nm_ ?_
    by_cases c44 : t297.toList = ((rd_T76 l1 x8_1).f2).toList
    case neg =>
     rw [if_neg c44] at H
     have c44b0 := beq_eq_false_iff_ne.mpr c44
     have c44b1 := bne_iff_ne.mpr c44
     simp only [Option.some.injEq,Prod.mk.injEq] at H
     obtain ⟨rfl,rfl⟩ := H
     refine pu_ 32 62 HT_ ?_
     refine pu_ 33 63 HT_ ?_
     refine done_ (done_of HT_.out (by kernel_rfl)) ?_
     try go_wp2
     go_ret2
     exact ⟨zt_,zl_ HB⟩
    rw [if_pos c44] at H
    have c44b0 := beq_iff_eq.mpr c44
    have c44b1 := bne_eq_false_iff_eq.mpr c44
    clear c44
    by_cases c45 : x7_1.length < 17592186044416
    case neg =>
     rw [if_neg c45] at H
     exact absurd H (by simp)
    rw [if_pos c45] at H
    have LMc45 := am_ c45
    clear c45
    obtain ⟨y298,hy298⟩ : ∃ y_ : List Int,y_ = (x7_1 ++ [(rd_T76 l1 x8_1).f1]) := ⟨_,rfl⟩
    replace H : (Zv.l0 k1 a0 l1 (wrap64 (Int.tdiv (wrap64 (a0 - 1)) 3)) y298 (wrap64 (x8_1 + 1))) = some (r1,r2) := by first | (rw [hy298];with_reducible exact H) | (have H2_ := (Option.bind_some _ _).symm.trans H;rw [hy298];with_reducible exact H2_) | (have H2_ := (Option.bind_some _ _).symm.trans H;with_reducible exact H2_) | with_reducible exact H | (rw [hy298];exact H) | exact H
    have Ny298 := am_ hy298
    clear hy298
    have H' := am_ H
    clear H
    refine pu_ 32 62 HT_ ?_
    refine pu_ 33 63 HT_ ?_
    refine done_ (done_of HT_.out (by kernel_rfl)) ?_
    obtain ⟨hcz52_0,hcz52_1,hcz52_2,hfz52_0,hfz52_1,hfz52_2⟩ := zc3 BK290
    try go_wp2_with (first | ((with_reducible refine gate_builtin (b := .append) (xs := #[.tmp 64,.tmp 67]) rfl ?_);at_builtin;refine Kd.R_append (Kd.int .i64) (w0 := w) w.heap.size rfl (.tmp 64) (.tmp 67) 80 3 (.int .i64 0) 8 rfl Tryz.underlying80 info3 rfl (by decide) (by omega) u7 x7_1 ((rd_T76 l1 x8_1).f1) [.int .i64 ((rd_T76 l1 x8_1).f1)] (fun _ => True) (fun _ => False) rfl rfl ?aP (fun _ hk => hk.elim) ?aF ?aO ?aB ?aS ?aL ?_;(case aP => exact rfl);(case aB => exact (zl_ HB));(case aF => exact (fun _ _ => trivial));(case aO => exact (zr HO_7));(case aS => exact (below_size (zl_ HB)));(case aL => have := LMc45.out;omega);intro v299 w53 ho hb hg hat;rw [← Ny298.out] at ho;replace HB := am_ (hb);have HO300 := am_ (ho);clear HO_7;clear ho hb hg hat))
    go_roundg k1
    case measure => have := HK1.out;omega
    case rel => exact ⟨(y298),(wrap64 (x8_1 + 1)),(by first | rfl | (simp;done) | (simp [*];done)),H',⟨by have := HK1.out;omega⟩,⟨zr HO300⟩,⟨zl_ HB⟩⟩
   rw [if_pos c16] at H
   have c16b0 : decide (0 < x8_1) = true := decide_eq_true c16
   clear c16
   obtain ⟨ji17,hji17⟩ : ∃ j_ : Int,(wrap64 (x8_1 - 1)) = j_ := ⟨_,rfl⟩
   replace H : (if 0 ≤ (ji17) then (if (ji17) < (l1.length : Int) then (if ((rd_T76 l1 (ji17)).f0) ≥ ((rd_T76 l1 x8_1).f0) then (some (0,false)) else ((ZL.f k1 ((rd_T76 l1 x8_1).f0) ((rd_T76 l1 x8_1).f1)).bind fun t293 => (if t293.toList = ((rd_T76 l1 x8_1).f2).toList then (if x7_1.length < 17592186044416 then (Zv.l0 k1 a0 l1 (wrap64 (Int.tdiv (wrap64 (a0 - 1)) 3)) (x7_1 ++ [(rd_T76 l1 x8_1).f1]) (wrap64 (x8_1 + 1))) else (none)) else (some (0,false))))) else (none)) else (none)) = some (r1,r2) := by first | (rw [hji17] at H;exact H) | (simp only [hji17] at H ⊢;exact H)
   (try rw [hji17] at A8)
   have hji17w : (IntKind.i64.wrap (x8_1 - 1)) = ji17 := (i64_w _).trans hji17
   by_cases c18 : 0 ≤ (ji17)
   case neg =>
    rw [if_neg c18] at H
    exact absurd H (by simp)
   rw [if_pos c18] at H
   have c18b0 := decide_eq_true c18
   clear c18
   by_cases c19 : (ji17) < (l1.length : Int)
   case neg =>
    rw [if_neg c19] at H
    exact absurd H (by simp)
   rw [if_pos c19] at H
   have c19b0 := decide_eq_true c19
   clear c19
   have p292 : 0 ≤ ((ji17) : Int) := zo_
   have q292 : (ji17) < (l1.length : Int) := zo_
   obtain ⟨ad292,e292,hx292_0,hx292_1,hx292_2⟩ := at_T76 HR1.out (ji17) p292 q292
   have hw292_2 := hx292_2
   have hw292_1 := hx292_1
   have hw292_0 := hx292_0
   obtain rfl : ad289 = ad292 := (by injection e292)
   replace hx292_0 := zx_ HB hx292_0
   replace hx292_1 := zx_ HB hx292_1
   replace hx292_2 := zx_ HB hx292_2
   replace p292 := eq_true p292
   replace q292 := eq_true q292
   refine start_ (n := 34) (S := fun w' => w'.cell? ⟨gb290,0,none⟩ = some (.int .i64 ((rd_T76 l1 x8_1).f0)) ∧ w'.cell? ⟨gb290,1,none⟩ = some (.int .i64 ((rd_T76 l1 x8_1).f1)) ∧ w'.cell? ⟨gb290,2,none⟩ = some (.string ((rd_T76 l1 x8_1).f2)) ∧ w'.cell? (ad289.add (((ji17)).toNat * 3)) = some (.int .i64 ((rd_T76 l1 (ji17)).f0)) ∧ w'.cell? ⟨(ad289.add (((ji17)).toNat * 3)).block,(ad289.add (((ji17)).toNat * 3)).off + 1,none⟩ = some (.int .i64 ((rd_T76 l1 (ji17)).f1)) ∧ w'.cell? ⟨(ad289.add (((ji17)).toNat * 3)).block,(ad289.add (((ji17)).toNat * 3)).off + 2,none⟩ = some (.string ((rd_T76 l1 (ji17)).f2))) (ds := []) #[false,false,false,false,false,false,false,false,false,false,false,false,false,false,false,false,false,false,false,false,false,false,false,false,false,false,false,false,false,false,false,false,false,false] (by kernel_rfl) rfl rfl ⟨(blk_cell BK290.out 0).trans rfl,(blk_cell BK290.out 1).trans rfl,(blk_cell BK290.out 2).trans rfl,(zx_ HB hw292_0),(zx_ HB hw292_1),(zx_ HB hw292_2)⟩ (fun hHeld => ?_);refine with_tabW Zv.tab9 Zv.bits9 (fun HT_ HW_ => ?_)
   generalize w13.drew = w24 at HO_7 BK290 HB hx292_0 hx292_1 hx292_2 hHeld ⊢
   refine tk_ 0 30 HT_ HW_ hHeld ?_
   refine zon 1 (N := some 31) HT_ (fun K hK => ?_)
   refine zgo Tryz.func49 #[.agg #[.int .i64 ((rd_T76 l1 x8_1).f0),.int .i64 ((rd_T76 l1 x8_1).f1),.string ((rd_T76 l1 x8_1).f2)]] ?_
   with_reducible refine (ZR.calls ((rd_T76 l1 x8_1).f0) ((rd_T76 l1 x8_1).f1) ((rd_T76 l1 x8_1).f2) true _ A8.out).mono ?_
   rintro e w25 ⟨rfl,hb⟩
   refine ⟨_,rfl,?_⟩
   replace HO_7 := zrb HO_7 hb
   replace BK290 := zb BK290 hb
   replace HB := zs_ HB hb
   try clear hb
   refine hK.out _ _ ⟨(blk_cell BK290.out 0).trans rfl,(blk_cell BK290.out 1).trans rfl,(blk_cell BK290.out 2).trans rfl,(zx_ HB hw292_0),(zx_ HB hw292_1),(zx_ HB hw292_2)⟩ (fun hHeld => ?_)
   clear hK K
   refine nm_ ?_
   by_cases c20 : ((rd_T76 l1 (ji17)).f0) ≥ ((rd_T76 l1 x8_1).f0)
   ·rw [if_pos c20] at H
    have c20b0 : decide (((rd_T76 l1 x8_1).f0) ≤ ((rd_T76 l1 (ji17)).f0)) = true := decide_eq_true c20
    clear c20
    simp only [Option.some.injEq,Prod.mk.injEq] at H
    obtain ⟨rfl,rfl⟩ := H
    refine pu_ 2 32 HT_ ?_
    refine pu_ 3 33 HT_ ?_
    refine pu_ 4 34 HT_ ?_
    refine pu_ 6 36 HT_ ?_
    refine tk_ 5 35 HT_ HW_ hHeld ?_
    refine pu_ 7 37 HT_ ?_
    refine pu_ 8 38 HT_ ?_
    refine pu_ 9 39 HT_ ?_
    refine pu_ 10 40 HT_ ?_
    refine pu_ 11 41 HT_ ?_
    refine pu_ 12 42 HT_ ?_
    refine pu_ 13 43 HT_ ?_
    refine pu_ 14 44 HT_ ?_
    refine pu_ 15 45 HT_ ?_
    refine pu_ 16 46 HT_ ?_
    refine pu_ 17 47 HT_ ?_
    refine pu_ 19 49 HT_ ?_
    refine tk_ 18 48 HT_ HW_ hHeld ?_
    refine tk_ 20 50 HT_ HW_ hHeld ?_
    refine pu_ 21 51 HT_ ?_
    refine pu_ 22 52 HT_ ?_
    refine pu_ 23 53 HT_ ?_
    refine pu_ 24 54 HT_ ?_
    refine px_ 25 55 HT_ ?_
    refine px_ 26 56 HT_ ?_
    refine px_ 27 57 HT_ ?_
    refine px_ 28 58 HT_ ?_
    refine px_ 29 59 HT_ ?_
    refine px_ 30 60 HT_ ?_
    refine px_ 31 61 HT_ ?_
    refine px_ 32 62 HT_ ?_
    refine pu_ 33 63 HT_ ?_
    refine done_ (done_of HT_.out (by kernel_rfl)) ?_
    try go_wp2
    go_ret2
    exact ⟨by first | rfl | (simp [e1_,e2_] <;> rfl) | (simp only [← hji17];first | rfl | (simp [e1_,e2_] <;> rfl)) | (simp [*,e1_,e2_] <;> rfl) | (simp [e3_,e4_];done) | (simp [*,e3_,e4_];done),zl_ HB⟩
   rw [if_neg c20] at H
   have c20b0 : decide (((rd_T76 l1 x8_1).f0) ≤ ((rd_T76 l1 (ji17)).f0)) = false := decide_eq_false c20
   clear c20
   replace H := Option.bind_eq_some_iff.mp H
   obtain ⟨t293,A260,H⟩ := H
   try dsimp only at H
   have A26 := am_ A260
   clear A260
   refine pu_ 2 32 HT_ ?_
   refine pu_ 3 33 HT_ ?_
   refine pu_ 4 34 HT_ ?_
   refine pu_ 6 36 HT_ ?_
   refine tk_ 5 35 HT_ HW_ hHeld ?_
   refine pu_ 7 37 HT_ ?_
   refine pu_ 8 38 HT_ ?_
   refine pu_ 9 39 HT_ ?_
   refine pu_ 10 40 HT_ ?_
   refine pu_ 11 41 HT_ ?_
   refine pu_ 12 42 HT_ ?_
   refine pu_ 13 43 HT_ ?_
   refine pu_ 14 44 HT_ ?_
   refine pu_ 15 45 HT_ ?_
   refine pu_ 16 46 HT_ ?_
   refine pu_ 17 47 HT_ ?_
   refine pu_ 19 49 HT_ ?_
   refine tk_ 18 48 HT_ HW_ hHeld ?_
   refine tk_ 20 50 HT_ HW_ hHeld ?_
   refine pu_ 21 51 HT_ ?_
   refine pu_ 22 52 HT_ ?_
   refine pu_ 23 53 HT_ ?_
   refine pu_ 24 54 HT_ ?_
   refine pu_ 25 55 HT_ ?_
   refine pu_ 27 57 HT_ ?_
   refine pu_ 30 60 HT_ ?_
   refine tk_ 26 56 HT_ HW_ hHeld ?_
   refine tk_ 28 58 HT_ HW_ hHeld ?_
   refine tk_ 31 61 HT_ HW_ hHeld ?_
   refine zon 29 (N := some 59) HT_ (fun K hK => ?_)
   refine zgo Tryz.func50 #[.int .i64 ((rd_T76 l1 x8_1).f0),.int .i64 ((rd_T76 l1 x8_1).f1)] ?_
   with_reducible refine (ZL.calls k1 ((rd_T76 l1 x8_1).f0) ((rd_T76 l1 x8_1).f1) t293 _ A26.out).mono ?_
   rintro e w34 ⟨rfl,hb⟩
   refine ⟨_,rfl,?_⟩
   replace HO_7 := zrb HO_7 hb
   replace BK290 := zb BK290 hb
   replace HB := zs_ HB hb
   try clear hb
   refine hK.out _ _ ⟨(blk_cell BK290.out 0).trans rfl,(blk_cell BK290.out 1).trans rfl,(blk_cell BK290.out 2).trans rfl,(zx_ HB hw292_0),(zx_ HB hw292_1),(zx_ HB hw292_2)⟩ (fun hHeld => ?_)
   clear hK K
   refine nm_ ?_
   by_cases c27 : t293.toList = ((rd_T76 l1 x8_1).f2).toList
   case neg =>
    rw [if_neg c27] at H
    have c27b0 := beq_eq_false_iff_ne.mpr c27
    have c27b1 := bne_iff_ne.mpr c27
    simp only [Option.some.injEq,Prod.mk.injEq] at H
    obtain ⟨rfl,rfl⟩ := H
    refine pu_ 32 62 HT_ ?_
    refine pu_ 33 63 HT_ ?_
    refine done_ (done_of HT_.out (by kernel_rfl)) ?_
    try go_wp2
    go_ret2
    exact ⟨by first | rfl | (simp [e1_,e2_] <;> rfl) | (simp only [← hji17];first | rfl | (simp [e1_,e2_] <;> rfl)) | (simp [*,e1_,e2_] <;> rfl) | (simp [e3_,e4_];done) | (simp [*,e3_,e4_];done),zl_ HB⟩
   rw [if_pos c27] at H
   have c27b0 := beq_iff_eq.mpr c27
   have c27b1 := bne_eq_false_iff_eq.mpr c27
   clear c27
   by_cases c28 : x7_1.length < 17592186044416
   case neg =>
    rw [if_neg c28] at H
    exact absurd H (by simp)
   rw [if_pos c28] at H
   have LMc28 := am_ c28
   clear c28
   obtain ⟨y294,hy294⟩ : ∃ y_ : List Int,y_ = (x7_1 ++ [(rd_T76 l1 x8_1).f1]) := ⟨_,rfl⟩
   replace H : (Zv.l0 k1 a0 l1 (wrap64 (Int.tdiv (wrap64 (a0 - 1)) 3)) y294 (wrap64 (x8_1 + 1))) = some (r1,r2) := by first | (rw [hy294];with_reducible exact H) | (have H2_ := (Option.bind_some _ _).symm.trans H;rw [hy294];with_reducible exact H2_) | (have H2_ := (Option.bind_some _ _).symm.trans H;with_reducible exact H2_) | with_reducible exact H | (rw [hy294];exact H) | exact H
   have Ny294 := am_ hy294
   clear hy294
   have H' := am_ H
   clear H
   refine pu_ 32 62 HT_ ?_
   refine pu_ 33 63 HT_ ?_
   refine done_ (done_of HT_.out (by kernel_rfl)) ?_
   obtain ⟨hcz35_0,hcz35_1,hcz35_2,hfz35_0,hfz35_1,hfz35_2⟩ := zc3 BK290
   try go_wp2_with (first | ((with_reducible refine gate_builtin (b := .append) (xs := #[.tmp 64,.tmp 67]) rfl ?_);at_builtin;refine Kd.R_append (Kd.int .i64) (w0 := w) w.heap.size rfl (.tmp 64) (.tmp 67) 80 3 (.int .i64 0) 8 rfl Tryz.underlying80 info3 rfl (by decide) (by omega) u7 x7_1 ((rd_T76 l1 x8_1).f1) [.int .i64 ((rd_T76 l1 x8_1).f1)] (fun _ => True) (fun _ => False) rfl rfl ?aP (fun _ hk => hk.elim) ?aF ?aO ?aB ?aS ?aL ?_;(case aP => exact rfl);(case aB => exact (zl_ HB));(case aF => exact (fun _ _ => trivial));(case aO => exact (zr HO_7));(case aS => exact (below_size (zl_ HB)));(case aL => have := LMc28.out;omega);intro v295 w36 ho hb hg hat;rw [← Ny294.out] at ho;replace HB := am_ (hb);have HO296 := am_ (ho);clear HO_7;clear ho hb hg hat))
   go_roundg k1
   case measure => have := HK1.out;omega
   case rel => exact ⟨(y294),(wrap64 (x8_1 + 1)),(by first | rfl | (simp;done) | (simp [*];done)),H',⟨by have := HK1.out;omega⟩,⟨zr HO296⟩,⟨zl_ HB⟩⟩
theorem ZZ.calls (k : Nat) (a0 : Int) (a1 : ByteArray) (r : Bool) (w : World) (h : ZZ.f k a0 a1 = some r) :
  Calls Tryz.prog 23 #[.int .i64 a0,.string a1] w fun e w' => e = .returned (.bool r) ∧ Below w.heap.size w w' := by
 have hu55 := Tryz.underlying55
 have HB := am_ (Below.refl w.heap.size w)
 have H : ((Zg.f k a1).bind fun bt301 => (if bt301.2.2.2.2.2.2.2 = true then (if bt301.1 = true then (some true) else ((Zv.f k a0 bt301.2.2.2.2.2.2.1).bind fun bt312 => (some bt312.2))) else (some false))) = some r := h
 clear h
 replace H := Option.bind_eq_some_iff.mp H
 obtain ⟨⟨t301,t302,t303,t304,t305,t306,t307,t310⟩,A30,H⟩ := H
 try dsimp only at H
 have A3 := am_ A30
 clear A30
 by_cases c4 : t310 = true
 case neg =>
  replace c4 := Bool.eq_false_iff.mpr c4
  subst c4
  rw [if_neg (show ¬ (false = true) by decide)] at H
  obtain rfl := Option.some.inj H
  go_enter Tryz.func23,Tryz.ntmps23
  go_wp2_with (first | ((with_reducible refine gate_callee (f := 33) rfl ?_);refine zgl (some 11) Tryz.func33 #[.string a1] ?_;(with_reducible refine (Zg.calls k a1 t301 t302 t303 t304 t305 t306 t307 false _ A3.out).mono ?_);rintro e w16 ⟨v308,rfl,ho0,hb⟩;refine ⟨_,rfl,?_⟩;have HO309 := am_ (Kd.R_lower ho0 (below_size (zl_ HB)));replace HB := zs_ HB hb;(try clear hb);(try clear ho0)) | ((with_reducible refine gate_dst (N := 5) rfl ?_);refine zbx (N := 5) (cs := #[.bool false,.int .i64 0,.int .i64 0,.int .i64 0,.int .i64 0,.string ⟨#[]⟩,.slice none 0 0]) (t := 55) ?_;intro gb311 hg w17 hbox hb;replace HO309 := zrb HO309 hb;have BK311 := am_ (hbox);have GW311 := zw_ HB hg;have GE311 := zw_ HB hg;replace HB := zs_ HB hb;clear hb hbox hg;obtain ⟨hcz18_0,hcz18_1,hcz18_2,hcz18_3,hcz18_4,hcz18_5,hcz18_6,hfz18_0,hfz18_1,hfz18_2,hfz18_3,hfz18_4,hfz18_5,hfz18_6⟩ := zc7 BK311;obtain ⟨Ao19,co19,eo19⟩ := Kd.R_slice HO309.out;subst eo19))
  go_ret
  exact ⟨zt_,zl_ HB⟩
 subst c4
 rw [if_pos rfl] at H
 by_cases c5 : t301 = true
 ·subst c5
  rw [if_pos rfl] at H
  obtain rfl := Option.some.inj H
  go_enter Tryz.func23,Tryz.ntmps23
  go_wp2_with (first | ((with_reducible refine gate_callee (f := 33) rfl ?_);refine zgl (some 11) Tryz.func33 #[.string a1] ?_;(with_reducible refine (Zg.calls k a1 true t302 t303 t304 t305 t306 t307 true _ A3.out).mono ?_);rintro e w6 ⟨v308,rfl,ho0,hb⟩;refine ⟨_,rfl,?_⟩;have HO309 := am_ (Kd.R_lower ho0 (below_size (zl_ HB)));replace HB := zs_ HB hb;(try clear hb);(try clear ho0)) | ((with_reducible refine gate_dst (N := 5) rfl ?_);refine zbx (N := 5) (cs := #[.bool false,.int .i64 0,.int .i64 0,.int .i64 0,.int .i64 0,.string ⟨#[]⟩,.slice none 0 0]) (t := 55) ?_;intro gb311 hg w7 hbox hb;replace HO309 := zrb HO309 hb;have BK311 := am_ (hbox);have GW311 := zw_ HB hg;have GE311 := zw_ HB hg;replace HB := zs_ HB hb;clear hb hbox hg;obtain ⟨hcz8_0,hcz8_1,hcz8_2,hcz8_3,hcz8_4,hcz8_5,hcz8_6,hfz8_0,hfz8_1,hfz8_2,hfz8_3,hfz8_4,hfz8_5,hfz8_6⟩ := zc7 BK311;obtain ⟨Ao9,co9,eo9⟩ := Kd.R_slice HO309.out;subst eo9))
  go_ret
  exact ⟨zt_,zl_ HB⟩
 replace c5 := Bool.eq_false_iff.mpr c5
 subst c5
 rw [if_neg (show ¬ (false = true) by decide)] at H
 replace H := Option.bind_eq_some_iff.mp H
 obtain ⟨⟨t312,t313⟩,A100,H⟩ := H
 try dsimp only at H
 have A10 := am_ A100
 clear A100
 obtain rfl := Option.some.inj H
 go_enter Tryz.func23,Tryz.ntmps23
 go_wp2_with (first | ((with_reducible refine gate_callee (f := 33) rfl ?_);refine zgl (some 11) Tryz.func33 #[.string a1] ?_;(with_reducible refine (Zg.calls k a1 false t302 t303 t304 t305 t306 t307 true _ A3.out).mono ?_);rintro e w11 ⟨v308,rfl,ho0,hb⟩;refine ⟨_,rfl,?_⟩;have HO309 := am_ (Kd.R_lower ho0 (below_size (zl_ HB)));replace HB := zs_ HB hb;(try clear hb);(try clear ho0)) | ((with_reducible refine gate_dst (N := 5) rfl ?_);refine zbx (N := 5) (cs := #[.bool false,.int .i64 0,.int .i64 0,.int .i64 0,.int .i64 0,.string ⟨#[]⟩,.slice none 0 0]) (t := 55) ?_;intro gb311 hg w12 hbox hb;replace HO309 := zrb HO309 hb;have BK311 := am_ (hbox);have GW311 := zw_ HB hg;have GE311 := zw_ HB hg;replace HB := zs_ HB hb;clear hb hbox hg;obtain ⟨hcz13_0,hcz13_1,hcz13_2,hcz13_3,hcz13_4,hcz13_5,hcz13_6,hfz13_0,hfz13_1,hfz13_2,hfz13_3,hfz13_4,hfz13_5,hfz13_6⟩ := zc7 BK311;obtain ⟨Ao14,co14,eo14⟩ := Kd.R_slice HO309.out;subst eo14) | ((with_reducible refine gate_callee (f := 34) rfl ?_);refine zgl (some 22) Tryz.func34 #[.int .i64 a0,.slice Ao14 t307.length co14] ?_;(with_reducible refine (Zv.calls k a0 _ _ t307 t312 t313 _ ?side1 ?side2 A10.out).mono ?_);(case side1 => refine (Kd.R_reads' (e := 76) (base := w.heap.size) (ok := fun k_ => True) (n := t307.length) (c := co14) ?_).2.2;exact (by (with_reducible repeat (first | apply r1_ | apply r2_ | apply r3_));exact (Kd.R_mono (zrf (Kd.R_types HO309.out BK311.out (by decide))) (fun _ h_ => h_.1))));(case side2 => exact (Kd.R_reads' HO309.out).2.1);rintro e w15 ⟨rfl,hb⟩;refine ⟨_,rfl,?_⟩;replace HB := zs_ HB hb;(try clear hb)))
 go_ret
 exact ⟨zt_,zl_ HB⟩
end Go.Proofs.YtbhegbhdenngbaaGreatDoor.A
end
