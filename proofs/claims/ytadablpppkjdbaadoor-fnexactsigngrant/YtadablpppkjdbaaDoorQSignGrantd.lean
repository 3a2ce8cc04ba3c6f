/- A part of the proof that FnExactSignGrant returns true at every input: plain functions, contracts and lemmas. No conditions. -/
import Derived.Test.YtadablpppkjdbaaDoorQSignGrantc
set_option linter.unusedVariables false
set_option linter.unusedSimpArgs false
set_option linter.unusedSectionVars false
section
namespace Go.Proofs.YtadablpppkjdbaaDoor.B
open Go.RowKit Go.Proofs.YtadablpppkjdbaaDoorW.PrintWords Go.Proofs.YtadablpppkjdbaaDoorW.PrintLast Go.Proofs.YtadablpppkjdbaaDoorW.PrintMore
attribute [local go_sem] max2_int min2_int max_two min_two max_three min_three max_four min_four
set_option maxHeartbeats 8000000 in
set_option maxRecDepth 100000 in
theorem laws_eqKeySignature.calls (k : Nat) (a0_0 : Int) (A0_1 : Option Addr) (c0_1 : Nat) (l0_1 : List ByteArray) (A0_2 : Option Addr) (c0_2 : Nat) (l0_2 : List ByteArray) (A0_3 : Option Addr) (c0_3 : Nat) (l0_3 : List ByteArray) (a1_0 : Int) (A1_1 : Option Addr) (c1_1 : Nat) (l1_1 : List ByteArray) (A1_2 : Option Addr) (c1_2 : Nat) (l1_2 : List ByteArray) (A1_3 : Option Addr) (c1_3 : Nat) (l1_3 : List ByteArray) (r : Bool) (w : World) (hr0_1 : Kd.C Kd.string w A0_1 l0_1.length l0_1) (hc0_1 : l0_1.length ≤ c0_1) (hr0_2 : Kd.C Kd.string w A0_2 l0_2.length l0_2) (hc0_2 : l0_2.length ≤ c0_2) (hr0_3 : Kd.C Kd.string w A0_3 l0_3.length l0_3) (hc0_3 : l0_3.length ≤ c0_3) (hr1_1 : Kd.C Kd.string w A1_1 l1_1.length l1_1) (hc1_1 : l1_1.length ≤ c1_1) (hr1_2 : Kd.C Kd.string w A1_2 l1_2.length l1_2) (hc1_2 : l1_2.length ≤ c1_2) (hr1_3 : Kd.C Kd.string w A1_3 l1_3.length l1_3) (hc1_3 : l1_3.length ≤ c1_3) (h : laws_eqKeySignature.f k a0_0 l0_1 l0_2 l0_3 a1_0 l1_1 l1_2 l1_3 = some r) :
  Calls Tryd.prog 37 #[.agg #[.int .i64 a0_0,.slice A0_1 l0_1.length c0_1,.slice A0_2 l0_2.length c0_2,.slice A0_3 l0_3.length c0_3],.agg #[.int .i64 a1_0,.slice A1_1 l1_1.length c1_1,.slice A1_2 l1_2.length c1_2,.slice A1_3 l1_3.length c1_3]] w fun e w' => e = .returned (.bool r) ∧ Below w.heap.size w w' := by
 have hu56 := Tryd.underlying56
 have HR0_1 := am_ hr0_1
 have HC0_1 := am_ hc0_1
 clear hr0_1 hc0_1
 have HR0_2 := am_ hr0_2
 have HC0_2 := am_ hc0_2
 clear hr0_2 hc0_2
 have HR0_3 := am_ hr0_3
 have HC0_3 := am_ hc0_3
 clear hr0_3 hc0_3
 have HR1_1 := am_ hr1_1
 have HC1_1 := am_ hc1_1
 clear hr1_1 hc1_1
 have HR1_2 := am_ hr1_2
 have HC1_2 := am_ hc1_2
 clear hr1_2 hc1_2
 have HR1_3 := am_ hr1_3
 have HC1_3 := am_ hc1_3
 clear hr1_3 hc1_3
 have HB := am_ (Below.refl w.heap.size w)
 have H : (if a0_0 = a1_0 then ((laws_eqStringS.f k l0_1 l1_1).bind fun t1146 => (if t1146 = true then ((laws_eqStringS.f k l0_2 l1_2).bind fun t1147 => (if t1147 = true then ((laws_eqStringS.f k l0_3 l1_3).bind fun t1148 => (if t1148 = true then (some true) else (some false))) else (some false))) else (some false))) else (some false)) = some r := h
 clear h
 by_cases c3 : a0_0 = a1_0
 ·rw [if_pos c3] at H
  have c3b0 : (a0_0 == a1_0) = true := beq_iff_eq.mpr c3
  have c3b1 : (a0_0 != a1_0) = false := bne_eq_false_iff_eq.mpr c3
  clear c3
  replace H := Option.bind_eq_some_iff.mp H
  obtain ⟨t1146,A40,H⟩ := H
  try dsimp only at H
  have A4 := am_ A40
  clear A40
  by_cases c5 : t1146 = true
  ·subst c5
   have H1 : ((laws_eqStringS.f k l0_2 l1_2).bind fun t1147 => (if t1147 = true then ((laws_eqStringS.f k l0_3 l1_3).bind fun t1148 => (if t1148 = true then (some true) else (some false))) else (some false))) = some r := by rw [if_pos rfl] at H;exact H
   clear H
   have H := H1
   clear H1
   replace H := Option.bind_eq_some_iff.mp H
   obtain ⟨t1147,A60,H⟩ := H
   try dsimp only at H
   have A6 := am_ A60
   clear A60
   by_cases c7 : t1147 = true
   ·subst c7
    have H1 : ((laws_eqStringS.f k l0_3 l1_3).bind fun t1148 => (if t1148 = true then (some true) else (some false))) = some r := by rw [if_pos rfl] at H;exact H
    clear H
    have H := H1
    clear H1
    replace H := Option.bind_eq_some_iff.mp H
    obtain ⟨t1148,A80,H⟩ := H
    try dsimp only at H
    have A8 := am_ A80
    clear A80
    by_cases c9 : t1148 = true
    ·subst c9
     have H1 : (some true) = some r := by rw [if_pos rfl] at H;exact H
     clear H
     have H := H1
     clear H1
     obtain rfl := Option.some.inj H
     go_enter Tryd.func37,Tryd.ntmps37
     go_wp2_with (first | ((with_reducible refine gate_dst (N := 2) rfl ?_);refine zbx (N := 2) (cs := #[.int .i64 a0_0,.slice A0_1 l0_1.length c0_1,.slice A0_2 l0_2.length c0_2,.slice A0_3 l0_3.length c0_3]) (t := 56) ?_;intro gb1144 hg w10 hbox hb;have BK1144 := am_ (hbox);have GW1144 := zw_ HB hg;have GE1144 := zw_ HB hg;replace HB := zs_ HB hb;clear hb hbox hg) | ((with_reducible refine gate_dst (N := 3) rfl ?_);refine zbx (N := 3) (cs := #[.int .i64 a1_0,.slice A1_1 l1_1.length c1_1,.slice A1_2 l1_2.length c1_2,.slice A1_3 l1_3.length c1_3]) (t := 56) ?_;intro gb1145 hg w11 hbox hb;have BK1145 := am_ (hbox);have GW1145 := zw_ HB hg;have GE1145 := zw_ HB hg;replace HB := zs_ HB hb;have NB1144_1145 := zl hg BK1144;have NB1145_1144 := zg hg BK1144;replace BK1144 := zb BK1144 hb;clear hb hbox hg;have hnb12 := NB1144_1145.out;have hnc12 := NB1145_1144.out;obtain ⟨hcz13_0,hcz13_1,hcz13_2,hcz13_3,hfz13_0,hfz13_1,hfz13_2,hfz13_3⟩ := zc4 BK1144;obtain ⟨hcz14_0,hcz14_1,hcz14_2,hcz14_3,hfz14_0,hfz14_1,hfz14_2,hfz14_3⟩ := zc4 BK1145) | ((with_reducible refine gate_callee (f := 15) rfl ?_);refine zgl (some 14) Tryd.func15 #[.slice A0_1 l0_1.length c0_1,.slice A1_1 l1_1.length c1_1] ?_;(with_reducible refine (laws_eqStringS.calls k _ _ l0_1 _ _ l1_1 true _ ?side1 ?side2 ?side3 ?side4 A4.out).mono ?_);(case side1 => exact zc_ HR0_1 HB);(case side2 => exact HC0_1.out);(case side3 => exact zc_ HR1_1 HB);(case side4 => exact HC1_1.out);rintro e w' ⟨rfl,⟨nd,rfl⟩⟩;refine ⟨_,rfl,?_⟩) | ((with_reducible refine gate_callee (f := 15) rfl ?_);refine zgl (some 20) Tryd.func15 #[.slice A0_2 l0_2.length c0_2,.slice A1_2 l1_2.length c1_2] ?_;(with_reducible refine (laws_eqStringS.calls k _ _ l0_2 _ _ l1_2 true _ ?side1 ?side2 ?side3 ?side4 A6.out).mono ?_);(case side1 => repeat (first | exact (Kd.C_below HR0_2.out (zl_ HB)) | (with_reducible refine Kd.C_alloc ?_ _) | (with_reducible refine Kd.C_drewN ?_ _) | (with_reducible refine Kd.C_drew ?_)));(case side2 => exact HC0_2.out);(case side3 => repeat (first | exact (Kd.C_below HR1_2.out (zl_ HB)) | (with_reducible refine Kd.C_alloc ?_ _) | (with_reducible refine Kd.C_drewN ?_ _) | (with_reducible refine Kd.C_drew ?_)));(case side4 => exact HC1_2.out);rintro e w' ⟨rfl,⟨nd,rfl⟩⟩;refine ⟨_,rfl,?_⟩) | ((with_reducible refine gate_callee (f := 15) rfl ?_);refine zgl (some 26) Tryd.func15 #[.slice A0_3 l0_3.length c0_3,.slice A1_3 l1_3.length c1_3] ?_;(with_reducible refine (laws_eqStringS.calls k _ _ l0_3 _ _ l1_3 true _ ?side1 ?side2 ?side3 ?side4 A8.out).mono ?_);(case side1 => repeat (first | exact (Kd.C_below HR0_3.out (zl_ HB)) | (with_reducible refine Kd.C_alloc ?_ _) | (with_reducible refine Kd.C_drewN ?_ _) | (with_reducible refine Kd.C_drew ?_)));(case side2 => exact HC0_3.out);(case side3 => repeat (first | exact (Kd.C_below HR1_3.out (zl_ HB)) | (with_reducible refine Kd.C_alloc ?_ _) | (with_reducible refine Kd.C_drewN ?_ _) | (with_reducible refine Kd.C_drew ?_)));(case side4 => exact HC1_3.out);rintro e w' ⟨rfl,⟨nd,rfl⟩⟩;refine ⟨_,rfl,?_⟩))
     go_ret
     exact ⟨zt_,zl_ HB⟩
    ·replace c9 := Bool.eq_false_iff.mpr c9
     subst c9
     have H1 : (some false) = some r := by rw [if_neg (show ¬ (false = true) by decide)] at H;exact H
     clear H
     have H := H1
     clear H1
     obtain rfl := Option.some.inj H
     go_enter Tryd.func37,Tryd.ntmps37
     go_wp2_with (first | ((with_reducible refine gate_dst (N := 2) rfl ?_);refine zbx (N := 2) (cs := #[.int .i64 a0_0,.slice A0_1 l0_1.length c0_1,.slice A0_2 l0_2.length c0_2,.slice A0_3 l0_3.length c0_3]) (t := 56) ?_;intro gb1144 hg w15 hbox hb;have BK1144 := am_ (hbox);have GW1144 := zw_ HB hg;have GE1144 := zw_ HB hg;replace HB := zs_ HB hb;clear hb hbox hg) | ((with_reducible refine gate_dst (N := 3) rfl ?_);refine zbx (N := 3) (cs := #[.int .i64 a1_0,.slice A1_1 l1_1.length c1_1,.slice A1_2 l1_2.length c1_2,.slice A1_3 l1_3.length c1_3]) (t := 56) ?_;intro gb1145 hg w16 hbox hb;have BK1145 := am_ (hbox);have GW1145 := zw_ HB hg;have GE1145 := zw_ HB hg;replace HB := zs_ HB hb;have NB1144_1145 := zl hg BK1144;have NB1145_1144 := zg hg BK1144;replace BK1144 := zb BK1144 hb;clear hb hbox hg;have hnb17 := NB1144_1145.out;have hnc17 := NB1145_1144.out;obtain ⟨hcz18_0,hcz18_1,hcz18_2,hcz18_3,hfz18_0,hfz18_1,hfz18_2,hfz18_3⟩ := zc4 BK1144;obtain ⟨hcz19_0,hcz19_1,hcz19_2,hcz19_3,hfz19_0,hfz19_1,hfz19_2,hfz19_3⟩ := zc4 BK1145) | ((with_reducible refine gate_callee (f := 15) rfl ?_);refine zgl (some 14) Tryd.func15 #[.slice A0_1 l0_1.length c0_1,.slice A1_1 l1_1.length c1_1] ?_;(with_reducible refine (laws_eqStringS.calls k _ _ l0_1 _ _ l1_1 true _ ?side1 ?side2 ?side3 ?side4 A4.out).mono ?_);(case side1 => exact zc_ HR0_1 HB);(case side2 => exact HC0_1.out);(case side3 => exact zc_ HR1_1 HB);(case side4 => exact HC1_1.out);rintro e w' ⟨rfl,⟨nd,rfl⟩⟩;refine ⟨_,rfl,?_⟩) | ((with_reducible refine gate_callee (f := 15) rfl ?_);refine zgl (some 20) Tryd.func15 #[.slice A0_2 l0_2.length c0_2,.slice A1_2 l1_2.length c1_2] ?_;(with_reducible refine (laws_eqStringS.calls k _ _ l0_2 _ _ l1_2 true _ ?side1 ?side2 ?side3 ?side4 A6.out).mono ?_);(case side1 => repeat (first | exact (Kd.C_below HR0_2.out (zl_ HB)) | (with_reducible refine Kd.C_alloc ?_ _) | (with_reducible refine Kd.C_drewN ?_ _) | (with_reducible refine Kd.C_drew ?_)));(case side2 => exact HC0_2.out);(case side3 => repeat (first | exact (Kd.C_below HR1_2.out (zl_ HB)) | (with_reducible refine Kd.C_alloc ?_ _) | (with_reducible refine Kd.C_drewN ?_ _) | (with_reducible refine Kd.C_drew ?_)));(case side4 => exact HC1_2.out);rintro e w' ⟨rfl,⟨nd,rfl⟩⟩;refine ⟨_,rfl,?_⟩) | ((with_reducible refine gate_callee (f := 15) rfl ?_);refine zgl (some 26) Tryd.func15 #[.slice A0_3 l0_3.length c0_3,.slice A1_3 l1_3.length c1_3] ?_;(with_reducible refine (laws_eqStringS.calls k _ _ l0_3 _ _ l1_3 false _ ?side1 ?side2 ?side3 ?side4 A8.out).mono ?_);(case side1 => repeat (first | exact (Kd.C_below HR0_3.out (zl_ HB)) | (with_reducible refine Kd.C_alloc ?_ _) | (with_reducible refine Kd.C_drewN ?_ _) | (with_reducible refine Kd.C_drew ?_)));(case side2 => exact HC0_3.out);(case side3 => repeat (first | exact (Kd.C_below HR1_3.out (zl_ HB)) | (with_reducible refine Kd.C_alloc ?_ _) | (with_reducible refine Kd.C_drewN ?_ _) | (with_reducible refine Kd.C_drew ?_)));(case side4 => exact HC1_3.out);rintro e w' ⟨rfl,⟨nd,rfl⟩⟩;refine ⟨_,rfl,?_⟩))
     go_ret
     exact ⟨zt_,zl_ HB⟩
   ·replace c7 := Bool.eq_false_iff.mpr c7
    subst c7
    have H1 : (some false) = some r := by rw [if_neg (show ¬ (false = true) by decide)] at H;exact H
    clear H
    have H := H1
    clear H1
    obtain rfl := Option.some.inj H
    go_enter Tryd.func37,Tryd.ntmps37
    go_wp2_with (first | ((with_reducible refine gate_dst (N := 2) rfl ?_);refine zbx (N := 2) (cs := #[.int .i64 a0_0,.slice A0_1 l0_1.length c0_1,.slice A0_2 l0_2.length c0_2,.slice A0_3 l0_3.length c0_3]) (t := 56) ?_;intro gb1144 hg w20 hbox hb;have BK1144 := am_ (hbox);have GW1144 := zw_ HB hg;have GE1144 := zw_ HB hg;replace HB := zs_ HB hb;clear hb hbox hg) | ((with_reducible refine gate_dst (N := 3) rfl ?_);refine zbx (N := 3) (cs := #[.int .i64 a1_0,.slice A1_1 l1_1.length c1_1,.slice A1_2 l1_2.length c1_2,.slice A1_3 l1_3.length c1_3]) (t := 56) ?_;intro gb1145 hg w21 hbox hb;have BK1145 := am_ (hbox);have GW1145 := zw_ HB hg;have GE1145 := zw_ HB hg;replace HB := zs_ HB hb;have NB1144_1145 := zl hg BK1144;have NB1145_1144 := zg hg BK1144;replace BK1144 := zb BK1144 hb;clear hb hbox hg;have hnb22 := NB1144_1145.out;have hnc22 := NB1145_1144.out;obtain ⟨hcz23_0,hcz23_1,hcz23_2,hcz23_3,hfz23_0,hfz23_1,hfz23_2,hfz23_3⟩ := zc4 BK1144;obtain ⟨hcz24_0,hcz24_1,hcz24_2,hcz24_3,hfz24_0,hfz24_1,hfz24_2,hfz24_3⟩ := zc4 BK1145) | ((with_reducible refine gate_callee (f := 15) rfl ?_);refine zgl (some 14) Tryd.func15 #[.slice A0_1 l0_1.length c0_1,.slice A1_1 l1_1.length c1_1] ?_;(with_reducible refine (laws_eqStringS.calls k _ _ l0_1 _ _ l1_1 true _ ?side1 ?side2 ?side3 ?side4 A4.out).mono ?_);(case side1 => exact zc_ HR0_1 HB);(case side2 => exact HC0_1.out);(case side3 => exact zc_ HR1_1 HB);(case side4 => exact HC1_1.out);rintro e w' ⟨rfl,⟨nd,rfl⟩⟩;refine ⟨_,rfl,?_⟩) | ((with_reducible refine gate_callee (f := 15) rfl ?_);refine zgl (some 20) Tryd.func15 #[.slice A0_2 l0_2.length c0_2,.slice A1_2 l1_2.length c1_2] ?_;(with_reducible refine (laws_eqStringS.calls k _ _ l0_2 _ _ l1_2 false _ ?side1 ?side2 ?side3 ?side4 A6.out).mono ?_);(case side1 => repeat (first | exact (Kd.C_below HR0_2.out (zl_ HB)) | (with_reducible refine Kd.C_alloc ?_ _) | (with_reducible refine Kd.C_drewN ?_ _) | (with_reducible refine Kd.C_drew ?_)));(case side2 => exact HC0_2.out);(case side3 => repeat (first | exact (Kd.C_below HR1_2.out (zl_ HB)) | (with_reducible refine Kd.C_alloc ?_ _) | (with_reducible refine Kd.C_drewN ?_ _) | (with_reducible refine Kd.C_drew ?_)));(case side4 => exact HC1_2.out);rintro e w' ⟨rfl,⟨nd,rfl⟩⟩;refine ⟨_,rfl,?_⟩))
    go_ret
    exact ⟨zt_,zl_ HB⟩
  ·replace c5 := Bool.eq_false_iff.mpr c5
   subst c5
   have H1 : (some false) = some r := by rw [if_neg (show ¬ (false = true) by decide)] at H;exact H
   clear H
   have H := H1
   clear H1
   obtain rfl := Option.some.inj H
   go_enter Tryd.func37,Tryd.ntmps37
   go_wp2_with (first | ((with_reducible refine gate_dst (N := 2) rfl ?_);refine zbx (N := 2) (cs := #[.int .i64 a0_0,.slice A0_1 l0_1.length c0_1,.slice A0_2 l0_2.length c0_2,.slice A0_3 l0_3.length c0_3]) (t := 56) ?_;intro gb1144 hg w25 hbox hb;have BK1144 := am_ (hbox);have GW1144 := zw_ HB hg;have GE1144 := zw_ HB hg;replace HB := zs_ HB hb;clear hb hbox hg) | ((with_reducible refine gate_dst (N := 3) rfl ?_);refine zbx (N := 3) (cs := #[.int .i64 a1_0,.slice A1_1 l1_1.length c1_1,.slice A1_2 l1_2.length c1_2,.slice A1_3 l1_3.length c1_3]) (t := 56) ?_;intro gb1145 hg w26 hbox hb;have BK1145 := am_ (hbox);have GW1145 := zw_ HB hg;have GE1145 := zw_ HB hg;replace HB := zs_ HB hb;have NB1144_1145 := zl hg BK1144;have NB1145_1144 := zg hg BK1144;replace BK1144 := zb BK1144 hb;clear hb hbox hg;have hnb27 := NB1144_1145.out;have hnc27 := NB1145_1144.out;obtain ⟨hcz28_0,hcz28_1,hcz28_2,hcz28_3,hfz28_0,hfz28_1,hfz28_2,hfz28_3⟩ := zc4 BK1144;obtain ⟨hcz29_0,hcz29_1,hcz29_2,hcz29_3,hfz29_0,hfz29_1,hfz29_2,hfz29_3⟩ := zc4 BK1145) | ((with_reducible refine gate_callee (f := 15) rfl ?_);refine zgl (some 14) Tryd.func15 #[.slice A0_1 l0_1.length c0_1,.slice A1_1 l1_1.length c1_1] ?_;(with_reducible refine (laws_eqStringS.calls k _ _ l0_1 _ _ l1_1 false _ ?side1 ?side2 ?side3 ?side4 A4.out).mono ?_);(case side1 => exact zc_ HR0_1 HB);(case side2 => exact HC0_1.out);(case side3 => exact zc_ HR1_1 HB);(case side4 => exact HC1_1.out);rintro e w' ⟨rfl,⟨nd,rfl⟩⟩;refine ⟨_,rfl,?_⟩))
   go_ret
   exact ⟨zt_,zl_ HB⟩
 ·rw [if_neg c3] at H
  have c3b0 : (a0_0 == a1_0) = false := beq_eq_false_iff_ne.mpr c3
  have c3b1 : (a0_0 != a1_0) = true := bne_iff_ne.mpr c3
  obtain rfl := Option.some.inj H
  go_enter Tryd.func37,Tryd.ntmps37
  go_wp2_with (first | ((with_reducible refine gate_dst (N := 2) rfl ?_);refine zbx (N := 2) (cs := #[.int .i64 a0_0,.slice A0_1 l0_1.length c0_1,.slice A0_2 l0_2.length c0_2,.slice A0_3 l0_3.length c0_3]) (t := 56) ?_;intro gb1144 hg w30 hbox hb;have BK1144 := am_ (hbox);have GW1144 := zw_ HB hg;have GE1144 := zw_ HB hg;replace HB := zs_ HB hb;clear hb hbox hg) | ((with_reducible refine gate_dst (N := 3) rfl ?_);refine zbx (N := 3) (cs := #[.int .i64 a1_0,.slice A1_1 l1_1.length c1_1,.slice A1_2 l1_2.length c1_2,.slice A1_3 l1_3.length c1_3]) (t := 56) ?_;intro gb1145 hg w31 hbox hb;have BK1145 := am_ (hbox);have GW1145 := zw_ HB hg;have GE1145 := zw_ HB hg;replace HB := zs_ HB hb;have NB1144_1145 := zl hg BK1144;have NB1145_1144 := zg hg BK1144;replace BK1144 := zb BK1144 hb;clear hb hbox hg;have hnb32 := NB1144_1145.out;have hnc32 := NB1145_1144.out;obtain ⟨hcz33_0,hcz33_1,hcz33_2,hcz33_3,hfz33_0,hfz33_1,hfz33_2,hfz33_3⟩ := zc4 BK1144;obtain ⟨hcz34_0,hcz34_1,hcz34_2,hcz34_3,hfz34_0,hfz34_1,hfz34_2,hfz34_3⟩ := zc4 BK1145))
  go_ret
  exact ⟨zt_,zl_ HB⟩
set_option maxHeartbeats 8000000 in
set_option maxRecDepth 100000 in
theorem laws_markText.calls (k : Nat) (a0 : Int) (r : ByteArray) (w : World) (h : laws_markText.f k a0 = some r) :
  Calls Tryd.prog 59 #[.int .i64 a0] w fun e w' => e = .returned (.string r) ∧ Below w.heap.size w w' := by
 have HB := am_ (Below.refl w.heap.size w)
 have H : (if a0 ≤ 0 then (some (⟨#[109,48]⟩ : ByteArray)) else (laws_markText.l0 k a0 (⟨#[]⟩ : ByteArray))) = some r := h
 clear h
 by_cases c2 : a0 ≤ 0
 ·rw [if_pos c2] at H
  have c2b0 : decide (a0 ≤ 0) = true := decide_eq_true c2
  clear c2
  obtain rfl := Option.some.inj H
  go_enter Tryd.func59,Tryd.ntmps59
  go_wp2
  go_ret
  exact ⟨zt_,zl_ HB⟩
 ·rw [if_neg c2] at H
  have c2b0 : decide (a0 ≤ 0) = false := decide_eq_false c2
  clear c2
  have H' := am_ H
  clear H
  go_enter Tryd.func59,Tryd.ntmps59
  go_wp2
  go_loopg [0,3] k (fun kq v0 v3 w' => ∃ (x0_1 : Int) (x3_1 : ByteArray),v0 = .int .i64 x0_1 ∧ v3 = .string x3_1 ∧ Aside0 (laws_markText.l0 kq x0_1 x3_1 = some r) ∧ Aside0 (kq ≤ k) ∧ Aside0 (Below w.heap.size w w'))
  case atStart => exact ⟨(a0),((⟨#[]⟩ : ByteArray)),(by first | rfl | (simp;done) | (simp [*];done)),(by first | rfl | (simp;done) | (simp [*];done)),H',⟨Nat.le_refl _⟩,⟨zl_ HB⟩⟩
  case round =>
   clear H'
   try clear c2
   try clear c2b0
   try clear p2
   obtain ⟨x0_1,x3_1,rfl,rfl,HA,HK1,HB⟩ := hrel
   cases gk with
   | zero => exact absurd HA.out (by simp [laws_markText.l0])
   | succ k1 =>
    have H := HA.out
    clear HA
    simp only [laws_markText.l0] at H
    by_cases c3 : x0_1 > 0
    ·rw [if_pos c3] at H
     have c3b0 : decide (0 < x0_1) = true := decide_eq_true c3
     clear c3
     obtain ⟨y314,hy314⟩ : ∃ y_ : List Int,y_ = (([(wrap64 (48 + (Int.tmod x0_1 10))) % 256] : List Int)) := ⟨_,rfl⟩
     replace H : (if (strOfNums y314).size + x3_1.size ≤ 9223372036854775807 then (laws_markText.l0 k1 (wrap64 (Int.tdiv x0_1 10)) ((strOfNums y314) ++ x3_1)) else (none)) = some r := by first | (rw [hy314];with_reducible exact H) | (have H2_ := (Option.bind_some _ _).symm.trans H;rw [hy314];with_reducible exact H2_) | (have H2_ := (Option.bind_some _ _).symm.trans H;with_reducible exact H2_) | with_reducible exact H | (rw [hy314];exact H) | exact H
     have Ny314 := am_ hy314
     clear hy314
     by_cases c4 : (strOfNums y314).size + x3_1.size ≤ 9223372036854775807
     ·rw [if_pos c4] at H
      have c4b0 := eq_true c4
      have c4b1 : decide ((strOfNums y314).size + x3_1.size ≤ 9223372036854775807) = true := decide_eq_true c4
      try have c4b2 : (9223372036854775807 < (strOfNums y314).size + x3_1.size) = False := eq_false (Nat.not_lt.2 c4)
      have H' := am_ H
      clear H
      go_wp2_with (first | ((with_reducible refine gate_dst (N := 12) rfl ?_);refine Kd.R_lit (Kd.int .u8) _ 5 ?hg (N := 12) ?hd (xs := ([(wrap64 (48 + (Int.tmod x0_1 10))) % 256] : List Int)) (inner := [.int .u8 ((wrap64 (48 + (Int.tmod x0_1 10))) % 256)]) (ok := fun _ => True) (okp := fun _ => True) ?hr ?hp (fun _ hk => hk) trivial (Below.refl _ _) (Nat.le_refl _) (by simp) ?_;(case hd => rfl);(case hg => rfl);(case hr => first | (go_simp;done) | (go_simp;rfl));(case hp => exact (Reps.one (show Kd.M (Kd.int .u8) _ _ _ ((wrap64 (48 + (Int.tmod x0_1 10))) % 256) [.int .u8 ((wrap64 (48 + (Int.tmod x0_1 10))) % 256)] from rfl) (Reps.none _ _)));intro v315 w5 ho6 hb hg_ hnew_;clear hg_ hnew_;(first | rw [← Ny314.out] at ho6 | (simp only [Int.reduceToNat] at ho6;rw [← Ny314.out] at ho6));have HO316 := am_ (Kd.R_lower ho6 (below_size (zl_ HB)));replace HB := zs_ HB hb;clear hb ho6;have hcv7 := own_string (P := Tryd.prog) Tryd.underlying31 Tryd.underlying5 Tryd.underlying9 (Kd.own_of_R HO316.out)))
      go_roundg k1
      case measure => have := HK1.out;omega
      case rel => exact ⟨(wrap64 (Int.tdiv x0_1 10)),((strOfNums y314) ++ x3_1),(by first | rfl | (simp;done) | (simp [*];done)),(by first | rfl | (simp;done) | (simp [*];done)),H',⟨by have := HK1.out;omega⟩,⟨zl_ HB⟩⟩
     ·rw [if_neg c4] at H
      exact absurd H (by simp)
    ·rw [if_neg c3] at H
     have c3b0 : decide (0 < x0_1) = false := decide_eq_false c3
     clear c3
     by_cases c8 : 1 + x3_1.size ≤ 9223372036854775807
     ·rw [if_pos c8] at H
      have c8b0 := eq_true c8
      have c8b1 : decide (1 + x3_1.size ≤ 9223372036854775807) = true := decide_eq_true c8
      try have c8b2 : (9223372036854775807 < 1 + x3_1.size) = False := eq_false (Nat.not_lt.2 c8)
      obtain rfl := Option.some.inj H
      go_wp2
      go_ret
      exact ⟨zt_,zl_ HB⟩
     ·rw [if_neg c8] at H
      exact absurd H (by simp)
set_option maxHeartbeats 8000000 in
set_option maxRecDepth 100000 in
theorem laws_heldStringS.calls (k : Nat) (A0 : Option Addr) (c0 : Nat) (l0 : List ByteArray) (a1 : Int) (r : Int) (w : World) (hr0 : Kd.C Kd.string w A0 l0.length l0) (hc0 : l0.length ≤ c0) (h : laws_heldStringS.f k l0 a1 = some r) :
  Calls Tryd.prog 17 #[.slice A0 l0.length c0,.int .i64 a1] w fun e w' => e = .returned (.int .i64 r) ∧ Below w.heap.size w w' := by
 have HR0 := am_ hr0
 have HC0 := am_ hc0
 clear hr0 hc0
 have HB := am_ (Below.refl w.heap.size w)
 have H : (laws_heldStringS.l0 k l0 a1 0) = some r := h
 clear h
 have H' := am_ H
 clear H
 go_enter Tryd.func17,Tryd.ntmps17
 go_wp2
 go_loopg [1,5] k (fun kq v1 v5 w' => ∃ (x1_1 : Int) (x5_1 : Int),v1 = .int .i64 x1_1 ∧ v5 = .int .i64 x5_1 ∧ Aside0 (laws_heldStringS.l0 kq l0 x1_1 x5_1 = some r) ∧ Aside0 (kq ≤ k) ∧ Aside0 (Below w.heap.size w w'))
 case atStart => exact ⟨(a1),(0),(by first | rfl | (simp;done) | (simp [*];done)),(by first | rfl | (simp;done) | (simp [*];done)),H',⟨Nat.le_refl _⟩,⟨zl_ HB⟩⟩
 case round =>
  clear H'
  try clear c1
  try clear p2
  obtain ⟨x1_1,x5_1,rfl,rfl,HA,HK1,HB⟩ := hrel
  cases gk with
  | zero => exact absurd HA.out (by simp [laws_heldStringS.l0])
  | succ k1 =>
   have H := HA.out
   clear HA
   simp only [laws_heldStringS.l0] at H
   by_cases c3 : x5_1 < (l0.length : Int)
   ·rw [if_pos c3] at H
    have c3b0 : decide (x5_1 < (l0.length : Int)) = true := decide_eq_true c3
    clear c3
    by_cases c4 : 0 ≤ x5_1
    ·rw [if_pos c4] at H
     have c4b0 : decide (0 ≤ x5_1) = true := decide_eq_true c4
     clear c4
     replace H := Option.bind_eq_some_iff.mp H
     obtain ⟨t320,A50,H⟩ := H
     try dsimp only at H
     have A5 := am_ A50
     clear A50
     by_cases c6 : (rdOf ByteArray.empty l0 x5_1).toList = t320.toList
     ·rw [if_pos c6] at H
      have c6b0 : ((rdOf ByteArray.empty l0 x5_1).toList == t320.toList) = true := beq_iff_eq.mpr c6
      have c6b1 : ((rdOf ByteArray.empty l0 x5_1).toList != t320.toList) = false := bne_eq_false_iff_eq.mpr c6
      clear c6
      have H' := am_ H
      clear H
      try go_wp2
      replace HB := am_ (below_drew1 HB.out)
      have p319 : 0 ≤ (x5_1 : Int) := zo_
      have q319 : x5_1 < (l0.length : Int) := zo_
      obtain ⟨ad319,e319,hx319_0⟩ := Kd.at_string HR0.out x5_1 p319 q319
      have hw319_0 := hx319_0
      cases e319
      replace hx319_0 := zx_ HB hx319_0
      replace p319 := eq_true p319
      replace q319 := eq_true q319
      refine start_ (n := 7) (S := fun w' => w'.cell? (ad319.add (x5_1).toNat) = some (.string (rdOf ByteArray.empty l0 x5_1))) (ds := []) #[false,false,false,false,false,false,false] (by kernel_rfl) rfl rfl ((zx_ HB hw319_0)) (fun hHeld => ?_)
      generalize wr.drew = w7 at HB hx319_0 hHeld ⊢
      refine pure_ (i := 0) (N := some 12) (v := ?_) (a' := ?_) #[true,false,false,false,false,false,false] rfl rfl (by kernel_rfl) (fun _ _ _ h => h) (Or.inl ⟨by rfl,?_⟩) ?_ ?_
      rotate_left
      ·intro w'
       go_simp
       with_reducible rfl
      rotate_left
      ·simp only [Act.put,p1_,p2_,p3_,i64_w,i32_w]
       rfl
      refine pure_ (i := 1) (N := some 13) (v := ?_) (a' := ?_) #[true,true,false,false,false,false,false] rfl rfl (by kernel_rfl) (fun _ _ _ h => h) (Or.inl ⟨by rfl,?_⟩) ?_ ?_
      rotate_left
      ·intro w'
       go_simp
       with_reducible rfl
      rotate_left
      ·simp only [Act.put,p1_,p2_,p3_,i64_w,i32_w]
       rfl
      refine pure_ (i := 2) (N := some 14) (v := ?_) (a' := ?_) #[true,true,true,false,false,false,false] rfl rfl (by kernel_rfl) (fun _ _ _ h => h) (Or.inl ⟨by rfl,?_⟩) ?_ ?_
      rotate_left
      ·intro w'
       go_simp
       with_reducible rfl
      rotate_left
      ·simp only [Act.put,p1_,p2_,p3_,i64_w,i32_w]
       rfl
      refine pure_ (i := 4) (N := some 16) (v := ?_) (a' := ?_) #[true,true,true,false,true,false,false] rfl rfl (by kernel_rfl) (fun _ _ _ h => h) (Or.inl ⟨by rfl,?_⟩) ?_ ?_
      rotate_left
      ·intro w'
       go_simp
       with_reducible rfl
      rotate_left
      ·simp only [Act.put,p1_,p2_,p3_,i64_w,i32_w]
       rfl
      refine take_ (i := 3) (N := some 15) (v := ?_) (a' := ?_) #[true,true,true,true,true,false,false] rfl rfl (by kernel_rfl) (fun _ _ _ h => h) (Or.inl ⟨by rfl,?_⟩) hHeld ?_ ?_
      rotate_left
      ·intro w' s0
       go_simp
       with_reducible rfl
      rotate_left
      ·simp only [Act.put,p1_,p2_,p3_,i64_w,i32_w]
       rfl
      refine one_ (i := 5) (N := some 17) #[true,true,true,true,true,true,false] rfl rfl (by kernel_rfl) (by decide) (fun K hK => ?_)
      refine zgo Tryd.func59 #[.int .i64 x1_1] ?_
      with_reducible refine (laws_markText.calls k1 x1_1 t320 _ A5.out).mono ?_
      rintro e w8 ⟨rfl,hb⟩
      refine ⟨_,rfl,?_⟩
      replace HB := zs_ HB hb
      (try clear hb)
      (try clear hb2)
      (try clear hk)
      (try clear hi)
      refine hK.out _ _ ((zx_ HB hw319_0)) (fun hHeld => ?_)
      clear hK K
      refine norm_ (a' := ?_) ?_ ?_
      rotate_left
      ·show Act.put _ (some 17) _ = _
       simp only [Act.put,p1_,p2_,p3_,i64_w,i32_w]
       rfl
      refine pure_ (i := 6) (N := some 18) (v := ?_) (a' := ?_) #[true,true,true,true,true,true,true] rfl rfl (by kernel_rfl) (fun _ _ _ h => h) (Or.inl ⟨by rfl,?_⟩) ?_ ?_
      rotate_left
      ·intro w'
       go_simp
       with_reducible rfl
      rotate_left
      ·simp only [Act.put,p1_,p2_,p3_,i64_w,i32_w]
       rfl
      refine done_ (by kernel_rfl) ?_
      try go_wp2
      go_roundg k1
      case measure => have := HK1.out;omega
      case rel => exact ⟨(wrap64 (x1_1 + 1)),(wrap64 (x5_1 + 1)),(by first | rfl | (simp;done) | (simp [*];done)),(by first | rfl | (simp;done) | (simp [*];done)),H',⟨by have := HK1.out;omega⟩,⟨zl_ HB⟩⟩
     ·rw [if_neg c6] at H
      have c6b0 : ((rdOf ByteArray.empty l0 x5_1).toList == t320.toList) = false := beq_eq_false_iff_ne.mpr c6
      have c6b1 : ((rdOf ByteArray.empty l0 x5_1).toList != t320.toList) = true := bne_iff_ne.mpr c6
      obtain rfl := Option.some.inj H
      try go_wp2
      replace HB := am_ (below_drew1 HB.out)
      have p319 : 0 ≤ (x5_1 : Int) := zo_
      have q319 : x5_1 < (l0.length : Int) := zo_
      obtain ⟨ad319,e319,hx319_0⟩ := Kd.at_string HR0.out x5_1 p319 q319
      have hw319_0 := hx319_0
      cases e319
      replace hx319_0 := zx_ HB hx319_0
      replace p319 := eq_true p319
      replace q319 := eq_true q319
      refine start_ (n := 7) (S := fun w' => w'.cell? (ad319.add (x5_1).toNat) = some (.string (rdOf ByteArray.empty l0 x5_1))) (ds := []) #[false,false,false,false,false,false,false] (by kernel_rfl) rfl rfl ((zx_ HB hw319_0)) (fun hHeld => ?_)
      generalize wr.drew = w9 at HB hx319_0 hHeld ⊢
      refine pure_ (i := 0) (N := some 12) (v := ?_) (a' := ?_) #[true,false,false,false,false,false,false] rfl rfl (by kernel_rfl) (fun _ _ _ h => h) (Or.inl ⟨by rfl,?_⟩) ?_ ?_
      rotate_left
      ·intro w'
       go_simp
       with_reducible rfl
      rotate_left
      ·simp only [Act.put,p1_,p2_,p3_,i64_w,i32_w]
       rfl
      refine pure_ (i := 1) (N := some 13) (v := ?_) (a' := ?_) #[true,true,false,false,false,false,false] rfl rfl (by kernel_rfl) (fun _ _ _ h => h) (Or.inl ⟨by rfl,?_⟩) ?_ ?_
      rotate_left
      ·intro w'
       go_simp
       with_reducible rfl
      rotate_left
      ·simp only [Act.put,p1_,p2_,p3_,i64_w,i32_w]
       rfl
      refine pure_ (i := 2) (N := some 14) (v := ?_) (a' := ?_) #[true,true,true,false,false,false,false] rfl rfl (by kernel_rfl) (fun _ _ _ h => h) (Or.inl ⟨by rfl,?_⟩) ?_ ?_
      rotate_left
      ·intro w'
       go_simp
       with_reducible rfl
      rotate_left
      ·simp only [Act.put,p1_,p2_,p3_,i64_w,i32_w]
       rfl
      refine pure_ (i := 4) (N := some 16) (v := ?_) (a' := ?_) #[true,true,true,false,true,false,false] rfl rfl (by kernel_rfl) (fun _ _ _ h => h) (Or.inl ⟨by rfl,?_⟩) ?_ ?_
      rotate_left
      ·intro w'
       go_simp
       with_reducible rfl
      rotate_left
      ·simp only [Act.put,p1_,p2_,p3_,i64_w,i32_w]
       rfl
      refine take_ (i := 3) (N := some 15) (v := ?_) (a' := ?_) #[true,true,true,true,true,false,false] rfl rfl (by kernel_rfl) (fun _ _ _ h => h) (Or.inl ⟨by rfl,?_⟩) hHeld ?_ ?_
      rotate_left
      ·intro w' s0
       go_simp
       with_reducible rfl
      rotate_left
      ·simp only [Act.put,p1_,p2_,p3_,i64_w,i32_w]
       rfl
      refine one_ (i := 5) (N := some 17) #[true,true,true,true,true,true,false] rfl rfl (by kernel_rfl) (by decide) (fun K hK => ?_)
      refine zgo Tryd.func59 #[.int .i64 x1_1] ?_
      with_reducible refine (laws_markText.calls k1 x1_1 t320 _ A5.out).mono ?_
      rintro e w10 ⟨rfl,hb⟩
      refine ⟨_,rfl,?_⟩
      replace HB := zs_ HB hb
      (try clear hb)
      (try clear hb2)
      (try clear hk)
      (try clear hi)
      refine hK.out _ _ ((zx_ HB hw319_0)) (fun hHeld => ?_)
      clear hK K
      refine norm_ (a' := ?_) ?_ ?_
      rotate_left
      ·show Act.put _ (some 17) _ = _
       simp only [Act.put,p1_,p2_,p3_,i64_w,i32_w]
       rfl
      refine pure_ (i := 6) (N := some 18) (v := ?_) (a' := ?_) #[true,true,true,true,true,true,true] rfl rfl (by kernel_rfl) (fun _ _ _ h => h) (Or.inl ⟨by rfl,?_⟩) ?_ ?_
      rotate_left
      ·intro w'
       go_simp
       with_reducible rfl
      rotate_left
      ·simp only [Act.put,p1_,p2_,p3_,i64_w,i32_w]
       rfl
      refine done_ (by kernel_rfl) ?_
      try go_wp2
      go_ret
      exact ⟨zt_,zl_ HB⟩
    ·rw [if_neg c4] at H
     exact absurd H (by simp)
   ·rw [if_neg c3] at H
    have c3b0 : decide (x5_1 < (l0.length : Int)) = false := decide_eq_false c3
    clear c3
    obtain rfl := Option.some.inj H
    go_wp2
    go_ret
    exact ⟨zt_,zl_ HB⟩
set_option maxHeartbeats 8000000 in
set_option maxRecDepth 100000 in
theorem laws_heldKeySignature.calls (k : Nat) (a0_0 : Int) (A0_1 : Option Addr) (c0_1 : Nat) (l0_1 : List ByteArray) (A0_2 : Option Addr) (c0_2 : Nat) (l0_2 : List ByteArray) (A0_3 : Option Addr) (c0_3 : Nat) (l0_3 : List ByteArray) (a1 : Int) (r : Int) (w : World) (hr0_1 : Kd.C Kd.string w A0_1 l0_1.length l0_1) (hc0_1 : l0_1.length ≤ c0_1) (hr0_2 : Kd.C Kd.string w A0_2 l0_2.length l0_2) (hc0_2 : l0_2.length ≤ c0_2) (hr0_3 : Kd.C Kd.string w A0_3 l0_3.length l0_3) (hc0_3 : l0_3.length ≤ c0_3) (h : laws_heldKeySignature.f k a0_0 l0_1 l0_2 l0_3 a1 = some r) :
  Calls Tryd.prog 39 #[.agg #[.int .i64 a0_0,.slice A0_1 l0_1.length c0_1,.slice A0_2 l0_2.length c0_2,.slice A0_3 l0_3.length c0_3],.int .i64 a1] w fun e w' => e = .returned (.int .i64 r) ∧ Below w.heap.size w w' := by
 have hu56 := Tryd.underlying56
 have HR0_1 := am_ hr0_1
 have HC0_1 := am_ hc0_1
 clear hr0_1 hc0_1
 have HR0_2 := am_ hr0_2
 have HC0_2 := am_ hc0_2
 clear hr0_2 hc0_2
 have HR0_3 := am_ hr0_3
 have HC0_3 := am_ hc0_3
 clear hr0_3 hc0_3
 have HB := am_ (Below.refl w.heap.size w)
 have H : ((laws_heldStringS.f k l0_1 a1).bind fun t1157 => (if t1157 < 0 then (some (-1)) else ((laws_heldStringS.f k l0_2 t1157).bind fun t1158 => (if t1158 < 0 then (some (-1)) else ((laws_heldStringS.f k l0_3 t1158).bind fun t1159 => (if t1159 < 0 then (some (-1)) else (some t1159))))))) = some r := h
 clear h
 replace H := Option.bind_eq_some_iff.mp H
 obtain ⟨t1157,A30,H⟩ := H
 try dsimp only at H
 have A3 := am_ A30
 clear A30
 by_cases c4 : t1157 < 0
 ·rw [if_pos c4] at H
  have c4b0 : decide (t1157 < 0) = true := decide_eq_true c4
  clear c4
  obtain rfl := Option.some.inj H
  go_enter Tryd.func39,Tryd.ntmps39
  go_wp2_with (first | ((with_reducible refine gate_dst (N := 2) rfl ?_);refine zbx (N := 2) (cs := #[.int .i64 a0_0,.slice A0_1 l0_1.length c0_1,.slice A0_2 l0_2.length c0_2,.slice A0_3 l0_3.length c0_3]) (t := 56) ?_;intro gb1156 hg w5 hbox hb;have BK1156 := am_ (hbox);have GW1156 := zw_ HB hg;have GE1156 := zw_ HB hg;replace HB := zs_ HB hb;clear hb hbox hg;obtain ⟨hcz6_0,hcz6_1,hcz6_2,hcz6_3,hfz6_0,hfz6_1,hfz6_2,hfz6_3⟩ := zc4 BK1156) | ((with_reducible refine gate_callee (f := 17) rfl ?_);refine zgl (some 8) Tryd.func17 #[.slice A0_1 l0_1.length c0_1,.int .i64 a1] ?_;(with_reducible refine (laws_heldStringS.calls k _ _ l0_1 a1 t1157 _ ?side1 ?side2 A3.out).mono ?_);(case side1 => exact zc_ HR0_1 HB);(case side2 => exact HC0_1.out);rintro e w7 ⟨rfl,hb⟩;refine ⟨_,rfl,?_⟩;replace BK1156 := zb BK1156 hb;replace HB := zs_ HB hb;(try clear hb);(try clear hb2);(try clear hk);(try clear hi)))
  go_ret
  exact ⟨zt_,zl_ HB⟩
 ·rw [if_neg c4] at H
  have c4b0 : decide (t1157 < 0) = false := decide_eq_false c4
  clear c4
  replace H := Option.bind_eq_some_iff.mp H
  obtain ⟨t1158,A80,H⟩ := H
  try dsimp only at H
  have A8 := am_ A80
  clear A80
  by_cases c9 : t1158 < 0
  ·rw [if_pos c9] at H
   have c9b0 : decide (t1158 < 0) = true := decide_eq_true c9
   clear c9
   obtain rfl := Option.some.inj H
   go_enter Tryd.func39,Tryd.ntmps39
   go_wp2_with (first | ((with_reducible refine gate_dst (N := 2) rfl ?_);refine zbx (N := 2) (cs := #[.int .i64 a0_0,.slice A0_1 l0_1.length c0_1,.slice A0_2 l0_2.length c0_2,.slice A0_3 l0_3.length c0_3]) (t := 56) ?_;intro gb1156 hg w10 hbox hb;have BK1156 := am_ (hbox);have GW1156 := zw_ HB hg;have GE1156 := zw_ HB hg;replace HB := zs_ HB hb;clear hb hbox hg;obtain ⟨hcz11_0,hcz11_1,hcz11_2,hcz11_3,hfz11_0,hfz11_1,hfz11_2,hfz11_3⟩ := zc4 BK1156) | ((with_reducible refine gate_callee (f := 17) rfl ?_);refine zgl (some 8) Tryd.func17 #[.slice A0_1 l0_1.length c0_1,.int .i64 a1] ?_;(with_reducible refine (laws_heldStringS.calls k _ _ l0_1 a1 t1157 _ ?side1 ?side2 A3.out).mono ?_);(case side1 => exact zc_ HR0_1 HB);(case side2 => exact HC0_1.out);rintro e w12 ⟨rfl,hb⟩;refine ⟨_,rfl,?_⟩;replace BK1156 := zb BK1156 hb;replace HB := zs_ HB hb;(try clear hb);(try clear hb2);(try clear hk);(try clear hi);obtain ⟨hcz13_0,hcz13_1,hcz13_2,hcz13_3,hfz13_0,hfz13_1,hfz13_2,hfz13_3⟩ := zc4 BK1156) | ((with_reducible refine gate_callee (f := 17) rfl ?_);refine zgl (some 14) Tryd.func17 #[.slice A0_2 l0_2.length c0_2,.int .i64 t1157] ?_;(with_reducible refine (laws_heldStringS.calls k _ _ l0_2 t1157 t1158 _ ?side1 ?side2 A8.out).mono ?_);(case side1 => exact zc_ HR0_2 HB);(case side2 => exact HC0_2.out);rintro e w14 ⟨rfl,hb⟩;refine ⟨_,rfl,?_⟩;replace BK1156 := zb BK1156 hb;replace HB := zs_ HB hb;(try clear hb);(try clear hb2);(try clear hk);(try clear hi)))
   go_ret
   exact ⟨zt_,zl_ HB⟩
  ·rw [if_neg c9] at H
   have c9b0 : decide (t1158 < 0) = false := decide_eq_false c9
   clear c9
   replace H := Option.bind_eq_some_iff.mp H
   obtain ⟨t1159,A150,H⟩ := H
   try dsimp only at H
   have A15 := am_ A150
   clear A150
   by_cases c16 : t1159 < 0
   ·rw [if_pos c16] at H
    have c16b0 : decide (t1159 < 0) = true := decide_eq_true c16
    clear c16
    obtain rfl := Option.some.inj H
    go_enter Tryd.func39,Tryd.ntmps39
    go_wp2_with (first | ((with_reducible refine gate_dst (N := 2) rfl ?_);refine zbx (N := 2) (cs := #[.int .i64 a0_0,.slice A0_1 l0_1.length c0_1,.slice A0_2 l0_2.length c0_2,.slice A0_3 l0_3.length c0_3]) (t := 56) ?_;intro gb1156 hg w17 hbox hb;have BK1156 := am_ (hbox);have GW1156 := zw_ HB hg;have GE1156 := zw_ HB hg;replace HB := zs_ HB hb;clear hb hbox hg;obtain ⟨hcz18_0,hcz18_1,hcz18_2,hcz18_3,hfz18_0,hfz18_1,hfz18_2,hfz18_3⟩ := zc4 BK1156) | ((with_reducible refine gate_callee (f := 17) rfl ?_);refine zgl (some 8) Tryd.func17 #[.slice A0_1 l0_1.length c0_1,.int .i64 a1] ?_;(with_reducible refine (laws_heldStringS.calls k _ _ l0_1 a1 t1157 _ ?side1 ?side2 A3.out).mono ?_);(case side1 => exact zc_ HR0_1 HB);(case side2 => exact HC0_1.out);rintro e w19 ⟨rfl,hb⟩;refine ⟨_,rfl,?_⟩;replace BK1156 := zb BK1156 hb;replace HB := zs_ HB hb;(try clear hb);(try clear hb2);(try clear hk);(try clear hi);obtain ⟨hcz20_0,hcz20_1,hcz20_2,hcz20_3,hfz20_0,hfz20_1,hfz20_2,hfz20_3⟩ := zc4 BK1156) | ((with_reducible refine gate_callee (f := 17) rfl ?_);refine zgl (some 14) Tryd.func17 #[.slice A0_2 l0_2.length c0_2,.int .i64 t1157] ?_;(with_reducible refine (laws_heldStringS.calls k _ _ l0_2 t1157 t1158 _ ?side1 ?side2 A8.out).mono ?_);(case side1 => exact zc_ HR0_2 HB);(case side2 => exact HC0_2.out);rintro e w21 ⟨rfl,hb⟩;refine ⟨_,rfl,?_⟩;replace BK1156 := zb BK1156 hb;replace HB := zs_ HB hb;(try clear hb);(try clear hb2);(try clear hk);(try clear hi);obtain ⟨hcz22_0,hcz22_1,hcz22_2,hcz22_3,hfz22_0,hfz22_1,hfz22_2,hfz22_3⟩ := zc4 BK1156) | ((with_reducible refine gate_callee (f := 17) rfl ?_);refine zgl (some 20) Tryd.func17 #[.slice A0_3 l0_3.length c0_3,.int .i64 t1158] ?_;(with_reducible refine (laws_heldStringS.calls k _ _ l0_3 t1158 t1159 _ ?side1 ?side2 A15.out).mono ?_);(case side1 => exact zc_ HR0_3 HB);(case side2 => exact HC0_3.out);rintro e w23 ⟨rfl,hb⟩;refine ⟨_,rfl,?_⟩;replace BK1156 := zb BK1156 hb;replace HB := zs_ HB hb;(try clear hb);(try clear hb2);(try clear hk);(try clear hi)))
    go_ret
    exact ⟨zt_,zl_ HB⟩
   ·rw [if_neg c16] at H
    have c16b0 : decide (t1159 < 0) = false := decide_eq_false c16
    clear c16
    obtain rfl := Option.some.inj H
    go_enter Tryd.func39,Tryd.ntmps39
    go_wp2_with (first | ((with_reducible refine gate_dst (N := 2) rfl ?_);refine zbx (N := 2) (cs := #[.int .i64 a0_0,.slice A0_1 l0_1.length c0_1,.slice A0_2 l0_2.length c0_2,.slice A0_3 l0_3.length c0_3]) (t := 56) ?_;intro gb1156 hg w24 hbox hb;have BK1156 := am_ (hbox);have GW1156 := zw_ HB hg;have GE1156 := zw_ HB hg;replace HB := zs_ HB hb;clear hb hbox hg;obtain ⟨hcz25_0,hcz25_1,hcz25_2,hcz25_3,hfz25_0,hfz25_1,hfz25_2,hfz25_3⟩ := zc4 BK1156) | ((with_reducible refine gate_callee (f := 17) rfl ?_);refine zgl (some 8) Tryd.func17 #[.slice A0_1 l0_1.length c0_1,.int .i64 a1] ?_;(with_reducible refine (laws_heldStringS.calls k _ _ l0_1 a1 t1157 _ ?side1 ?side2 A3.out).mono ?_);(case side1 => exact zc_ HR0_1 HB);(case side2 => exact HC0_1.out);rintro e w26 ⟨rfl,hb⟩;refine ⟨_,rfl,?_⟩;replace BK1156 := zb BK1156 hb;replace HB := zs_ HB hb;(try clear hb);(try clear hb2);(try clear hk);(try clear hi);obtain ⟨hcz27_0,hcz27_1,hcz27_2,hcz27_3,hfz27_0,hfz27_1,hfz27_2,hfz27_3⟩ := zc4 BK1156) | ((with_reducible refine gate_callee (f := 17) rfl ?_);refine zgl (some 14) Tryd.func17 #[.slice A0_2 l0_2.length c0_2,.int .i64 t1157] ?_;(with_reducible refine (laws_heldStringS.calls k _ _ l0_2 t1157 t1158 _ ?side1 ?side2 A8.out).mono ?_);(case side1 => exact zc_ HR0_2 HB);(case side2 => exact HC0_2.out);rintro e w28 ⟨rfl,hb⟩;refine ⟨_,rfl,?_⟩;replace BK1156 := zb BK1156 hb;replace HB := zs_ HB hb;(try clear hb);(try clear hb2);(try clear hk);(try clear hi);obtain ⟨hcz29_0,hcz29_1,hcz29_2,hcz29_3,hfz29_0,hfz29_1,hfz29_2,hfz29_3⟩ := zc4 BK1156) | ((with_reducible refine gate_callee (f := 17) rfl ?_);refine zgl (some 20) Tryd.func17 #[.slice A0_3 l0_3.length c0_3,.int .i64 t1158] ?_;(with_reducible refine (laws_heldStringS.calls k _ _ l0_3 t1158 t1159 _ ?side1 ?side2 A15.out).mono ?_);(case side1 => exact zc_ HR0_3 HB);(case side2 => exact HC0_3.out);rintro e w30 ⟨rfl,hb⟩;refine ⟨_,rfl,?_⟩;replace HB := zs_ HB hb;(try clear hb);(try clear hb2);(try clear hk);(try clear hi)))
    go_ret
    exact ⟨zt_,zl_ HB⟩
set_option maxHeartbeats 8000000 in
set_option maxRecDepth 100000 in
theorem laws_markStringS.calls (k : Nat) (P0_ : Nat → Prop) (u9000_ : Value) (l0 : List ByteArray) (a1 : Int) (r1 : Int) (r2 : List ByteArray) (w0 w : World) (hB : Below w0.heap.size w0 w) (ho0 : Kd.R Kd.string 9 w w0.heap.size P0_ u9000_ l0) (h : laws_markStringS.f k l0 a1 = some (r1,r2)) :
  Calls Tryd.prog 16 #[u9000_,.int .i64 a1] w fun e w' => e = .returned (.int .i64 r1) ∧ Kd.R Kd.string 9 w' w0.heap.size (fun k_ => (P0_ k_ ∨ w.heap.size ≤ k_)) u9000_ r2 ∧ Below w0.heap.size w0 w' ∧ Kept w w' (fun k_ => P0_ k_) := by
 have HO0 := am_ (show Kd.R Kd.string 9 w w0.heap.size (fun k_ => (P0_ k_ ∨ w.heap.size ≤ k_)) u9000_ l0 from Kd.R_mono ho0 (fun k_ hk => (.inl hk)))
 have HK := am_ (Kept.refl w (fun k_ => P0_ k_))
 have HW0 := am_ hB.size
 have HB := am_ hB
 clear hB
 have H : (laws_markStringS.l0 k l0 a1 0) = some (r1,r2) := h
 clear h
 have H' := am_ H
 clear H
 go_enter Tryd.func16,Tryd.ntmps16
 go_wp2
 go_loopg [1,5] k (fun kq v1 v5 w' => ∃ (x0_1 : List ByteArray) (x1_1 : Int) (x5_1 : Int),v1 = .int .i64 x1_1 ∧ v5 = .int .i64 x5_1 ∧ Aside0 (laws_markStringS.l0 kq x0_1 x1_1 x5_1 = some (r1,r2)) ∧ Aside0 (kq ≤ k) ∧ Aside0 (Kd.R Kd.string 9 w' w0.heap.size (fun k_ => (P0_ k_ ∨ w.heap.size ≤ k_)) u9000_ x0_1) ∧ Aside0 (Kept w w' (fun k_ => P0_ k_)) ∧ Aside0 (Below w0.heap.size w0 w'))
 case atStart => exact ⟨(l0),(a1),(0),(by first | rfl | (simp;done) | (simp [*];done)),(by first | rfl | (simp;done) | (simp [*];done)),H',⟨Nat.le_refl _⟩,⟨zr HO0⟩,⟨by repeat (first | (with_reducible first | exact HK.out | apply Kept.alloc | apply Kept.drewN | apply Kept.drew) | exact HK.out)⟩,⟨zl_ HB⟩⟩
 case round =>
  clear H'
  try clear c1
  try clear p2
  obtain ⟨x0_1,x1_1,x5_1,rfl,rfl,HA,HK1,HO_0,HK,HB⟩ := hrel
  cases gk with
  | zero => exact absurd HA.out (by simp [laws_markStringS.l0])
  | succ k1 =>
   have H := HA.out
   clear HA
   simp only [laws_markStringS.l0] at H
   by_cases c3 : x5_1 < (x0_1.length : Int)
   ·rw [if_pos c3] at H
    have c3b0 : decide (x5_1 < (x0_1.length : Int)) = true := decide_eq_true c3
    clear c3
    replace H := Option.bind_eq_some_iff.mp H
    obtain ⟨t317,A40,H⟩ := H
    try dsimp only at H
    have A4 := am_ A40
    clear A40
    by_cases c5 : 0 ≤ x5_1
    ·rw [if_pos c5] at H
     have c5b0 : decide (0 ≤ x5_1) = true := decide_eq_true c5
     clear c5
     obtain ⟨y318,hy318⟩ : ∃ y_ : List ByteArray,y_ = (x0_1.set (x5_1 : Int).toNat t317) := ⟨_,rfl⟩
     replace H : (laws_markStringS.l0 k1 y318 (wrap64 (x1_1 + 1)) (wrap64 (x5_1 + 1))) = some (r1,r2) := by first | (rw [hy318];with_reducible exact H) | (have H2_ := (Option.bind_some _ _).symm.trans H;rw [hy318];with_reducible exact H2_) | (have H2_ := (Option.bind_some _ _).symm.trans H;with_reducible exact H2_) | with_reducible exact H | (rw [hy318];exact H) | exact H
     have Ny318 := am_ hy318
     clear hy318
     have H' := am_ H
     clear H
     obtain ⟨Ao7,co7,eo7⟩ := Kd.R_slice HO_0.out
     subst eo7
     go_wp2_with (first | ((with_reducible refine gate_callee (f := 59) rfl ?_);refine zgl (some 15) Tryd.func59 #[.int .i64 x1_1] ?_;(with_reducible refine (laws_markText.calls k1 x1_1 t317 _ A4.out).mono ?_);rintro e w8 ⟨rfl,hb⟩;refine ⟨_,rfl,?_⟩;replace HO_0 := zrb HO_0 hb;replace HK := am_ (Kept.below (S := (fun k_ => P0_ k_)) (by repeat (first | (with_reducible first | exact HK.out | apply Kept.alloc | apply Kept.drewN | apply Kept.drew) | exact HK.out)) hb);replace HB := zs_ HB hb;(try clear hb);(try clear hb2);(try clear hk);(try clear hi);have p6 : 0 ≤ (x5_1 : Int) := zo_;have q6 : (x5_1 : Int) < ((x0_1.length : Int) : Int) := zo_;obtain ⟨go6,co6,eo6,gb6,gl6,cl6,HG6⟩ := Kd.R_form HO_0.out (by omega);(first | cases eo6 | (injection eo6 with ea_ en_ ec_;(first | subst ea_ | (injection ea_ with ea_;subst ea_));subst ec_;clear en_));have GB6 := am_ gb6;have GG6 := am_ HG6;clear gb6 gl6 HG6;have HMgo6 := am_ (show (P0_ go6 ∨ w.heap.size ≤ go6) from (HO_0.out.1 _ rfl));obtain ⟨hx6_0,hf6_0⟩ := Kd.R_celln (⟨#[]⟩ : ByteArray) HO_0.out (x5_1 : Int) p6 q6;replace p6 := eq_true p6;replace q6 := eq_true q6;obtain ⟨hy9_,hz9_⟩ := Kd.R_celln (⟨#[]⟩ : ByteArray) HO_0.out (x5_1 : Int) (zo_) (zo_);have HP9 := Kd.R_putg HO_0.out (x5_1 : Int) t317) | ((with_reducible refine gate_store (t := 9) (p := 16) rfl ?_);refine store_event (t := 9) (p := 16) (v := ?vo_w10) (w1 := (w8.setCell ⟨go6,(x5_1 : Int).toNat,none⟩ (.string t317))) ?hg ?ho ?hn ?hr ?_;(case ho => rfl);(case hg => rfl);(case hn => rfl);(case hr => first | (go_simp;done) | (go_simp;rfl));intro w10 hw;have hg : w8.grownBy w10 (some go6) := (by rw [hw];exact HP9.2);have hp_ : Kd.R Kd.string 9 w10 w0.heap.size (fun k_ => (P0_ k_ ∨ w.heap.size ≤ k_)) (.slice (some ⟨go6,0,none⟩) x0_1.length co7) y318 := (by rw [hw,Ny318.out];exact HP9.1);clear HP9;replace HB := am_ ((by rw [hw];exact below_set (HB.out) GB6.out : Below w0.heap.size w0 w10));replace HK := am_ (Kept.of_grown (S := (fun k_ => P0_ k_)) hg (by repeat (first | (with_reducible first | exact HK.out | apply Kept.alloc | apply Kept.drewN | apply Kept.drew) | exact HK.out)) (fun k_ e_ => (HO_0.out.1 k_ e_)));replace HO_0 := am_ (hp_);clear hg hw hp_))
     go_roundg k1
     case measure => have := HK1.out;omega
     case rel => exact ⟨(y318),(wrap64 (x1_1 + 1)),(wrap64 (x5_1 + 1)),(by first | rfl | (simp;done) | (simp [*];done)),(by first | rfl | (simp;done) | (simp [*];done)),H',⟨by have := HK1.out;omega⟩,⟨zr HO_0⟩,⟨by repeat (first | (with_reducible first | exact HK.out | apply Kept.alloc | apply Kept.drewN | apply Kept.drew) | exact HK.out)⟩,⟨zl_ HB⟩⟩
    ·rw [if_neg c5] at H
     exact absurd H (by simp)
   ·rw [if_neg c3] at H
    have c3b0 : decide (x5_1 < (x0_1.length : Int)) = false := decide_eq_false c3
    clear c3
    simp only [Option.some.injEq,Prod.mk.injEq] at H
    obtain ⟨rfl,rfl⟩ := H
    obtain ⟨Ao11,co11,eo11⟩ := Kd.R_slice HO_0.out
    subst eo11
    go_wp2
    go_ret
    exact ⟨zt_,zr HO_0,zl_ HB,by repeat (first | (with_reducible first | exact HK.out | apply Kept.alloc | apply Kept.drewN | apply Kept.drew) | exact HK.out)⟩
set_option maxHeartbeats 8000000 in
set_option maxRecDepth 100000 in
theorem laws_markKeySignature.calls (k : Nat) (a0_0 : Int) (P0_1_ : Nat → Prop) (u9000_ : Value) (l0_1 : List ByteArray) (P0_2_ : Nat → Prop) (u9001_ : Value) (l0_2 : List ByteArray) (P0_3_ : Nat → Prop) (u9002_ : Value) (l0_3 : List ByteArray) (a1 : Int) (r1 : Int) (r2 : List ByteArray) (r3 : List ByteArray) (r4 : List ByteArray) (w0 w : World) (hB : Below w0.heap.size w0 w) (ho0_1 : Kd.R Kd.string 9 w w0.heap.size P0_1_ u9000_ l0_1) (hp0_1_0_2 : ∀ k_,P0_1_ k_ → ¬ P0_2_ k_) (hp0_1_0_3 : ∀ k_,P0_1_ k_ → ¬ P0_3_ k_) (ho0_2 : Kd.R Kd.string 9 w w0.heap.size P0_2_ u9001_ l0_2) (hp0_2_0_1 : ∀ k_,P0_2_ k_ → ¬ P0_1_ k_) (hp0_2_0_3 : ∀ k_,P0_2_ k_ → ¬ P0_3_ k_) (ho0_3 : Kd.R Kd.string 9 w w0.heap.size P0_3_ u9002_ l0_3) (hp0_3_0_1 : ∀ k_,P0_3_ k_ → ¬ P0_1_ k_) (hp0_3_0_2 : ∀ k_,P0_3_ k_ → ¬ P0_2_ k_) (h : laws_markKeySignature.f k a0_0 l0_1 l0_2 l0_3 a1 = some (r1,r2,r3,r4)) :
  Calls Tryd.prog 38 #[.agg #[.int .i64 a0_0,u9000_,u9001_,u9002_],.int .i64 a1] w fun e w' => e = .returned (.int .i64 r1) ∧ Kd.R Kd.string 9 w' w0.heap.size (fun k_ => ((P0_1_ k_ ∨ P0_2_ k_ ∨ P0_3_ k_) ∨ w.heap.size ≤ k_)) u9000_ r2 ∧ Kd.R Kd.string 9 w' w0.heap.size (fun k_ => ((P0_1_ k_ ∨ P0_2_ k_ ∨ P0_3_ k_) ∨ w.heap.size ≤ k_)) u9001_ r3 ∧ Kd.R Kd.string 9 w' w0.heap.size (fun k_ => ((P0_1_ k_ ∨ P0_2_ k_ ∨ P0_3_ k_) ∨ w.heap.size ≤ k_)) u9002_ r4 ∧ Below w0.heap.size w0 w' ∧ Kept w w' (fun k_ => P0_1_ k_ ∨ P0_2_ k_ ∨ P0_3_ k_) := by
 have hu56 := Tryd.underlying56
 have HO0_1 := am_ (show Kd.R Kd.string 9 w w0.heap.size (fun k_ => ((P0_1_ k_ ∨ P0_2_ k_ ∨ P0_3_ k_) ∨ w.heap.size ≤ k_) ∧ some k_ ≠ (u9001_ : Value).ownBlock ∧ some k_ ≠ (u9002_ : Value).ownBlock) u9000_ l0_1 from Kd.R_mono ho0_1 (fun k_ hk => ⟨(.inl (.inl hk)),fun e_ => hp0_1_0_2 k_ hk (ho0_2.1 k_ e_.symm),fun e_ => hp0_1_0_3 k_ hk (ho0_3.1 k_ e_.symm)⟩))
 have HO0_2 := am_ (show Kd.R Kd.string 9 w w0.heap.size (fun k_ => ((P0_1_ k_ ∨ P0_2_ k_ ∨ P0_3_ k_) ∨ w.heap.size ≤ k_) ∧ some k_ ≠ (u9000_ : Value).ownBlock ∧ some k_ ≠ (u9002_ : Value).ownBlock) u9001_ l0_2 from Kd.R_mono ho0_2 (fun k_ hk => ⟨(.inl (.inr (.inl hk))),fun e_ => hp0_2_0_1 k_ hk (ho0_1.1 k_ e_.symm),fun e_ => hp0_2_0_3 k_ hk (ho0_3.1 k_ e_.symm)⟩))
 have HO0_3 := am_ (show Kd.R Kd.string 9 w w0.heap.size (fun k_ => ((P0_1_ k_ ∨ P0_2_ k_ ∨ P0_3_ k_) ∨ w.heap.size ≤ k_) ∧ some k_ ≠ (u9000_ : Value).ownBlock ∧ some k_ ≠ (u9001_ : Value).ownBlock) u9002_ l0_3 from Kd.R_mono ho0_3 (fun k_ hk => ⟨(.inl (.inr (.inr hk))),fun e_ => hp0_3_0_1 k_ hk (ho0_1.1 k_ e_.symm),fun e_ => hp0_3_0_2 k_ hk (ho0_2.1 k_ e_.symm)⟩))
 have HK := am_ (Kept.refl w (fun k_ => P0_1_ k_ ∨ P0_2_ k_ ∨ P0_3_ k_))
 have HW0 := am_ hB.size
 have HB := am_ hB
 clear hB
 have H : ((laws_markStringS.f k l0_1 a1).bind fun bt1150 => ((laws_markStringS.f k l0_2 bt1150.1).bind fun bt1152 => ((laws_markStringS.f k l0_3 bt1152.1).bind fun bt1154 => (some (bt1154.1,bt1150.2,bt1152.2,bt1154.2))))) = some (r1,r2,r3,r4) := h
 clear h
 replace H := Option.bind_eq_some_iff.mp H
 obtain ⟨⟨t1150,t1151⟩,A30,H⟩ := H
 try dsimp only at H
 have A3 := am_ A30
 clear A30
 replace H := Option.bind_eq_some_iff.mp H
 obtain ⟨⟨t1152,t1153⟩,A40,H⟩ := H
 try dsimp only at H
 have A4 := am_ A40
 clear A40
 replace H := Option.bind_eq_some_iff.mp H
 obtain ⟨⟨t1154,t1155⟩,A50,H⟩ := H
 try dsimp only at H
 have A5 := am_ A50
 clear A50
 simp only [Option.some.injEq,Prod.mk.injEq] at H
 obtain ⟨rfl,rfl,rfl,rfl⟩ := H
 obtain ⟨Ao6,co6,eo6⟩ := Kd.R_slice HO0_1.out
 subst eo6
 obtain ⟨Ao7,co7,eo7⟩ := Kd.R_slice HO0_2.out
 subst eo7
 obtain ⟨Ao8,co8,eo8⟩ := Kd.R_slice HO0_3.out
 subst eo8
 go_enter Tryd.func38,Tryd.ntmps38
 go_wp2_with (first | ((with_reducible refine gate_dst (N := 2) rfl ?_);refine zbx (N := 2) (cs := #[.int .i64 a0_0,.slice Ao6 l0_1.length co6,.slice Ao7 l0_2.length co7,.slice Ao8 l0_3.length co8]) (t := 56) ?_;intro gb1149 hg w9 hbox hb;replace HO0_1 := am_ (Kd.R_below (by (with_reducible repeat (first | apply r1_ | apply r2_ | apply r3_));exact HO0_1.out) hb);replace HO0_2 := am_ (Kd.R_below (by (with_reducible repeat (first | apply r1_ | apply r2_ | apply r3_));exact HO0_2.out) hb);replace HO0_3 := am_ (Kd.R_below (by (with_reducible repeat (first | apply r1_ | apply r2_ | apply r3_));exact HO0_3.out) hb);have BK1149 := am_ (hbox);have GW1149 := am_ ((by rw [hg];exact (by first | exact HK.out.1 | exact (show Kept w _ (fun k_ => P0_1_ k_ ∨ P0_2_ k_ ∨ P0_3_ k_) from by repeat (first | (with_reducible first | exact HK.out | apply Kept.alloc | apply Kept.drewN | apply Kept.drew) | exact HK.out)).1) : w.heap.size ≤ gb1149));replace HK := am_ (Kept.below (S := (fun k_ => P0_1_ k_ ∨ P0_2_ k_ ∨ P0_3_ k_)) (by repeat (first | (with_reducible first | exact HK.out | apply Kept.alloc | apply Kept.drewN | apply Kept.drew) | exact HK.out)) hb);have GE1149 := am_ ((by rw [hg];exact (below_size (zl_ HB)) : w0.heap.size ≤ gb1149));replace HB := zs_ HB hb;clear hb hbox hg;obtain ⟨hcz10_0,hcz10_1,hcz10_2,hcz10_3,hfz10_0,hfz10_1,hfz10_2,hfz10_3⟩ := zc4 BK1149) | ((with_reducible refine gate_callee (f := 16) rfl ?_);refine zgl (some 8) Tryd.func16 #[.slice Ao6 l0_1.length co6,.int .i64 a1] ?_;(with_reducible refine (laws_markStringS.calls k (fun k_ => some k_ = (.slice Ao6 l0_1.length co6 : Value).ownBlock) (.slice Ao6 l0_1.length co6) l0_1 a1 t1150 t1151 w0 _ ?side1 ?side2 A3.out).mono ?_);(case side1 => exact zl_ HB);(case side2 => exact Kd.R_tight rfl HO0_1.out);rintro e w11 ⟨rfl,hy0,hb,hkp⟩;refine ⟨_,rfl,?_⟩;replace HO0_2 := am_ (Kd.R_mono (ok' := fun k_ => ((P0_1_ k_ ∨ P0_2_ k_ ∨ P0_3_ k_) ∨ w.heap.size ≤ k_) ∧ some k_ ≠ (.slice Ao6 l0_1.length co6 : Value).ownBlock ∧ some k_ ≠ (.slice Ao8 l0_3.length co8 : Value).ownBlock) (Kd.R_keptB (HO0_2.out) hkp (fun k_ hk_ hs_ => (hk_.2.1) hs_)) (fun k_ hk_ => ⟨hk_.1.1,hk_.1.2.1,hk_.1.2.2⟩));replace HO0_3 := am_ (Kd.R_mono (ok' := fun k_ => ((P0_1_ k_ ∨ P0_2_ k_ ∨ P0_3_ k_) ∨ w.heap.size ≤ k_) ∧ some k_ ≠ (.slice Ao6 l0_1.length co6 : Value).ownBlock ∧ some k_ ≠ (.slice Ao7 l0_2.length co7 : Value).ownBlock) (Kd.R_keptB (HO0_3.out) hkp (fun k_ hk_ hs_ => (hk_.2.1) hs_)) (fun k_ hk_ => ⟨hk_.1.1,hk_.1.2.1,hk_.1.2.2⟩));replace BK1149 := am_ (blk_kept (zk BK1149) hkp (fun hs_ => (fun e_ => (Kd.R_ne HO0_1.out BK1149.out (by decide)) e_) hs_));replace HK := am_ (Kept.then_ (S := (fun k_ => P0_1_ k_ ∨ P0_2_ k_ ∨ P0_3_ k_)) (by repeat (first | (with_reducible first | exact HK.out | apply Kept.alloc | apply Kept.drewN | apply Kept.drew | refine Kept.setCell ?_ (.inr GW1149.out) _) | exact HK.out)) hkp (fun k_ hs_ => (fun e_ => (HO0_1.out.1 k_ e_.symm).1) hs_));replace HO0_1 := am_ (Kd.R_reok rfl hy0 (fun k_ e_ => HO0_1.out.1 k_ e_));replace HB := am_ (hb);(try clear hb);(try clear hkp);(try clear hy0);obtain ⟨hcz12_0,hcz12_1,hcz12_2,hcz12_3,hfz12_0,hfz12_1,hfz12_2,hfz12_3⟩ := zc4 BK1149) | ((with_reducible refine gate_callee (f := 16) rfl ?_);refine zgl (some 12) Tryd.func16 #[.slice Ao7 l0_2.length co7,.int .i64 t1150] ?_;(with_reducible refine (laws_markStringS.calls k (fun k_ => some k_ = (.slice Ao7 l0_2.length co7 : Value).ownBlock) (.slice Ao7 l0_2.length co7) l0_2 t1150 t1152 t1153 w0 _ ?side1 ?side2 A4.out).mono ?_);(case side1 => exact zl_ HB);(case side2 => exact Kd.R_tight rfl HO0_2.out);rintro e w13 ⟨rfl,hy0,hb,hkp⟩;refine ⟨_,rfl,?_⟩;replace HO0_1 := am_ (Kd.R_mono (ok' := fun k_ => ((P0_1_ k_ ∨ P0_2_ k_ ∨ P0_3_ k_) ∨ w.heap.size ≤ k_) ∧ some k_ ≠ (.slice Ao7 l0_2.length co7 : Value).ownBlock ∧ some k_ ≠ (.slice Ao8 l0_3.length co8 : Value).ownBlock) (Kd.R_keptB (HO0_1.out) hkp (fun k_ hk_ hs_ => (hk_.2.1) hs_)) (fun k_ hk_ => ⟨hk_.1.1,hk_.1.2.1,hk_.1.2.2⟩));replace HO0_3 := am_ (Kd.R_mono (ok' := fun k_ => ((P0_1_ k_ ∨ P0_2_ k_ ∨ P0_3_ k_) ∨ w.heap.size ≤ k_) ∧ some k_ ≠ (.slice Ao6 l0_1.length co6 : Value).ownBlock ∧ some k_ ≠ (.slice Ao7 l0_2.length co7 : Value).ownBlock) (Kd.R_keptB (HO0_3.out) hkp (fun k_ hk_ hs_ => (hk_.2.2) hs_)) (fun k_ hk_ => ⟨hk_.1.1,hk_.1.2.1,hk_.1.2.2⟩));replace BK1149 := am_ (blk_kept (zk BK1149) hkp (fun hs_ => (fun e_ => (Kd.R_ne HO0_2.out BK1149.out (by decide)) e_) hs_));replace HK := am_ (Kept.then_ (S := (fun k_ => P0_1_ k_ ∨ P0_2_ k_ ∨ P0_3_ k_)) (by repeat (first | (with_reducible first | exact HK.out | apply Kept.alloc | apply Kept.drewN | apply Kept.drew | refine Kept.setCell ?_ (.inr GW1149.out) _) | exact HK.out)) hkp (fun k_ hs_ => (fun e_ => (HO0_2.out.1 k_ e_.symm).1) hs_));replace HO0_2 := am_ (Kd.R_reok rfl hy0 (fun k_ e_ => HO0_2.out.1 k_ e_));replace HB := am_ (hb);(try clear hb);(try clear hkp);(try clear hy0);obtain ⟨hcz14_0,hcz14_1,hcz14_2,hcz14_3,hfz14_0,hfz14_1,hfz14_2,hfz14_3⟩ := zc4 BK1149) | ((with_reducible refine gate_callee (f := 16) rfl ?_);refine zgl (some 16) Tryd.func16 #[.slice Ao8 l0_3.length co8,.int .i64 t1152] ?_;(with_reducible refine (laws_markStringS.calls k (fun k_ => some k_ = (.slice Ao8 l0_3.length co8 : Value).ownBlock) (.slice Ao8 l0_3.length co8) l0_3 t1152 t1154 t1155 w0 _ ?side1 ?side2 A5.out).mono ?_);(case side1 => exact zl_ HB);(case side2 => exact Kd.R_tight rfl HO0_3.out);rintro e w15 ⟨rfl,hy0,hb,hkp⟩;refine ⟨_,rfl,?_⟩;replace HO0_1 := am_ (Kd.R_mono (ok' := fun k_ => ((P0_1_ k_ ∨ P0_2_ k_ ∨ P0_3_ k_) ∨ w.heap.size ≤ k_) ∧ some k_ ≠ (.slice Ao7 l0_2.length co7 : Value).ownBlock ∧ some k_ ≠ (.slice Ao8 l0_3.length co8 : Value).ownBlock) (Kd.R_keptB (HO0_1.out) hkp (fun k_ hk_ hs_ => (hk_.2.2) hs_)) (fun k_ hk_ => ⟨hk_.1.1,hk_.1.2.1,hk_.1.2.2⟩));replace HO0_2 := am_ (Kd.R_mono (ok' := fun k_ => ((P0_1_ k_ ∨ P0_2_ k_ ∨ P0_3_ k_) ∨ w.heap.size ≤ k_) ∧ some k_ ≠ (.slice Ao6 l0_1.length co6 : Value).ownBlock ∧ some k_ ≠ (.slice Ao8 l0_3.length co8 : Value).ownBlock) (Kd.R_keptB (HO0_2.out) hkp (fun k_ hk_ hs_ => (hk_.2.2) hs_)) (fun k_ hk_ => ⟨hk_.1.1,hk_.1.2.1,hk_.1.2.2⟩));replace HK := am_ (Kept.then_ (S := (fun k_ => P0_1_ k_ ∨ P0_2_ k_ ∨ P0_3_ k_)) (by repeat (first | (with_reducible first | exact HK.out | apply Kept.alloc | apply Kept.drewN | apply Kept.drew | refine Kept.setCell ?_ (.inr GW1149.out) _) | exact HK.out)) hkp (fun k_ hs_ => (fun e_ => (HO0_3.out.1 k_ e_.symm).1) hs_));replace HO0_3 := am_ (Kd.R_reok rfl hy0 (fun k_ e_ => HO0_3.out.1 k_ e_));replace HB := am_ (hb);(try clear hb);(try clear hkp);(try clear hy0)))
 go_ret
 exact ⟨zt_,by (with_reducible repeat (first | apply r1_ | apply r2_ | apply r3_));exact Kd.R_mono HO0_1.out (fun _ hk => hk.1),by (with_reducible repeat (first | apply r1_ | apply r2_ | apply r3_));exact Kd.R_mono HO0_2.out (fun _ hk => hk.1),by (with_reducible repeat (first | apply r1_ | apply r2_ | apply r3_));exact Kd.R_mono HO0_3.out (fun _ hk => hk.1),zl_ HB,by repeat (first | (with_reducible first | exact HK.out | apply Kept.alloc | apply Kept.drewN | apply Kept.drew | refine Kept.setCell ?_ (.inr GW1149.out) _) | exact HK.out)⟩
set_option maxHeartbeats 8000000 in
set_option maxRecDepth 100000 in
theorem laws_szGrant.calls (a0_0 : ByteArray) (a0_1 : Int) (a0_2 : Int) (a0_3 : Int) (a1 : Int) (r : Int) (w : World) (h : laws_szGrant.f a0_0 a0_1 a0_2 a0_3 a1 = some r) :
  Calls Tryd.prog 33 #[.agg #[.string a0_0,.int .i64 a0_1,.int .i64 a0_2,.int .i64 a0_3],.int .i64 a1] w fun e w' => e = .returned (.int .i64 r) ∧ Below w.heap.size w w' := by
 have hu53 := Tryd.underlying53
 have HB := am_ (Below.refl w.heap.size w)
 have H : (if (wrap64 (a1 - (a0_0.size : Int))) < 0 then (some (-1)) else (some (wrap64 (a1 - (a0_0.size : Int))))) = some r := h
 clear h
 by_cases c3 : (wrap64 (a1 - (a0_0.size : Int))) < 0
 ·rw [if_pos c3] at H
  have c3b0 : decide ((wrap64 (a1 - (a0_0.size : Int))) < 0) = true := decide_eq_true c3
  clear c3
  obtain rfl := Option.some.inj H
  go_enter Tryd.func33,Tryd.ntmps33
  go_wp2_with (first | ((with_reducible refine gate_dst (N := 2) rfl ?_);refine zbx (N := 2) (cs := #[.string a0_0,.int .i64 a0_1,.int .i64 a0_2,.int .i64 a0_3]) (t := 53) ?_;intro gb929 hg w4 hbox hb;have BK929 := am_ (hbox);have GW929 := zw_ HB hg;have GE929 := zw_ HB hg;replace HB := zs_ HB hb;clear hb hbox hg;obtain ⟨hcz5_0,hcz5_1,hcz5_2,hcz5_3,hfz5_0,hfz5_1,hfz5_2,hfz5_3⟩ := zc4 BK929))
  go_ret
  exact ⟨zt_,zl_ HB⟩
 ·rw [if_neg c3] at H
  have c3b0 : decide ((wrap64 (a1 - (a0_0.size : Int))) < 0) = false := decide_eq_false c3
  clear c3
  obtain rfl := Option.some.inj H
  go_enter Tryd.func33,Tryd.ntmps33
  go_wp2_with (first | ((with_reducible refine gate_dst (N := 2) rfl ?_);refine zbx (N := 2) (cs := #[.string a0_0,.int .i64 a0_1,.int .i64 a0_2,.int .i64 a0_3]) (t := 53) ?_;intro gb929 hg w6 hbox hb;have BK929 := am_ (hbox);have GW929 := zw_ HB hg;have GE929 := zw_ HB hg;replace HB := zs_ HB hb;clear hb hbox hg;obtain ⟨hcz7_0,hcz7_1,hcz7_2,hcz7_3,hfz7_0,hfz7_1,hfz7_2,hfz7_3⟩ := zc4 BK929))
  go_ret
  exact ⟨zt_,zl_ HB⟩
set_option maxHeartbeats 8000000 in
set_option maxRecDepth 100000 in
theorem laws_toGrant.calls (a0_0 : ByteArray) (a0_1 : Int) (a0_2 : Int) (a0_3 : Int) (r1 : ByteArray) (r2 : Int) (r3 : Int) (r4 : Int) (w : World) (h : laws_toGrant.f a0_0 a0_1 a0_2 a0_3 = some (r1,r2,r3,r4)) :
  Calls Tryd.prog 35 #[.agg #[.string a0_0,.int .i64 a0_1,.int .i64 a0_2,.int .i64 a0_3]] w fun e w' => e = .returned (.agg #[.string r1,.int .i64 r2,.int .i64 r3,.int .i64 r4]) ∧ Below w.heap.size w w' := by
 have hu53 := Tryd.underlying53
 have hu59 := Tryd.underlying59
 have HB := am_ (Below.refl w.heap.size w)
 have H : (some (a0_0,a0_1,a0_2,a0_3)) = some (r1,r2,r3,r4) := h
 clear h
 simp only [Option.some.injEq,Prod.mk.injEq] at H
 obtain ⟨rfl,rfl,rfl,rfl⟩ := H
 go_enter Tryd.func35,Tryd.ntmps35
 go_wp2_with (first | ((with_reducible refine gate_dst (N := 1) rfl ?_);refine zbx (N := 1) (cs := #[.string a0_0,.int .i64 a0_1,.int .i64 a0_2,.int .i64 a0_3]) (t := 53) ?_;intro gb1056 hg w2 hbox hb;have BK1056 := am_ (hbox);have GW1056 := zw_ HB hg;have GE1056 := zw_ HB hg;replace HB := zs_ HB hb;clear hb hbox hg) | ((with_reducible refine gate_dst (N := 2) rfl ?_);refine zbx (N := 2) (cs := #[.string ⟨#[]⟩,.int .i64 0,.int .i64 0,.int .i64 0]) (t := 59) ?_;intro gb1057 hg w3 hbox hb;have BK1057 := am_ (hbox);have GW1057 := zw_ HB hg;have GE1057 := zw_ HB hg;replace HB := zs_ HB hb;have NB1056_1057 := zl hg BK1056;have NB1057_1056 := zg hg BK1056;replace BK1056 := zb BK1056 hb;clear hb hbox hg) | ((with_reducible refine gate_dst (N := 3) rfl ?_);refine zbx (N := 3) (cs := #[.string ⟨#[]⟩,.int .i64 0,.int .i64 0,.int .i64 0]) (t := 59) ?_;intro gb1058 hg w4 hbox hb;have BK1058 := am_ (hbox);have GW1058 := zw_ HB hg;have GE1058 := zw_ HB hg;replace HB := zs_ HB hb;have NB1056_1058 := zl hg BK1056;have NB1058_1056 := zg hg BK1056;replace BK1056 := zb BK1056 hb;have NB1057_1058 := zl hg BK1057;have NB1058_1057 := zg hg BK1057;replace BK1057 := zb BK1057 hb;clear hb hbox hg;have hnb5 := NB1056_1057.out;have hnc5 := NB1057_1056.out;have hnb6 := NB1056_1058.out;have hnc6 := NB1058_1056.out;obtain ⟨hcz7_0,hcz7_1,hcz7_2,hcz7_3,hfz7_0,hfz7_1,hfz7_2,hfz7_3⟩ := zc4 BK1056;have hnb8 := NB1058_1057.out;have hnc8 := NB1057_1058.out;obtain ⟨hcz9_0,hcz9_1,hcz9_2,hcz9_3,hfz9_0,hfz9_1,hfz9_2,hfz9_3⟩ := zc4 BK1058;obtain ⟨hcz10_0,hcz10_1,hcz10_2,hcz10_3,hfz10_0,hfz10_1,hfz10_2,hfz10_3⟩ := zc4 BK1057))
 refine bodyPost_ret (results_cell_row rfl _ _ gb1057 59 #[.string a0_0,.int .i64 a0_1,.int .i64 a0_2,.int .i64 a0_3] (0,0) _ rfl (zq BK1057) Tryd.underlying59 rfl (by kernel_rfl)) rfl ?_
 exact ⟨zt_,zl_ HB⟩
set_option maxHeartbeats 8000000 in
set_option maxRecDepth 100000 in
theorem spec_l01In.calls (a0 : Int) (a1 : Int) (a2 : Int) (r : Bool) (w : World) (h : spec_l01In.f a0 a1 a2 = some r) :
  Calls Tryd.prog 53 #[.int .i64 a0,.int .i64 a1,.int .i64 a2] w fun e w' => e = .returned (.bool r) ∧ Drawn0 w w' := by
 have H : (if a0 ≥ a1 then (some (decide (a0 ≤ a2))) else (some false)) = some r := h
 clear h
 by_cases c4 : a0 ≥ a1
 ·rw [if_pos c4] at H
  have c4b0 : decide (a1 ≤ a0) = true := decide_eq_true c4
  clear c4
  obtain rfl := Option.some.inj H
  go_enter Tryd.func53,Tryd.ntmps53
  go_wp2
  go_ret
  exact ⟨by first | rfl | (simp;done) | (simp [*];done),by repeat (first | exact Drawn0.refl _ | apply Drawn0.step)⟩
 ·rw [if_neg c4] at H
  have c4b0 : decide (a1 ≤ a0) = false := decide_eq_false c4
  clear c4
  obtain rfl := Option.some.inj H
  go_enter Tryd.func53,Tryd.ntmps53
  go_wp2
  go_ret
  exact ⟨by first | rfl | (simp;done) | (simp [*];done),by repeat (first | exact Drawn0.refl _ | apply Drawn0.step)⟩
set_option maxHeartbeats 8000000 in
set_option maxRecDepth 100000 in
theorem spec_l00Digit.calls (a0 : Int) (r : Bool) (w : World) (h : spec_l00Digit.f a0 = some r) :
  Calls Tryd.prog 214 #[.int .u8 a0] w fun e w' => e = .returned (.bool r) ∧ Drawn0 w w' := by
 have H : (if a0 ≥ 48 then (some (decide (a0 ≤ 57))) else (some false)) = some r := h
 clear h
 by_cases c2 : a0 ≥ 48
 ·rw [if_pos c2] at H
  have c2b0 : decide (48 ≤ a0) = true := decide_eq_true c2
  clear c2
  obtain rfl := Option.some.inj H
  go_enter Tryd.func214,Tryd.ntmps214
  go_wp2
  go_ret
  exact ⟨by first | rfl | (simp;done) | (simp [*];done),by repeat (first | exact Drawn0.refl _ | apply Drawn0.step)⟩
 ·rw [if_neg c2] at H
  have c2b0 : decide (48 ≤ a0) = false := decide_eq_false c2
  clear c2
  obtain rfl := Option.some.inj H
  go_enter Tryd.func214,Tryd.ntmps214
  go_wp2
  go_ret
  exact ⟨by first | rfl | (simp;done) | (simp [*];done),by repeat (first | exact Drawn0.refl _ | apply Drawn0.step)⟩
set_option maxHeartbeats 8000000 in
set_option maxRecDepth 100000 in
theorem spec_l00Letter.calls (a0 : Int) (r : Bool) (w : World) (h : spec_l00Letter.f a0 = some r) :
  Calls Tryd.prog 213 #[.int .u8 a0] w fun e w' => e = .returned (.bool r) ∧ Drawn0 w w' := by
 have H : (if a0 ≥ 97 then (if a0 ≤ 122 then (some true) else (if a0 ≥ 65 then (if a0 ≤ 90 then (some true) else (some (a0 == 95))) else (some (a0 == 95)))) else (if a0 ≥ 65 then (if a0 ≤ 90 then (some true) else (some (a0 == 95))) else (some (a0 == 95)))) = some r := h
 clear h
 by_cases c2 : a0 ≥ 97
 ·rw [if_pos c2] at H
  have c2b0 : decide (97 ≤ a0) = true := decide_eq_true c2
  clear c2
  by_cases c3 : a0 ≤ 122
  ·rw [if_pos c3] at H
   have c3b0 : decide (a0 ≤ 122) = true := decide_eq_true c3
   clear c3
   obtain rfl := Option.some.inj H
   go_enter Tryd.func213,Tryd.ntmps213
   go_wp2
   go_ret
   exact ⟨by first | rfl | (simp;done) | (simp [*];done),by repeat (first | exact Drawn0.refl _ | apply Drawn0.step)⟩
  ·rw [if_neg c3] at H
   have c3b0 : decide (a0 ≤ 122) = false := decide_eq_false c3
   clear c3
   by_cases c4 : a0 ≥ 65
   ·rw [if_pos c4] at H
    have c4b0 : decide (65 ≤ a0) = true := decide_eq_true c4
    clear c4
    by_cases c5 : a0 ≤ 90
    ·rw [if_pos c5] at H
     have c5b0 : decide (a0 ≤ 90) = true := decide_eq_true c5
     clear c5
     obtain rfl := Option.some.inj H
     go_enter Tryd.func213,Tryd.ntmps213
     go_wp2
     go_ret
     exact ⟨by first | rfl | (simp;done) | (simp [*];done),by repeat (first | exact Drawn0.refl _ | apply Drawn0.step)⟩
    ·rw [if_neg c5] at H
     have c5b0 : decide (a0 ≤ 90) = false := decide_eq_false c5
     clear c5
     obtain rfl := Option.some.inj H
     go_enter Tryd.func213,Tryd.ntmps213
     go_wp2
     go_ret
     exact ⟨by first | rfl | (simp;done) | (simp [*];done),by repeat (first | exact Drawn0.refl _ | apply Drawn0.step)⟩
   ·rw [if_neg c4] at H
    have c4b0 : decide (65 ≤ a0) = false := decide_eq_false c4
    clear c4
    obtain rfl := Option.some.inj H
    go_enter Tryd.func213,Tryd.ntmps213
    go_wp2
    go_ret
    exact ⟨by first | rfl | (simp;done) | (simp [*];done),by repeat (first | exact Drawn0.refl _ | apply Drawn0.step)⟩
 ·rw [if_neg c2] at H
  have c2b0 : decide (97 ≤ a0) = false := decide_eq_false c2
  clear c2
  by_cases c6 : a0 ≥ 65
  ·rw [if_pos c6] at H
   have c6b0 : decide (65 ≤ a0) = true := decide_eq_true c6
   clear c6
   by_cases c7 : a0 ≤ 90
   ·rw [if_pos c7] at H
    have c7b0 : decide (a0 ≤ 90) = true := decide_eq_true c7
    clear c7
    obtain rfl := Option.some.inj H
    go_enter Tryd.func213,Tryd.ntmps213
    go_wp2
    go_ret
    exact ⟨by first | rfl | (simp;done) | (simp [*];done),by repeat (first | exact Drawn0.refl _ | apply Drawn0.step)⟩
   ·rw [if_neg c7] at H
    have c7b0 : decide (a0 ≤ 90) = false := decide_eq_false c7
    clear c7
    obtain rfl := Option.some.inj H
    go_enter Tryd.func213,Tryd.ntmps213
    go_wp2
    go_ret
    exact ⟨by first | rfl | (simp;done) | (simp [*];done),by repeat (first | exact Drawn0.refl _ | apply Drawn0.step)⟩
  ·rw [if_neg c6] at H
   have c6b0 : decide (65 ≤ a0) = false := decide_eq_false c6
   clear c6
   obtain rfl := Option.some.inj H
   go_enter Tryd.func213,Tryd.ntmps213
   go_wp2
   go_ret
   exact ⟨by first | rfl | (simp;done) | (simp [*];done),by repeat (first | exact Drawn0.refl _ | apply Drawn0.step)⟩
set_option maxHeartbeats 8000000 in
set_option maxRecDepth 100000 in
theorem spec_l00Word.calls (k : Nat) (a0 : ByteArray) (r : Bool) (w : World) (h : spec_l00Word.f k a0 = some r) :
  Calls Tryd.prog 200 #[.string a0] w fun e w' => e = .returned (.bool r) ∧ Drawn0 w w' := by
 have H : (if (a0.size : Int) < 1 then (spec_l00Word.j0 k a0 true) else (if (a0.size : Int) > 40 then (spec_l00Word.j0 k a0 true) else (if 0 < (a0.size : Int) then ((spec_l00Letter.f (bt a0 0)).bind fun t930 => (spec_l00Word.j0 k a0 (!t930))) else (none)))) = some r := h
 clear h
 have HC2 := am_ H
 clear H
 go_enter Tryd.func200,Tryd.ntmps200
 go_upto_region 1 with (fail)
 go_cut [17] (fun v17 wc => ∃ (kq : Nat) (x17_1 : Bool),v17 = .bool x17_1 ∧ Aside0 (spec_l00Word.j0 kq a0 x17_1 = some r) ∧ Aside0 (kq ≤ k) ∧ Drawn0 w wc)
 case first =>
  have H := HC2.out
  clear HC2
  by_cases c3 : (a0.size : Int) < 1
  ·rw [if_pos c3] at H
   have c3b0 : decide ((a0.size : Int) < 1) = true := decide_eq_true c3
   have c3b1 : decide (a0.size < 1) = true := decide_eq_true (by omega)
   clear c3
   (first | rw [c3b0] | (simp only [i64_w,i32_w];rw [c3b0]) | skip)
   have H' := am_ H
   clear H
   go_wp2
   go_meet
   case rel => exact ⟨_,(true),(by first | rfl | (simp;done) | (simp [*];done)),H',⟨by first | omega | exact Nat.le_refl _⟩,by repeat (first | exact Drawn0.refl _ | apply Drawn0.step)⟩
  ·rw [if_neg c3] at H
   have c3b0 : decide ((a0.size : Int) < 1) = false := decide_eq_false c3
   have c3b1 : decide (a0.size < 1) = false := decide_eq_false (by omega)
   clear c3
   (first | rw [c3b0] | (simp only [i64_w,i32_w];rw [c3b0]) | skip)
   by_cases c4 : (a0.size : Int) > 40
   ·rw [if_pos c4] at H
    have c4b0 : decide (40 < (a0.size : Int)) = true := decide_eq_true c4
    have c4b1 : decide (40 < a0.size) = true := decide_eq_true (by omega)
    clear c4
    have H' := am_ H
    clear H
    go_wp2
    go_meet
    case rel => exact ⟨_,(true),(by first | rfl | (simp;done) | (simp [*];done)),H',⟨by first | omega | exact Nat.le_refl _⟩,by repeat (first | exact Drawn0.refl _ | apply Drawn0.step)⟩
   ·rw [if_neg c4] at H
    have c4b0 : decide (40 < (a0.size : Int)) = false := decide_eq_false c4
    have c4b1 : decide (40 < a0.size) = false := decide_eq_false (by omega)
    clear c4
    by_cases c5 : 0 < (a0.size : Int)
    ·rw [if_pos c5] at H
     have c5b0 : decide (0 < (a0.size : Int)) = true := decide_eq_true c5
     have c5b1 : decide (0 < a0.size) = true := decide_eq_true (by omega)
     clear c5
     replace H := Option.bind_eq_some_iff.mp H
     obtain ⟨t930,A70,H⟩ := H
     try dsimp only at H
     have A7 := am_ A70
     clear A70
     have H' := am_ H
     clear H
     have p6 : 0 ≤ (0 : Int) := (by omega)
     have q6 : 0 < a0.size := (by have : (0 : Int) < (a0.size : Int) := zo_;omega)
     have hx6 : ∀ h : 0 < a0.size,((a0[0]'h).toNat : Int) = bt a0 0 := bt_at a0 0
     clear p6
     have qi6 : (0 < (a0.size : Int)) = True := eq_true (zo_)
     replace q6 := eq_true q6
     go_wp2_with (first | (go_at_call 213;(with_reducible refine (spec_l00Letter.calls (bt a0 0) t930 _ A7.out).mono ?_);rintro e w' ⟨rfl,⟨nd,rfl⟩⟩))
     go_meet
     case rel => exact ⟨_,(!t930),(by first | rfl | (simp;done) | (simp [*];done)),H',⟨by first | omega | exact Nat.le_refl _⟩,by repeat (first | exact Drawn0.refl _ | apply Drawn0.step)⟩
    ·rw [if_neg c5] at H
     exact absurd H (by simp)
 case rest =>
  clear HC2
  try clear c2
  try clear p2
  try clear c3
  try clear c3b0
  try clear c3b1
  try clear c4
  try clear c4b0
  try clear c4b1
  try clear c5
  try clear c5b0
  try clear c5b1
  try clear p6
  try clear q6
  try clear hx6
  try clear qi6
  try clear p6
  try clear q6
  obtain ⟨kq,x17_1,rfl,HA,HJ1,⟨mc1,rfl⟩⟩ := hcut
  cases kq with
  | zero => exact absurd HA.out (by simp [spec_l00Word.j0])
  | succ kj1 =>
   have H := HA.out
   clear HA
   simp only [spec_l00Word.j0] at H
   by_cases c8 : x17_1 = true
   ·subst c8
    have H1 : (some false) = some r := by rw [if_pos rfl] at H;exact H
    clear H
    have H := H1
    clear H1
    obtain rfl := Option.some.inj H
    go_wp2
    go_ret
    exact ⟨by first | rfl | (simp;done) | (simp [*];done),by repeat (first | exact Drawn0.refl _ | apply Drawn0.step)⟩
   ·replace c8 := Bool.eq_false_iff.mpr c8
    subst c8
    have H1 : (spec_l00Word.l0 kj1 a0 1) = some r := by rw [if_neg (show ¬ (false = true) by decide)] at H;exact H
    clear H
    have H := H1
    clear H1
    have H' := am_ H
    clear H
    go_wp2
    go_loopg [3] kj1 (fun kq v3 w' => ∃ (x3_2 : Int),v3 = .int .i64 x3_2 ∧ Aside0 (spec_l00Word.l0 kq a0 x3_2 = some r) ∧ Aside0 (kq ≤ kj1) ∧ Drawn0 w w')
    case atStart => exact ⟨(1),(by first | rfl | (simp;done) | (simp [*];done)),H',⟨Nat.le_refl _⟩,by repeat (first | exact Drawn0.refl _ | apply Drawn0.step)⟩
    case round =>
     clear H'
     try clear c1
     try clear c2
     try clear p2
     try clear c3
     try clear c3b0
     try clear c3b1
     try clear c4
     try clear c4b0
     try clear c4b1
     try clear c5
     try clear c5b0
     try clear c5b1
     try clear p6
     try clear q6
     try clear hx6
     try clear qi6
     try clear c8
     try clear p2
     try clear p6
     try clear q6
     obtain ⟨x3_2,rfl,HA,HK2,⟨m2,rfl⟩⟩ := hrel
     cases gk with
     | zero => exact absurd HA.out (by simp [spec_l00Word.l0])
     | succ k2 =>
      have H := HA.out
      clear HA
      simp only [spec_l00Word.l0] at H
      by_cases c9 : x3_2 < (a0.size : Int)
      ·rw [if_pos c9] at H
       have c9b0 : decide (x3_2 < (a0.size : Int)) = true := decide_eq_true c9
       clear c9
       by_cases c10 : 0 ≤ x3_2
       ·rw [if_pos c10] at H
        have c10b0 : decide (0 ≤ x3_2) = true := decide_eq_true c10
        clear c10
        replace H := Option.bind_eq_some_iff.mp H
        obtain ⟨t931,A120,H⟩ := H
        try dsimp only at H
        have A12 := am_ A120
        clear A120
        by_cases c13 : t931 = true
        ·subst c13
         have H1 : (spec_l00Word.l0 k2 a0 (wrap64 (x3_2 + 1))) = some r := by rw [if_pos rfl] at H;exact H
         clear H
         have H := H1
         clear H1
         have H' := am_ H
         clear H
         have p11 : 0 ≤ (x3_2 : Int) := zo_
         have q11 : x3_2 < (a0.size : Int) := zo_
         have hx11 := bt_at a0 x3_2
         replace p11 := eq_true p11
         replace q11 := eq_true q11
         go_wp2_with (first | ((with_reducible refine gate_callee (f := 213) rfl ?_);refine zgl (some 27) Tryd.func213 #[.int .u8 (bt a0 x3_2)] ?_;(with_reducible refine (spec_l00Letter.calls (bt a0 x3_2) true _ A12.out).mono ?_);rintro e w' ⟨rfl,⟨nd,rfl⟩⟩;refine ⟨_,rfl,?_⟩))
         go_roundg k2
         case measure => have := HJ1.out;have := HK2.out;omega
         case rel => exact ⟨(wrap64 (x3_2 + 1)),(by first | rfl | (simp;done) | (simp [*];done)),H',⟨by have := HJ1.out;have := HK2.out;omega⟩,by repeat (first | exact Drawn0.refl _ | apply Drawn0.step)⟩
        ·replace c13 := Bool.eq_false_iff.mpr c13
         subst c13
         have H1 : ((spec_l00Digit.f (bt a0 x3_2)).bind fun t932 => (if t932 = true then (spec_l00Word.l0 k2 a0 (wrap64 (x3_2 + 1))) else (some false))) = some r := by rw [if_neg (show ¬ (false = true) by decide)] at H;exact H
         clear H
         have H := H1
         clear H1
         replace H := Option.bind_eq_some_iff.mp H
         obtain ⟨t932,A150,H⟩ := H
         try dsimp only at H
         have A15 := am_ A150
         clear A150
         by_cases c16 : t932 = true
         ·subst c16
          have H1 : (spec_l00Word.l0 k2 a0 (wrap64 (x3_2 + 1))) = some r := by rw [if_pos rfl] at H;exact H
          clear H
          have H := H1
          clear H1
          have H' := am_ H
          clear H
          have p11 : 0 ≤ (x3_2 : Int) := zo_
          have q11 : x3_2 < (a0.size : Int) := zo_
          have hx11 := bt_at a0 x3_2
          replace p11 := eq_true p11
          replace q11 := eq_true q11
          go_wp2_with (first | ((with_reducible refine gate_callee (f := 213) rfl ?_);refine zgl (some 27) Tryd.func213 #[.int .u8 (bt a0 x3_2)] ?_;(with_reducible refine (spec_l00Letter.calls (bt a0 x3_2) false _ A12.out).mono ?_);rintro e w' ⟨rfl,⟨nd,rfl⟩⟩;refine ⟨_,rfl,?_⟩;have p14 : 0 ≤ (x3_2 : Int) := zo_;have q14 : x3_2 < (a0.size : Int) := zo_;have hx14 := bt_at a0 x3_2;replace p14 := eq_true p14;replace q14 := eq_true q14) | (go_at_call 214;(with_reducible refine (spec_l00Digit.calls (bt a0 x3_2) true _ A15.out).mono ?_);rintro e w' ⟨rfl,⟨nd,rfl⟩⟩))
          go_roundg k2
          case measure => have := HJ1.out;have := HK2.out;omega
          case rel => exact ⟨(wrap64 (x3_2 + 1)),(by first | rfl | (simp;done) | (simp [*];done)),H',⟨by have := HJ1.out;have := HK2.out;omega⟩,by repeat (first | exact Drawn0.refl _ | apply Drawn0.step)⟩
         ·replace c16 := Bool.eq_false_iff.mpr c16
          subst c16
          have H1 : (some false) = some r := by rw [if_neg (show ¬ (false = true) by decide)] at H;exact H
          clear H
          have H := H1
          clear H1
          obtain rfl := Option.some.inj H
          have p11 : 0 ≤ (x3_2 : Int) := zo_
          have q11 : x3_2 < (a0.size : Int) := zo_
          have hx11 := bt_at a0 x3_2
          replace p11 := eq_true p11
          replace q11 := eq_true q11
          go_wp2_with (first | ((with_reducible refine gate_callee (f := 213) rfl ?_);refine zgl (some 27) Tryd.func213 #[.int .u8 (bt a0 x3_2)] ?_;(with_reducible refine (spec_l00Letter.calls (bt a0 x3_2) false _ A12.out).mono ?_);rintro e w' ⟨rfl,⟨nd,rfl⟩⟩;refine ⟨_,rfl,?_⟩;have p14 : 0 ≤ (x3_2 : Int) := zo_;have q14 : x3_2 < (a0.size : Int) := zo_;have hx14 := bt_at a0 x3_2;replace p14 := eq_true p14;replace q14 := eq_true q14) | (go_at_call 214;(with_reducible refine (spec_l00Digit.calls (bt a0 x3_2) false _ A15.out).mono ?_);rintro e w' ⟨rfl,⟨nd,rfl⟩⟩))
          go_ret
          exact ⟨by first | rfl | (simp;done) | (simp [*];done),by repeat (first | exact Drawn0.refl _ | apply Drawn0.step)⟩
       ·rw [if_neg c10] at H
        exact absurd H (by simp)
      ·rw [if_neg c9] at H
       have c9b0 : decide (x3_2 < (a0.size : Int)) = false := decide_eq_false c9
       clear c9
       obtain rfl := Option.some.inj H
       go_wp2
       go_ret
       exact ⟨by first | rfl | (simp;done) | (simp [*];done),by repeat (first | exact Drawn0.refl _ | apply Drawn0.step)⟩
set_option maxHeartbeats 8000000 in
set_option maxRecDepth 100000 in
theorem spec_NameOK.calls (k : Nat) (a0 : ByteArray) (r : Bool) (w : World) (h : spec_NameOK.f k a0 = some r) :
  Calls Tryd.prog 179 #[.string a0] w fun e w' => e = .returned (.bool r) ∧ Drawn0 w w' := by
 have H : ((spec_l00Word.f k a0).bind fun t933 => (some t933)) = some r := h
 clear h
 replace H := Option.bind_eq_some_iff.mp H
 obtain ⟨t933,A20,H⟩ := H
 try dsimp only at H
 have A2 := am_ A20
 clear A20
 obtain rfl := Option.some.inj H
 go_enter Tryd.func179,Tryd.ntmps179
 go_wp2_with (first | ((with_reducible refine gate_callee (f := 200) rfl ?_);refine zgl (some 4) Tryd.func200 #[.string a0] ?_;(with_reducible refine (spec_l00Word.calls k a0 t933 _ A2.out).mono ?_);rintro e w' ⟨rfl,⟨nd,rfl⟩⟩;refine ⟨_,rfl,?_⟩))
 go_ret
 exact ⟨by first | rfl | (simp;done) | (simp [*];done),by repeat (first | exact Drawn0.refl _ | apply Drawn0.step)⟩
set_option maxHeartbeats 8000000 in
set_option maxRecDepth 100000 in
theorem spec_l02Text.calls (k : Nat) (a0 : ByteArray) (a1 : Int) (r : Bool) (w : World) (h : spec_l02Text.f k a0 a1 = some r) :
  Calls Tryd.prog 136 #[.string a0,.int .i64 a1] w fun e w' => e = .returned (.bool r) ∧ Drawn0 w w' := by
 have H : ((spec_l01In.f (a0.size : Int) 1 a1).bind fun t934 => (if t934 = true then ((spec_NameOK.f k a0).bind fun t935 => (some t935)) else (some false))) = some r := h
 clear h
 replace H := Option.bind_eq_some_iff.mp H
 obtain ⟨t934,A30,H⟩ := H
 try dsimp only at H
 have A3 := am_ A30
 clear A30
 by_cases c4 : t934 = true
 ·subst c4
  have H1 : ((spec_NameOK.f k a0).bind fun t935 => (some t935)) = some r := by rw [if_pos rfl] at H;exact H
  clear H
  have H := H1
  clear H1
  replace H := Option.bind_eq_some_iff.mp H
  obtain ⟨t935,A50,H⟩ := H
  try dsimp only at H
  have A5 := am_ A50
  clear A50
  obtain rfl := Option.some.inj H
  go_enter Tryd.func136,Tryd.ntmps136
  go_wp2_with (first | ((with_reducible refine gate_callee (f := 53) rfl ?_);refine zgl (some 8) Tryd.func53 #[.int .i64 (a0.size : Int),.int .i64 1,.int .i64 a1] ?_;(with_reducible refine (spec_l01In.calls (a0.size : Int) 1 a1 true _ A3.out).mono ?_);rintro e w' ⟨rfl,⟨nd,rfl⟩⟩;refine ⟨_,rfl,?_⟩) | (go_at_call 179;(with_reducible refine (spec_NameOK.calls k a0 t935 _ A5.out).mono ?_);rintro e w' ⟨rfl,⟨nd,rfl⟩⟩))
  go_ret
  exact ⟨by first | rfl | (simp;done) | (simp [*];done),by repeat (first | exact Drawn0.refl _ | apply Drawn0.step)⟩
 ·replace c4 := Bool.eq_false_iff.mpr c4
  subst c4
  have H1 : (some false) = some r := by rw [if_neg (show ¬ (false = true) by decide)] at H;exact H
  clear H
  have H := H1
  clear H1
  obtain rfl := Option.some.inj H
  go_enter Tryd.func136,Tryd.ntmps136
  go_wp2_with (first | ((with_reducible refine gate_callee (f := 53) rfl ?_);refine zgl (some 8) Tryd.func53 #[.int .i64 (a0.size : Int),.int .i64 1,.int .i64 a1] ?_;(with_reducible refine (spec_l01In.calls (a0.size : Int) 1 a1 false _ A3.out).mono ?_);rintro e w' ⟨rfl,⟨nd,rfl⟩⟩;refine ⟨_,rfl,?_⟩))
  go_ret
  exact ⟨by first | rfl | (simp;done) | (simp [*];done),by repeat (first | exact Drawn0.refl _ | apply Drawn0.step)⟩
set_option maxHeartbeats 8000000 in
set_option maxRecDepth 100000 in
theorem spec_GrantOK.calls (k : Nat) (a0_0 : ByteArray) (a0_1 : Int) (a0_2 : Int) (a0_3 : Int) (r : Bool) (w : World) (h : spec_GrantOK.f k a0_0 a0_1 a0_2 a0_3 = some r) :
  Calls Tryd.prog 81 #[.agg #[.string a0_0,.int .i64 a0_1,.int .i64 a0_2,.int .i64 a0_3]] w fun e w' => e = .returned (.bool r) ∧ Below w.heap.size w w' := by
 have hu59 := Tryd.underlying59
 have HB := am_ (Below.refl w.heap.size w)
 have H : ((spec_l02Text.f k a0_0 12).bind fun t937 => (if t937 = true then ((spec_l01In.f a0_1 0 255).bind fun t938 => (if t938 = true then ((spec_l01In.f a0_2 1 1000000).bind fun t939 => (if t939 = true then ((spec_l01In.f a0_3 0 2000000000).bind fun t940 => (some t940)) else (some false))) else (some false))) else (some false))) = some r := h
 clear h
 replace H := Option.bind_eq_some_iff.mp H
 obtain ⟨t937,A20,H⟩ := H
 try dsimp only at H
 have A2 := am_ A20
 clear A20
 by_cases c3 : t937 = true
 ·subst c3
  have H1 : ((spec_l01In.f a0_1 0 255).bind fun t938 => (if t938 = true then ((spec_l01In.f a0_2 1 1000000).bind fun t939 => (if t939 = true then ((spec_l01In.f a0_3 0 2000000000).bind fun t940 => (some t940)) else (some false))) else (some false))) = some r := by rw [if_pos rfl] at H;exact H
  clear H
  have H := H1
  clear H1
  replace H := Option.bind_eq_some_iff.mp H
  obtain ⟨t938,A40,H⟩ := H
  try dsimp only at H
  have A4 := am_ A40
  clear A40
  by_cases c5 : t938 = true
  ·subst c5
   have H1 : ((spec_l01In.f a0_2 1 1000000).bind fun t939 => (if t939 = true then ((spec_l01In.f a0_3 0 2000000000).bind fun t940 => (some t940)) else (some false))) = some r := by rw [if_pos rfl] at H;exact H
   clear H
   have H := H1
   clear H1
   replace H := Option.bind_eq_some_iff.mp H
   obtain ⟨t939,A60,H⟩ := H
   try dsimp only at H
   have A6 := am_ A60
   clear A60
   by_cases c7 : t939 = true
   ·subst c7
    have H1 : ((spec_l01In.f a0_3 0 2000000000).bind fun t940 => (some t940)) = some r := by rw [if_pos rfl] at H;exact H
    clear H
    have H := H1
    clear H1
    replace H := Option.bind_eq_some_iff.mp H
    obtain ⟨t940,A80,H⟩ := H
    try dsimp only at H
    have A8 := am_ A80
    clear A80
    obtain rfl := Option.some.inj H
    go_enter Tryd.func81,Tryd.ntmps81
    go_wp2_with (first | ((with_reducible refine gate_dst (N := 1) rfl ?_);refine zbx (N := 1) (cs := #[.string a0_0,.int .i64 a0_1,.int .i64 a0_2,.int .i64 a0_3]) (t := 59) ?_;intro gb936 hg w9 hbox hb;have BK936 := am_ (hbox);have GW936 := zw_ HB hg;have GE936 := zw_ HB hg;replace HB := zs_ HB hb;clear hb hbox hg;obtain ⟨hcz10_0,hcz10_1,hcz10_2,hcz10_3,hfz10_0,hfz10_1,hfz10_2,hfz10_3⟩ := zc4 BK936) | ((with_reducible refine gate_callee (f := 136) rfl ?_);refine zgl (some 5) Tryd.func136 #[.string a0_0,.int .i64 12] ?_;(with_reducible refine (spec_l02Text.calls k a0_0 12 true _ A2.out).mono ?_);rintro e w' ⟨rfl,⟨nd,rfl⟩⟩;refine ⟨_,rfl,?_⟩) | (go_at_call 53;(with_reducible refine (spec_l01In.calls a0_1 0 255 true _ A4.out).mono ?_);rintro e w' ⟨rfl,⟨nd,rfl⟩⟩) | (go_at_call 53;(with_reducible refine (spec_l01In.calls a0_2 1 1000000 true _ A6.out).mono ?_);rintro e w' ⟨rfl,⟨nd,rfl⟩⟩) | (go_at_call 53;(with_reducible refine (spec_l01In.calls a0_3 0 2000000000 t940 _ A8.out).mono ?_);rintro e w' ⟨rfl,⟨nd,rfl⟩⟩))
    go_ret
    exact ⟨zt_,zl_ HB⟩
   ·replace c7 := Bool.eq_false_iff.mpr c7
    subst c7
    have H1 : (some false) = some r := by rw [if_neg (show ¬ (false = true) by decide)] at H;exact H
    clear H
    have H := H1
    clear H1
    obtain rfl := Option.some.inj H
    go_enter Tryd.func81,Tryd.ntmps81
    go_wp2_with (first | ((with_reducible refine gate_dst (N := 1) rfl ?_);refine zbx (N := 1) (cs := #[.string a0_0,.int .i64 a0_1,.int .i64 a0_2,.int .i64 a0_3]) (t := 59) ?_;intro gb936 hg w11 hbox hb;have BK936 := am_ (hbox);have GW936 := zw_ HB hg;have GE936 := zw_ HB hg;replace HB := zs_ HB hb;clear hb hbox hg;obtain ⟨hcz12_0,hcz12_1,hcz12_2,hcz12_3,hfz12_0,hfz12_1,hfz12_2,hfz12_3⟩ := zc4 BK936) | ((with_reducible refine gate_callee (f := 136) rfl ?_);refine zgl (some 5) Tryd.func136 #[.string a0_0,.int .i64 12] ?_;(with_reducible refine (spec_l02Text.calls k a0_0 12 true _ A2.out).mono ?_);rintro e w' ⟨rfl,⟨nd,rfl⟩⟩;refine ⟨_,rfl,?_⟩) | (go_at_call 53;(with_reducible refine (spec_l01In.calls a0_1 0 255 true _ A4.out).mono ?_);rintro e w' ⟨rfl,⟨nd,rfl⟩⟩) | (go_at_call 53;(with_reducible refine (spec_l01In.calls a0_2 1 1000000 false _ A6.out).mono ?_);rintro e w' ⟨rfl,⟨nd,rfl⟩⟩))
    go_ret
    exact ⟨zt_,zl_ HB⟩
  ·replace c5 := Bool.eq_false_iff.mpr c5
   subst c5
   have H1 : (some false) = some r := by rw [if_neg (show ¬ (false = true) by decide)] at H;exact H
   clear H
   have H := H1
   clear H1
   obtain rfl := Option.some.inj H
   go_enter Tryd.func81,Tryd.ntmps81
   go_wp2_with (first | ((with_reducible refine gate_dst (N := 1) rfl ?_);refine zbx (N := 1) (cs := #[.string a0_0,.int .i64 a0_1,.int .i64 a0_2,.int .i64 a0_3]) (t := 59) ?_;intro gb936 hg w13 hbox hb;have BK936 := am_ (hbox);have GW936 := zw_ HB hg;have GE936 := zw_ HB hg;replace HB := zs_ HB hb;clear hb hbox hg;obtain ⟨hcz14_0,hcz14_1,hcz14_2,hcz14_3,hfz14_0,hfz14_1,hfz14_2,hfz14_3⟩ := zc4 BK936) | ((with_reducible refine gate_callee (f := 136) rfl ?_);refine zgl (some 5) Tryd.func136 #[.string a0_0,.int .i64 12] ?_;(with_reducible refine (spec_l02Text.calls k a0_0 12 true _ A2.out).mono ?_);rintro e w' ⟨rfl,⟨nd,rfl⟩⟩;refine ⟨_,rfl,?_⟩) | (go_at_call 53;(with_reducible refine (spec_l01In.calls a0_1 0 255 false _ A4.out).mono ?_);rintro e w' ⟨rfl,⟨nd,rfl⟩⟩))
   go_ret
   exact ⟨zt_,zl_ HB⟩
 ·replace c3 := Bool.eq_false_iff.mpr c3
  subst c3
  have H1 : (some false) = some r := by rw [if_neg (show ¬ (false = true) by decide)] at H;exact H
  clear H
  have H := H1
  clear H1
  obtain rfl := Option.some.inj H
  go_enter Tryd.func81,Tryd.ntmps81
  go_wp2_with (first | ((with_reducible refine gate_dst (N := 1) rfl ?_);refine zbx (N := 1) (cs := #[.string a0_0,.int .i64 a0_1,.int .i64 a0_2,.int .i64 a0_3]) (t := 59) ?_;intro gb936 hg w15 hbox hb;have BK936 := am_ (hbox);have GW936 := zw_ HB hg;have GE936 := zw_ HB hg;replace HB := zs_ HB hb;clear hb hbox hg;obtain ⟨hcz16_0,hcz16_1,hcz16_2,hcz16_3,hfz16_0,hfz16_1,hfz16_2,hfz16_3⟩ := zc4 BK936) | ((with_reducible refine gate_callee (f := 136) rfl ?_);refine zgl (some 5) Tryd.func136 #[.string a0_0,.int .i64 12] ?_;(with_reducible refine (spec_l02Text.calls k a0_0 12 false _ A2.out).mono ?_);rintro e w' ⟨rfl,⟨nd,rfl⟩⟩;refine ⟨_,rfl,?_⟩))
  go_ret
  exact ⟨zt_,zl_ HB⟩
end Go.Proofs.YtadablpppkjdbaaDoor.B
end

section
namespace Go.Proofs.YtadablpppkjdbaaDoor.B
open Go.RowKit Go.Proofs.YtadablpppkjdbaaDoorW.PrintWords Go.Proofs.YtadablpppkjdbaaDoorW.PrintLast Go.Proofs.YtadablpppkjdbaaDoorW.PrintMore
theorem Au.of_R {W : World} {base g n cap e : Nat} {ok : Nat → Prop} {xs : List Int} (h : Kd.R (Kd.int .u32) e W base ok (.slice (some ⟨g, 0, none⟩) n cap) xs) : Au W g xs := by
  have hn := (Kd.R_reads' h).1
  refine ⟨fun j hj => ?_, fun j hj => ?_⟩
  · have := (Kd.R_celln 0 h (j : Int) (by omega) (by omega)).1
    simpa [rdOf] using this
  · have := (Kd.R_celln 0 h (j : Int) (by omega) (by omega)).2
    simpa using this
theorem C_cells {k : IntKind} {W : World} {A : Option Addr} {n : Nat} {xs : List Int} (h : Kd.C (Kd.int k) W A n xs) (hn : 0 < n) : ∃ ad, A = some ad ∧ ∀ j, j < n → W.cell? (ad.add j) = some (.int k (xs.getD j 0)) := by
  obtain ⟨ad, e, c⟩ := Kd.at_int h 0 (by decide) (by omega)
  refine ⟨ad, e, fun j hj => ?_⟩
  obtain ⟨ad2, e2, c2⟩ := Kd.at_int h (j : Int) (by omega) (by omega)
  obtain rfl : ad = ad2 := Option.some.inj (e.symm.trans e2)
  simpa [rd] using c2
structure Sk (w W : World) (n gw : Nat) (lw : List Int) : Prop where
  hw : Au W gw lw
  mine : n ≤ gw
  lt : gw < W.heap.size
  below : Below n w W
theorem Sk.drew {w W : World} {n gw : Nat} {lw : List Int} (h : Sk w W n gw lw) : Sk w W.drew n gw lw := ⟨h.hw.drew, h.mine, h.lt, below_drew_h h.below⟩
theorem Sk.word {w W : World} {n gw : Nat} {lw : List Int} (h : Sk w W n gw lw) (j : Nat) (hj : j < lw.length) (x : Int) : Sk w (W.setCell ⟨gw, j, none⟩ (.int .u32 x)) n gw (lw.set j x) :=
  ⟨h.hw.set j hj x, h.mine, by simpa [World.setCell] using h.lt, below_set_h h.below h.mine⟩
structure Sv (w W : World) (n gw gv : Nat) (lw la : List Int) : Prop where
  hw : Au W gw lw
  ha : Au W gv la
  mw : n ≤ gw
  mv : n ≤ gv
  tw : gw < W.heap.size
  tv : gv < W.heap.size
  below : Below n w W
theorem Sv.drew {w W : World} {n gw gv : Nat} {lw la : List Int} (h : Sv w W n gw gv lw la) : Sv w W.drew n gw gv lw la := ⟨h.hw.drew, h.ha.drew, h.mw, h.mv, h.tw, h.tv, below_drew_h h.below⟩
theorem Sv.lit {w W : World} {n gw gv : Nat} {lw la : List Int} (h : Sv w W n gw gv lw la) (l : List Int) (t : Nat) : Sv w (W.alloc (.cells (l.map (Value.int .u32)).toArray t)) n gw W.heap.size lw l := by
  have h1 := h.tw
  have h2 := h.mw
  have hs := alloc_sz W (.cells (l.map (Value.int .u32)).toArray t)
  have e : ∀ k, k < W.heap.size → (W.alloc (.cells (l.map (Value.int .u32)).toArray t)).heap[k]? = W.heap[k]? := fun k hk => by rw [alloc_at, if_neg (by omega)]
  refine ⟨h.hw.at (e _ h.tw), Au.of_row (e := t) _ ?_, h.mw, by omega, by omega, by omega, ⟨h.below.os, h.below.tape, h.below.output, by have := h.below.size; omega, fun k hk => (e k (by omega)).trans (h.below.block k hk)⟩⟩
  rw [alloc_at, if_pos rfl]
/-- The copy of the eight words. -/
theorem append8 {P : Program} {ops : Array Oper} {rest : List Oper} {o : Oper} {a : Act} {Q : Exit → Act → World → Prop} {w W : World} {n gw g g0 c0 : Nat} {lw l0 : List Int} (t e : TypeId) (hgd : o.guard = none) (s x : Operand)
    (ho : o.op = .call { callee := .builtin .append, args := #[s, x], argTypes := #[t, t] }) (ht : P.underlying t = some (.slice e)) (hinfo : (P.info? e).map (fun i => (i.zero, i.size, i.bytes)) = some (some (.int .u32 0), 1, 4))
    (hs : a.eval s = .slice (some ⟨g, 0, none⟩) 0 0) (hx : a.eval x = .slice (some ⟨g0, 0, none⟩) 8 c0) (hl0 : l0.length = 8) (hc : Au W g0 l0) (F : Sk w W n gw lw)
    (h : ∀ gv cv w1, Sv w w1 n gw gv lw l0 → wpList P ops Q rest (a.put o.dst (.slice (some ⟨gv, 0, none⟩) 8 cv)) w1) : wpList P ops Q (o :: rest) a W := by
  obtain ⟨i, hi, hzz⟩ := Option.map_eq_some_iff.1 hinfo
  simp only [Prod.mk.injEq] at hzz
  obtain ⟨hz, hs1, hb1⟩ := hzz
  have hnl : (l0.map (Value.int .u32)).length = 8 := by simp [hl0]
  have h48' : ¬ (281474976710656 < Builtin.nextslicecap 8 0 * i.bytes) := by rw [hb1]; decide
  have hf0 := run_firstCells_some (P := P) W.drew 1 0 ⟨g, 0, none⟩ 0 0 [] rfl (fun j v hj => by simp at hj)
  have hf8 := run_firstCells_some (P := P) W.drew 1 8 ⟨g0, 0, none⟩ 8 c0 (l0.map (Value.int .u32)) (by simp [hl0]) (fun j v hj => by
    rw [add_plain]
    have hjl : j < l0.length := by
      have := (List.getElem?_eq_some_iff.1 hj).1
      omega
    have := hc.cell j hjl
    simp only [List.getElem?_map, List.getElem?_eq_getElem hjl, Option.map_some, Option.some.injEq] at hj
    subst hj
    simpa [List.getD, hjl] using this)
  have hzc : (Value.int .u32 0).cells = #[.int .u32 0] := rfl
  have hr : (Builtin.append_ #[t, t] o.type #[.slice (some ⟨g, 0, none⟩) 0 0, .slice (some ⟨g0, 0, none⟩) 8 c0]).run P W = .ok (.slice (some ⟨W.heap.size, 0, none⟩) 8 (grownCap W 8 0 e))
      (W.drew.alloc (.cells ((l0.map (Value.int .u32)).toArray ++ Builtin.zeroCells #[.int .u32 0] (grownCap W 8 0 e - 8)) e)) := by
    rw [← hs1] at hf0 hf8
    simp [Builtin.append_, run_underlying ht, sizeOf, typeInfo, zeroValue, hi, hz, Builtin.lenOf, h48', Question.forced, hf0, hf8, newRow, grownCap, hzc]
  refine wpList_plain hgd fun K hK => ?_
  unfold Oper.wp execOp
  simp only [ho, resolve, invoke, builtin, Sem.run_bind, Sem.run_pure, Result.andThen_ok, List.map_toArray, List.map_cons, List.map_nil, hs, hx, hr]
  refine hK _ _ (h _ _ _ ?_)
  have h1 := F.lt
  have h2 := F.mine
  have hsz : (W.drew.alloc (.cells ((l0.map (Value.int .u32)).toArray ++ Builtin.zeroCells #[.int .u32 0] (grownCap W 8 0 e - 8)) e)).heap.size = W.heap.size + 1 := alloc_sz _ _
  have e2 : ∀ k, k < W.heap.size → (W.drew.alloc (.cells ((l0.map (Value.int .u32)).toArray ++ Builtin.zeroCells #[.int .u32 0] (grownCap W 8 0 e - 8)) e)).heap[k]? = W.heap[k]? := fun k hk => by
    rw [alloc_at, if_neg (by show ¬ k = W.heap.size; omega)]
    rfl
  have e3 : (W.drew.alloc (.cells ((l0.map (Value.int .u32)).toArray ++ Builtin.zeroCells #[.int .u32 0] (grownCap W 8 0 e - 8)) e)).heap[W.heap.size]? = some (.cells ((l0.map (Value.int .u32)).toArray ++ Builtin.zeroCells #[.int .u32 0] (grownCap W 8 0 e - 8)) e) := by
    rw [alloc_at, if_pos (by rfl)]
  refine ⟨F.hw.at (e2 _ F.lt), ⟨fun j hj => ?_, fun j hj => ?_⟩, F.mine, by omega, by omega, by omega, ⟨F.below.os, F.below.tape, F.below.output, by rw [hsz]; have := F.below.size; omega, fun k hk => (e2 k (by omega)).trans (F.below.block k hk)⟩⟩
  · unfold World.cell?
    rw [e3]
    have hj2 : j < (l0.map (Value.int .u32)).toArray.size := by simpa using hj
    simp only [Option.isSome_none, Bool.false_eq_true, if_false]
    rw [Array.getElem?_append_left hj2]
    simp [List.getD, hj]
  · unfold World.frozen?
    rw [e3]
    simp
/-- The last loop: the state that came in is written. -/
structure St (w0 w W : World) (S : Nat → Prop) (g0 c0 gv : Nat) (lh la : List Int) : Prop where
  hr : Kd.R (Kd.int .u32) 153 W w0.heap.size S (.slice (some ⟨g0, 0, none⟩) 8 c0) lh
  ha : Au W gv la
  ne : gv ≠ g0
  below : Below w0.heap.size w0 W
  kept : Kept w W S
theorem St.drew {w0 w W : World} {S : Nat → Prop} {g0 c0 gv : Nat} {lh la : List Int} (h : St w0 w W S g0 c0 gv lh la) : St w0 w W.drew S g0 c0 gv lh la :=
  ⟨Kd.R_drew h.hr, h.ha.drew, h.ne, below_drew_h h.below, h.kept.drew⟩
theorem St.set {w0 w W : World} {S : Nat → Prop} {g0 c0 gv : Nat} {lh la : List Int} (h : St w0 w W S g0 c0 gv lh la) (j : Nat) (x : Int) : St w0 w (W.setCell ⟨g0, j, none⟩ (.int .u32 x)) S g0 c0 gv (lh.set j x) la := by
  have hp := Kd.R_putn h.hr (j : Int) x
  rw [Int.toNat_natCast] at hp
  exact ⟨hp, h.ha.far h.ne j _, h.ne, below_set_h h.below (Kd.R_base h.hr _ rfl), h.kept.setCell (p := ⟨g0, j, none⟩) (.inl (h.hr.1 _ rfl)) _⟩
set_option maxHeartbeats 4000000 in
set_option maxRecDepth 100000 in
theorem sblock_walk (S : Nat → Prop) (g0 c0 : Nat) (l0 l1 l2 r : List Int) (ad1 ad2 : Addr) (c1 c2 : Nat) (w0 w : World) (hB : Below w0.heap.size w0 w) (ho0 : Kd.R (Kd.int .u32) 153 w w0.heap.size S (.slice (some ⟨g0, 0, none⟩) 8 c0) l0)
    (hr1 : ∀ W, Kept w W S → ∀ j, j < 64 → W.cell? (ad1.add j) = some (.int .u8 (l1.getD j 0))) (hr2 : ∀ W, Kept w W S → ∀ j, j < 64 → W.cell? (ad2.add j) = some (.int .u32 (l2.getD j 0)))
    (h0 : l0.length = 8) (h1 : l1.length = 64) (h2 : l2.length = 64) (hc1 : 64 ≤ c1) (hc2 : 64 ≤ c2) (H : spec_l01Block.v l0 l1 l2 = some r) :
    Calls Tryd.prog 171 #[.slice (some ⟨g0, 0, none⟩) 8 c0, .slice (some ad1) 64 c1, .slice (some ad2) 64 c2] w fun e w' => e = .returned (.tuple #[]) ∧ Kd.R (Kd.int .u32) 153 w' w0.heap.size S (.slice (some ⟨g0, 0, none⟩) 8 c0) r ∧ Below w0.heap.size w0 w' ∧ Kept w w' S := by
  have H0 := Aside0.mk (start0 _ _ _ _ H)
  have HR1 := Aside0.mk hr1
  have HR2 := Aside0.mk hr2
  have HO := Aside0.mk ho0
  have HB := Aside0.mk hB
  have HL := Aside0.mk (And.intro h0 (And.intro h1 h2))
  clear H hr1 hr2 ho0 hB h0 h1 h2
  go_enter Tryd.func171, Tryd.ntmps171
  go_wp2_with (first | ((with_reducible refine gate_dst (N := 18) rfl ?_); refine Kd.R_make (Kd.int .u32) _ 153 rfl (N := 18) rfl 178 _ _ rfl 64 rfl rfl Tryd.underlying178 (.int .u32 0) 4 info153 rfl (by decide) (by omega) 0 (ok := fun _ => True) (okp := fun _ => True) rfl (fun _ hk => hk) trivial (by omega) (by omega) (Below.refl _ _) (Nat.le_refl _) ?_; intro v1 w1 ho hb hg_ hnew_; clear hg_ hnew_; simp only [Int.reduceToNat] at ho; obtain ⟨gw, cw, rfl, hbase, hlt, -⟩ := Kd.R_form ho (by simp); rw [List.length_replicate] at ho ⊢; have hcw := (Kd.R_reads' ho).2.1; have F := Aside0.mk (Sk.mk (Au.of_R ho) hbase hlt hb); clear ho hb hbase hlt))
  obtain ⟨hl0, hl1, hl2⟩ := HL.out
  go_loopg [7] 16 (fun gg v7 wr => ∃ (i : Nat) (ws : List Int), i ≤ 16 ∧ gg + i = 16 ∧ v7 = .int .i64 (i : Int) ∧ ws.length = 64 ∧ Aside0 (spec_l01Block.lv0 l0 l1 l2 ws (i : Int) = some r) ∧ Aside0 (Sk w wr w.heap.size gw ws))
  case atStart => exact ⟨0, _, by omega, rfl, rfl, List.length_replicate, H0, F⟩
  case round =>
    clear F H0
    obtain ⟨i, ws, hi, hg, rfl, hws, H0, F⟩ := hrel
    by_cases hlt : i < 16
    · have c1 : ((i : Int) < 16) := by omega
      have hk := Kept.of_below F.out.below S
      obtain ⟨q0, hq0⟩ : ∃ q, q = 4 * i := ⟨_, rfl⟩
      obtain ⟨q1, hq1⟩ : ∃ q, q = 4 * i + 1 := ⟨_, rfl⟩
      obtain ⟨q2, hq2⟩ : ∃ q, q = 4 * i + 2 := ⟨_, rfl⟩
      obtain ⟨q3, hq3⟩ : ∃ q, q = 4 * i + 3 := ⟨_, rfl⟩
      have w0 : IntKind.i64.wrap (4 * (i : Int)) = (q0 : Int) := (w64id _ (by omega) (by omega)).trans (by omega)
      have w1 : IntKind.i64.wrap ((q0 : Int) + 1) = (q1 : Int) := by clear w0; exact (w64id _ (by omega) (by omega)).trans (by omega)
      have w2 : IntKind.i64.wrap ((q0 : Int) + 2) = (q2 : Int) := by clear w0 w1; exact (w64id _ (by omega) (by omega)).trans (by omega)
      have w3 : IntKind.i64.wrap ((q0 : Int) + 3) = (q3 : Int) := by clear w0 w1 w2; exact (w64id _ (by omega) (by omega)).trans (by omega)
      have b0 := HR1.out wr hk q0 (by clear w0 w1 w2 w3; omega)
      have b1 := HR1.out wr hk q1 (by clear w0 w1 w2 w3; omega)
      have b2 := HR1.out wr hk q2 (by clear w0 w1 w2 w3; omega)
      have b3 := HR1.out wr hk q3 (by clear w0 w1 w2 w3; omega)
      have e0 : (q0 : Int) < 64 := by clear w0 w1 w2 w3; omega
      have e1 : (q1 : Int) < 64 := by clear w0 w1 w2 w3; omega
      have e2 : (q2 : Int) < 64 := by clear w0 w1 w2 w3; omega
      have e3 : (q3 : Int) < 64 := by clear w0 w1 w2 w3; omega
      have ei : (i : Int) < 64 := by clear w0 w1 w2 w3; omega
      have g4 : i < ws.length := by clear w0 w1 w2 w3; omega
      have z0 := F.out.hw.cell i g4
      have z1 := F.out.hw.free i g4
      have H1 := Aside0.mk (step0 _ _ _ _ _ _ hl1 hws hlt H0.out)
      rw [← hq1, ← hq2, ← hq3, ← hq0] at H1
      generalize hx0 : l1.getD q0 0 = x0 at b0 H1
      generalize hx1 : l1.getD q1 0 = x1 at b1 H1
      generalize hx2 : l1.getD q2 0 = x2 at b2 H1
      generalize hx3 : l1.getD q3 0 = x3 at b3 H1
      generalize ws.getD i 0 = xi at z0
      clear hq0 hq1 hq2 hq3 hx0 hx1 hx2 hx3 hk H0
      go_wp2
      go_still_tail 36, (by kernel_rfl)
      change wpList _ _ _ _ _ wr.drew
      have z2 : wr.drew.cell? ⟨gw, i, none⟩ = some (.int .u32 xi) := z0
      have z3 : wr.drew.frozen? ⟨gw, i, none⟩ = false := z1
      have F2 := Aside0.mk (F.out.drew.word i g4 (word4 x0 x1 x2 x3))
      generalize wr.drew = w4 at z2 z3 F2 ⊢
      clear z0 z1 b0 b1 b2 b3 F
      go_wp2
      go_roundg (16 - (i + 1))
      case measure => omega
      case rel => exact ⟨i + 1, _, by omega, by omega, by go_num, by rw [List.length_set]; exact hws, H1, F2⟩
    · have hlt2 : ¬ ((i : Int) < 16) := by omega
      have H1 := Aside0.mk (exit0 _ _ _ _ _ _ hlt2 H0.out)
      clear H0
      go_wp2
      go_loopg [8] 48 (fun gg v8 wr => ∃ (i : Nat) (ws : List Int), i ≤ 64 ∧ 16 ≤ i ∧ gg + i = 64 ∧ v8 = .int .i64 (i : Int) ∧ ws.length = 64 ∧ Aside0 (spec_l01Block.lv1 l0 l2 ws (i : Int) = some r) ∧ Aside0 (Sk w wr w.heap.size gw ws))
      case atStart => exact ⟨16, ws, by omega, by omega, rfl, rfl, hws, H1, F⟩
      case round =>
        clear F H1 hlt2 hlt hi hws
        obtain ⟨i, ws, hi, h16, hg, rfl, hws, H0, F⟩ := hrel
        by_cases hlt : i < 64
        · have c1 : ((i : Int) < 64) := by omega
          obtain ⟨q0, hq0⟩ : ∃ q, q = i - 16 := ⟨_, rfl⟩
          obtain ⟨q1, hq1⟩ : ∃ q, q = i - 15 := ⟨_, rfl⟩
          obtain ⟨q2, hq2⟩ : ∃ q, q = i - 7 := ⟨_, rfl⟩
          obtain ⟨q3, hq3⟩ : ∃ q, q = i - 2 := ⟨_, rfl⟩
          have w0 : IntKind.i64.wrap ((i : Int) - 16) = (q0 : Int) := (w64id _ (by omega) (by omega)).trans (by omega)
          have w1 : IntKind.i64.wrap ((i : Int) - 15) = (q1 : Int) := by clear w0; exact (w64id _ (by omega) (by omega)).trans (by omega)
          have w2 : IntKind.i64.wrap ((i : Int) - 7) = (q2 : Int) := by clear w0 w1; exact (w64id _ (by omega) (by omega)).trans (by omega)
          have w3 : IntKind.i64.wrap ((i : Int) - 2) = (q3 : Int) := by clear w0 w1 w2; exact (w64id _ (by omega) (by omega)).trans (by omega)
          have g0 : q0 < ws.length := by clear w0 w1 w2 w3; omega
          have g1 : q1 < ws.length := by clear w0 w1 w2 w3; omega
          have g2 : q2 < ws.length := by clear w0 w1 w2 w3; omega
          have g3 : q3 < ws.length := by clear w0 w1 w2 w3; omega
          have g4 : i < ws.length := by clear w0 w1 w2 w3; omega
          have b0 := F.out.hw.cell q0 g0
          have b1 := F.out.hw.cell q1 g1
          have b2 := F.out.hw.cell q2 g2
          have b3 := F.out.hw.cell q3 g3
          have e0 : (q0 : Int) < 64 := by clear w0 w1 w2 w3; omega
          have e1 : (q1 : Int) < 64 := by clear w0 w1 w2 w3; omega
          have e2 : (q2 : Int) < 64 := by clear w0 w1 w2 w3; omega
          have e3 : (q3 : Int) < 64 := by clear w0 w1 w2 w3; omega
          have z0 := F.out.hw.cell i g4
          have z1 := F.out.hw.free i g4
          have H1 := Aside0.mk (step1 _ _ _ _ _ hws h16 hlt H0.out)
          rw [← hq0, ← hq1, ← hq2, ← hq3] at H1
          generalize hx0 : ws.getD q0 0 = x0 at b0 H1
          generalize hx1 : ws.getD q1 0 = x1 at b1 H1
          generalize hx2 : ws.getD q2 0 = x2 at b2 H1
          generalize hx3 : ws.getD q3 0 = x3 at b3 H1
          generalize ws.getD i 0 = xi at z0
          clear hq0 hq1 hq2 hq3 hx0 hx1 hx2 hx3 g0 g1 g2 g3 H0
          go_wp2
          refine wp_region_still_tail 32 (by kernel_rfl) (by kernel_rfl) ?_
          simp only [List.take_succ_cons, List.take_zero, List.drop_succ_cons, List.drop_zero]
          repeat still_step
          still_call (stn7 _ _)
          repeat still_step
          still_call (stn18 _ _)
          repeat still_step
          still_call (stn17 _ _)
          repeat still_step
          still_call (stn19 _ _)
          repeat still_step
          refine wpStill_nil ?_
          change wpList _ _ _ _ _ wr.drew
          have z2 : wr.drew.cell? ⟨gw, i, none⟩ = some (.int .u32 xi) := z0
          have z3 : wr.drew.frozen? ⟨gw, i, none⟩ = false := z1
          have F2 := Aside0.mk (F.out.drew.word i g4 (wordX x0 (sig x1 7 18 (x1 / 8)) x2 (sig x3 17 19 (x3 / 1024))))
          generalize wr.drew = w4 at z2 z3 F2 ⊢
          clear z0 z1 b0 b1 b2 b3 F w0 w1 w2 w3
          go_wp2
          go_roundg (64 - (i + 1))
          case measure => omega
          case rel => exact ⟨i + 1, _, by omega, by omega, by omega, by go_num, by rw [List.length_set]; exact hws, H1, F2⟩
        · have hlt2 : ¬ ((i : Int) < 64) := by omega
          have H1 := Aside0.mk (exit1 _ _ _ _ hl0 _ hlt2 H0.out)
          clear H0
          have hA0 : Aside0 (Au w g0 l0) := Aside0.mk (Au.of_R HO.out)
          have hg0 := Kd.R_lt HO.out g0 rfl
          have HG := Aside0.mk hg0
          clear hg0
          go_wp2_with (first | ((with_reducible refine gate_builtin (b := .append) (xs := #[.tmp 105, .tmp 106]) rfl ?_); at_builtin; refine append8 (l0 := l0) 178 153 rfl (.tmp 105) (.tmp 106) rfl Tryd.underlying178 info153 (by rfl) (by rfl) hl0 ((hA0.out.at (F.out.below.block g0 HG.out)).at (by first | rfl | (rw [alloc_at, if_neg (by have := HG.out; have := F.out.below.size; omega)]))) (w := w) (n := w.heap.size) (gw := gw) (lw := ws) (by first | exact F.out | exact ⟨F.out.hw.at (by rw [alloc_at, if_neg (by have := F.out.lt; omega)]), F.out.mine, by rw [alloc_sz]; have := F.out.lt; omega, ⟨F.out.below.os, F.out.below.tape, F.out.below.output, by rw [alloc_sz]; have := F.out.below.size; omega, fun k hk => by rw [alloc_at, if_neg (by have := F.out.below.size; omega)]; exact F.out.below.block k hk⟩⟩) ?_; clear F; intro gv cv w6 F0; have F := Aside0.mk F0; clear F0))
          obtain ⟨h0, h1, h2, h3, h4, h5, h6, h7, rfl⟩ := eight hl0
          go_loopg [11, 12] 64 (fun gg v11 v12 wr => ∃ (i gv cv : Nat) (a0 a1 a2 a3 a4 a5 a6 a7 : Int), i ≤ 64 ∧ gg + i = 64 ∧ v11 = .slice (some ⟨gv, 0, none⟩) 8 cv ∧ v12 = .int .i64 (i : Int) ∧ Aside0 (spec_l01Block.lv2 [h0, h1, h2, h3, h4, h5, h6, h7] l2 ws [a0, a1, a2, a3, a4, a5, a6, a7] (i : Int) = some r) ∧ Aside0 (Sv w wr w.heap.size gw gv ws [a0, a1, a2, a3, a4, a5, a6, a7]))
          case atStart => exact ⟨0, gv, cv, h0, h1, h2, h3, h4, h5, h6, h7, by omega, rfl, rfl, rfl, H1, F⟩
          case round =>
            clear F H1 hlt2 hlt hi h16
            obtain ⟨i, gv, cv, a0, a1, a2, a3, a4, a5, a6, a7, hi, hg, rfl, rfl, H0, F⟩ := hrel
            by_cases hlt : i < 64
            · have c1 : ((i : Int) < 64) := by omega
              have hk := Kept.of_below F.out.below S
              obtain ⟨⟨c0_, d1, d2, d3, d4, d5, d6, d7⟩, -⟩ := F.out.ha.eight
              have bk := HR2.out wr hk i hlt
              have bw := F.out.hw.cell i (by omega)
              clear hk
              obtain ⟨xk, hxk⟩ : ∃ x, l2.getD i 0 = x := ⟨_, rfl⟩
              obtain ⟨xw, hxw⟩ : ∃ x, ws.getD i 0 = x := ⟨_, rfl⟩
              rw [hxk] at bk
              rw [hxw] at bw
              have HX := Aside0.mk (And.intro hxk hxw)
              clear hxk hxw
              go_wp2
              refine wp_region_still_lit (by kernel_rfl) (by kernel_rfl) ?_
              repeat still_step
              still_call (stn6 _ _)
              repeat still_step
              still_call (stn11 _ _)
              repeat still_step
              still_call (stn25 _ _)
              repeat still_step
              refine wpStill_nil ?_
              have F3 := Aside0.mk F.out.drew
              have c0d : wr.drew.cell? _ = _ := c0_
              have d1_ : wr.drew.cell? _ = _ := d1
              have d2_ : wr.drew.cell? _ = _ := d2
              have d3_ : wr.drew.cell? _ = _ := d3
              have d4_ : wr.drew.cell? _ = _ := d4
              have d5_ : wr.drew.cell? _ = _ := d5
              have d6_ : wr.drew.cell? _ = _ := d6
              have d7_ : wr.drew.cell? _ = _ := d7
              clear c0_ d1 d2 d3 d4 d5 d6 d7 bk bw F
              generalize hxp : IntKind.u32.wrap (IntKind.u32.wrap (_ + xk) + xw) = xp
              have hp : pX a7 a4 a5 a6 xk xw = xp := hxp
              have HP := Aside0.mk ((pX_eq _ _ _ _ _ _).symm.trans hp)
              clear hxp hp
              rw [show ({ heap := wr.heap, tape := wr.tape, drawn := wr.drawn + 1, os := wr.os, output := wr.output } : World) = wr.drew from rfl]
              generalize wr.drew = w6 at c0d d1_ d2_ d3_ d4_ d5_ d6_ d7_ F3 ⊢
              go_wp2
              refine wp_region_still_lit (by kernel_rfl) (by kernel_rfl) ?_
              repeat still_step
              still_call (stn2 _ _)
              repeat still_step
              still_call (stn13 _ _)
              repeat still_step
              still_call (stn22 _ _)
              repeat still_step
              refine wpStill_nil ?_
              obtain ⟨⟨c0_, d1, d2, d3, d4, d5, d6, d7⟩, -⟩ := F3.out.drew.ha.eight
              have F4 := Aside0.mk F3.out.drew
              clear c0d d1_ d2_ d3_ d4_ d5_ d6_ d7_ F3
              generalize hxq : IntKind.u32.wrap (_ + Go.bits .xor .u32 _ (Go.bits .and .u32 a1 a2)) = xq
              have hq : qW a0 a1 a2 = xq := hxq
              have HQ := Aside0.mk hq
              clear hxq hq
              rw [show ({ heap := w6.heap, tape := w6.tape, drawn := w6.drawn + 1, os := w6.os, output := w6.output } : World) = w6.drew from rfl]
              generalize w6.drew = w7 at c0_ d1 d2 d3 d4 d5 d6 d7 F4 ⊢
              have H1 := Aside0.mk (step2w _ _ _ _ _ _ _ _ _ _ _ _ _ hws hl2 hlt xk xw xp xq HX.out.1 HX.out.2 HP.out HQ.out H0.out)
              clear H0
              go_wp2
              refine wp_region_still_tail 26 (by kernel_rfl) (by kernel_rfl) ?_
              simp only [List.take_succ_cons, List.take_zero, List.drop_succ_cons, List.drop_zero]
              repeat still_step
              refine wpStill_nil ?_
              change wpList _ _ _ _ _ w7.drew
              have F5 := Aside0.mk F4.out.drew
              clear c0_ d1 d2 d3 d4 d5 d6 d7 F4
              generalize w7.drew = w8 at F5 ⊢
              go_wp2
              go_roundg (64 - (i + 1))
              case measure => omega
              case rel => exact ⟨i + 1, w8.heap.size, 8, (xp + xq) % 4294967296, a0, a1, a2, (a3 + xp) % 4294967296, a4, a5, a6, by omega, by omega, rfl, by go_num, H1, ⟨F5.out.lit [(xp + xq) % 4294967296, a0, a1, a2, (a3 + xp) % 4294967296, a4, a5, a6] 153⟩⟩
            · have hlt2 : ¬ ((i : Int) < 64) := by omega
              have H1 := Aside0.mk (exit2 _ _ _ _ _ _ hlt2 H0.out)
              clear H0
              have F2 : Aside0 (St w0 w wr S g0 c0 gv [h0, h1, h2, h3, h4, h5, h6, h7] [a0, a1, a2, a3, a4, a5, a6, a7]) := Aside0.mk ⟨Kd.R_below HO.out F.out.below, F.out.ha, by have := F.out.mv; have := HG.out; omega, HB.out.trans (F.out.below.mono HB.out.size), Kept.of_below F.out.below S⟩
              clear F
              go_wp2
              go_loopg [17] 8 (fun gg v17 wr => ∃ (i : Nat) (lh : List Int), i ≤ 8 ∧ gg + i = 8 ∧ v17 = .int .i64 (i : Int) ∧ lh.length = 8 ∧ Aside0 (spec_l01Block.lv3 lh [a0, a1, a2, a3, a4, a5, a6, a7] (i : Int) = some r) ∧ Aside0 (St w0 w wr S g0 c0 gv lh [a0, a1, a2, a3, a4, a5, a6, a7]))
              case atStart => exact ⟨0, _, by omega, rfl, rfl, rfl, H1, F2⟩
              case round =>
                clear F2 H1 hlt2 hlt hi
                obtain ⟨i, lh, hi, hg, rfl, hlh, H0, F⟩ := hrel
                by_cases hlt : i < 8
                · have c1 : ((i : Int) < 8) := by omega
                  have H1 := Aside0.mk (step3 _ _ _ _ hlh rfl hlt H0.out)
                  obtain ⟨b0, z1⟩ := Kd.R_celln 0 F.out.hr (i : Int) (by omega) (by omega)
                  have b1 := F.out.ha.cell i (by simpa using hlt)
                  rw [Int.toNat_natCast] at b0 z1
                  have b0' : wr.cell? ⟨g0, i, none⟩ = some (.int .u32 (lh.getD i 0)) := by simpa [rdOf] using b0
                  clear H0 b0
                  obtain ⟨x0, hx0⟩ : ∃ x, lh.getD i 0 = x := ⟨_, rfl⟩
                  obtain ⟨x1, hx1⟩ : ∃ x, ([a0, a1, a2, a3, a4, a5, a6, a7] : List Int).getD i 0 = x := ⟨_, rfl⟩
                  rw [hx0] at b0' H1
                  rw [hx1] at b1 H1
                  rw [u32w_h] at H1
                  clear hx0 hx1
                  go_wp2
                  refine wp_region_still_tail 10 (by kernel_rfl) (by kernel_rfl) ?_
                  simp only [List.take_succ_cons, List.take_zero, List.drop_succ_cons, List.drop_zero]
                  repeat still_step
                  refine wpStill_nil ?_
                  change wpList _ _ _ _ _ wr.drew
                  have z2 : wr.drew.cell? ⟨g0, i, none⟩ = some (.int .u32 x0) := b0'
                  have z3 : wr.drew.frozen? ⟨g0, i, none⟩ = false := z1
                  have F2 := Aside0.mk (F.out.drew.set i ((x0 + x1) % 4294967296))
                  generalize wr.drew = w4 at z2 z3 F2 ⊢
                  clear z1 b0' b1 F
                  go_wp2
                  go_roundg (8 - (i + 1))
                  case measure => omega
                  case rel => exact ⟨i + 1, _, by omega, by omega, by go_num, by rw [List.length_set]; exact hlh, H1, F2⟩
                · have hlt2 : ¬ ((i : Int) < 8) := by omega
                  have e := exit3 _ _ _ _ hlt2 H0.out
                  subst e
                  clear H0
                  go_wp2
                  first | go_end0 | ((try simp only [Exit.inBlock, Exit.then]); refine bodyPost_ret (results_none rfl _ _ _) rfl ?_)
                  exact ⟨rfl, F.out.hr, F.out.below, F.out.kept⟩
end Go.Proofs.YtadablpppkjdbaaDoor.B
end

section
namespace Go.Proofs.YtadablpppkjdbaaDoor.B
open Go.RowKit Go.Proofs.YtadablpppkjdbaaDoorW.PrintWords Go.Proofs.YtadablpppkjdbaaDoorW.PrintLast Go.Proofs.YtadablpppkjdbaaDoorW.PrintMore
attribute [local go_sem] max2_int min2_int max_two min_two max_three min_three max_four min_four
theorem spec_l01Block.calls (k : Nat) (P0_ : Nat → Prop) (u9000_ : Value) (l0 : List Int) (A1 : Option Addr) (c1 : Nat) (l1 : List Int) (A2 : Option Addr) (c2 : Nat) (l2 : List Int) (r : List Int) (w0 w : World) (hB : Below w0.heap.size w0 w) (ho0 : Kd.R (Kd.int .u32) 153 w w0.heap.size P0_ u9000_ l0) (hr1 : ∀ W_,Kept w W_ (fun k_ => P0_ k_) → Kd.C (Kd.int .u8) W_ A1 l1.length l1) (hc1 : l1.length ≤ c1) (hr2 : ∀ W_,Kept w W_ (fun k_ => P0_ k_) → Kd.C (Kd.int .u32) W_ A2 l2.length l2) (hc2 : l2.length ≤ c2) (h : spec_l01Block.f k l0 l1 l2 = some r) :
  Calls Tryd.prog 171 #[u9000_,.slice A1 l1.length c1,.slice A2 l2.length c2] w fun e w' => e = .returned (.tuple #[]) ∧ Kd.R (Kd.int .u32) 153 w' w0.heap.size (fun k_ => (P0_ k_ ∨ w.heap.size ≤ k_)) u9000_ r ∧ Below w0.heap.size w0 w' ∧ Kept w w' (fun k_ => P0_ k_) := by
 unfold spec_l01Block.f at h
 by_cases c : l0.length = 8 ∧ l1.length = 64 ∧ l2.length = 64
 ·have hv : spec_l01Block.v l0 l1 l2 = some r := (spec_l01Block.v_lim l0 l1 l2).up k r h
  obtain ⟨h0,h1,h2⟩ := c
  obtain ⟨g0,c0,rfl,-,-,-⟩ := Kd.R_form ho0 (by omega)
  obtain ⟨ad1,rfl,-⟩ := C_cells (hr1 w (Kept.refl w _)) (by omega)
  obtain ⟨ad2,rfl,-⟩ := C_cells (hr2 w (Kept.refl w _)) (by omega)
  have k1 : ∀ W,Kept w W P0_ → ∀ j,j < 64 → W.cell? (ad1.add j) = some (.int .u8 (l1.getD j 0)) := fun W hk j hj => by
   obtain ⟨ad,e,hc⟩ := C_cells (hr1 W hk) (by omega)
   injection e with e
   subst e
   exact hc j (by omega)
  have k2 : ∀ W,Kept w W P0_ → ∀ j,j < 64 → W.cell? (ad2.add j) = some (.int .u32 (l2.getD j 0)) := fun W hk j hj => by
   obtain ⟨ad,e,hc⟩ := C_cells (hr2 W hk) (by omega)
   injection e with e
   subst e
   exact hc j (by omega)
  rw [h0] at ho0 ⊢
  rw [h1] at hc1 ⊢
  rw [h2] at hc2 ⊢
  exact (sblock_walk P0_ g0 c0 l0 l1 l2 r ad1 ad2 c1 c2 w0 w hB ho0 k1 k2 h0 h1 h2 hc1 hc2 hv).mono fun e w' ⟨he,hr,hb,hk⟩ => ⟨he,Kd.R_mono hr (fun k_ hk_ => .inl hk_),hb,hk⟩
 ·rw [if_neg c] at h
  cases h
set_option maxHeartbeats 8000000 in
set_option maxRecDepth 100000 in
theorem spec_l01Consts.calls  (r : List Int) (w : World) (h : spec_l01Consts.f  = some r) :
  Calls Tryd.prog 170 #[] w fun e w' => ∃ v0_ : Value,e = .returned (v0_) ∧ Kd.R (Kd.int .u32) 153 w' w.heap.size (fun _ => True) v0_ r ∧ Below w.heap.size w w' := by
 have HB := am_ (Below.refl w.heap.size w)
 have H : (some (([1116352408,1899447441,3049323471,3921009573,961987163,1508970993,2453635748,2870763221,3624381080,310598401,607225278,1426881987,1925078388,2162078206,2614888103,3248222580,3835390401,4022224774,264347078,604807628,770255983,1249150122,1555081692,1996064986,2554220882,2821834349,2952996808,3210313671,3336571891,3584528711,113926993,338241895,666307205,773529912,1294757372,1396182291,1695183700,1986661051,2177026350,2456956037,2730485921,2820302411,3259730800,3345764771,3516065817,3600352804,4094571909,275423344,430227734,506948616,659060556,883997877,958139571,1322822218,1537002063,1747873779,1955562222,2024104815,2227730452,2361852424,2428436474,2756734187,3204031479,3329325298] : List Int))) = some r := h
 clear h
 obtain ⟨y105,hy105⟩ : ∃ y_ : List Int,y_ = (([1116352408,1899447441,3049323471,3921009573,961987163,1508970993,2453635748,2870763221,3624381080,310598401,607225278,1426881987,1925078388,2162078206,2614888103,3248222580,3835390401,4022224774,264347078,604807628,770255983,1249150122,1555081692,1996064986,2554220882,2821834349,2952996808,3210313671,3336571891,3584528711,113926993,338241895,666307205,773529912,1294757372,1396182291,1695183700,1986661051,2177026350,2456956037,2730485921,2820302411,3259730800,3345764771,3516065817,3600352804,4094571909,275423344,430227734,506948616,659060556,883997877,958139571,1322822218,1537002063,1747873779,1955562222,2024104815,2227730452,2361852424,2428436474,2756734187,3204031479,3329325298] : List Int)) := ⟨_,rfl⟩
 replace H : (some y105) = some r := by first | (rw [hy105];with_reducible exact H) | (have H2_ := (Option.bind_some _ _).symm.trans H;rw [hy105];with_reducible exact H2_) | (have H2_ := (Option.bind_some _ _).symm.trans H;with_reducible exact H2_) | with_reducible exact H | (rw [hy105];exact H) | exact H
 have Ny105 := am_ hy105
 clear hy105
 obtain rfl := Option.some.inj H
 go_enter Tryd.func170,Tryd.ntmps170
 go_wp2_with (first | ((with_reducible refine gate_dst (N := 1) rfl ?_);refine Kd.R_lit (Kd.int .u32) _ 153 ?hg (N := 1) ?hd (xs := ([1116352408,1899447441,3049323471,3921009573,961987163,1508970993,2453635748,2870763221,3624381080,310598401,607225278,1426881987,1925078388,2162078206,2614888103,3248222580,3835390401,4022224774,264347078,604807628,770255983,1249150122,1555081692,1996064986,2554220882,2821834349,2952996808,3210313671,3336571891,3584528711,113926993,338241895,666307205,773529912,1294757372,1396182291,1695183700,1986661051,2177026350,2456956037,2730485921,2820302411,3259730800,3345764771,3516065817,3600352804,4094571909,275423344,430227734,506948616,659060556,883997877,958139571,1322822218,1537002063,1747873779,1955562222,2024104815,2227730452,2361852424,2428436474,2756734187,3204031479,3329325298] : List Int)) (inner := [.int .u32 1116352408,.int .u32 1899447441,.int .u32 3049323471,.int .u32 3921009573,.int .u32 961987163,.int .u32 1508970993,.int .u32 2453635748,.int .u32 2870763221,.int .u32 3624381080,.int .u32 310598401,.int .u32 607225278,.int .u32 1426881987,.int .u32 1925078388,.int .u32 2162078206,.int .u32 2614888103,.int .u32 3248222580,.int .u32 3835390401,.int .u32 4022224774,.int .u32 264347078,.int .u32 604807628,.int .u32 770255983,.int .u32 1249150122,.int .u32 1555081692,.int .u32 1996064986,.int .u32 2554220882,.int .u32 2821834349,.int .u32 2952996808,.int .u32 3210313671,.int .u32 3336571891,.int .u32 3584528711,.int .u32 113926993,.int .u32 338241895,.int .u32 666307205,.int .u32 773529912,.int .u32 1294757372,.int .u32 1396182291,.int .u32 1695183700,.int .u32 1986661051,.int .u32 2177026350,.int .u32 2456956037,.int .u32 2730485921,.int .u32 2820302411,.int .u32 3259730800,.int .u32 3345764771,.int .u32 3516065817,.int .u32 3600352804,.int .u32 4094571909,.int .u32 275423344,.int .u32 430227734,.int .u32 506948616,.int .u32 659060556,.int .u32 883997877,.int .u32 958139571,.int .u32 1322822218,.int .u32 1537002063,.int .u32 1747873779,.int .u32 1955562222,.int .u32 2024104815,.int .u32 2227730452,.int .u32 2361852424,.int .u32 2428436474,.int .u32 2756734187,.int .u32 3204031479,.int .u32 3329325298]) (ok := fun _ => True) (okp := fun _ => True) ?hr ?hp (fun _ hk => hk) trivial (Below.refl _ _) (Nat.le_refl _) (by simp) ?_;(case hd => rfl);(case hg => rfl);(case hr => first | (go_simp;done) | (go_simp;rfl));(case hp => exact (Reps.one (show Kd.M (Kd.int .u32) _ _ _ 1116352408 [.int .u32 1116352408] from rfl) (Reps.one (show Kd.M (Kd.int .u32) _ _ _ 1899447441 [.int .u32 1899447441] from rfl) (Reps.one (show Kd.M (Kd.int .u32) _ _ _ 3049323471 [.int .u32 3049323471] from rfl) (Reps.one (show Kd.M (Kd.int .u32) _ _ _ 3921009573 [.int .u32 3921009573] from rfl) (Reps.one (show Kd.M (Kd.int .u32) _ _ _ 961987163 [.int .u32 961987163] from rfl) (Reps.one (show Kd.M (Kd.int .u32) _ _ _ 1508970993 [.int .u32 1508970993] from rfl) (Reps.one (show Kd.M (Kd.int .u32) _ _ _ 2453635748 [.int .u32 2453635748] from rfl) (Reps.one (show Kd.M (Kd.int .u32) _ _ _ 2870763221 [.int .u32 2870763221] from rfl) (Reps.one (show Kd.M (Kd.int .u32) _ _ _ 3624381080 [.int .u32 3624381080] from rfl) (Reps.one (show Kd.M (Kd.int .u32) _ _ _ 310598401 [.int .u32 310598401] from rfl) (Reps.one (show Kd.M (Kd.int .u32) _ _ _ 607225278 [.int .u32 607225278] from rfl) (Reps.one (show Kd.M (Kd.int .u32) _ _ _ 1426881987 [.int .u32 1426881987] from rfl) (Reps.one (show Kd.M (Kd.int .u32) _ _ _ 1925078388 [.int .u32 1925078388] from rfl) (Reps.one (show Kd.M (Kd.int .u32) _ _ _ 2162078206 [.int .u32 2162078206] from rfl) (Reps.one (show Kd.M (Kd.int .u32) _ _ _ 2614888103 [.int .u32 2614888103] from rfl) (Reps.one (show Kd.M (Kd.int .u32) _ _ _ 3248222580 [.int .u32 3248222580] from rfl) (Reps.one (show Kd.M (Kd.int .u32) _ _ _ 3835390401 [.int .u32 3835390401] from rfl) (Reps.one (show Kd.M (Kd.int .u32) _ _ _ 4022224774 [.int .u32 4022224774] from rfl) (Reps.one (show Kd.M (Kd.int .u32) _ _ _ 264347078 [.int .u32 264347078] from rfl) (Reps.one (show Kd.M (Kd.int .u32) _ _ _ 604807628 [.int .u32 604807628] from rfl) (Reps.one (show Kd.M (Kd.int .u32) _ _ _ 770255983 [.int .u32 770255983] from rfl) (Reps.one (show Kd.M (Kd.int .u32) _ _ _ 1249150122 [.int .u32 1249150122] from rfl) (Reps.one (show Kd.M (Kd.int .u32) _ _ _ 1555081692 [.int .u32 1555081692] from rfl) (Reps.one (show Kd.M (Kd.int .u32) _ _ _ 1996064986 [.int .u32 1996064986] from rfl) (Reps.one (show Kd.M (Kd.int .u32) _ _ _ 2554220882 [.int .u32 2554220882] from rfl) (Reps.one (show Kd.M (Kd.int .u32) _ _ _ 2821834349 [.int .u32 2821834349] from rfl) (Reps.one (show Kd.M (Kd.int .u32) _ _ _ 2952996808 [.int .u32 2952996808] from rfl) (Reps.one (show Kd.M (Kd.int .u32) _ _ _ 3210313671 [.int .u32 3210313671] from rfl) (Reps.one (show Kd.M (Kd.int .u32) _ _ _ 3336571891 [.int .u32 3336571891] from rfl) (Reps.one (show Kd.M (Kd.int .u32) _ _ _ 3584528711 [.int .u32 3584528711] from rfl) (Reps.one (show Kd.M (Kd.int .u32) _ _ _ 113926993 [.int .u32 113926993] from rfl) (Reps.one (show Kd.M (Kd.int .u32) _ _ _ 338241895 [.int .u32 338241895] from rfl) (Reps.one (show Kd.M (Kd.int .u32) _ _ _ 666307205 [.int .u32 666307205] from rfl) (Reps.one (show Kd.M (Kd.int .u32) _ _ _ 773529912 [.int .u32 773529912] from rfl) (Reps.one (show Kd.M (Kd.int .u32) _ _ _ 1294757372 [.int .u32 1294757372] from rfl) (Reps.one (show Kd.M (Kd.int .u32) _ _ _ 1396182291 [.int .u32 1396182291] from rfl) (Reps.one (show Kd.M (Kd.int .u32) _ _ _ 1695183700 [.int .u32 1695183700] from rfl) (Reps.one (show Kd.M (Kd.int .u32) _ _ _ 1986661051 [.int .u32 1986661051] from rfl) (Reps.one (show Kd.M (Kd.int .u32) _ _ _ 2177026350 [.int .u32 2177026350] from rfl) (Reps.one (show Kd.M (Kd.int .u32) _ _ _ 2456956037 [.int .u32 2456956037] from rfl) (Reps.one (show Kd.M (Kd.int .u32) _ _ _ 2730485921 [.int .u32 2730485921] from rfl) (Reps.one (show Kd.M (Kd.int .u32) _ _ _ 2820302411 [.int .u32 2820302411] from rfl) (Reps.one (show Kd.M (Kd.int .u32) _ _ _ 3259730800 [.int .u32 3259730800] from rfl) (Reps.one (show Kd.M (Kd.int .u32) _ _ _ 3345764771 [.int .u32 3345764771] from rfl) (Reps.one (show Kd.M (Kd.int .u32) _ _ _ 3516065817 [.int .u32 3516065817] from rfl) (Reps.one (show Kd.M (Kd.int .u32) _ _ _ 3600352804 [.int .u32 3600352804] from rfl) (Reps.one (show Kd.M (Kd.int .u32) _ _ _ 4094571909 [.int .u32 4094571909] from rfl) (Reps.one (show Kd.M (Kd.int .u32) _ _ _ 275423344 [.int .u32 275423344] from rfl) (Reps.one (show Kd.M (Kd.int .u32) _ _ _ 430227734 [.int .u32 430227734] from rfl) (Reps.one (show Kd.M (Kd.int .u32) _ _ _ 506948616 [.int .u32 506948616] from rfl) (Reps.one (show Kd.M (Kd.int .u32) _ _ _ 659060556 [.int .u32 659060556] from rfl) (Reps.one (show Kd.M (Kd.int .u32) _ _ _ 883997877 [.int .u32 883997877] from rfl) (Reps.one (show Kd.M (Kd.int .u32) _ _ _ 958139571 [.int .u32 958139571] from rfl) (Reps.one (show Kd.M (Kd.int .u32) _ _ _ 1322822218 [.int .u32 1322822218] from rfl) (Reps.one (show Kd.M (Kd.int .u32) _ _ _ 1537002063 [.int .u32 1537002063] from rfl) (Reps.one (show Kd.M (Kd.int .u32) _ _ _ 1747873779 [.int .u32 1747873779] from rfl) (Reps.one (show Kd.M (Kd.int .u32) _ _ _ 1955562222 [.int .u32 1955562222] from rfl) (Reps.one (show Kd.M (Kd.int .u32) _ _ _ 2024104815 [.int .u32 2024104815] from rfl) (Reps.one (show Kd.M (Kd.int .u32) _ _ _ 2227730452 [.int .u32 2227730452] from rfl) (Reps.one (show Kd.M (Kd.int .u32) _ _ _ 2361852424 [.int .u32 2361852424] from rfl) (Reps.one (show Kd.M (Kd.int .u32) _ _ _ 2428436474 [.int .u32 2428436474] from rfl) (Reps.one (show Kd.M (Kd.int .u32) _ _ _ 2756734187 [.int .u32 2756734187] from rfl) (Reps.one (show Kd.M (Kd.int .u32) _ _ _ 3204031479 [.int .u32 3204031479] from rfl) (Reps.one (show Kd.M (Kd.int .u32) _ _ _ 3329325298 [.int .u32 3329325298] from rfl) (Reps.none _ _))))))))))))))))))))))))))))))))))))))))))))))))))))))))))))))))));intro v106 w1 ho2 hb hg_ hnew_;clear hg_ hnew_;(first | rw [← Ny105.out] at ho2 | (simp only [Int.reduceToNat] at ho2;rw [← Ny105.out] at ho2));have HO107 := am_ (Kd.R_lower ho2 (below_size (zl_ HB)));replace HB := zs_ HB hb;clear hb ho2))
 go_ret
 exact ⟨_,zt_,zr HO107,zl_ HB⟩
def spec_l01Hash.T18 : Bool × List (List Nat × List Nat) := (true,[([],[]),([],[]),([],[]),([1,2],[1,2]),([3],[3]),([4],[4]),([5],[5]),([],[]),([],[]),([7,8],[7,8]),([9],[9]),([10],[10]),([11],[11]),([],[]),([],[]),([13,14],[13,14]),([15],[15]),([16],[16]),([17],[17]),([],[]),([],[]),([19,20],[19,20]),([21],[21]),([22],[22]),([6,12,18,23],[6,12,18,23]),([0,24],[0,24]),([25,25,0,1,2,3,4,5,6,7,8,9,10,11,12,13,14,15,16,17,18,19,20,21,22,23,24,25],[0,25])])
def spec_l01Hash.B18 : List Nat := [0,0,0,6,14,30,62,0,0,384,896,1920,3968,0,0,24576,57344,122880,253952,0,0,1572864,3670016,7864320,16777214,33554431,67108863]
theorem spec_l01Hash.tab18 : rtab .any (opsOf Tryd.f123 18) = spec_l01Hash.T18 := by kernel_rfl
theorem spec_l01Hash.bits18 : waitsOk spec_l01Hash.T18.2 spec_l01Hash.B18 = true := by kernel_rfl
set_option maxHeartbeats 8000000 in
set_option maxRecDepth 100000 in
theorem spec_l01Hash.calls (k : Nat) (A0 : Option Addr) (c0 : Nat) (l0 : List Int) (r : ByteArray) (w : World) (hr0 : Kd.C (Kd.int .u8) w A0 l0.length l0) (hc0 : l0.length ≤ c0) (h : spec_l01Hash.f k l0 = some r) :
  Calls Tryd.prog 123 #[.slice A0 l0.length c0] w fun e w' => e = .returned (.string r) ∧ Below w.heap.size w w' := by
 have HR0 := am_ hr0
 have HC0 := am_ hc0
 clear hr0 hc0
 have HB := am_ (Below.refl w.heap.size w)
 have H : ((some (([] : List Int) : List Int)).bind fun y164 => (if y164.length + l0.length < 140737488355328 then ((some (y164 ++ l0 : List Int)).bind fun y167 => (if y167.length < 140737488355328 then (spec_l01Hash.l0 k l0 (([1779033703,3144134277,1013904242,2773480762,1359893119,2600822924,528734635,1541459225] : List Int)) (y167 ++ [128])) else (none))) else (none))) = some r := h
 clear h
 obtain ⟨y161,hy161⟩ : ∃ y_ : List Int,y_ = (([1779033703,3144134277,1013904242,2773480762,1359893119,2600822924,528734635,1541459225] : List Int)) := ⟨_,rfl⟩
 replace H : ((some (([] : List Int) : List Int)).bind fun y164 => (if y164.length + l0.length < 140737488355328 then ((some (y164 ++ l0 : List Int)).bind fun y167 => (if y167.length < 140737488355328 then (spec_l01Hash.l0 k l0 y161 (y167 ++ [128])) else (none))) else (none))) = some r := by first | (rw [hy161];with_reducible exact H) | (have H2_ := (Option.bind_some _ _).symm.trans H;rw [hy161];with_reducible exact H2_) | (have H2_ := (Option.bind_some _ _).symm.trans H;with_reducible exact H2_) | with_reducible exact H | (rw [hy161];exact H) | exact H
 have Ny161 := am_ hy161
 clear hy161
 obtain ⟨y164,hy164⟩ : ∃ y_ : List Int,y_ = (([] : List Int)) := ⟨_,rfl⟩
 replace H : (if y164.length + l0.length < 140737488355328 then ((some (y164 ++ l0 : List Int)).bind fun y167 => (if y167.length < 140737488355328 then (spec_l01Hash.l0 k l0 y161 (y167 ++ [128])) else (none))) else (none)) = some r := by first | (rw [hy164];with_reducible exact H) | (have H2_ := (Option.bind_some _ _).symm.trans H;rw [hy164];with_reducible exact H2_) | (have H2_ := (Option.bind_some _ _).symm.trans H;with_reducible exact H2_) | with_reducible exact H | (rw [hy164];exact H) | exact H
 have Ny164 := am_ hy164
 clear hy164
 by_cases c2 : y164.length + l0.length < 140737488355328
 ·rw [if_pos c2] at H
  have LMc2 := am_ c2
  clear c2
  obtain ⟨y167,hy167⟩ : ∃ y_ : List Int,y_ = (y164 ++ l0) := ⟨_,rfl⟩
  replace H : (if y167.length < 140737488355328 then (spec_l01Hash.l0 k l0 y161 (y167 ++ [128])) else (none)) = some r := by first | (rw [hy167];with_reducible exact H) | (have H2_ := (Option.bind_some _ _).symm.trans H;rw [hy167];with_reducible exact H2_) | (have H2_ := (Option.bind_some _ _).symm.trans H;with_reducible exact H2_) | with_reducible exact H | (rw [hy167];exact H) | exact H
  have Ny167 := am_ hy167
  clear hy167
  by_cases c3 : y167.length < 140737488355328
  ·rw [if_pos c3] at H
   have LMc3 := am_ c3
   clear c3
   obtain ⟨y170,hy170⟩ : ∃ y_ : List Int,y_ = (y167 ++ [128]) := ⟨_,rfl⟩
   replace H : (spec_l01Hash.l0 k l0 y161 y170) = some r := by first | (rw [hy170];with_reducible exact H) | (have H2_ := (Option.bind_some _ _).symm.trans H;rw [hy170];with_reducible exact H2_) | (have H2_ := (Option.bind_some _ _).symm.trans H;with_reducible exact H2_) | with_reducible exact H | (rw [hy170];exact H) | exact H
   have Ny170 := am_ hy170
   clear hy170
   have H' := am_ H
   clear H
   go_enter Tryd.func123,Tryd.ntmps123
   go_wp2_with (first | ((with_reducible refine gate_dst (N := 10) rfl ?_);refine Kd.R_lit (Kd.int .u32) _ 153 ?hg (N := 10) ?hd (xs := ([1779033703,3144134277,1013904242,2773480762,1359893119,2600822924,528734635,1541459225] : List Int)) (inner := [.int .u32 1779033703,.int .u32 3144134277,.int .u32 1013904242,.int .u32 2773480762,.int .u32 1359893119,.int .u32 2600822924,.int .u32 528734635,.int .u32 1541459225]) (ok := fun _ => True) (okp := fun _ => True) ?hr ?hp (fun _ hk => hk) trivial (Below.refl _ _) (Nat.le_refl _) (by simp) ?_;(case hd => rfl);(case hg => rfl);(case hr => first | (go_simp;done) | (go_simp;rfl));(case hp => exact (Reps.one (show Kd.M (Kd.int .u32) _ _ _ 1779033703 [.int .u32 1779033703] from rfl) (Reps.one (show Kd.M (Kd.int .u32) _ _ _ 3144134277 [.int .u32 3144134277] from rfl) (Reps.one (show Kd.M (Kd.int .u32) _ _ _ 1013904242 [.int .u32 1013904242] from rfl) (Reps.one (show Kd.M (Kd.int .u32) _ _ _ 2773480762 [.int .u32 2773480762] from rfl) (Reps.one (show Kd.M (Kd.int .u32) _ _ _ 1359893119 [.int .u32 1359893119] from rfl) (Reps.one (show Kd.M (Kd.int .u32) _ _ _ 2600822924 [.int .u32 2600822924] from rfl) (Reps.one (show Kd.M (Kd.int .u32) _ _ _ 528734635 [.int .u32 528734635] from rfl) (Reps.one (show Kd.M (Kd.int .u32) _ _ _ 1541459225 [.int .u32 1541459225] from rfl) (Reps.none _ _))))))))));intro v162 w4 ho5 hb hg_ hnew_;clear hg_ hnew_;(first | rw [← Ny161.out] at ho5 | (simp only [Int.reduceToNat] at ho5;rw [← Ny161.out] at ho5));have HO163 := am_ (Kd.R_lower ho5 (below_size (zl_ HB)));replace HB := zs_ HB hb;clear hb ho5) | ((with_reducible refine gate_dst (N := 11) rfl ?_);refine Kd.R_lit (Kd.int .u8) _ 5 ?hg (N := 11) ?hd (xs := ([] : List Int)) (inner := []) (ok := fun _ => True) (okp := fun _ => True) ?hr ?hp (fun _ hk => hk) trivial (Below.refl _ _) (Nat.le_refl _) (by simp) ?_;(case hd => rfl);(case hg => rfl);(case hr => first | (go_simp;done) | (go_simp;rfl));(case hp => exact (Reps.none _ _));intro v165 w6 ho7 hb hg_ hnew_;clear hg_ hnew_;(first | rw [← Ny164.out] at ho7 | (simp only [Int.reduceToNat] at ho7;rw [← Ny164.out] at ho7));replace HO163 := zrb HO163 hb;have HO166 := am_ (Kd.R_lower ho7 (below_size (zl_ HB)));replace HB := zs_ HB hb;clear hb ho7) | ((with_reducible refine gate_builtin (b := .append) (xs := #[.tmp 11,.tmp 12]) rfl ?_);at_builtin;refine Kd.R_append_rows (Kd.int .u8) (w0 := w) w.heap.size rfl (.tmp 11) (.tmp 12) 31 5 (.int .u8 0) 1 rfl Tryd.underlying31 info5 rfl (by decide) (by omega) v165 y164 l0 _ _ _ (fun _ => True) (fun _ => False) rfl rfl ?aO ?aR (fun _ _ h => h) (fun _ h => h.elim) ?aF ?aB ?aS ?aL ?_;(case aR => exact zc_ HR0 HB);(case aB => exact (zl_ HB));(case aF => exact (fun _ _ => trivial));(case aO => exact (zr HO166));(case aS => exact (below_size (zl_ HB)));(case aL => have := LMc2.out;omega);intro v168 w8 ho hb hg hat;rw [← Ny167.out] at ho;replace HO163 := am_ (Kd.R_over' (zr HO163) (Kd.R_typed (zr HO166)) (by decide) hg);replace HB := am_ (hb);have HO169 := am_ (ho);clear HO166;clear ho hb hg hat) | ((with_reducible refine gate_builtin (b := .append) (xs := #[.tmp 13,.tmp 14]) rfl ?_);at_builtin;refine Kd.R_append (Kd.int .u8) (w0 := w) w.heap.size rfl (.tmp 13) (.tmp 14) 31 5 (.int .u8 0) 1 rfl Tryd.underlying31 info5 rfl (by decide) (by omega) v168 y167 128 [.int .u8 128] (fun _ => True) (fun _ => False) rfl rfl ?aP (fun _ hk => hk.elim) ?aF ?aO ?aB ?aS ?aL ?_;(case aP => exact rfl);(case aB => exact (zl_ HB));(case aF => exact (fun _ _ => trivial));(case aO => exact (zr HO169));(case aS => exact (below_size (zl_ HB)));(case aL => have := LMc3.out;omega);intro v171 w9 ho hb hg hat;rw [← Ny170.out] at ho;replace HO163 := am_ (Kd.R_over' (zr HO163) (Kd.R_typed (zr HO169)) (by decide) hg);replace HB := am_ (hb);have HO172 := am_ (ho);clear HO169;clear ho hb hg hat))
   go_loopg [4] k (fun kq v4 w' => ∃ (x4_1 : List Int),Aside0 (spec_l01Hash.l0 kq l0 y161 x4_1 = some r) ∧ Aside0 (kq ≤ k) ∧ Aside0 (Kd.R (Kd.int .u32) 153 w' w.heap.size (fun _ => True) v162 y161) ∧ Aside0 (Kd.R (Kd.int .u8) 5 w' w.heap.size (fun _ => True) v4 x4_1) ∧ Aside0 (Below w.heap.size w w'))
   case atStart => exact ⟨(y170),H',⟨Nat.le_refl _⟩,⟨zr HO163⟩,⟨zr HO172⟩,⟨zl_ HB⟩⟩
   case round =>
    clear H'
    try clear c1
    try clear c2
    try clear p2
    try clear c3
    obtain ⟨x4_1,HA,HK1,HO_3,HO_4,HB⟩ := hrel
    cases gk with
    | zero => exact absurd HA.out (by simp [spec_l01Hash.l0])
    | succ k1 =>
     have H := HA.out
     clear HA
     simp only [spec_l01Hash.l0] at H
     by_cases c10 : ((x4_1.length : Int) % 64) = 56
     ·rw [if_pos c10] at H
      have c10b0 : (((x4_1.length : Int) % 64) == 56) = true := beq_iff_eq.mpr c10
      have c10b1 : (((x4_1.length : Int) % 64) != 56) = false := bne_eq_false_iff_eq.mpr c10
      clear c10
      have H' := am_ H
      clear H
      obtain ⟨Ao11,co11,eo11⟩ := Kd.R_slice HO_4.out
      subst eo11
      go_wp2
      go_loopg [4,5] k1 (fun kq v4 v5 w' => ∃ (x4_2 : List Int) (x5_2 : Int),v5 = .int .i64 x5_2 ∧ Aside0 (spec_l01Hash.l1 kq l0 y161 x4_2 x5_2 = some r) ∧ Aside0 (kq ≤ k1) ∧ Aside0 (Kd.R (Kd.int .u32) 153 w' w.heap.size (fun _ => True) v162 y161) ∧ Aside0 (Kd.R (Kd.int .u8) 5 w' w.heap.size (fun _ => True) v4 x4_2) ∧ Aside0 (Below w.heap.size w w'))
      case atStart => exact ⟨(x4_1),(7),(by first | rfl | (simp;done) | (simp [*];done)),H',⟨Nat.le_refl _⟩,⟨zr HO_3⟩,⟨zr HO_4⟩,⟨zl_ HB⟩⟩
      case round =>
       clear H'
       try clear c1
       try clear c2
       try clear p2
       try clear c3
       try clear c10
       try clear c10b0
       try clear c10b1
       try clear p2
       obtain ⟨x4_2,x5_2,rfl,HA,HK2,HO_3,HO_4,HB⟩ := hrel
       cases gk with
       | zero => exact absurd HA.out (by simp [spec_l01Hash.l1])
       | succ k2 =>
        have H := HA.out
        clear HA
        simp only [spec_l01Hash.l1] at H
        by_cases c12 : x5_2 ≥ 0
        ·rw [if_pos c12] at H
         have c12b0 : decide (0 ≤ x5_2) = true := decide_eq_true c12
         clear c12
         obtain ⟨ji13,hji13⟩ : ∃ j_ : Int,(IntKind.u64.wrap (wrap64 (8 * x5_2))) = j_ := ⟨_,rfl⟩
         replace H : (if 0 ≤ (ji13) then (if x4_2.length < 140737488355328 then (spec_l01Hash.l1 k2 l0 y161 (x4_2 ++ [(shr .i64 (wrap64 (8 * (l0.length : Int))) (ji13)) % 256]) (wrap64 (x5_2 - 1))) else (none)) else (none)) = some r := by first | (rw [hji13] at H;exact H) | (simp only [hji13] at H ⊢;exact H)
         by_cases c14 : 0 ≤ (ji13)
         ·rw [if_pos c14] at H
          have c14b0 := eq_true c14
          have c14b1 : decide (0 ≤ (ji13)) = true := decide_eq_true c14
          clear c14
          obtain ⟨ji15,hji15⟩ : ∃ j_ : Int,(shr .i64 (wrap64 (8 * (l0.length : Int))) (ji13)) = j_ := ⟨_,rfl⟩
          replace H : (if x4_2.length < 140737488355328 then (spec_l01Hash.l1 k2 l0 y161 (x4_2 ++ [(ji15) % 256]) (wrap64 (x5_2 - 1))) else (none)) = some r := by first | (rw [hji15] at H;exact H) | (simp only [hji15] at H ⊢;exact H)
          have hji15_ : ((wrap64 (8 * (l0.length : Int))) / 2 ^ min (ji13).toNat 64) = ji15 := hji15
          have hji15z : (ji13) ≤ 64 → ((wrap64 (8 * (l0.length : Int))) / 2 ^ (ji13).toNat) = ji15 := shr_small hji15
          by_cases c16 : x4_2.length < 140737488355328
          ·rw [if_pos c16] at H
           have LMc16 := am_ c16
           clear c16
           obtain ⟨y176,hy176⟩ : ∃ y_ : List Int,y_ = (x4_2 ++ [(ji15) % 256]) := ⟨_,rfl⟩
           replace H : (spec_l01Hash.l1 k2 l0 y161 y176 (wrap64 (x5_2 - 1))) = some r := by first | (rw [hy176];with_reducible exact H) | (have H2_ := (Option.bind_some _ _).symm.trans H;rw [hy176];with_reducible exact H2_) | (have H2_ := (Option.bind_some _ _).symm.trans H;with_reducible exact H2_) | with_reducible exact H | (rw [hy176];exact H) | exact H
           have Ny176 := am_ hy176
           clear hy176
           have H' := am_ H
           clear H
           go_wp2_with (first | ((with_reducible refine gate_builtin (b := .append) (xs := #[.tmp 27,.tmp 36]) rfl ?_);at_builtin;refine Kd.R_append (Kd.int .u8) (w0 := w) w.heap.size rfl (.tmp 27) (.tmp 36) 31 5 (.int .u8 0) 1 rfl Tryd.underlying31 info5 rfl (by decide) (by omega) u4 x4_2 ((ji15) % 256) [.int .u8 ((ji15) % 256)] (fun _ => True) (fun _ => False) rfl rfl ?aP (fun _ hk => hk.elim) ?aF ?aO ?aB ?aS ?aL ?_;(case aP => exact rfl);(case aB => exact (zl_ HB));(case aF => exact (fun _ _ => trivial));(case aO => exact (zr HO_4));(case aS => exact (below_size (zl_ HB)));(case aL => have := LMc16.out;omega);intro v177 w17 ho hb hg hat;rw [← Ny176.out] at ho;replace HO_3 := am_ (Kd.R_over' (zr HO_3) (Kd.R_typed (zr HO_4)) (by decide) hg);replace HB := am_ (hb);have HO178 := am_ (ho);clear HO_4;clear ho hb hg hat))
           go_roundg k2
           case measure => have := HK1.out;have := HK2.out;omega
           case rel => exact ⟨(y176),(wrap64 (x5_2 - 1)),(by first | rfl | (simp;done) | (simp [*];done)),H',⟨by have := HK1.out;have := HK2.out;omega⟩,⟨zr HO_3⟩,⟨zr HO178⟩,⟨zl_ HB⟩⟩
          ·rw [if_neg c16] at H
           exact absurd H (by simp)
         ·rw [if_neg c14] at H
          exact absurd H (by simp)
        ·rw [if_neg c12] at H
         have c12b0 : decide (0 ≤ x5_2) = false := decide_eq_false c12
         clear c12
         replace H := Option.bind_eq_some_iff.mp H
         obtain ⟨t179,A180,H⟩ := H
         try dsimp only at H
         have A18 := am_ A180
         clear A180
         have H' := am_ H
         clear H
         go_wp2_with (first | ((with_reducible refine gate_callee (f := 170) rfl ?_);refine zgl (some 38) Tryd.func170 #[] ?_;(with_reducible refine (spec_l01Consts.calls  t179 _ A18.out).mono ?_);rintro e w19 ⟨v180,rfl,ho0,hb⟩;refine ⟨_,rfl,?_⟩;replace HO_4 := zrb HO_4 hb;have HO181 := am_ (Kd.R_lower (Kd.R_new' ho0 (Kd.R_lt (zr HO_3))) (below_size (zl_ HB)));replace HO_3 := am_ (Kd.R_elder' (zr HO_3) (Kd.R_base ho0) hb);replace HB := zs_ HB hb;(try clear hb);(try clear hb2);(try clear hk);(try clear hi);(try clear ho0)))
         go_loopg [7] k2 (fun kq v7 w' => ∃ (x3_3 : List Int) (x7_3 : Int),v7 = .int .i64 x7_3 ∧ Aside0 (spec_l01Hash.l2 kq x3_3 x4_2 t179 x7_3 = some r) ∧ Aside0 (kq ≤ k2) ∧ Aside0 (Kd.R (Kd.int .u32) 153 w' w.heap.size (fun k_ => some k_ ≠ (v180 : Value).ownBlock) v162 x3_3) ∧ Aside0 (Kd.R (Kd.int .u8) 5 w' w.heap.size (fun _ => True) u4 x4_2) ∧ Aside0 (Kd.R (Kd.int .u32) 153 w' w.heap.size (fun k_ => some k_ ≠ (v162 : Value).ownBlock) v180 t179) ∧ Aside0 (Below w.heap.size w w'))
         case atStart => exact ⟨(y161),(0),(by first | rfl | (simp;done) | (simp [*];done)),H',⟨Nat.le_refl _⟩,⟨by (with_reducible repeat (first | apply r1_ | apply r2_ | apply r3_));exact Kd.R_mono HO_3.out (fun _ hk => hk.2)⟩,⟨zr HO_4⟩,⟨by (with_reducible repeat (first | apply r1_ | apply r2_ | apply r3_));exact Kd.R_mono HO181.out (fun _ hk => hk.2)⟩,⟨zl_ HB⟩⟩
         case round =>
          clear H'
          try clear c1
          try clear c2
          try clear p2
          try clear c3
          try clear p6
          try clear c10
          try clear c10b0
          try clear c10b1
          try clear c12
          try clear c12b0
          try clear c14
          try clear c14b0
          try clear c14b1
          try clear c16
          try clear c17
          try clear p2
          obtain ⟨x3_3,x7_3,rfl,HA,HK3,HO_3,HO_4,HO_6,HB⟩ := hrel
          cases gk with
          | zero => exact absurd HA.out (by simp [spec_l01Hash.l2])
          | succ k3 =>
           have H := HA.out
           clear HA
           simp only [spec_l01Hash.l2] at H
           by_cases c20 : x7_3 < (x4_2.length : Int)
           ·rw [if_pos c20] at H
            obtain ⟨je_,hje_⟩ : ∃ j_ : Int,(wrap64 (x7_3 + 64)) = j_ := ⟨_,rfl⟩
            rw [hje_] at H
            have hje_w : (IntKind.i64.wrap (x7_3 + 64)) = je_ := (i64_w _).trans hje_
            clear hje_
            have c20b0 : decide (x7_3 < (x4_2.length : Int)) = true := decide_eq_true c20
            clear c20
            by_cases c21 : 0 ≤ x7_3
            ·rw [if_pos c21] at H
             have c21b0 := eq_true c21
             have c21b1 : decide (0 ≤ x7_3) = true := decide_eq_true c21
             clear c21
             by_cases c22 : x7_3 ≤ (je_)
             ·rw [if_pos c22] at H
              have c22b0 := eq_true c22
              have c22b1 : decide (x7_3 ≤ (je_)) = true := decide_eq_true c22
              by_cases c23 : (je_) ≤ (x4_2.length : Int)
              ·rw [if_pos c23] at H
               have c23b0 := eq_true c23
               have c23b1 : decide ((je_) ≤ (x4_2.length : Int)) = true := decide_eq_true c23
               obtain ⟨y182,hy182⟩ : ∃ y_ : List Int,y_ = ((x4_2.take ((je_) : Int).toNat).drop (x7_3 : Int).toNat) := ⟨_,rfl⟩
               replace H : ((spec_l01Block.f k3 x3_3 y182 t179).bind fun t186 => (spec_l01Hash.l2 k3 t186 x4_2 t179 (je_))) = some r := by first | (rw [hy182];with_reducible exact H) | (have H2_ := (Option.bind_some _ _).symm.trans H;rw [hy182];with_reducible exact H2_) | (have H2_ := (Option.bind_some _ _).symm.trans H;with_reducible exact H2_) | with_reducible exact H | (rw [hy182];exact H) | exact H
               have Ny182 := am_ hy182
               clear hy182
               replace H := Option.bind_eq_some_iff.mp H
               obtain ⟨t186,A240,H⟩ := H
               try dsimp only at H
               have A24 := am_ A240
               clear A240
               have H' := am_ H
               clear H
               obtain ⟨Ao25,co25,eo25⟩ := Kd.R_slice HO_4.out
               subst eo25
               have q26 : ((je_) : Int) ≤ ((x4_2.length : Int) : Int) := zo_
               obtain ⟨i026,hi026,_,hsz26,_⟩ := info_parts info5
               have hroom26 : x4_2.length ≤ co25 := (Kd.R_reads' HO_4.out).2.1
               have hC26 : Kd.C (Kd.int .u8) _ Ao25 x4_2.length x4_2 := (Kd.R_reads' HO_4.out).2.2
               have ql26 : (x7_3 : Int) ≤ ((je_) : Int) := zo_
               have q026 : (0 : Int) ≤ (x7_3 : Int) := zo_
               have hcut26 := cut_mid (P := Tryd.prog) 31 5 .i64 .i64 Tryd.underlying31 hi026 1 hsz26 Ao25 x4_2.length co25 x7_3 (je_) q026 ql26 q26 hroom26
               have hr26 := Kd.C_mid (lo := (x7_3 : Int).toNat) (hi := ((je_) : Int).toNat) (c := co25) hC26 (by omega) (by omega) hroom26
               obtain ⟨A26,hA26⟩ : ∃ A1,A1 = (if co25 = (x7_3 : Int).toNat then Ao25 else (Ao25 : Option Addr).map (·.add ((x7_3 : Int).toNat * 1))) := ⟨_,rfl⟩
               obtain ⟨c26,hc26⟩ : ∃ c1,c1 = co25 - (x7_3 : Int).toNat := ⟨_,rfl⟩
               have hy26 : y182.length = ((je_) : Int).toNat - (x7_3 : Int).toNat := (by rw [Ny182.out,d1_,d2_] <;> omega)
               rw [show ((x4_2).take ((je_) : Int).toNat).drop (x7_3 : Int).toNat = y182 from Ny182.out.symm] at hr26
               replace hr26 : Kd.C (Kd.int .u8) _ A26 y182.length y182 := (by rw [hA26];exact hr26)
               rw [← hy26,← hA26,← hc26] at hcut26
               have HR185 := am_ hr26
               have HC185 := am_ (show y182.length ≤ c26 from by rw [hy26,hc26];exact Nat.sub_le_sub_right (Nat.le_trans (by omega) hroom26) _)
               clear hr26 hC26 hroom26 hi026 hsz26 hc26
               have KY26 := am_ hy26
               have KA26 := am_ hA26
               clear hy26 hA26
               have KL26 := am_ (show ((je_) : Int).toNat ≤ x4_2.length from by omega)
               have KM26 := am_ (show (x7_3 : Int).toNat ≤ ((je_) : Int).toNat from by omega)
               replace q26 := eq_true q26
               obtain ⟨Ao27,co27,eo27⟩ := Kd.R_slice HO_3.out
               subst eo27
               obtain ⟨Ao28,co28,eo28⟩ := Kd.R_slice HO_6.out
               subst eo28
               go_wp2_with (first | ((with_reducible refine gate_callee (f := 171) rfl ?_);refine zgl (some 52) Tryd.func171 #[.slice Ao27 x3_3.length co27,.slice A26 y182.length c26,.slice Ao28 t179.length co28] ?_;(with_reducible refine (spec_l01Block.calls k3 (fun k_ => some k_ = (.slice Ao27 x3_3.length co27 : Value).ownBlock) (.slice Ao27 x3_3.length co27) x3_3 _ _ y182 _ _ t179 t186 w _ ?side1 ?side2 ?side3 ?side4 ?side5 ?side6 A24.out).mono ?_);(case side1 => exact zl_ HB);(case side2 => exact Kd.R_tight rfl HO_3.out);(case side3 => exact fun W1_ hk1_ => (show Kd.C (Kd.int .u8) W1_ A26 y182.length y182 from by rw [Ny182.out,KA26.out];exact Kd.C_mid (lo := (x7_3 : Int).toNat) (hi := ((je_) : Int).toNat) (c := co25) (Kd.C_kept_own ((Kd.R_apart' HO_4.out (Kd.R_typed HO_3.out) (by decide))) (fun k_ hk_ hs_ => (hk_.2) hs_) W1_ hk1_) KM26.out KL26.out ((Kd.R_reads' HO_4.out).2.1)));(case side4 => exact HC185.out);(case side5 => exact Kd.C_kept_own (HO_6.out) (fun k_ hk_ hs_ => (hk_) hs_));(case side6 => exact (Kd.R_reads' HO_6.out).2.1);rintro e w29 ⟨rfl,hy0,hb,hkp⟩;refine ⟨_,rfl,?_⟩;replace HO_4 := am_ (Kd.R_mono (ok' := fun k_ => True) (Kd.R_keptB ((Kd.R_apart' HO_4.out (Kd.R_typed HO_3.out) (by decide))) hkp (fun k_ hk_ hs_ => (hk_.2) hs_)) (fun k_ hk_ => trivial));replace HO_3 := am_ (Kd.R_reok rfl hy0 (fun k_ e_ => HO_3.out.1 k_ e_));replace HO_6 := am_ (Kd.R_mono (ok' := fun k_ => some k_ ≠ (.slice Ao27 x3_3.length co27 : Value).ownBlock) (Kd.R_keptB (HO_6.out) hkp (fun k_ hk_ hs_ => (hk_) hs_)) (fun k_ hk_ => hk_.1));replace HB := am_ (hb);(try clear hb);(try clear hkp);(try clear hy0)))
               go_roundg k3
               case measure => have := HK1.out;have := HK2.out;have := HK3.out;omega
               case rel => exact ⟨(t186),(je_),(by first | rfl | (simp;done) | (simp [*];done)),H',⟨by have := HK1.out;have := HK2.out;have := HK3.out;omega⟩,⟨zr HO_3⟩,⟨zr HO_4⟩,⟨zr HO_6⟩,⟨zl_ HB⟩⟩
              ·rw [if_neg c23] at H
               exact absurd H (by simp)
             ·rw [if_neg c22] at H
              exact absurd H (by simp)
            ·rw [if_neg c21] at H
             exact absurd H (by simp)
           ·rw [if_neg c20] at H
            have c20b0 : decide (x7_3 < (x4_2.length : Int)) = false := decide_eq_false c20
            clear c20
            obtain ⟨y187,hy187⟩ : ∃ y_ : List Int,y_ = (([] : List Int)) := ⟨_,rfl⟩
            replace H : (spec_l01Hash.l3 k3 x3_3 y187 0) = some r := by first | (rw [hy187];with_reducible exact H) | (have H2_ := (Option.bind_some _ _).symm.trans H;rw [hy187];with_reducible exact H2_) | (have H2_ := (Option.bind_some _ _).symm.trans H;with_reducible exact H2_) | with_reducible exact H | (rw [hy187];exact H) | exact H
            have Ny187 := am_ hy187
            clear hy187
            have H' := am_ H
            clear H
            obtain ⟨Ao30,co30,eo30⟩ := Kd.R_slice HO_4.out
            subst eo30
            go_wp2_with (first | ((with_reducible refine gate_dst (N := 53) rfl ?_);refine Kd.R_lit (Kd.int .u8) _ 5 ?hg (N := 53) ?hd (xs := ([] : List Int)) (inner := []) (ok := fun _ => True) (okp := fun _ => True) ?hr ?hp (fun _ hk => hk) trivial (Below.refl _ _) (Nat.le_refl _) (by simp) ?_;(case hd => rfl);(case hg => rfl);(case hr => first | (go_simp;done) | (go_simp;rfl));(case hp => exact (Reps.none _ _));intro v188 w31 ho32 hb hg_ hnew_;clear hg_ hnew_;(first | rw [← Ny187.out] at ho32 | (simp only [Int.reduceToNat] at ho32;rw [← Ny187.out] at ho32));replace HO_3 := zrb HO_3 hb;have HO189 := am_ (Kd.R_lower (Kd.R_new' ho32 (Kd.R_lt (zr HO_4))) (below_size (zl_ HB)));replace HB := zs_ HB hb;clear hb ho32))
            go_loopg [8,9] k3 (fun kq v8 v9 w' => ∃ (x8_4 : List Int) (x9_4 : Int),v9 = .int .i64 x9_4 ∧ Aside0 (spec_l01Hash.l3 kq x3_3 x8_4 x9_4 = some r) ∧ Aside0 (kq ≤ k3) ∧ Aside0 (Kd.R (Kd.int .u32) 153 w' w.heap.size (fun _ => True) v162 x3_3) ∧ Aside0 (Kd.R (Kd.int .u8) 5 w' w.heap.size (fun _ => True) v8 x8_4) ∧ Aside0 (Below w.heap.size w w'))
            case atStart => exact ⟨(y187),(0),(by first | rfl | (simp;done) | (simp [*];done)),H',⟨Nat.le_refl _⟩,⟨by (with_reducible repeat (first | apply r1_ | apply r2_ | apply r3_));exact Kd.R_mono HO_3.out (fun _ hk => trivial)⟩,⟨by (with_reducible repeat (first | apply r1_ | apply r2_ | apply r3_));exact Kd.R_mono HO189.out (fun _ hk => trivial)⟩,⟨zl_ HB⟩⟩
            case round =>
             clear H'
             try clear c1
             try clear c2
             try clear p2
             try clear q2
             try clear c3
             try clear p6
             try clear c10
             try clear c10b0
             try clear c10b1
             try clear c12
             try clear c12b0
             try clear c14
             try clear c14b0
             try clear c14b1
             try clear c16
             try clear c17
             try clear c20
             try clear c20b0
             try clear c21
             try clear c21b0
             try clear c21b1
             try clear c22
             try clear c22b0
             try clear c22b1
             try clear c23
             try clear c23b0
             try clear c23b1
             try clear c26
             try clear q26
             try clear p2
             try clear p6
             try clear q026
             try clear q26
             obtain ⟨x8_4,x9_4,rfl,HA,HK4,HO_3,HO_8,HB⟩ := hrel
             cases gk with
             | zero => exact absurd HA.out (by simp [spec_l01Hash.l3])
             | succ k4 =>
              have H := HA.out
              clear HA
              simp only [spec_l01Hash.l3] at H
              by_cases c33 : x9_4 < 8
              ·rw [if_pos c33] at H
               have c33b0 : decide (x9_4 < 8) = true := decide_eq_true c33
               clear c33
               by_cases c34 : 0 ≤ x9_4
               ·rw [if_pos c34] at H
                have c34b0 : decide (0 ≤ x9_4) = true := decide_eq_true c34
                clear c34
                by_cases c35 : x9_4 < (x3_3.length : Int)
                ·rw [if_pos c35] at H
                 have c35b0 : decide (x9_4 < (x3_3.length : Int)) = true := decide_eq_true c35
                 clear c35
                 obtain ⟨y194,hy194⟩ : ∃ y_ : List Int,y_ = (([((rd x3_3 x9_4) / 16777216) % 256,((rd x3_3 x9_4) / 65536) % 256,((rd x3_3 x9_4) / 256) % 256,(rd x3_3 x9_4) % 256] : List Int)) := ⟨_,rfl⟩
                 replace H : (if x8_4.length + y194.length < 140737488355328 then (spec_l01Hash.l3 k4 x3_3 (x8_4 ++ y194) (wrap64 (x9_4 + 1))) else (none)) = some r := by first | (rw [hy194];with_reducible exact H) | (have H2_ := (Option.bind_some _ _).symm.trans H;rw [hy194];with_reducible exact H2_) | (have H2_ := (Option.bind_some _ _).symm.trans H;with_reducible exact H2_) | with_reducible exact H | (rw [hy194];exact H) | exact H
                 have Ny194 := am_ hy194
                 clear hy194
                 by_cases c36 : x8_4.length + y194.length < 140737488355328
                 ·rw [if_pos c36] at H
                  have LMc36 := am_ c36
                  clear c36
                  obtain ⟨y197,hy197⟩ : ∃ y_ : List Int,y_ = (x8_4 ++ y194) := ⟨_,rfl⟩
                  replace H : (spec_l01Hash.l3 k4 x3_3 y197 (wrap64 (x9_4 + 1))) = some r := by first | (rw [hy197];with_reducible exact H) | (have H2_ := (Option.bind_some _ _).symm.trans H;rw [hy197];with_reducible exact H2_) | (have H2_ := (Option.bind_some _ _).symm.trans H;with_reducible exact H2_) | with_reducible exact H | (rw [hy197];exact H) | exact H
                  have Ny197 := am_ hy197
                  clear hy197
                  have H' := am_ H
                  clear H
                  try go_wp2
                  replace HO_3 := am_ (Kd.R_drew HO_3.out)
                  replace HO_8 := am_ (Kd.R_drew HO_8.out)
                  replace HB := am_ (below_drew1 HB.out)
                  obtain ⟨Ao38,co38,eo38⟩ := Kd.R_slice HO_3.out
                  (first | subst eo38 | (injection eo38 with f1_ f2_ f3_;have f4_ := f1_.symm;have f5_ := f3_.symm;clear f1_ f2_ f3_;subst f4_;subst f5_))
                  have p190 : 0 ≤ (x9_4 : Int) := zo_
                  have q190 : x9_4 < (x3_3.length : Int) := zo_
                  obtain ⟨ad190,e190,hx190_0⟩ := Kd.at_int (Kd.R_reads' HO_3.out).2.2 x9_4 p190 q190
                  cases e190
                  replace p190 := eq_true p190
                  replace q190 := eq_true q190
                  have p191 : 0 ≤ (x9_4 : Int) := zo_
                  have q191 : x9_4 < (x3_3.length : Int) := zo_
                  obtain ⟨ad191,e191,hx191_0⟩ := Kd.at_int (Kd.R_reads' HO_3.out).2.2 x9_4 p191 q191
                  obtain rfl : ad190 = ad191 := (by injection e191)
                  replace p191 := eq_true p191
                  replace q191 := eq_true q191
                  have p192 : 0 ≤ (x9_4 : Int) := zo_
                  have q192 : x9_4 < (x3_3.length : Int) := zo_
                  obtain ⟨ad192,e192,hx192_0⟩ := Kd.at_int (Kd.R_reads' HO_3.out).2.2 x9_4 p192 q192
                  obtain rfl : ad190 = ad192 := (by injection e192)
                  replace p192 := eq_true p192
                  replace q192 := eq_true q192
                  have p193 : 0 ≤ (x9_4 : Int) := zo_
                  have q193 : x9_4 < (x3_3.length : Int) := zo_
                  obtain ⟨ad193,e193,hx193_0⟩ := Kd.at_int (Kd.R_reads' HO_3.out).2.2 x9_4 p193 q193
                  obtain rfl : ad190 = ad193 := (by injection e193)
                  replace p193 := eq_true p193
                  replace q193 := eq_true q193
                  refine start_ (n := 27) (S := fun w' => w'.cell? (ad190.add (x9_4).toNat) = some (.int .u32 (rd x3_3 x9_4)) ∧ w'.cell? (ad190.add (x9_4).toNat) = some (.int .u32 (rd x3_3 x9_4)) ∧ w'.cell? (ad190.add (x9_4).toNat) = some (.int .u32 (rd x3_3 x9_4)) ∧ w'.cell? (ad190.add (x9_4).toNat) = some (.int .u32 (rd x3_3 x9_4))) (ds := [25]) #[false,false,false,false,false,false,false,false,false,false,false,false,false,false,false,false,false,false,false,false,false,false,false,false,false,false,false] (by kernel_rfl) rfl rfl ⟨hx190_0,hx191_0,hx192_0,hx193_0⟩ (fun hHeld => ?_);refine with_tabW spec_l01Hash.tab18 spec_l01Hash.bits18 (fun HT_ HW_ => ?_)
                  generalize wr.drew = w37 at HO_3 HO_8 HB hx190_0 hx191_0 hx192_0 hx193_0 hHeld ⊢
                  refine zpu 0 (N := some 58) HT_ ?_
                  refine zpu 1 (N := some 59) HT_ ?_
                  refine zpu 2 (N := some 60) HT_ ?_
                  refine zpu 3 (N := some 61) HT_ ?_
                  refine zpu 7 (N := some 65) HT_ ?_
                  refine zpu 8 (N := some 66) HT_ ?_
                  refine zpu 9 (N := some 67) HT_ ?_
                  refine zpu 13 (N := some 71) HT_ ?_
                  refine zpu 14 (N := some 72) HT_ ?_
                  refine zpu 15 (N := some 73) HT_ ?_
                  refine zpu 19 (N := some 77) HT_ ?_
                  refine zpu 20 (N := some 78) HT_ ?_
                  refine zpu 21 (N := some 79) HT_ ?_
                  refine ztk 4 (N := some 62) HT_ HW_ hHeld ?_
                  refine zpu 5 (N := some 63) HT_ ?_
                  refine zpu 6 (N := some 64) HT_ ?_
                  refine ztk 10 (N := some 68) HT_ HW_ hHeld ?_
                  refine zpu 11 (N := some 69) HT_ ?_
                  refine zpu 12 (N := some 70) HT_ ?_
                  refine ztk 16 (N := some 74) HT_ HW_ hHeld ?_
                  refine zpu 17 (N := some 75) HT_ ?_
                  refine zpu 18 (N := some 76) HT_ ?_
                  refine ztk 22 (N := some 80) HT_ HW_ hHeld ?_
                  refine zpu 23 (N := some 81) HT_ ?_
                  refine zon 24 (N := some 82) HT_ (fun K hK => ?_)
                  refine Kd.R_lit_step (Kd.int .u8) _ 5 ?hg (N := 82) ?hd (xs := ([((rd x3_3 x9_4) / 16777216) % 256,((rd x3_3 x9_4) / 65536) % 256,((rd x3_3 x9_4) / 256) % 256,(rd x3_3 x9_4) % 256] : List Int)) (inner := [.int .u8 (((rd x3_3 x9_4) / 16777216) % 256),.int .u8 (((rd x3_3 x9_4) / 65536) % 256),.int .u8 (((rd x3_3 x9_4) / 256) % 256),.int .u8 ((rd x3_3 x9_4) % 256)]) (ok := fun _ => True) (okp := fun _ => True) ?hr ?hp (fun _ hk => hk) trivial (Below.refl _ _) (Nat.le_refl _) (by simp) ?_;(case hd => rfl);(case hg => rfl);(case hr => first | (go_simp;done) | (go_simp;rfl));(case hp => exact (Reps.one (show Kd.M (Kd.int .u8) _ _ _ (((rd x3_3 x9_4) / 16777216) % 256) [.int .u8 (((rd x3_3 x9_4) / 16777216) % 256)] from rfl) (Reps.one (show Kd.M (Kd.int .u8) _ _ _ (((rd x3_3 x9_4) / 65536) % 256) [.int .u8 (((rd x3_3 x9_4) / 65536) % 256)] from rfl) (Reps.one (show Kd.M (Kd.int .u8) _ _ _ (((rd x3_3 x9_4) / 256) % 256) [.int .u8 (((rd x3_3 x9_4) / 256) % 256)] from rfl) (Reps.one (show Kd.M (Kd.int .u8) _ _ _ ((rd x3_3 x9_4) % 256) [.int .u8 ((rd x3_3 x9_4) % 256)] from rfl) (Reps.none _ _))))))
                  intro v195 w39 ho40 hb hg_ hnew_
                  have HS0_ := (hb.cell (World.block_lt_of_cell? _ _ (hHeld.1))).trans (hHeld.1)
                  have HS1_ := (hb.cell (World.block_lt_of_cell? _ _ (hHeld.2.1))).trans (hHeld.2.1)
                  have HS2_ := (hb.cell (World.block_lt_of_cell? _ _ (hHeld.2.2.1))).trans (hHeld.2.2.1)
                  have HS3_ := (hb.cell (World.block_lt_of_cell? _ _ (hHeld.2.2.2))).trans (hHeld.2.2.2)
                  clear hg_ hnew_
                  (first | rw [← Ny194.out] at ho40 | (simp only [Int.reduceToNat] at ho40;rw [← Ny194.out] at ho40))
                  replace HO_3 := zrb HO_3 hb
                  have HO196 := am_ (Kd.R_lower (Kd.R_new' ho40 (Kd.R_lt (zr HO_8))) (below_size (zl_ HB)))
                  replace HO_8 := am_ (Kd.R_elder' (zr HO_8) (Kd.R_base ho40) hb)
                  replace HB := zs_ HB hb
                  clear hb ho40
                  obtain ⟨Ao42,co42,eo42⟩ := Kd.R_slice HO196.out
                  (first | subst eo42 | (injection eo42 with f1_ f2_ f3_;have f4_ := f1_.symm;have f5_ := f3_.symm;clear f1_ f2_ f3_;subst f4_;subst f5_))
                  refine hK.out _ _ ⟨HS0_,HS1_,HS2_,HS3_⟩ (fun hHeld => ?_)
                  clear hK K
                  refine norm_ (a' := ?_) ?_ ?_
                  rotate_left
                  ·show Act.put _ (some 82) _ = _
                   simp only [Act.put,p1_,p2_,p3_,i64_w,i32_w]
                   rfl
                  refine last_ (i := 25) (N := some 83) #[true,true,true,true,true,true,true,true,true,true,true,true,true,true,true,true,true,true,true,true,true,true,true,true,true,true,false] rfl rfl (one_of HT_.out (by kernel_rfl)) (by decide) (fun K hK => ?_)
                  refine Kd.R_append_rows_step (Kd.int .u8) (w0 := w) w.heap.size (by rfl) (.tmp 58) (.tmp 82) 31 5 (.int .u8 0) 1 rfl Tryd.underlying31 info5 rfl (by decide) (by omega) u8 x8_4 y194 _ _ _ (fun k_ => some k_ ≠ (.slice Ao42 y194.length co42 : Value).ownBlock) (fun _ => False) rfl rfl ?aO ?aR (fun _ _ h => h) (fun _ h => h.elim) ?aF ?aB ?aS ?aL ?_
                  (case aR => repeat (first | exact (Kd.R_reads' HO196.out).2.2 | (with_reducible refine Kd.C_alloc ?_ _) | (with_reducible refine Kd.C_drewN ?_ _) | (with_reducible refine Kd.C_drew ?_)))
                  (case aB => exact (zl_ HB))
                  (case aF => exact (fun k_ hk => Kd.fresh' (Kd.R_lt (zr HO196)) k_ hk))
                  (case aO => exact (by (with_reducible repeat (first | apply r1_ | apply r2_ | apply r3_));exact Kd.R_mono HO_8.out (fun _ hk => hk.2)))
                  (case aS => exact (below_size (zl_ HB)))
                  (case aL => have := LMc36.out;omega)
                  intro v198 w41 ho hb hg hat
                  rw [← Ny197.out] at ho
                  replace HO_3 := am_ (Kd.R_over' (zr HO_3) (Kd.R_typed (zr HO_8)) (by decide) hg)
                  replace HB := am_ (hb)
                  have HO199 := am_ (ho)
                  clear HO_8
                  clear ho hb hg hat
                  refine hK.out _ _ ?_
                  clear hK K
                  refine norm_ (a' := ?_) ?_ ?_
                  rotate_left
                  ·show Act.put _ (some 83) _ = _
                   simp only [Act.put,p1_,p2_,p3_,i64_w,i32_w]
                   rfl
                  refine zpu 26 (N := some 8) HT_ ?_
                  refine done_ (done_of HT_.out (by kernel_rfl)) ?_
                  try go_wp2
                  go_roundg k4
                  case measure => have := HK1.out;have := HK2.out;have := HK3.out;have := HK4.out;omega
                  case rel => exact ⟨(y197),(wrap64 (x9_4 + 1)),(by first | rfl | (simp;done) | (simp [*];done)),H',⟨by have := HK1.out;have := HK2.out;have := HK3.out;have := HK4.out;omega⟩,⟨zr HO_3⟩,⟨by (with_reducible repeat (first | apply r1_ | apply r2_ | apply r3_));exact Kd.R_mono HO199.out (fun _ hk => trivial)⟩,⟨zl_ HB⟩⟩
                 ·rw [if_neg c36] at H
                  exact absurd H (by simp)
                ·rw [if_neg c35] at H
                 exact absurd H (by simp)
               ·rw [if_neg c34] at H
                exact absurd H (by simp)
              ·rw [if_neg c33] at H
               have c33b0 : decide (x9_4 < 8) = false := decide_eq_false c33
               clear c33
               obtain rfl := Option.some.inj H
               have hcv43 := own_string (P := Tryd.prog) Tryd.underlying31 Tryd.underlying5 Tryd.underlying9 (Kd.own_of_R HO_8.out)
               go_wp2
               go_ret
               exact ⟨zt_,zl_ HB⟩
     ·rw [if_neg c10] at H
      have c10b0 : (((x4_1.length : Int) % 64) == 56) = false := beq_eq_false_iff_ne.mpr c10
      have c10b1 : (((x4_1.length : Int) % 64) != 56) = true := bne_iff_ne.mpr c10
      by_cases c44 : x4_1.length < 140737488355328
      ·rw [if_pos c44] at H
       have LMc44 := am_ c44
       clear c44
       obtain ⟨y173,hy173⟩ : ∃ y_ : List Int,y_ = (x4_1 ++ [0]) := ⟨_,rfl⟩
       replace H : (spec_l01Hash.l0 k1 l0 y161 y173) = some r := by first | (rw [hy173];with_reducible exact H) | (have H2_ := (Option.bind_some _ _).symm.trans H;rw [hy173];with_reducible exact H2_) | (have H2_ := (Option.bind_some _ _).symm.trans H;with_reducible exact H2_) | with_reducible exact H | (rw [hy173];exact H) | exact H
       have Ny173 := am_ hy173
       clear hy173
       have H' := am_ H
       clear H
       obtain ⟨Ao45,co45,eo45⟩ := Kd.R_slice HO_4.out
       subst eo45
       go_wp2_with (first | ((with_reducible refine gate_builtin (b := .append) (xs := #[.tmp 20,.tmp 21]) rfl ?_);at_builtin;refine Kd.R_append (Kd.int .u8) (w0 := w) w.heap.size rfl (.tmp 20) (.tmp 21) 31 5 (.int .u8 0) 1 rfl Tryd.underlying31 info5 rfl (by decide) (by omega) (.slice Ao45 x4_1.length co45) x4_1 0 [.int .u8 0] (fun _ => True) (fun _ => False) rfl rfl ?aP (fun _ hk => hk.elim) ?aF ?aO ?aB ?aS ?aL ?_;(case aP => exact rfl);(case aB => exact (zl_ HB));(case aF => exact (fun _ _ => trivial));(case aO => exact (zr HO_4));(case aS => exact (below_size (zl_ HB)));(case aL => have := LMc44.out;omega);intro v174 w46 ho hb hg hat;rw [← Ny173.out] at ho;replace HO_3 := am_ (Kd.R_over' (zr HO_3) (Kd.R_typed (zr HO_4)) (by decide) hg);replace HB := am_ (hb);have HO175 := am_ (ho);clear HO_4;clear ho hb hg hat))
       go_roundg k1
       case measure => have := HK1.out;omega
       case rel => exact ⟨(y173),H',⟨by have := HK1.out;omega⟩,⟨zr HO_3⟩,⟨zr HO175⟩,⟨zl_ HB⟩⟩
      ·rw [if_neg c44] at H
       exact absurd H (by simp)
  ·rw [if_neg c3] at H
   exact absurd H (by simp)
 ·rw [if_neg c2] at H
  exact absurd H (by simp)
set_option maxHeartbeats 8000000 in
set_option maxRecDepth 100000 in
theorem spec_l03Bits.calls (k : Nat) (a0 : ByteArray) (r : ByteArray) (w : World) (h : spec_l03Bits.f k a0 = some r) :
  Calls Tryd.prog 137 #[.string a0] w fun e w' => e = .returned (.string r) ∧ Below w.heap.size w w' := by
 have HB := am_ (Below.refl w.heap.size w)
 have H : (if 6 + a0.size ≤ 9223372036854775807 then (if ((⟨#[100,105,103,101,115,116]⟩ : ByteArray) ++ a0).size ≤ 140737488355328 then ((spec_l01Hash.f k (bytesOf ((⟨#[100,105,103,101,115,116]⟩ : ByteArray) ++ a0))).bind fun t970 => (spec_l03Bits.l0 k t970 (([] : List Int)) 0)) else (none)) else (none)) = some r := h
 clear h
 by_cases c2 : 6 + a0.size ≤ 9223372036854775807
 ·rw [if_pos c2] at H
  have c2b0 := eq_true c2
  have c2b1 : decide (6 + a0.size ≤ 9223372036854775807) = true := decide_eq_true c2
  try have c2b2 : (9223372036854775807 < 6 + a0.size) = False := eq_false (Nat.not_lt.2 c2)
  by_cases c3 : ((⟨#[100,105,103,101,115,116]⟩ : ByteArray) ++ a0).size ≤ 140737488355328
  ·rw [if_pos c3] at H
   have c3b0 := eq_true c3
   have c3b1 : decide (((⟨#[100,105,103,101,115,116]⟩ : ByteArray) ++ a0).size ≤ 140737488355328) = true := decide_eq_true c3
   obtain ⟨y967,hy967⟩ : ∃ y_ : List Int,y_ = (bytesOf ((⟨#[100,105,103,101,115,116]⟩ : ByteArray) ++ a0)) := ⟨_,rfl⟩
   replace H : ((spec_l01Hash.f k y967).bind fun t970 => (spec_l03Bits.l0 k t970 (([] : List Int)) 0)) = some r := by first | (rw [hy967];with_reducible exact H) | (have H2_ := (Option.bind_some _ _).symm.trans H;rw [hy967];with_reducible exact H2_) | (have H2_ := (Option.bind_some _ _).symm.trans H;with_reducible exact H2_) | with_reducible exact H | (rw [hy967];exact H) | exact H
   have Ny967 := am_ hy967
   clear hy967
   replace H := Option.bind_eq_some_iff.mp H
   obtain ⟨t970,A40,H⟩ := H
   try dsimp only at H
   have A4 := am_ A40
   clear A40
   obtain ⟨y971,hy971⟩ : ∃ y_ : List Int,y_ = (([] : List Int)) := ⟨_,rfl⟩
   replace H : (spec_l03Bits.l0 k t970 y971 0) = some r := by first | (rw [hy971];with_reducible exact H) | (have H2_ := (Option.bind_some _ _).symm.trans H;rw [hy971];with_reducible exact H2_) | (have H2_ := (Option.bind_some _ _).symm.trans H;with_reducible exact H2_) | with_reducible exact H | (rw [hy971];exact H) | exact H
   have Ny971 := am_ hy971
   clear hy971
   have H' := am_ H
   clear H
   go_enter Tryd.func137,Tryd.ntmps137
   go_wp2_with (first | ((with_reducible refine gate_dst (N := 8) rfl ?_);refine Kd.V_conv (Kd.int .u8) rfl _ 5 rfl (N := 8) rfl 9 31 _ rfl ((⟨#[100,105,103,101,115,116]⟩ : ByteArray) ++ a0) rfl Tryd.underlying9 Tryd.underlying31 Tryd.underlying5 (ok := fun k_ => w.heap.size ≤ k_) (okp := fun _ => False) (fun _ hk => hk.elim) (Nat.le_refl _) (by have := o1_ (by first | (with_reducible assumption) | assumption : decide (((⟨#[100,105,103,101,115,116]⟩ : ByteArray) ++ a0).size ≤ 140737488355328) = true);omega) (Below.refl _ _) (Nat.le_refl _) ?_;intro v968 w5 ho6 hb hg_ hnew_;clear hg_ hnew_;(first | rw [← Ny967.out] at ho6 | (simp only [Int.reduceToNat] at ho6;rw [← Ny967.out] at ho6));have HO969 := am_ (Kd.V_lower (Kd.V_mono (ok' := fun k_ => True) ho6 (fun k_ hk_ => trivial)) (below_size (zl_ HB)));replace HB := zs_ HB hb;clear hb ho6;obtain ⟨Ao7,co7,eo7⟩ := Kd.V_slice HO969.out;subst eo7) | ((with_reducible refine gate_callee (f := 123) rfl ?_);refine zgl (some 9) Tryd.func123 #[.slice Ao7 y967.length co7] ?_;(with_reducible refine (spec_l01Hash.calls k _ _ y967 t970 _ ?side1 ?side2 A4.out).mono ?_);(case side1 => repeat (first | exact (Kd.V_reads' HO969.out).2.2 | (with_reducible refine Kd.C_alloc ?_ _) | (with_reducible refine Kd.C_drewN ?_ _) | (with_reducible refine Kd.C_drew ?_)));(case side2 => exact (Kd.V_reads' HO969.out).2.1);rintro e w8 ⟨rfl,hb⟩;refine ⟨_,rfl,?_⟩;replace HB := zs_ HB hb;(try clear hb);(try clear hb2);(try clear hk);(try clear hi)) | ((with_reducible refine gate_dst (N := 10) rfl ?_);refine Kd.R_lit (Kd.int .u8) _ 5 ?hg (N := 10) ?hd (xs := ([] : List Int)) (inner := []) (ok := fun _ => True) (okp := fun _ => True) ?hr ?hp (fun _ hk => hk) trivial (Below.refl _ _) (Nat.le_refl _) (by simp) ?_;(case hd => rfl);(case hg => rfl);(case hr => first | (go_simp;done) | (go_simp;rfl));(case hp => exact (Reps.none _ _));intro v972 w9 ho10 hb hg_ hnew_;clear hg_ hnew_;(first | rw [← Ny971.out] at ho10 | (simp only [Int.reduceToNat] at ho10;rw [← Ny971.out] at ho10));have HO973 := am_ (Kd.R_lower ho10 (below_size (zl_ HB)));replace HB := zs_ HB hb;clear hb ho10))
   go_loopg [4,5] k (fun kq v4 v5 w' => ∃ (x4_1 : List Int) (x5_1 : Int),v5 = .int .i64 x5_1 ∧ Aside0 (spec_l03Bits.l0 kq t970 x4_1 x5_1 = some r) ∧ Aside0 (kq ≤ k) ∧ Aside0 (Kd.R (Kd.int .u8) 5 w' w.heap.size (fun _ => True) v4 x4_1) ∧ Aside0 (Below w.heap.size w w'))
   case atStart => exact ⟨(y971),(0),(by first | rfl | (simp;done) | (simp [*];done)),H',⟨Nat.le_refl _⟩,⟨zr HO973⟩,⟨zl_ HB⟩⟩
   case round =>
    clear H'
    try clear c1
    try clear c2
    try clear c2b0
    try clear c2b1
    try clear c2b2
    try clear p2
    try clear c3
    try clear c3b0
    try clear c3b1
    obtain ⟨x4_1,x5_1,rfl,HA,HK1,HO_4,HB⟩ := hrel
    cases gk with
    | zero => exact absurd HA.out (by simp [spec_l03Bits.l0])
    | succ k1 =>
     have H := HA.out
     clear HA
     simp only [spec_l03Bits.l0] at H
     by_cases c11 : x5_1 < 32
     ·rw [if_pos c11] at H
      have c11b0 : decide (x5_1 < 32) = true := decide_eq_true c11
      clear c11
      obtain ⟨ji12,hji12⟩ : ∃ j_ : Int,(wrap64 (Int.tdiv x5_1 8)) = j_ := ⟨_,rfl⟩
      replace H : (if 0 ≤ (ji12) then (if (ji12) < (t970.size : Int) then (if 0 ≤ (IntKind.u64.wrap (wrap64 (7 - (Int.tmod x5_1 8)))) then (if x4_1.length < 140737488355328 then (spec_l03Bits.l0 k1 t970 (x4_1 ++ [(48 + (Go.bits .and .u8 (shr .u8 (bt t970 (ji12)) (IntKind.u64.wrap (wrap64 (7 - (Int.tmod x5_1 8))))) 1)) % 256]) (wrap64 (x5_1 + 1))) else (none)) else (none)) else (none)) else (none)) = some r := by first | (rw [hji12] at H;exact H) | (simp only [hji12] at H ⊢;exact H)
      have hji12w : (IntKind.i64.wrap (Int.tdiv x5_1 8)) = ji12 := (i64_w _).trans hji12
      by_cases c13 : 0 ≤ (ji12)
      ·rw [if_pos c13] at H
       have c13b0 : decide (0 ≤ (ji12)) = true := decide_eq_true c13
       clear c13
       by_cases c14 : (ji12) < (t970.size : Int)
       ·rw [if_pos c14] at H
        have c14b0 : decide ((ji12) < (t970.size : Int)) = true := decide_eq_true c14
        clear c14
        obtain ⟨ji16,hji16⟩ : ∃ j_ : Int,(IntKind.u64.wrap (wrap64 (7 - (Int.tmod x5_1 8)))) = j_ := ⟨_,rfl⟩
        replace H : (if 0 ≤ (ji16) then (if x4_1.length < 140737488355328 then (spec_l03Bits.l0 k1 t970 (x4_1 ++ [(48 + (Go.bits .and .u8 (shr .u8 (bt t970 (ji12)) (ji16)) 1)) % 256]) (wrap64 (x5_1 + 1))) else (none)) else (none)) = some r := by first | (rw [hji16] at H;exact H) | (simp only [hji16] at H ⊢;exact H)
        by_cases c17 : 0 ≤ (ji16)
        ·rw [if_pos c17] at H
         have c17b0 := eq_true c17
         have c17b1 : decide (0 ≤ (ji16)) = true := decide_eq_true c17
         clear c17
         obtain ⟨ji18,hji18⟩ : ∃ j_ : Int,(shr .u8 (bt t970 (ji12)) (ji16)) = j_ := ⟨_,rfl⟩
         replace H : (if x4_1.length < 140737488355328 then (spec_l03Bits.l0 k1 t970 (x4_1 ++ [(48 + (Go.bits .and .u8 (ji18) 1)) % 256]) (wrap64 (x5_1 + 1))) else (none)) = some r := by first | (rw [hji18] at H;exact H) | (simp only [hji18] at H ⊢;exact H)
         have hji18_ : ((bt t970 (ji12)) / 2 ^ min (ji16).toNat 8) = ji18 := hji18
         have hji18z : (ji16) ≤ 8 → ((bt t970 (ji12)) / 2 ^ (ji16).toNat) = ji18 := shr_small hji18
         by_cases c19 : x4_1.length < 140737488355328
         ·rw [if_pos c19] at H
          have LMc19 := am_ c19
          clear c19
          obtain ⟨y974,hy974⟩ : ∃ y_ : List Int,y_ = (x4_1 ++ [(48 + (Go.bits .and .u8 (ji18) 1)) % 256]) := ⟨_,rfl⟩
          replace H : (spec_l03Bits.l0 k1 t970 y974 (wrap64 (x5_1 + 1))) = some r := by first | (rw [hy974];with_reducible exact H) | (have H2_ := (Option.bind_some _ _).symm.trans H;rw [hy974];with_reducible exact H2_) | (have H2_ := (Option.bind_some _ _).symm.trans H;with_reducible exact H2_) | with_reducible exact H | (rw [hy974];exact H) | exact H
          have Ny974 := am_ hy974
          clear hy974
          have H' := am_ H
          clear H
          have p15 : 0 ≤ ((ji12) : Int) := zo_
          have q15 : (ji12) < (t970.size : Int) := zo_
          have hx15 := bt_at t970 (ji12)
          replace p15 := eq_true p15
          replace q15 := eq_true q15
          go_wp2_with (first | ((with_reducible refine gate_builtin (b := .append) (xs := #[.tmp 15,.tmp 27]) rfl ?_);at_builtin;refine Kd.R_append (Kd.int .u8) (w0 := w) w.heap.size rfl (.tmp 15) (.tmp 27) 31 5 (.int .u8 0) 1 rfl Tryd.underlying31 info5 rfl (by decide) (by omega) u4 x4_1 ((48 + (Go.bits .and .u8 (ji18) 1)) % 256) [.int .u8 ((48 + (Go.bits .and .u8 (ji18) 1)) % 256)] (fun _ => True) (fun _ => False) rfl rfl ?aP (fun _ hk => hk.elim) ?aF ?aO ?aB ?aS ?aL ?_;(case aP => exact rfl);(case aB => exact (zl_ HB));(case aF => exact (fun _ _ => trivial));(case aO => exact (zr HO_4));(case aS => exact (below_size (zl_ HB)));(case aL => have := LMc19.out;omega);intro v975 w20 ho hb hg hat;rw [← Ny974.out] at ho;replace HB := am_ (hb);have HO976 := am_ (ho);clear HO_4;clear ho hb hg hat))
          go_roundg k1
          case measure => have := HK1.out;omega
          case rel => exact ⟨(y974),(wrap64 (x5_1 + 1)),(by first | rfl | (simp;done) | (simp [*];done)),H',⟨by have := HK1.out;omega⟩,⟨zr HO976⟩,⟨zl_ HB⟩⟩
         ·rw [if_neg c19] at H
          exact absurd H (by simp)
        ·rw [if_neg c17] at H
         exact absurd H (by simp)
       ·rw [if_neg c14] at H
        exact absurd H (by simp)
      ·rw [if_neg c13] at H
       exact absurd H (by simp)
     ·rw [if_neg c11] at H
      have c11b0 : decide (x5_1 < 32) = false := decide_eq_false c11
      clear c11
      obtain rfl := Option.some.inj H
      have hcv21 := own_string (P := Tryd.prog) Tryd.underlying31 Tryd.underlying5 Tryd.underlying9 (Kd.own_of_R HO_4.out)
      go_wp2
      go_ret
      exact ⟨zt_,zl_ HB⟩
  ·rw [if_neg c3] at H
   exact absurd H (by simp)
 ·rw [if_neg c2] at H
  exact absurd H (by simp)
set_option maxHeartbeats 8000000 in
set_option maxRecDepth 100000 in
theorem spec_l03Secret.calls (k : Nat) (a0 : ByteArray) (a1 : Int) (a2 : Int) (a3 : Int) (r : ByteArray) (w : World) (h : spec_l03Secret.f k a0 a1 a2 a3 = some r) :
  Calls Tryd.prog 138 #[.string a0,.int .i64 a1,.int .i64 a2,.int .i64 a3] w fun e w' => e = .returned (.string r) ∧ Below w.heap.size w w' := by
 have HB := am_ (Below.refl w.heap.size w)
 have H : (if 6 + a0.size ≤ 9223372036854775807 then ((some (([(a1) % 256,(a2) % 256,(a3) % 256] : List Int) : List Int)).bind fun y941 => (if ((⟨#[115,101,99,114,101,116]⟩ : ByteArray) ++ a0).size + (strOfNums y941).size ≤ 9223372036854775807 then (if (((⟨#[115,101,99,114,101,116]⟩ : ByteArray) ++ a0) ++ (strOfNums y941)).size ≤ 140737488355328 then ((spec_l01Hash.f k (bytesOf (((⟨#[115,101,99,114,101,116]⟩ : ByteArray) ++ a0) ++ (strOfNums y941)))).bind fun t947 => (some t947)) else (none)) else (none))) else (none)) = some r := h
 clear h
 by_cases c5 : 6 + a0.size ≤ 9223372036854775807
 ·rw [if_pos c5] at H
  have c5b0 := eq_true c5
  have c5b1 : decide (6 + a0.size ≤ 9223372036854775807) = true := decide_eq_true c5
  try have c5b2 : (9223372036854775807 < 6 + a0.size) = False := eq_false (Nat.not_lt.2 c5)
  obtain ⟨y941,hy941⟩ : ∃ y_ : List Int,y_ = (([(a1) % 256,(a2) % 256,(a3) % 256] : List Int)) := ⟨_,rfl⟩
  replace H : (if ((⟨#[115,101,99,114,101,116]⟩ : ByteArray) ++ a0).size + (strOfNums y941).size ≤ 9223372036854775807 then (if (((⟨#[115,101,99,114,101,116]⟩ : ByteArray) ++ a0) ++ (strOfNums y941)).size ≤ 140737488355328 then ((spec_l01Hash.f k (bytesOf (((⟨#[115,101,99,114,101,116]⟩ : ByteArray) ++ a0) ++ (strOfNums y941)))).bind fun t947 => (some t947)) else (none)) else (none)) = some r := by first | (rw [hy941];with_reducible exact H) | (have H2_ := (Option.bind_some _ _).symm.trans H;rw [hy941];with_reducible exact H2_) | (have H2_ := (Option.bind_some _ _).symm.trans H;with_reducible exact H2_) | with_reducible exact H | (rw [hy941];exact H) | exact H
  have Ny941 := am_ hy941
  clear hy941
  by_cases c6 : ((⟨#[115,101,99,114,101,116]⟩ : ByteArray) ++ a0).size + (strOfNums y941).size ≤ 9223372036854775807
  ·rw [if_pos c6] at H
   have c6b0 := eq_true c6
   have c6b1 : decide (((⟨#[115,101,99,114,101,116]⟩ : ByteArray) ++ a0).size + (strOfNums y941).size ≤ 9223372036854775807) = true := decide_eq_true c6
   try have c6b2 : (9223372036854775807 < ((⟨#[115,101,99,114,101,116]⟩ : ByteArray) ++ a0).size + (strOfNums y941).size) = False := eq_false (Nat.not_lt.2 c6)
   (try have c6b3 := c6b2;simp only [ByteArray.size_append,show (⟨#[115,101,99,114,101,116]⟩ : ByteArray).size = 6 from rfl] at c6b3)
   by_cases c7 : (((⟨#[115,101,99,114,101,116]⟩ : ByteArray) ++ a0) ++ (strOfNums y941)).size ≤ 140737488355328
   ·rw [if_pos c7] at H
    have c7b0 := eq_true c7
    have c7b1 : decide ((((⟨#[115,101,99,114,101,116]⟩ : ByteArray) ++ a0) ++ (strOfNums y941)).size ≤ 140737488355328) = true := decide_eq_true c7
    obtain ⟨y944,hy944⟩ : ∃ y_ : List Int,y_ = (bytesOf (((⟨#[115,101,99,114,101,116]⟩ : ByteArray) ++ a0) ++ (strOfNums y941))) := ⟨_,rfl⟩
    replace H : ((spec_l01Hash.f k y944).bind fun t947 => (some t947)) = some r := by first | (rw [hy944];with_reducible exact H) | (have H2_ := (Option.bind_some _ _).symm.trans H;rw [hy944];with_reducible exact H2_) | (have H2_ := (Option.bind_some _ _).symm.trans H;with_reducible exact H2_) | with_reducible exact H | (rw [hy944];exact H) | exact H
    have Ny944 := am_ hy944
    clear hy944
    replace H := Option.bind_eq_some_iff.mp H
    obtain ⟨t947,A80,H⟩ := H
    try dsimp only at H
    have A8 := am_ A80
    clear A80
    obtain rfl := Option.some.inj H
    go_enter Tryd.func138,Tryd.ntmps138
    go_wp2_with (first | ((with_reducible refine gate_dst (N := 17) rfl ?_);refine Kd.R_lit (Kd.int .u8) _ 5 ?hg (N := 17) ?hd (xs := ([(a1) % 256,(a2) % 256,(a3) % 256] : List Int)) (inner := [.int .u8 ((a1) % 256),.int .u8 ((a2) % 256),.int .u8 ((a3) % 256)]) (ok := fun _ => True) (okp := fun _ => True) ?hr ?hp (fun _ hk => hk) trivial (Below.refl _ _) (Nat.le_refl _) (by simp) ?_;(case hd => rfl);(case hg => rfl);(case hr => first | (go_simp;done) | (go_simp;rfl));(case hp => exact (Reps.one (show Kd.M (Kd.int .u8) _ _ _ ((a1) % 256) [.int .u8 ((a1) % 256)] from rfl) (Reps.one (show Kd.M (Kd.int .u8) _ _ _ ((a2) % 256) [.int .u8 ((a2) % 256)] from rfl) (Reps.one (show Kd.M (Kd.int .u8) _ _ _ ((a3) % 256) [.int .u8 ((a3) % 256)] from rfl) (Reps.none _ _)))));intro v942 w9 ho10 hb hg_ hnew_;clear hg_ hnew_;(first | rw [← Ny941.out] at ho10 | (simp only [Int.reduceToNat] at ho10;rw [← Ny941.out] at ho10));have HO943 := am_ (Kd.R_lower ho10 (below_size (zl_ HB)));replace HB := zs_ HB hb;clear hb ho10;have hcv11 := own_string (P := Tryd.prog) Tryd.underlying31 Tryd.underlying5 Tryd.underlying9 (Kd.own_of_R HO943.out)) | ((with_reducible refine gate_dst (N := 20) rfl ?_);refine Kd.V_conv (Kd.int .u8) rfl _ 5 rfl (N := 20) rfl 9 31 _ rfl (((⟨#[115,101,99,114,101,116]⟩ : ByteArray) ++ a0) ++ (strOfNums y941)) rfl Tryd.underlying9 Tryd.underlying31 Tryd.underlying5 (ok := fun k_ => w9.heap.size ≤ k_) (okp := fun _ => False) (fun _ hk => hk.elim) (Nat.le_refl _) (by have := o1_ (by first | (with_reducible assumption) | assumption : decide ((((⟨#[115,101,99,114,101,116]⟩ : ByteArray) ++ a0) ++ (strOfNums y941)).size ≤ 140737488355328) = true);omega) (Below.refl _ _) (Nat.le_refl _) ?_;intro v945 w12 ho13 hb hg_ hnew_;clear hg_ hnew_;(first | rw [← Ny944.out] at ho13 | (simp only [Int.reduceToNat] at ho13;rw [← Ny944.out] at ho13));have HO946 := am_ (Kd.V_lower (Kd.V_mono (ok' := fun k_ => some k_ ≠ (v942 : Value).ownBlock) ho13 (fun k_ hk_ => (Kd.fresh' (Kd.R_lt (zr HO943)) k_ hk_))) (below_size (zl_ HB)));replace HB := zs_ HB hb;clear hb ho13;obtain ⟨Ao14,co14,eo14⟩ := Kd.V_slice HO946.out;subst eo14) | ((with_reducible refine gate_callee (f := 123) rfl ?_);refine zgl (some 21) Tryd.func123 #[.slice Ao14 y944.length co14] ?_;(with_reducible refine (spec_l01Hash.calls k _ _ y944 t947 _ ?side1 ?side2 A8.out).mono ?_);(case side1 => repeat (first | exact (Kd.V_reads' HO946.out).2.2 | (with_reducible refine Kd.C_alloc ?_ _) | (with_reducible refine Kd.C_drewN ?_ _) | (with_reducible refine Kd.C_drew ?_)));(case side2 => exact (Kd.V_reads' HO946.out).2.1);rintro e w15 ⟨rfl,hb⟩;refine ⟨_,rfl,?_⟩;replace HB := zs_ HB hb;(try clear hb);(try clear hb2);(try clear hk);(try clear hi)))
    go_ret
    exact ⟨zt_,zl_ HB⟩
   ·rw [if_neg c7] at H
    exact absurd H (by simp)
  ·rw [if_neg c6] at H
   exact absurd H (by simp)
 ·rw [if_neg c5] at H
  exact absurd H (by simp)
end Go.Proofs.YtadablpppkjdbaaDoor.B
end

section
namespace Go.Proofs.YtadablpppkjdbaaDoor.B
open Go.RowKit Go.Proofs.YtadablpppkjdbaaDoorW.PrintWords Go.Proofs.YtadablpppkjdbaaDoorW.PrintLast Go.Proofs.YtadablpppkjdbaaDoorW.PrintMore
set_option maxHeartbeats 2000000 in
set_option maxRecDepth 100000 in
theorem key_walk (k : Nat) (a0 : ByteArray) (a1 : Int) (r : ByteArray) (w : World) (h : spec_l03Key.f k a0 a1 = some r) :
    Calls Tryd.prog 150 #[.string a0, .int .i64 a1] w fun e w' => e = .returned (.string r) ∧ Below w.heap.size w w' := by
  have H' : Aside0 (spec_l03Key.l0 k a0 a1 [107, 101, 121] 0 = some r) := Aside0.mk h
  clear h
  go_enter Tryd.func150, Tryd.ntmps150
  go_wp2_with (first | ((with_reducible refine gate_dst (N := 9) rfl ?_); refine convlit_hs 31 5 [107, 101, 121] rfl (.tmp 8) rfl Tryd.underlying31 Tryd.underlying5 rfl rfl (by decide) rfl ?_; intro g cap w1 F0; have F := Aside0.mk F0; clear F0))
  go_loopg [5, 6] k (fun kq v5 v6 w' => ∃ (x5 : List Int) (x6 : Int) (g cap : Nat), v5 = .slice (some ⟨g, 0, none⟩) x5.length cap ∧ v6 = .int .i64 x6 ∧ Aside0 (spec_l03Key.l0 kq a0 a1 x5 x6 = some r) ∧ Aside0 (kq ≤ k) ∧ Aside0 (0 < x5.length ∧ x5.length ≤ 140737488355328) ∧ Aside0 (Hs w w' w.heap.size g cap x5))
  case atStart => exact ⟨_, 0, _, _, rfl, rfl, H', ⟨Nat.le_refl _⟩, ⟨by decide, by decide⟩, F⟩
  case round =>
    clear H' F
    obtain ⟨x5, x6, g1, cap1, rfl, rfl, HA, HK1, HP, F⟩ := hrel
    cases gk with
    | zero => exact absurd HA.out (by simp [spec_l03Key.l0])
    | succ k1 =>
      have H := HA.out
      clear HA
      simp only [spec_l03Key.l0] at H
      by_cases c5 : x6 < 32
      · rw [if_pos c5] at H
        have c5b0 : decide (x6 < 32) = true := decide_eq_true c5
        clear c5
        have H' := Aside0.mk H
        clear H
        go_wp2
        go_loopg [5, 7] k1 (fun kq v5 v7 w' => ∃ (x5 : List Int) (x7 : Int) (g cap : Nat), v5 = .slice (some ⟨g, 0, none⟩) x5.length cap ∧ v7 = .int .i64 x7 ∧ Aside0 (spec_l03Key.l1 kq a0 a1 x5 x6 x7 = some r) ∧ Aside0 (kq ≤ k1) ∧ Aside0 (0 < x5.length ∧ x5.length ≤ 140737488355328) ∧ Aside0 (Hs w w' w.heap.size g cap x5))
        case atStart => exact ⟨_, 0, _, _, rfl, rfl, H', ⟨Nat.le_refl _⟩, HP, F⟩
        case round =>
          clear H' F HP c5b0
          obtain ⟨x5, x7, g2, cap2, rfl, rfl, HA, HK2, HP, F⟩ := hrel
          cases gk with
          | zero => exact absurd HA.out (by simp [spec_l03Key.l1])
          | succ k2 =>
            have H := HA.out
            clear HA
            simp only [spec_l03Key.l1] at H
            by_cases c6 : x7 < 2
            · rw [if_pos c6] at H
              have c6b0 : decide (x7 < 2) = true := decide_eq_true c6
              clear c6
              replace H := Option.bind_eq_some_iff.mp H
              obtain ⟨t, A70, H⟩ := H
              have A7 := Aside0.mk A70
              clear A70
              by_cases c8 : t.size ≤ 140737488355328
              · rw [if_pos c8] at H
                have L8 := Aside0.mk c8
                clear c8
                replace H := Option.bind_eq_some_iff.mp H
                obtain ⟨t2, A90, H⟩ := H
                have A9 := Aside0.mk A90
                clear A90
                by_cases c10 : x5.length + t2.size < 140737488355328
                · rw [if_pos c10] at H
                  have L10 := Aside0.mk c10
                  clear c10
                  have H' := Aside0.mk H
                  clear H
                  go_wp2_with (first | (go_at_call 138; with_reducible refine (spec_l03Secret.calls k2 a0 a1 x6 x7 t _ A7.out).mono ?_; rintro e w4 ⟨rfl, hb4⟩; have F' := Aside0.mk (F.out.on hb4); clear F hb4) | ((with_reducible refine gate_dst (N := 24) rfl ?_); refine conv_hs 5 rfl 9 31 _ rfl t rfl Tryd.underlying9 Tryd.underlying31 Tryd.underlying5 ?_; intro g3 cap3 w5 G0; have G := Aside0.mk G0; clear G0; have F := Aside0.mk (F'.out.on G.out.below); clear F') | (go_at_call 123; refine calls_of_args (args' := #[.slice (some ⟨g3, 0, none⟩) (bytesOf t).length cap3]) (by rw [bytesOf_length]) ?_; with_reducible refine (spec_l01Hash.calls k2 (some ⟨g3, 0, none⟩) cap3 (bytesOf t) t2 _ (bmC G.out.row (by have := L8.out; rw [bytesOf_length]; omega)) G.out.row.room A9.out).mono ?_; rintro e w6 ⟨rfl, hb6⟩; have F' := Aside0.mk (F.out.on hb6); clear hb6 F G) | ((with_reducible refine gate_builtin (b := .append) (xs := #[.tmp 18, .tmp 25]) rfl ?_); at_builtin; refine appendT_hs (l := x5) 31 9 5 rfl (.tmp 18) (.tmp 25) rfl Tryd.underlying31 Tryd.underlying9 info5 t2 rfl rfl HP.out.1 F'.out (by have := L10.out; omega) ?_; clear F'; intro g' cap' w7 F0; have F := Aside0.mk F0; clear F0))
                  go_roundg k2
                  case measure => have := HK1.out; have := HK2.out; omega
                  case rel => exact ⟨x5 ++ bytesOf t2, _, _, _, by rw [List.length_append], rfl, H', ⟨by have := HK1.out; have := HK2.out; omega⟩, ⟨by have := HP.out.1; rw [List.length_append]; omega, by have := L10.out; rw [List.length_append, bytesOf_length]; omega⟩, F⟩
                · rw [if_neg c10] at H
                  exact absurd H (by simp)
              · rw [if_neg c8] at H
                exact absurd H (by simp)
            · rw [if_neg c6] at H
              have c6b0 : decide (x7 < 2) = false := decide_eq_false c6
              clear c6
              have H' := Aside0.mk H
              clear H
              go_wp2
              go_roundg k2
              case measure => have := HK1.out; have := HK2.out; omega
              case rel => exact ⟨_, _, _, _, rfl, rfl, H', ⟨by have := HK1.out; have := HK2.out; omega⟩, HP, F⟩
      · rw [if_neg c5] at H
        have c5b0 : decide (x6 < 32) = false := decide_eq_false c5
        clear c5
        replace H := Option.bind_eq_some_iff.mp H
        obtain ⟨t, A170, H⟩ := H
        have A17 := Aside0.mk A170
        clear A170
        obtain rfl := Option.some.inj H
        go_wp2_with (first | (go_at_call 123; with_reducible refine (spec_l01Hash.calls k1 (some ⟨g1, 0, none⟩) cap1 x5 t _ (bmC F.out.row HP.out.2) F.out.row.room A17.out).mono ?_; rintro e w6 ⟨rfl, hb6⟩; have B := Aside0.mk (Below.trans F.out.below (hb6.mono (by have := F.out.below.size; exact this))); clear hb6 F))
        go_ret
        exact ⟨by first | rfl | (simp; done), B.out⟩
end Go.Proofs.YtadablpppkjdbaaDoor.B
end

section
namespace Go.Proofs.YtadablpppkjdbaaDoor.B
open Go.RowKit Go.Proofs.YtadablpppkjdbaaDoorW.PrintWords Go.Proofs.YtadablpppkjdbaaDoorW.PrintLast Go.Proofs.YtadablpppkjdbaaDoorW.PrintMore
attribute [local go_sem] max2_int min2_int max_two min_two max_three min_three max_four min_four
set_option maxHeartbeats 8000000 in
set_option maxRecDepth 100000 in
theorem spec_l03Key.calls (k : Nat) (a0 : ByteArray) (a1 : Int) (r : ByteArray) (w : World) (h : spec_l03Key.f k a0 a1 = some r) :
  Calls Tryd.prog 150 #[.string a0,.int .i64 a1] w fun e w' => e = .returned (.string r) ∧ Below w.heap.size w w' := key_walk k a0 a1 r w h
set_option maxHeartbeats 8000000 in
set_option maxRecDepth 100000 in
theorem spec_l03Keys.calls (k : Nat) (a0 : ByteArray) (r : List ByteArray) (w : World) (h : spec_l03Keys.f k a0 = some r) :
  Calls Tryd.prog 95 #[.string a0] w fun e w' => ∃ v0_ : Value,e = .returned (v0_) ∧ Kd.R Kd.string 9 w' w.heap.size (fun _ => True) v0_ r ∧ Below w.heap.size w w' := by
 have HB := am_ (Below.refl w.heap.size w)
 have H : (spec_l03Keys.l0 k a0 (([] : List ByteArray)) 0) = some r := h
 clear h
 obtain ⟨y960,hy960⟩ : ∃ y_ : List ByteArray,y_ = (([] : List ByteArray)) := ⟨_,rfl⟩
 replace H : (spec_l03Keys.l0 k a0 y960 0) = some r := by first | (rw [hy960];with_reducible exact H) | (have H2_ := (Option.bind_some _ _).symm.trans H;rw [hy960];with_reducible exact H2_) | (have H2_ := (Option.bind_some _ _).symm.trans H;with_reducible exact H2_) | with_reducible exact H | (rw [hy960];exact H) | exact H
 have Ny960 := am_ hy960
 clear hy960
 have H' := am_ H
 clear H
 go_enter Tryd.func95,Tryd.ntmps95
 go_wp2_with (first | ((with_reducible refine gate_dst (N := 5) rfl ?_);refine Kd.R_lit Kd.string _ 9 ?hg (N := 5) ?hd (xs := ([] : List ByteArray)) (inner := []) (ok := fun _ => True) (okp := fun _ => True) ?hr ?hp (fun _ hk => hk) trivial (Below.refl _ _) (Nat.le_refl _) (by simp) ?_;(case hd => rfl);(case hg => rfl);(case hr => first | (go_simp;done) | (go_simp;rfl));(case hp => exact (Reps.none _ _));intro v961 w2 ho3 hb hg_ hnew_;clear hg_ hnew_;(first | rw [← Ny960.out] at ho3 | (simp only [Int.reduceToNat] at ho3;rw [← Ny960.out] at ho3));have HO962 := am_ (Kd.R_lower ho3 (below_size (zl_ HB)));replace HB := zs_ HB hb;clear hb ho3))
 go_loopg [3,4] k (fun kq v3 v4 w' => ∃ (x3_1 : List ByteArray) (x4_1 : Int),v4 = .int .i64 x4_1 ∧ Aside0 (spec_l03Keys.l0 kq a0 x3_1 x4_1 = some r) ∧ Aside0 (kq ≤ k) ∧ Aside0 (Kd.R Kd.string 9 w' w.heap.size (fun _ => True) v3 x3_1) ∧ Aside0 (Below w.heap.size w w'))
 case atStart => exact ⟨(y960),(0),(by first | rfl | (simp;done) | (simp [*];done)),H',⟨Nat.le_refl _⟩,⟨zr HO962⟩,⟨zl_ HB⟩⟩
 case round =>
  clear H'
  try clear p2
  obtain ⟨x3_1,x4_1,rfl,HA,HK1,HO_3,HB⟩ := hrel
  cases gk with
  | zero => exact absurd HA.out (by simp [spec_l03Keys.l0])
  | succ k1 =>
   have H := HA.out
   clear HA
   simp only [spec_l03Keys.l0] at H
   by_cases c4 : x4_1 < 8
   ·rw [if_pos c4] at H
    have c4b0 : decide (x4_1 < 8) = true := decide_eq_true c4
    clear c4
    replace H := Option.bind_eq_some_iff.mp H
    obtain ⟨t963,A50,H⟩ := H
    try dsimp only at H
    have A5 := am_ A50
    clear A50
    by_cases c6 : x3_1.length < 8796093022208
    ·rw [if_pos c6] at H
     have LMc6 := am_ c6
     clear c6
     obtain ⟨y964,hy964⟩ : ∃ y_ : List ByteArray,y_ = (x3_1 ++ [t963]) := ⟨_,rfl⟩
     replace H : (spec_l03Keys.l0 k1 a0 y964 (wrap64 (x4_1 + 1))) = some r := by first | (rw [hy964];with_reducible exact H) | (have H2_ := (Option.bind_some _ _).symm.trans H;rw [hy964];with_reducible exact H2_) | (have H2_ := (Option.bind_some _ _).symm.trans H;with_reducible exact H2_) | with_reducible exact H | (rw [hy964];exact H) | exact H
     have Ny964 := am_ hy964
     clear hy964
     have H' := am_ H
     clear H
     go_wp2_with (first | ((with_reducible refine gate_callee (f := 150) rfl ?_);refine zgl (some 13) Tryd.func150 #[.string a0,.int .i64 x4_1] ?_;(with_reducible refine (spec_l03Key.calls k1 a0 x4_1 t963 _ A5.out).mono ?_);rintro e w7 ⟨rfl,hb⟩;refine ⟨_,rfl,?_⟩;replace HO_3 := zrb HO_3 hb;replace HB := zs_ HB hb;(try clear hb);(try clear hb2);(try clear hk);(try clear hi)) | ((with_reducible refine gate_builtin (b := .append) (xs := #[.tmp 10,.tmp 14]) rfl ?_);at_builtin;refine Kd.R_append Kd.string (w0 := w) w.heap.size rfl (.tmp 10) (.tmp 14) 22 9 (.string ⟨#[]⟩) 16 rfl Tryd.underlying22 info9 rfl (by decide) (by omega) u3 x3_1 t963 [.string t963] (fun _ => True) (fun _ => False) rfl rfl ?aP (fun _ hk => hk.elim) ?aF ?aO ?aB ?aS ?aL ?_;(case aP => exact rfl);(case aB => exact (zl_ HB));(case aF => exact (fun _ _ => trivial));(case aO => exact (zr HO_3));(case aS => exact (below_size (zl_ HB)));(case aL => have := LMc6.out;omega);intro v965 w8 ho hb hg hat;rw [← Ny964.out] at ho;replace HB := am_ (hb);have HO966 := am_ (ho);clear HO_3;clear ho hb hg hat))
     go_roundg k1
     case measure => have := HK1.out;omega
     case rel => exact ⟨(y964),(wrap64 (x4_1 + 1)),(by first | rfl | (simp;done) | (simp [*];done)),H',⟨by have := HK1.out;omega⟩,⟨zr HO966⟩,⟨zl_ HB⟩⟩
    ·rw [if_neg c6] at H
     exact absurd H (by simp)
   ·rw [if_neg c4] at H
    have c4b0 : decide (x4_1 < 8) = false := decide_eq_false c4
    clear c4
    obtain rfl := Option.some.inj H
    go_wp2
    go_ret
    exact ⟨_,zt_,zr HO_3,zl_ HB⟩
set_option maxHeartbeats 8000000 in
set_option maxRecDepth 100000 in
theorem spec_l03Node.calls (k : Nat) (a0 : ByteArray) (a1 : ByteArray) (r : ByteArray) (w : World) (h : spec_l03Node.f k a0 a1 = some r) :
  Calls Tryd.prog 149 #[.string a0,.string a1] w fun e w' => e = .returned (.string r) ∧ Below w.heap.size w w' := by
 have HB := am_ (Below.refl w.heap.size w)
 have H : (if 4 + a0.size ≤ 9223372036854775807 then (if ((⟨#[110,111,100,101]⟩ : ByteArray) ++ a0).size + a1.size ≤ 9223372036854775807 then (if (((⟨#[110,111,100,101]⟩ : ByteArray) ++ a0) ++ a1).size ≤ 140737488355328 then ((spec_l01Hash.f k (bytesOf (((⟨#[110,111,100,101]⟩ : ByteArray) ++ a0) ++ a1))).bind fun t203 => (some t203)) else (none)) else (none)) else (none)) = some r := h
 clear h
 by_cases c3 : 4 + a0.size ≤ 9223372036854775807
 ·rw [if_pos c3] at H
  have c3b0 := eq_true c3
  have c3b1 : decide (4 + a0.size ≤ 9223372036854775807) = true := decide_eq_true c3
  try have c3b2 : (9223372036854775807 < 4 + a0.size) = False := eq_false (Nat.not_lt.2 c3)
  by_cases c4 : ((⟨#[110,111,100,101]⟩ : ByteArray) ++ a0).size + a1.size ≤ 9223372036854775807
  ·rw [if_pos c4] at H
   have c4b0 := eq_true c4
   have c4b1 : decide (((⟨#[110,111,100,101]⟩ : ByteArray) ++ a0).size + a1.size ≤ 9223372036854775807) = true := decide_eq_true c4
   try have c4b2 : (9223372036854775807 < ((⟨#[110,111,100,101]⟩ : ByteArray) ++ a0).size + a1.size) = False := eq_false (Nat.not_lt.2 c4)
   (try have c4b3 := c4b2;simp only [ByteArray.size_append,show (⟨#[110,111,100,101]⟩ : ByteArray).size = 4 from rfl] at c4b3)
   by_cases c5 : (((⟨#[110,111,100,101]⟩ : ByteArray) ++ a0) ++ a1).size ≤ 140737488355328
   ·rw [if_pos c5] at H
    have c5b0 := eq_true c5
    have c5b1 : decide ((((⟨#[110,111,100,101]⟩ : ByteArray) ++ a0) ++ a1).size ≤ 140737488355328) = true := decide_eq_true c5
    obtain ⟨y200,hy200⟩ : ∃ y_ : List Int,y_ = (bytesOf (((⟨#[110,111,100,101]⟩ : ByteArray) ++ a0) ++ a1)) := ⟨_,rfl⟩
    replace H : ((spec_l01Hash.f k y200).bind fun t203 => (some t203)) = some r := by first | (rw [hy200];with_reducible exact H) | (have H2_ := (Option.bind_some _ _).symm.trans H;rw [hy200];with_reducible exact H2_) | (have H2_ := (Option.bind_some _ _).symm.trans H;with_reducible exact H2_) | with_reducible exact H | (rw [hy200];exact H) | exact H
    have Ny200 := am_ hy200
    clear hy200
    replace H := Option.bind_eq_some_iff.mp H
    obtain ⟨t203,A60,H⟩ := H
    try dsimp only at H
    have A6 := am_ A60
    clear A60
    obtain rfl := Option.some.inj H
    go_enter Tryd.func149,Tryd.ntmps149
    go_wp2_with (first | ((with_reducible refine gate_dst (N := 9) rfl ?_);refine Kd.V_conv (Kd.int .u8) rfl _ 5 rfl (N := 9) rfl 9 31 _ rfl (((⟨#[110,111,100,101]⟩ : ByteArray) ++ a0) ++ a1) rfl Tryd.underlying9 Tryd.underlying31 Tryd.underlying5 (ok := fun k_ => w.heap.size ≤ k_) (okp := fun _ => False) (fun _ hk => hk.elim) (Nat.le_refl _) (by have := o1_ (by first | (with_reducible assumption) | assumption : decide ((((⟨#[110,111,100,101]⟩ : ByteArray) ++ a0) ++ a1).size ≤ 140737488355328) = true);omega) (Below.refl _ _) (Nat.le_refl _) ?_;intro v201 w7 ho8 hb hg_ hnew_;clear hg_ hnew_;(first | rw [← Ny200.out] at ho8 | (simp only [Int.reduceToNat] at ho8;rw [← Ny200.out] at ho8));have HO202 := am_ (Kd.V_lower (Kd.V_mono (ok' := fun k_ => True) ho8 (fun k_ hk_ => trivial)) (below_size (zl_ HB)));replace HB := zs_ HB hb;clear hb ho8;obtain ⟨Ao9,co9,eo9⟩ := Kd.V_slice HO202.out;subst eo9) | ((with_reducible refine gate_callee (f := 123) rfl ?_);refine zgl (some 10) Tryd.func123 #[.slice Ao9 y200.length co9] ?_;(with_reducible refine (spec_l01Hash.calls k _ _ y200 t203 _ ?side1 ?side2 A6.out).mono ?_);(case side1 => repeat (first | exact (Kd.V_reads' HO202.out).2.2 | (with_reducible refine Kd.C_alloc ?_ _) | (with_reducible refine Kd.C_drewN ?_ _) | (with_reducible refine Kd.C_drew ?_)));(case side2 => exact (Kd.V_reads' HO202.out).2.1);rintro e w10 ⟨rfl,hb⟩;refine ⟨_,rfl,?_⟩;replace HB := zs_ HB hb;(try clear hb);(try clear hb2);(try clear hk);(try clear hi)))
    go_ret
    exact ⟨zt_,zl_ HB⟩
   ·rw [if_neg c5] at H
    exact absurd H (by simp)
  ·rw [if_neg c4] at H
   exact absurd H (by simp)
 ·rw [if_neg c3] at H
  exact absurd H (by simp)
def spec_l03Level.T5 : Bool × List (List Nat × List Nat) := (true,[([],[]),([],[]),([],[]),([1,2],[1,2]),([3],[3]),([],[]),([],[]),([6],[6]),([5,7],[5,7]),([8],[8]),([4,9],[4,9]),([10],[10]),([0,11,10],[0,11]),([12,12,0,1,2,3,4,5,6,7,8,9,10,11,12],[0,12])])
def spec_l03Level.B5 : List Nat := [0,0,0,6,14,0,0,64,224,480,1022,2046,4095,8191]
theorem spec_l03Level.tab5 : rtab .any (opsOf Tryd.f139 5) = spec_l03Level.T5 := by kernel_rfl
theorem spec_l03Level.bits5 : waitsOk spec_l03Level.T5.2 spec_l03Level.B5 = true := by kernel_rfl
set_option maxHeartbeats 8000000 in
set_option maxRecDepth 100000 in
theorem spec_l03Level.calls (k : Nat) (A0 : Option Addr) (c0 : Nat) (l0 : List ByteArray) (r : List ByteArray) (w : World) (hr0 : Kd.C Kd.string w A0 l0.length l0) (hc0 : l0.length ≤ c0) (h : spec_l03Level.f k l0 = some r) :
  Calls Tryd.prog 139 #[.slice A0 l0.length c0] w fun e w' => ∃ v0_ : Value,e = .returned (v0_) ∧ Kd.R Kd.string 9 w' w.heap.size (fun _ => True) v0_ r ∧ Below w.heap.size w w' := by
 have HR0 := am_ hr0
 have HC0 := am_ hc0
 clear hr0 hc0
 have HB := am_ (Below.refl w.heap.size w)
 have H : (spec_l03Level.l0 k l0 (([] : List ByteArray)) 0) = some r := h
 clear h
 obtain ⟨y977,hy977⟩ : ∃ y_ : List ByteArray,y_ = (([] : List ByteArray)) := ⟨_,rfl⟩
 replace H : (spec_l03Level.l0 k l0 y977 0) = some r := by first | (rw [hy977];with_reducible exact H) | (have H2_ := (Option.bind_some _ _).symm.trans H;rw [hy977];with_reducible exact H2_) | (have H2_ := (Option.bind_some _ _).symm.trans H;with_reducible exact H2_) | with_reducible exact H | (rw [hy977];exact H) | exact H
 have Ny977 := am_ hy977
 clear hy977
 have H' := am_ H
 clear H
 go_enter Tryd.func139,Tryd.ntmps139
 go_wp2_with (first | ((with_reducible refine gate_dst (N := 5) rfl ?_);refine Kd.R_lit Kd.string _ 9 ?hg (N := 5) ?hd (xs := ([] : List ByteArray)) (inner := []) (ok := fun _ => True) (okp := fun _ => True) ?hr ?hp (fun _ hk => hk) trivial (Below.refl _ _) (Nat.le_refl _) (by simp) ?_;(case hd => rfl);(case hg => rfl);(case hr => first | (go_simp;done) | (go_simp;rfl));(case hp => exact (Reps.none _ _));intro v978 w2 ho3 hb hg_ hnew_;clear hg_ hnew_;(first | rw [← Ny977.out] at ho3 | (simp only [Int.reduceToNat] at ho3;rw [← Ny977.out] at ho3));have HO979 := am_ (Kd.R_lower ho3 (below_size (zl_ HB)));replace HB := zs_ HB hb;clear hb ho3))
 go_loopg [3,4] k (fun kq v3 v4 w' => ∃ (x3_1 : List ByteArray) (x4_1 : Int),v4 = .int .i64 x4_1 ∧ Aside0 (spec_l03Level.l0 kq l0 x3_1 x4_1 = some r) ∧ Aside0 (kq ≤ k) ∧ Aside0 (Kd.R Kd.string 9 w' w.heap.size (fun _ => True) v3 x3_1) ∧ Aside0 (Below w.heap.size w w'))
 case atStart => exact ⟨(y977),(0),(by first | rfl | (simp;done) | (simp [*];done)),H',⟨Nat.le_refl _⟩,⟨zr HO979⟩,⟨zl_ HB⟩⟩
 case round =>
  clear H'
  try clear c1
  try clear p2
  obtain ⟨x3_1,x4_1,rfl,HA,HK1,HO_3,HB⟩ := hrel
  cases gk with
  | zero => exact absurd HA.out (by simp [spec_l03Level.l0])
  | succ k1 =>
   have H := HA.out
   clear HA
   simp only [spec_l03Level.l0] at H
   by_cases c4 : x4_1 < (l0.length : Int)
   ·rw [if_pos c4] at H
    have c4b0 : decide (x4_1 < (l0.length : Int)) = true := decide_eq_true c4
    clear c4
    by_cases c5 : 0 ≤ x4_1
    ·rw [if_pos c5] at H
     have c5b0 : decide (0 ≤ x4_1) = true := decide_eq_true c5
     clear c5
     obtain ⟨ji6,hji6⟩ : ∃ j_ : Int,(wrap64 (x4_1 + 1)) = j_ := ⟨_,rfl⟩
     replace H : (if 0 ≤ (ji6) then (if (ji6) < (l0.length : Int) then ((spec_l03Node.f k1 (rdOf ByteArray.empty l0 x4_1) (rdOf ByteArray.empty l0 (ji6))).bind fun t982 => (if x3_1.length < 8796093022208 then (spec_l03Level.l0 k1 l0 (x3_1 ++ [t982]) (wrap64 (x4_1 + 2))) else (none))) else (none)) else (none)) = some r := by first | (rw [hji6] at H;exact H) | (simp only [hji6] at H ⊢;exact H)
     have hji6w : (IntKind.i64.wrap (x4_1 + 1)) = ji6 := (i64_w _).trans hji6
     by_cases c7 : 0 ≤ (ji6)
     ·rw [if_pos c7] at H
      have c7b0 : decide (0 ≤ (ji6)) = true := decide_eq_true c7
      clear c7
      by_cases c8 : (ji6) < (l0.length : Int)
      ·rw [if_pos c8] at H
       have c8b0 : decide ((ji6) < (l0.length : Int)) = true := decide_eq_true c8
       clear c8
       replace H := Option.bind_eq_some_iff.mp H
       obtain ⟨t982,A90,H⟩ := H
       try dsimp only at H
       have A9 := am_ A90
       clear A90
       by_cases c10 : x3_1.length < 8796093022208
       ·rw [if_pos c10] at H
        have LMc10 := am_ c10
        clear c10
        obtain ⟨y983,hy983⟩ : ∃ y_ : List ByteArray,y_ = (x3_1 ++ [t982]) := ⟨_,rfl⟩
        replace H : (spec_l03Level.l0 k1 l0 y983 (wrap64 (x4_1 + 2))) = some r := by first | (rw [hy983];with_reducible exact H) | (have H2_ := (Option.bind_some _ _).symm.trans H;rw [hy983];with_reducible exact H2_) | (have H2_ := (Option.bind_some _ _).symm.trans H;with_reducible exact H2_) | with_reducible exact H | (rw [hy983];exact H) | exact H
        have Ny983 := am_ hy983
        clear hy983
        have H' := am_ H
        clear H
        try go_wp2
        replace HO_3 := am_ (Kd.R_drew HO_3.out)
        replace HB := am_ (below_drew1 HB.out)
        have p980 : 0 ≤ (x4_1 : Int) := zo_
        have q980 : x4_1 < (l0.length : Int) := zo_
        obtain ⟨ad980,e980,hx980_0⟩ := Kd.at_string HR0.out x4_1 p980 q980
        have hw980_0 := hx980_0
        cases e980
        replace hx980_0 := zx_ HB hx980_0
        replace p980 := eq_true p980
        replace q980 := eq_true q980
        have p981 : 0 ≤ ((ji6) : Int) := zo_
        have q981 : (ji6) < (l0.length : Int) := zo_
        obtain ⟨ad981,e981,hx981_0⟩ := Kd.at_string HR0.out (ji6) p981 q981
        have hw981_0 := hx981_0
        obtain rfl : ad980 = ad981 := (by injection e981)
        replace hx981_0 := zx_ HB hx981_0
        replace p981 := eq_true p981
        replace q981 := eq_true q981
        refine start_ (n := 14) (S := fun w' => w'.cell? (ad980.add (x4_1).toNat) = some (.string (rdOf ByteArray.empty l0 x4_1)) ∧ w'.cell? (ad980.add ((ji6)).toNat) = some (.string (rdOf ByteArray.empty l0 (ji6)))) (ds := []) #[false,false,false,false,false,false,false,false,false,false,false,false,false,false] (by kernel_rfl) rfl rfl ⟨(zx_ HB hw980_0),(zx_ HB hw981_0)⟩ (fun hHeld => ?_);refine with_tabW spec_l03Level.tab5 spec_l03Level.bits5 (fun HT_ HW_ => ?_)
        generalize wr.drew = w11 at HO_3 HB hx980_0 hx981_0 hHeld ⊢
        refine zpu 0 (N := some 12) HT_ ?_
        refine zpu 1 (N := some 13) HT_ ?_
        refine zpu 2 (N := some 14) HT_ ?_
        refine zpu 3 (N := some 15) HT_ ?_
        refine zpu 5 (N := some 17) HT_ ?_
        refine zpu 6 (N := some 18) HT_ ?_
        refine zpu 7 (N := some 19) HT_ ?_
        refine zpu 8 (N := some 20) HT_ ?_
        refine ztk 4 (N := some 16) HT_ HW_ hHeld ?_
        refine ztk 9 (N := some 21) HT_ HW_ hHeld ?_
        refine zon 10 (N := some 22) HT_ (fun K hK => ?_)
        refine goes_ Tryd.func149 (by kernel_rfl) rfl #[.string (rdOf ByteArray.empty l0 x4_1),.string (rdOf ByteArray.empty l0 (ji6))] (by rfl) rfl rfl (by (try simp only [m1_,m2_,m3_]);first | done | (simp only [hji6];rfl) | rfl | (simp only [d1_,d2_];rfl)) ?_
        with_reducible refine (spec_l03Node.calls k1 (rdOf ByteArray.empty l0 x4_1) (rdOf ByteArray.empty l0 (ji6)) t982 _ A9.out).mono ?_
        rintro e w12 ⟨rfl,hb⟩
        refine ⟨_,rfl,?_⟩
        replace HO_3 := zrb HO_3 hb
        replace HB := zs_ HB hb
        (try clear hb)
        (try clear hb2)
        (try clear hk)
        (try clear hi)
        refine hK.out _ _ ⟨(zx_ HB hw980_0),(zx_ HB hw981_0)⟩ (fun hHeld => ?_)
        clear hK K
        refine norm_ (a' := ?_) ?_ ?_
        rotate_left
        ·show Act.put _ (some 22) _ = _
         simp only [Act.put,p1_,p2_,p3_,i64_w,i32_w]
         rfl
        refine zon 11 (N := some 23) HT_ (fun K hK => ?_)
        refine value_ (w1 := ?_) (v := ?_) (by rfl) rfl ?_ ?_
        rotate_left 2
        ·go_simp
         constructor
         ·rfl
         ·rfl
        refine hK.out _ _ ⟨(World.cell?_alloc_lt _ _ _ (World.block_lt_of_cell? _ _ ((zx_ HB hw980_0)))).trans ((zx_ HB hw980_0)),(World.cell?_alloc_lt _ _ _ (World.block_lt_of_cell? _ _ ((zx_ HB hw981_0)))).trans ((zx_ HB hw981_0))⟩ (fun hHeld => ?_)
        clear hK K
        refine norm_ (a' := ?_) ?_ ?_
        rotate_left
        ·show Act.put _ (some 23) _ = _
         simp only [Act.put,p1_,p2_,p3_,i64_w,i32_w]
         rfl
        refine zon 12 (N := some 24) HT_ (fun K hK => ?_)
        refine Kd.R_append_step Kd.string (w0 := w) w.heap.size (by rfl) (.tmp 12) (.tmp 23) 22 9 (.string ⟨#[]⟩) 16 rfl Tryd.underlying22 info9 rfl (by decide) (by omega) u3 x3_1 t982 [.string t982] (fun _ => True) (fun _ => False) rfl rfl ?aP (fun _ hk => hk.elim) ?aF ?aO ?aB ?aS ?aL ?_
        (case aP => exact rfl)
        (case aB => exact (zl_ HB))
        (case aF => exact (fun _ _ => trivial))
        (case aO => exact (zr HO_3))
        (case aS => exact (below_size (zl_ HB)))
        (case aL => have := LMc10.out;omega)
        intro v984 w13 ho hb hg hat
        rw [← Ny983.out] at ho
        replace HB := am_ (hb)
        have HO985 := am_ (ho)
        clear HO_3
        clear ho hb hg hat
        refine hK.out _ _ ⟨(zx_ HB hw980_0),(zx_ HB hw981_0)⟩ (fun hHeld => ?_)
        clear hK K
        refine norm_ (a' := ?_) ?_ ?_
        rotate_left
        ·show Act.put _ (some 24) _ = _
         simp only [Act.put,p1_,p2_,p3_,i64_w,i32_w]
         rfl
        refine zpu 13 (N := some 3) HT_ ?_
        refine done_ (done_of HT_.out (by kernel_rfl)) ?_
        try go_wp2
        go_roundg k1
        case measure => have := HK1.out;omega
        case rel => exact ⟨(y983),(wrap64 (x4_1 + 2)),(by first | rfl | (simp;done) | (simp [*];done)),H',⟨by have := HK1.out;omega⟩,⟨zr HO985⟩,⟨zl_ HB⟩⟩
       ·rw [if_neg c10] at H
        exact absurd H (by simp)
      ·rw [if_neg c8] at H
       exact absurd H (by simp)
     ·rw [if_neg c7] at H
      exact absurd H (by simp)
    ·rw [if_neg c5] at H
     exact absurd H (by simp)
   ·rw [if_neg c4] at H
    have c4b0 : decide (x4_1 < (l0.length : Int)) = false := decide_eq_false c4
    clear c4
    obtain rfl := Option.some.inj H
    go_wp2
    go_ret
    exact ⟨_,zt_,zr HO_3,zl_ HB⟩
def spec_l03Sign.T7 : Bool × List (List Nat × List Nat) := (true,[([],[]),([0],[0]),([],[]),([],[]),([],[]),([],[]),([2,3,4,5],[2,3,4,5]),([6],[6]),([1,7,6],[1,7]),([0,1,2,3,4,5,6,7,8],[]),([9,8,8,0,1,2,3,4,5,6,7,8],[8,9])])
def spec_l03Sign.B7 : List Nat := [0,1,0,0,0,0,60,124,255,511,1023]
theorem spec_l03Sign.tab7 : rtab .any (opsOf Tryd.f82 7) = spec_l03Sign.T7 := by kernel_rfl
theorem spec_l03Sign.bits7 : waitsOk spec_l03Sign.T7.2 spec_l03Sign.B7 = true := by kernel_rfl
def spec_l03Sign.T8 : Bool × List (List Nat × List Nat) := (true,[([],[]),([0],[0]),([],[]),([],[]),([],[]),([],[]),([5],[5]),([2,3,4,6],[2,3,4,6]),([7],[7]),([8,7],[8]),([9],[9]),([1,10,9],[1,10]),([0,1,2,3,4,5,6,7,8,9,10,11],[]),([12,11,11,0,1,2,3,4,5,6,7,8,9,10,11],[11,12])])
def spec_l03Sign.B8 : List Nat := [0,1,0,0,0,0,32,124,252,508,1020,2047,4095,8191]
theorem spec_l03Sign.tab8 : rtab .any (opsOf Tryd.f82 8) = spec_l03Sign.T8 := by kernel_rfl
theorem spec_l03Sign.bits8 : waitsOk spec_l03Sign.T8.2 spec_l03Sign.B8 = true := by kernel_rfl
def spec_l03Sign.T13 : Bool × List (List Nat × List Nat) := (true,[([],[]),([0],[0]),([],[]),([],[]),([3],[3]),([2,4],[2,4]),([5],[5]),([6],[6]),([1,7],[1,7]),([0,1,2,3,4,5,6,7,8],[]),([9,8,8,0,1,2,3,4,5,6,7,8],[8,9])])
def spec_l03Sign.B13 : List Nat := [0,1,0,0,8,28,60,124,255,511,1023]
theorem spec_l03Sign.tab13 : rtab .any (opsOf Tryd.f82 13) = spec_l03Sign.T13 := by kernel_rfl
theorem spec_l03Sign.bits13 : waitsOk spec_l03Sign.T13.2 spec_l03Sign.B13 = true := by kernel_rfl
set_option maxHeartbeats 8000000 in
set_option maxRecDepth 100000 in
theorem spec_l03Sign.calls (k : Nat) (a0 : ByteArray) (a1 : Int) (a2 : ByteArray) (r1 : Int) (r2 : List ByteArray) (r3 : List ByteArray) (r4 : List ByteArray) (w : World) (h : spec_l03Sign.f k a0 a1 a2 = some (r1,r2,r3,r4)) :
  Calls Tryd.prog 82 #[.string a0,.int .i64 a1,.string a2] w fun e w' => ∃ v1_ v2_ v3_ : Value,e = .returned (.agg #[.int .i64 r1,v1_,v2_,v3_]) ∧ Kd.R Kd.string 9 w' w.heap.size (fun k_ => some k_ ≠ (v2_ : Value).ownBlock ∧ some k_ ≠ (v3_ : Value).ownBlock) v1_ r2 ∧ Kd.R Kd.string 9 w' w.heap.size (fun k_ => some k_ ≠ (v1_ : Value).ownBlock ∧ some k_ ≠ (v3_ : Value).ownBlock) v2_ r3 ∧ Kd.R Kd.string 9 w' w.heap.size (fun k_ => some k_ ≠ (v1_ : Value).ownBlock ∧ some k_ ≠ (v2_ : Value).ownBlock) v3_ r4 ∧ Below w.heap.size w w' := by
 have hu56 := Tryd.underlying56
 have HB := am_ (Below.refl w.heap.size w)
 have H : ((spec_l03Bits.f k a2).bind fun t987 => (spec_l03Sign.l0 k a0 a1 t987 0 a1 (([] : List ByteArray)) (([] : List ByteArray)) (([] : List ByteArray)))) = some (r1,r2,r3,r4) := h
 clear h
 replace H := Option.bind_eq_some_iff.mp H
 obtain ⟨t987,A40,H⟩ := H
 try dsimp only at H
 have A4 := am_ A40
 clear A40
 obtain ⟨y988,hy988⟩ : ∃ y_ : List ByteArray,y_ = (([] : List ByteArray)) := ⟨_,rfl⟩
 replace H : (spec_l03Sign.l0 k a0 a1 t987 0 a1 y988 (([] : List ByteArray)) (([] : List ByteArray))) = some (r1,r2,r3,r4) := by first | (rw [hy988];with_reducible exact H) | (have H2_ := (Option.bind_some _ _).symm.trans H;rw [hy988];with_reducible exact H2_) | (have H2_ := (Option.bind_some _ _).symm.trans H;with_reducible exact H2_) | with_reducible exact H | (rw [hy988];exact H) | exact H
 have Ny988 := am_ hy988
 clear hy988
 obtain ⟨y991,hy991⟩ : ∃ y_ : List ByteArray,y_ = (([] : List ByteArray)) := ⟨_,rfl⟩
 replace H : (spec_l03Sign.l0 k a0 a1 t987 0 a1 y988 y991 (([] : List ByteArray))) = some (r1,r2,r3,r4) := by first | (rw [hy991];with_reducible exact H) | (have H2_ := (Option.bind_some _ _).symm.trans H;rw [hy991];with_reducible exact H2_) | (have H2_ := (Option.bind_some _ _).symm.trans H;with_reducible exact H2_) | with_reducible exact H | (rw [hy991];exact H) | exact H
 have Ny991 := am_ hy991
 clear hy991
 obtain ⟨y994,hy994⟩ : ∃ y_ : List ByteArray,y_ = (([] : List ByteArray)) := ⟨_,rfl⟩
 replace H : (spec_l03Sign.l0 k a0 a1 t987 0 a1 y988 y991 y994) = some (r1,r2,r3,r4) := by first | (rw [hy994];with_reducible exact H) | (have H2_ := (Option.bind_some _ _).symm.trans H;rw [hy994];with_reducible exact H2_) | (have H2_ := (Option.bind_some _ _).symm.trans H;with_reducible exact H2_) | with_reducible exact H | (rw [hy994];exact H) | exact H
 have Ny994 := am_ hy994
 clear hy994
 have H' := am_ H
 clear H
 go_enter Tryd.func82,Tryd.ntmps82
 go_wp2_with (first | ((with_reducible refine gate_dst (N := 6) rfl ?_);refine zbx (N := 6) (cs := #[.int .i64 0,.slice none 0 0,.slice none 0 0,.slice none 0 0]) (t := 56) ?_;intro gb986 hg w5 hbox hb;have BK986 := am_ (hbox);have GW986 := zw_ HB hg;have GE986 := zw_ HB hg;replace HB := zs_ HB hb;clear hb hbox hg) | ((with_reducible refine gate_callee (f := 137) rfl ?_);refine zgl (some 14) Tryd.func137 #[.string a2] ?_;(with_reducible refine (spec_l03Bits.calls k a2 t987 _ A4.out).mono ?_);rintro e w6 ⟨rfl,hb⟩;refine ⟨_,rfl,?_⟩;replace BK986 := zb BK986 hb;replace HB := zs_ HB hb;(try clear hb);(try clear hb2);(try clear hk);(try clear hi)) | ((with_reducible refine gate_dst (N := 16) rfl ?_);refine Kd.R_lit Kd.string _ 9 ?hg (N := 16) ?hd (xs := ([] : List ByteArray)) (inner := []) (ok := fun _ => True) (okp := fun _ => True) ?hr ?hp (fun _ hk => hk) trivial (Below.refl _ _) (Nat.le_refl _) (by simp) ?_;(case hd => rfl);(case hg => rfl);(case hr => first | (go_simp;done) | (go_simp;rfl));(case hp => exact (Reps.none _ _));intro v989 w7 ho8 hb hg_ hnew_;clear hg_ hnew_;(first | rw [← Ny988.out] at ho8 | (simp only [Int.reduceToNat] at ho8;rw [← Ny988.out] at ho8));have HO990 := am_ (Kd.R_lower ho8 (below_size (zl_ HB)));replace BK986 := zb BK986 hb;replace HB := zs_ HB hb;clear hb ho8) | ((with_reducible refine gate_dst (N := 17) rfl ?_);refine Kd.R_lit Kd.string _ 9 ?hg (N := 17) ?hd (xs := ([] : List ByteArray)) (inner := []) (ok := fun _ => True) (okp := fun _ => True) ?hr ?hp (fun _ hk => hk) trivial (Below.refl _ _) (Nat.le_refl _) (by simp) ?_;(case hd => rfl);(case hg => rfl);(case hr => first | (go_simp;done) | (go_simp;rfl));(case hp => exact (Reps.none _ _));intro v992 w9 ho10 hb hg_ hnew_;clear hg_ hnew_;(first | rw [← Ny991.out] at ho10 | (simp only [Int.reduceToNat] at ho10;rw [← Ny991.out] at ho10));have HO993 := am_ (Kd.R_lower (Kd.R_new' ho10 (Kd.R_lt (zr HO990))) (below_size (zl_ HB)));replace HO990 := am_ (Kd.R_elder' (zr HO990) (Kd.R_base ho10) hb);replace BK986 := zb BK986 hb;replace HB := zs_ HB hb;clear hb ho10) | ((with_reducible refine gate_dst (N := 18) rfl ?_);refine Kd.R_lit Kd.string _ 9 ?hg (N := 18) ?hd (xs := ([] : List ByteArray)) (inner := []) (ok := fun _ => True) (okp := fun _ => True) ?hr ?hp (fun _ hk => hk) trivial (Below.refl _ _) (Nat.le_refl _) (by simp) ?_;(case hd => rfl);(case hg => rfl);(case hr => first | (go_simp;done) | (go_simp;rfl));(case hp => exact (Reps.none _ _));intro v995 w11 ho12 hb hg_ hnew_;clear hg_ hnew_;(first | rw [← Ny994.out] at ho12 | (simp only [Int.reduceToNat] at ho12;rw [← Ny994.out] at ho12));have HO996 := am_ (Kd.R_lower (Kd.R_new' (Kd.R_new' ho12 (Kd.R_lt (zr HO990))) (Kd.R_lt (zr HO993))) (below_size (zl_ HB)));replace HO990 := am_ (Kd.R_elder' (zr HO990) (Kd.R_base ho12) hb);replace HO993 := am_ (Kd.R_elder' (zr HO993) (Kd.R_base ho12) hb);replace BK986 := zb BK986 hb;replace HB := zs_ HB hb;clear hb ho12;obtain ⟨Ao13,co13,eo13⟩ := Kd.R_slice HO996.out;subst eo13;obtain ⟨Ao14,co14,eo14⟩ := Kd.R_slice HO993.out;subst eo14;obtain ⟨Ao15,co15,eo15⟩ := Kd.R_slice HO990.out;subst eo15) | ((with_reducible refine gate_dst (N := 8) rfl ?_);refine zbx (N := 8) (cs := #[.int .i64 0,.slice none 0 0,.slice none 0 0,.slice none 0 0]) (t := 56) ?_;intro gb997 hg w16 hbox hb;replace HO990 := zrb HO990 hb;replace HO993 := zrb HO993 hb;replace HO996 := zrb HO996 hb;have BK997 := am_ (hbox);have GW997 := zw_ HB hg;have GE997 := zw_ HB hg;replace HB := zs_ HB hb;have NB986_997 := zl hg BK986;have NB997_986 := zg hg BK986;replace BK986 := zb BK986 hb;clear hb hbox hg;have hnb17 := NB997_986.out;have hnc17 := NB986_997.out;obtain ⟨hcz18_0,hcz18_1,hcz18_2,hcz18_3,hfz18_0,hfz18_1,hfz18_2,hfz18_3⟩ := zc4 BK997))
 go_loopg [9] k (fun kq v9 w' => ∃ (x9_1 : Int) (x998001_1 : List ByteArray) (x998002_1 : List ByteArray) (u998001 : Value) (u998002 : Value),v9 = .int .i64 x9_1 ∧ Aside0 (spec_l03Sign.l0 kq a0 a1 t987 x9_1 a1 x998001_1 x998002_1 y994 = some (r1,r2,r3,r4)) ∧ Aside0 (kq ≤ k) ∧ Aside0 (Kd.R Kd.string 9 w' w.heap.size (fun k_ => some k_ ≠ (u998002 : Value).ownBlock ∧ some k_ ≠ ((.slice Ao13 y994.length co13) : Value).ownBlock) u998001 x998001_1) ∧ Aside0 (Kd.R Kd.string 9 w' w.heap.size (fun k_ => some k_ ≠ (u998001 : Value).ownBlock ∧ some k_ ≠ ((.slice Ao13 y994.length co13) : Value).ownBlock) u998002 x998002_1) ∧ Aside0 (Kd.R Kd.string 9 w' w.heap.size (fun k_ => some k_ ≠ (u998001 : Value).ownBlock ∧ some k_ ≠ (u998002 : Value).ownBlock) (.slice Ao13 y994.length co13) y994) ∧ Aside0 (w'.heap[gb986]? = some (.cells #[.int .i64 0,(.slice none 0 0),(.slice none 0 0),(.slice none 0 0)] 56 (0,0))) ∧ Aside0 (w'.heap[gb997]? = some (.cells #[.int .i64 a1,u998001,u998002,(.slice Ao13 y994.length co13)] 56 (0,0))) ∧ Aside0 (Below w.heap.size w w'))
 case atStart => exact ⟨(0),(y988),(y991),(.slice Ao15 y988.length co15),(.slice Ao14 y991.length co14),(by first | rfl | (simp;done) | (simp [*];done)),H',⟨Nat.le_refl _⟩,⟨by (with_reducible repeat (first | apply r1_ | apply r2_ | apply r3_));exact Kd.R_mono (zrf (Kd.R_types HO990.out BK997.out (by decide))) (fun _ hk => ⟨hk.1.1.2,hk.1.2⟩)⟩,⟨by (with_reducible repeat (first | apply r1_ | apply r2_ | apply r3_));exact Kd.R_mono (zrf (Kd.R_types HO993.out BK997.out (by decide))) (fun _ hk => ⟨hk.1.1.2,hk.1.2⟩)⟩,⟨by (with_reducible repeat (first | apply r1_ | apply r2_ | apply r3_));exact Kd.R_mono (zrf (Kd.R_types HO996.out BK997.out (by decide))) (fun _ hk => ⟨hk.1.1.2,hk.1.2⟩)⟩,⟨zq BK986⟩,⟨zq BK997⟩,⟨zl_ HB⟩⟩
 case round =>
  clear H'
  try clear c1
  try clear p2
  try clear c8
  try clear c13
  try clear c17
  try clear hcz18_0
  try clear hcz18_1
  try clear hcz18_2
  try clear hcz18_3
  try clear hfz18_0
  try clear hfz18_1
  try clear hfz18_2
  try clear hfz18_3
  obtain ⟨x9_1,x998001_1,x998002_1,u998001,u998002,rfl,HA,HK1,HO_998001,HO_998002,HO_998003,BK986,BK997,HB⟩ := hrel
  cases gk with
  | zero => exact absurd HA.out (by simp [spec_l03Sign.l0])
  | succ k1 =>
   have H := HA.out
   clear HA
   simp only [spec_l03Sign.l0] at H
   by_cases c19 : x9_1 < 32
   ·rw [if_pos c19] at H
    have c19b0 : decide (x9_1 < 32) = true := decide_eq_true c19
    clear c19
    by_cases c20 : 0 ≤ x9_1
    ·rw [if_pos c20] at H
     have c20b0 : decide (0 ≤ x9_1) = true := decide_eq_true c20
     clear c20
     by_cases c21 : x9_1 < (t987.size : Int)
     ·rw [if_pos c21] at H
      have c21b0 : decide (x9_1 < (t987.size : Int)) = true := decide_eq_true c21
      clear c21
      replace H := Option.bind_eq_some_iff.mp H
      obtain ⟨t998,A230,H⟩ := H
      try dsimp only at H
      have A23 := am_ A230
      clear A230
      by_cases c24 : x998001_1.length < 8796093022208
      ·rw [if_pos c24] at H
       have LMc24 := am_ c24
       clear c24
       obtain ⟨y999,hy999⟩ : ∃ y_ : List ByteArray,y_ = (x998001_1 ++ [t998]) := ⟨_,rfl⟩
       replace H : ((spec_l03Secret.f k1 a0 a1 x9_1 (1 - (((bt t987 x9_1) - 48) % 256))).bind fun t1002 => (if t1002.size ≤ 140737488355328 then ((spec_l01Hash.f k1 (bytesOf t1002)).bind fun t1006 => (if x998002_1.length < 8796093022208 then (spec_l03Sign.l0 k1 a0 a1 t987 (wrap64 (x9_1 + 1)) a1 y999 (x998002_1 ++ [t1006]) y994) else (none))) else (none))) = some (r1,r2,r3,r4) := by first | (rw [hy999];with_reducible exact H) | (have H2_ := (Option.bind_some _ _).symm.trans H;rw [hy999];with_reducible exact H2_) | (have H2_ := (Option.bind_some _ _).symm.trans H;with_reducible exact H2_) | with_reducible exact H | (rw [hy999];exact H) | exact H
       have Ny999 := am_ hy999
       clear hy999
       replace H := Option.bind_eq_some_iff.mp H
       obtain ⟨t1002,A250,H⟩ := H
       try dsimp only at H
       have A25 := am_ A250
       clear A250
       by_cases c26 : t1002.size ≤ 140737488355328
       ·rw [if_pos c26] at H
        have c26b0 := eq_true c26
        have c26b1 : decide (t1002.size ≤ 140737488355328) = true := decide_eq_true c26
        clear c26
        obtain ⟨y1003,hy1003⟩ : ∃ y_ : List Int,y_ = (bytesOf t1002) := ⟨_,rfl⟩
        replace H : ((spec_l01Hash.f k1 y1003).bind fun t1006 => (if x998002_1.length < 8796093022208 then (spec_l03Sign.l0 k1 a0 a1 t987 (wrap64 (x9_1 + 1)) a1 y999 (x998002_1 ++ [t1006]) y994) else (none))) = some (r1,r2,r3,r4) := by first | (rw [hy1003];with_reducible exact H) | (have H2_ := (Option.bind_some _ _).symm.trans H;rw [hy1003];with_reducible exact H2_) | (have H2_ := (Option.bind_some _ _).symm.trans H;with_reducible exact H2_) | with_reducible exact H | (rw [hy1003];exact H) | exact H
        have Ny1003 := am_ hy1003
        clear hy1003
        replace H := Option.bind_eq_some_iff.mp H
        obtain ⟨t1006,A270,H⟩ := H
        try dsimp only at H
        have A27 := am_ A270
        clear A270
        by_cases c28 : x998002_1.length < 8796093022208
        ·rw [if_pos c28] at H
         have LMc28 := am_ c28
         clear c28
         obtain ⟨y1007,hy1007⟩ : ∃ y_ : List ByteArray,y_ = (x998002_1 ++ [t1006]) := ⟨_,rfl⟩
         replace H : (spec_l03Sign.l0 k1 a0 a1 t987 (wrap64 (x9_1 + 1)) a1 y999 y1007 y994) = some (r1,r2,r3,r4) := by first | (rw [hy1007];with_reducible exact H) | (have H2_ := (Option.bind_some _ _).symm.trans H;rw [hy1007];with_reducible exact H2_) | (have H2_ := (Option.bind_some _ _).symm.trans H;with_reducible exact H2_) | with_reducible exact H | (rw [hy1007];exact H) | exact H
         have Ny1007 := am_ hy1007
         clear hy1007
         have H' := am_ H
         clear H
         have p22 : 0 ≤ (x9_1 : Int) := zo_
         have q22 : x9_1 < (t987.size : Int) := zo_
         have hx22 := bt_at t987 x9_1
         replace p22 := eq_true p22
         replace q22 := eq_true q22
         try go_wp2
         replace HO_998001 := am_ (Kd.R_drew HO_998001.out)
         replace HO_998002 := am_ (Kd.R_drew HO_998002.out)
         replace HO_998003 := am_ (Kd.R_drew HO_998003.out)
         replace BK986 := am_ (blk_drew BK986.out)
         replace BK997 := am_ (blk_drew BK997.out)
         replace HB := am_ (below_drew1 HB.out)
         refine start_ (n := 11) (S := fun w' => w'.cell? ⟨gb997,0,none⟩ = some (.int .i64 a1) ∧ w'.cell? ⟨gb997,1,none⟩ = some (u998001) ∧ w'.cell? ⟨gb997,2,none⟩ = some (u998002) ∧ w'.cell? ⟨gb997,3,none⟩ = some (.slice Ao13 y994.length co13)) (ds := [10]) #[false,false,false,false,false,false,false,false,false,false,false] (by kernel_rfl) rfl rfl ⟨(blk_cell BK997.out 0).trans rfl,(blk_cell BK997.out 1).trans rfl,(blk_cell BK997.out 2).trans rfl,(blk_cell BK997.out 3).trans rfl⟩ (fun hHeld => ?_);refine with_tabW spec_l03Sign.tab7 spec_l03Sign.bits7 (fun HT_ HW_ => ?_)
         generalize wr.drew = w29 at HO_998001 HO_998002 HO_998003 BK986 BK997 HB hHeld ⊢
         refine zpu 0 (N := some 29) HT_ ?_
         refine zpu 2 (N := some 31) HT_ ?_
         refine zpu 3 (N := some 32) HT_ ?_
         refine zpu 4 (N := some 33) HT_ ?_
         refine zpu 5 (N := some 34) HT_ ?_
         refine ztk 1 (N := some 30) HT_ HW_ hHeld ?_
         refine zon 6 (N := some 35) HT_ (fun K hK => ?_)
         refine zgo Tryd.func138 #[.string a0,.int .i64 a1,.int .i64 x9_1,.int .i64 (((bt t987 x9_1) - 48) % 256)] ?_
         with_reducible refine (spec_l03Secret.calls k1 a0 a1 x9_1 (((bt t987 x9_1) - 48) % 256) t998 _ A23.out).mono ?_
         rintro e w30 ⟨rfl,hb⟩
         refine ⟨_,rfl,?_⟩
         replace HO_998001 := zrb HO_998001 hb
         replace HO_998002 := zrb HO_998002 hb
         replace HO_998003 := zrb HO_998003 hb
         replace BK986 := zb BK986 hb
         replace BK997 := zb BK997 hb
         replace HB := zs_ HB hb
         (try clear hb)
         (try clear hb2)
         (try clear hk)
         (try clear hi)
         refine hK.out _ _ ⟨(blk_cell BK997.out 0).trans rfl,(blk_cell BK997.out 1).trans rfl,(blk_cell BK997.out 2).trans rfl,(blk_cell BK997.out 3).trans rfl⟩ (fun hHeld => ?_)
         clear hK K
         refine norm_ (a' := ?_) ?_ ?_
         rotate_left
         ·show Act.put _ (some 35) _ = _
          simp only [Act.put,p1_,p2_,p3_,i64_w,i32_w]
          rfl
         refine zon 7 (N := some 36) HT_ (fun K hK => ?_)
         refine value_ (w1 := ?_) (v := ?_) (by rfl) rfl ?_ ?_
         rotate_left 2
         ·go_simp
          constructor
          ·rfl
          ·rfl
         refine hK.out _ _ ⟨(blk_cell (blk_alloc BK997.out _) 0).trans rfl,(blk_cell (blk_alloc BK997.out _) 1).trans rfl,(blk_cell (blk_alloc BK997.out _) 2).trans rfl,(blk_cell (blk_alloc BK997.out _) 3).trans rfl⟩ (fun hHeld => ?_)
         clear hK K
         refine norm_ (a' := ?_) ?_ ?_
         rotate_left
         ·show Act.put _ (some 36) _ = _
          simp only [Act.put,p1_,p2_,p3_,i64_w,i32_w]
          rfl
         refine zon 8 (N := some 37) HT_ (fun K hK => ?_)
         refine Kd.R_append_step Kd.string (w0 := w) w.heap.size (by rfl) (.tmp 30) (.tmp 36) 22 9 (.string ⟨#[]⟩) 16 rfl Tryd.underlying22 info9 rfl (by decide) (by omega) u998001 x998001_1 t998 [.string t998] (fun k_ => some k_ ≠ (u998002 : Value).ownBlock ∧ some k_ ≠ (.slice Ao13 y994.length co13 : Value).ownBlock) (fun _ => False) rfl rfl ?aP (fun _ hk => hk.elim) ?aF ?aO ?aB ?aS ?aL ?_
         (case aP => exact rfl)
         (case aB => exact (zl_ HB))
         (case aF => exact (fun k_ hk => ⟨Kd.fresh' (Kd.R_lt (zr HO_998002)) k_ hk,Kd.fresh' (Kd.R_lt (zr HO_998003)) k_ hk⟩))
         (case aO => exact (zr HO_998001))
         (case aS => exact (below_size (zl_ HB)))
         (case aL => have := LMc24.out;omega)
         intro v1000 w31 ho hb hg hat
         rw [← Ny999.out] at ho
         replace HO_998002 := am_ (Kd.R_after (ok := (fun k_ => some k_ ≠ (.slice Ao13 y994.length co13 : Value).ownBlock)) (by (with_reducible repeat (first | apply r1_ | apply r2_ | apply r3_));exact Kd.R_mono HO_998002.out (fun _ hk => ⟨hk.2,hk.1⟩)) hg hat)
         replace HO_998003 := am_ (Kd.R_after (ok := (fun k_ => some k_ ≠ (u998002 : Value).ownBlock)) (by (with_reducible repeat (first | apply r1_ | apply r2_ | apply r3_));exact Kd.R_mono HO_998003.out (fun _ hk => ⟨hk.2,hk.1⟩)) hg hat)
         replace BK986 := am_ (blk_grown (g := gb986) (o := .cells #[.int .i64 0,.slice none 0 0,.slice none 0 0,.slice none 0 0] 56 (0,0)) (zk BK986) hg (Kd.R_ne HO_998001.out BK986.out (by decide)))
         replace BK997 := am_ (blk_grown (g := gb997) (o := .cells #[.int .i64 a1,u998001,u998002,.slice Ao13 y994.length co13] 56 (0,0)) (zk BK997) hg (Kd.R_ne HO_998001.out BK997.out (by decide)))
         replace HB := am_ (hb)
         have HO1001 := am_ (ho)
         clear HO_998001
         clear ho hb hg hat
         obtain ⟨Ao32,co32,eo32⟩ := Kd.R_slice HO1001.out
         (first | subst eo32 | (injection eo32 with f1_ f2_ f3_;have f4_ := f1_.symm;have f5_ := f3_.symm;clear f1_ f2_ f3_;subst f4_;subst f5_))
         refine hK.out _ _ ⟨(blk_cell BK997.out 0).trans rfl,(blk_cell BK997.out 1).trans rfl,(blk_cell BK997.out 2).trans rfl,(blk_cell BK997.out 3).trans rfl⟩ (fun hHeld => ?_)
         clear hK K
         refine norm_ (a' := ?_) ?_ ?_
         rotate_left
         ·show Act.put _ (some 37) _ = _
          simp only [Act.put,p1_,p2_,p3_,i64_w,i32_w]
          rfl
         refine zpu 9 (N := some 38) HT_ ?_
         refine last_ (i := 10) (N := none) #[true,true,true,true,true,true,true,true,true,true,true] rfl rfl (one_of HT_.out (by kernel_rfl)) (by decide) (fun K hK => ?_)
         have hs33 : w31.cell? ⟨gb997,1,none⟩ = some (u998001) := (blk_cell BK997.out 1).trans rfl
         have hfs33 := blk_frozen BK997.out 1
         have hns33_0 := NB986_997.out
         have hms33_0 := NB997_986.out
         refine skip_ (w1 := ?_) (by rfl) rfl ?_ ?_
         rotate_left
         ·go_simp
          rfl
         refine hK.out _ _ ?_
         clear hK K
         refine done_ (done_of HT_.out (by kernel_rfl)) ?_
         try go_wp2
         have n0_ : Aside0 (Kd.R Kd.string 9 (w31.setCell ⟨gb997,1,none⟩ (.slice Ao32 y999.length co32)) w.heap.size (fun k_ => some k_ ≠ (.slice Ao13 y994.length co13 : Value).ownBlock ∧ some k_ ≠ (.slice Ao32 y999.length co32 : Value).ownBlock) u998002 x998002_1) := ⟨by (with_reducible repeat (first | apply r1_ | apply r2_ | apply r3_));exact Kd.R_mono (zrf (Kd.R_types HO_998002.out BK997.out (by decide))) (fun _ hk => ⟨hk.1.1,hk.1.2⟩)⟩
         have n1_ : Aside0 (Kd.R Kd.string 9 (w31.setCell ⟨gb997,1,none⟩ (.slice Ao32 y999.length co32)) w.heap.size (fun k_ => some k_ ≠ (u998002 : Value).ownBlock ∧ some k_ ≠ (.slice Ao32 y999.length co32 : Value).ownBlock) (.slice Ao13 y994.length co13) y994) := ⟨by (with_reducible repeat (first | apply r1_ | apply r2_ | apply r3_));exact Kd.R_mono (zrf (Kd.R_types HO_998003.out BK997.out (by decide))) (fun _ hk => ⟨hk.1.1,hk.1.2⟩)⟩
         have n2_ : Aside0 (Kd.R Kd.string 9 (w31.setCell ⟨gb997,1,none⟩ (.slice Ao32 y999.length co32)) w.heap.size (fun k_ => some k_ ≠ (u998002 : Value).ownBlock ∧ some k_ ≠ (.slice Ao13 y994.length co13 : Value).ownBlock) (.slice Ao32 y999.length co32) y999) := ⟨by (with_reducible repeat (first | apply r1_ | apply r2_ | apply r3_));exact Kd.R_mono (zrf (Kd.R_types HO1001.out BK997.out (by decide))) (fun _ hk => ⟨hk.1.1,hk.1.2⟩)⟩
         have n3_ : Aside0 ((w31.setCell ⟨gb997,1,none⟩ (.slice Ao32 y999.length co32)).heap[gb986]? = some (.cells #[.int .i64 0,.slice none 0 0,.slice none 0 0,.slice none 0 0] 56 (0,0))) := ⟨zq BK986⟩
         have n4_ : Aside0 ((w31.setCell ⟨gb997,1,none⟩ (.slice Ao32 y999.length co32)).heap[gb997]? = some (.cells #[.int .i64 a1,.slice Ao32 y999.length co32,u998002,.slice Ao13 y994.length co13] 56 (0,0))) := ⟨zq BK997⟩
         have n5_ : Aside0 (Below w.heap.size w (w31.setCell ⟨gb997,1,none⟩ (.slice Ao32 y999.length co32))) := ⟨zl_ HB⟩
         (try clear HO_998002)
         (try clear HO_998003)
         (try clear HO1001)
         (try clear BK986)
         (try clear BK997)
         (try clear HB)
         generalize (w31.setCell ⟨gb997,1,none⟩ (.slice Ao32 y999.length co32)) = w34 at n0_ n1_ n2_ n3_ n4_ n5_ ⊢
         have HO_998002 := n0_
         have HO_998003 := n1_
         have HO1001 := n2_
         have BK986 := n3_
         have BK997 := n4_
         have HB := n5_
         clear n0_ n1_ n2_ n3_ n4_ n5_
         replace HO_998002 := am_ (Kd.R_drew HO_998002.out)
         replace HO_998003 := am_ (Kd.R_drew HO_998003.out)
         replace HO1001 := am_ (Kd.R_drew HO1001.out)
         replace BK986 := am_ (blk_drew BK986.out)
         replace BK997 := am_ (blk_drew BK997.out)
         replace HB := am_ (below_drew1 HB.out)
         refine start_ (n := 14) (S := fun w' => w'.cell? ⟨gb997,0,none⟩ = some (.int .i64 a1) ∧ w'.cell? ⟨gb997,1,none⟩ = some (.slice Ao32 y999.length co32) ∧ w'.cell? ⟨gb997,2,none⟩ = some (u998002) ∧ w'.cell? ⟨gb997,3,none⟩ = some (.slice Ao13 y994.length co13)) (ds := [13]) #[false,false,false,false,false,false,false,false,false,false,false,false,false,false] (by kernel_rfl) rfl rfl ⟨(blk_cell BK997.out 0).trans rfl,(blk_cell BK997.out 1).trans rfl,(blk_cell BK997.out 2).trans rfl,(blk_cell BK997.out 3).trans rfl⟩ (fun hHeld => ?_);refine with_tabW spec_l03Sign.tab8 spec_l03Sign.bits8 (fun HT_ HW_ => ?_)
         generalize w34.drew = w35 at HO_998002 HO_998003 HO1001 BK986 BK997 HB hHeld ⊢
         refine zpu 0 (N := some 39) HT_ ?_
         refine zpu 2 (N := some 41) HT_ ?_
         refine zpu 3 (N := some 42) HT_ ?_
         refine zpu 4 (N := some 43) HT_ ?_
         refine zpu 5 (N := some 44) HT_ ?_
         refine zpu 6 (N := some 45) HT_ ?_
         refine ztk 1 (N := some 40) HT_ HW_ hHeld ?_
         refine zon 7 (N := some 46) HT_ (fun K hK => ?_)
         refine goes_ Tryd.func138 (by kernel_rfl) rfl #[.string a0,.int .i64 a1,.int .i64 x9_1,.int .i64 (1 - (((bt t987 x9_1) - 48) % 256))] (by rfl) rfl rfl (Eq.trans (b := (#[.string a0,.int .i64 a1,.int .i64 x9_1,.int .i64 (wrap64 (1 - (((bt t987 x9_1) - 48) % 256)))] : Array Value)) (by (try simp only [m1_,m2_,m3_]);first | done | rfl) (by rw [mp_wrap_one])) ?_
         with_reducible refine (spec_l03Secret.calls k1 a0 a1 x9_1 (1 - (((bt t987 x9_1) - 48) % 256)) t1002 _ A25.out).mono ?_
         rintro e w36 ⟨rfl,hb⟩
         refine ⟨_,rfl,?_⟩
         replace HO_998002 := zrb HO_998002 hb
         replace HO_998003 := zrb HO_998003 hb
         replace HO1001 := zrb HO1001 hb
         replace BK986 := zb BK986 hb
         replace BK997 := zb BK997 hb
         replace HB := zs_ HB hb
         (try clear hb)
         (try clear hb2)
         (try clear hk)
         (try clear hi)
         refine hK.out _ _ ⟨(blk_cell BK997.out 0).trans rfl,(blk_cell BK997.out 1).trans rfl,(blk_cell BK997.out 2).trans rfl,(blk_cell BK997.out 3).trans rfl⟩ (fun hHeld => ?_)
         clear hK K
         refine norm_ (a' := ?_) ?_ ?_
         rotate_left
         ·show Act.put _ (some 46) _ = _
          simp only [Act.put,p1_,p2_,p3_,i64_w,i32_w]
          rfl
         refine zon 8 (N := some 47) HT_ (fun K hK => ?_)
         refine Kd.V_conv_step (Kd.int .u8) rfl _ 5 (by rfl) (N := 47) rfl 9 31 _ rfl t1002 rfl Tryd.underlying9 Tryd.underlying31 Tryd.underlying5 (ok := fun k_ => w36.heap.size ≤ k_) (okp := fun _ => False) (fun _ hk => hk.elim) (Nat.le_refl _) (by have := o1_ (by first | (with_reducible assumption) | assumption : decide (t1002.size ≤ 140737488355328) = true);omega) (Below.refl _ _) (Nat.le_refl _) ?_
         intro v1004 w37 ho38 hb hg_ hnew_
         clear hg_ hnew_
         (first | rw [← Ny1003.out] at ho38 | (simp only [Int.reduceToNat] at ho38;rw [← Ny1003.out] at ho38))
         have HO1005 := am_ (Kd.V_lower (Kd.V_mono (ok' := fun k_ => some k_ ≠ (u998002 : Value).ownBlock ∧ some k_ ≠ (.slice Ao13 y994.length co13 : Value).ownBlock ∧ some k_ ≠ (.slice Ao32 y999.length co32 : Value).ownBlock ∧ k_ ≠ gb986 ∧ k_ ≠ gb997) ho38 (fun k_ hk_ => ⟨(Kd.fresh' (Kd.R_lt (zr HO_998002)) k_ hk_),(Kd.fresh' (Kd.R_lt (zr HO_998003)) k_ hk_),(Kd.fresh' (Kd.R_lt (zr HO1001)) k_ hk_),(Kd.freshB (g := gb986) (o := .cells #[.int .i64 0,.slice none 0 0,.slice none 0 0,.slice none 0 0] 56 (0,0)) (zk BK986) k_ hk_),(Kd.freshB (g := gb997) (o := .cells #[.int .i64 a1,.slice Ao32 y999.length co32,u998002,.slice Ao13 y994.length co13] 56 (0,0)) (zk BK997) k_ hk_)⟩)) (below_size (zl_ HB)))
         replace HO_998002 := zrb HO_998002 hb
         replace HO_998003 := zrb HO_998003 hb
         replace HO1001 := zrb HO1001 hb
         replace BK986 := zb BK986 hb
         replace BK997 := zb BK997 hb
         replace HB := zs_ HB hb
         clear hb ho38
         obtain ⟨Ao39,co39,eo39⟩ := Kd.V_slice HO1005.out
         (first | subst eo39 | (injection eo39 with f1_ f2_ f3_;have f4_ := f1_.symm;have f5_ := f3_.symm;clear f1_ f2_ f3_;subst f4_;subst f5_))
         refine hK.out _ _ ⟨(blk_cell BK997.out 0).trans rfl,(blk_cell BK997.out 1).trans rfl,(blk_cell BK997.out 2).trans rfl,(blk_cell BK997.out 3).trans rfl⟩ (fun hHeld => ?_)
         clear hK K
         refine norm_ (a' := ?_) ?_ ?_
         rotate_left
         ·show Act.put _ (some 47) _ = _
          simp only [Act.put,p1_,p2_,p3_,i64_w,i32_w]
          rfl
         refine zon 9 (N := some 48) HT_ (fun K hK => ?_)
         refine zgo Tryd.func123 #[.slice Ao39 y1003.length co39] ?_
         with_reducible refine (spec_l01Hash.calls k1 _ _ y1003 t1006 _ ?side1 ?side2 A27.out).mono ?_
         (case side1 => repeat (first | exact (Kd.V_reads' HO1005.out).2.2 | (with_reducible refine Kd.C_alloc ?_ _) | (with_reducible refine Kd.C_drewN ?_ _) | (with_reducible refine Kd.C_drew ?_)))
         (case side2 => exact (Kd.V_reads' HO1005.out).2.1)
         rintro e w40 ⟨rfl,hb⟩
         refine ⟨_,rfl,?_⟩
         replace HO_998002 := zrb HO_998002 hb
         replace HO_998003 := zrb HO_998003 hb
         replace HO1001 := zrb HO1001 hb
         replace BK986 := zb BK986 hb
         replace BK997 := zb BK997 hb
         replace HB := zs_ HB hb
         (try clear hb)
         (try clear hb2)
         (try clear hk)
         (try clear hi)
         refine hK.out _ _ ⟨(blk_cell BK997.out 0).trans rfl,(blk_cell BK997.out 1).trans rfl,(blk_cell BK997.out 2).trans rfl,(blk_cell BK997.out 3).trans rfl⟩ (fun hHeld => ?_)
         clear hK K
         refine norm_ (a' := ?_) ?_ ?_
         rotate_left
         ·show Act.put _ (some 48) _ = _
          simp only [Act.put,p1_,p2_,p3_,i64_w,i32_w]
          rfl
         refine zon 10 (N := some 49) HT_ (fun K hK => ?_)
         refine value_ (w1 := ?_) (v := ?_) (by rfl) rfl ?_ ?_
         rotate_left 2
         ·go_simp
          constructor
          ·rfl
          ·rfl
         refine hK.out _ _ ⟨(blk_cell (blk_alloc BK997.out _) 0).trans rfl,(blk_cell (blk_alloc BK997.out _) 1).trans rfl,(blk_cell (blk_alloc BK997.out _) 2).trans rfl,(blk_cell (blk_alloc BK997.out _) 3).trans rfl⟩ (fun hHeld => ?_)
         clear hK K
         refine norm_ (a' := ?_) ?_ ?_
         rotate_left
         ·show Act.put _ (some 49) _ = _
          simp only [Act.put,p1_,p2_,p3_,i64_w,i32_w]
          rfl
         refine zon 11 (N := some 50) HT_ (fun K hK => ?_)
         refine Kd.R_append_step Kd.string (w0 := w) w.heap.size (by rfl) (.tmp 40) (.tmp 49) 22 9 (.string ⟨#[]⟩) 16 rfl Tryd.underlying22 info9 rfl (by decide) (by omega) u998002 x998002_1 t1006 [.string t1006] (fun k_ => some k_ ≠ (.slice Ao13 y994.length co13 : Value).ownBlock ∧ some k_ ≠ (.slice Ao32 y999.length co32 : Value).ownBlock) (fun _ => False) rfl rfl ?aP (fun _ hk => hk.elim) ?aF ?aO ?aB ?aS ?aL ?_
         (case aP => exact rfl)
         (case aB => exact (zl_ HB))
         (case aF => exact (fun k_ hk => ⟨Kd.fresh' (Kd.R_lt (zr HO_998003)) k_ hk,Kd.fresh' (Kd.R_lt (zr HO1001)) k_ hk⟩))
         (case aO => exact (zr HO_998002))
         (case aS => exact (below_size (zl_ HB)))
         (case aL => have := LMc28.out;omega)
         intro v1008 w41 ho hb hg hat
         rw [← Ny1007.out] at ho
         replace HO_998003 := am_ (Kd.R_after (ok := (fun k_ => some k_ ≠ (.slice Ao32 y999.length co32 : Value).ownBlock)) (by (with_reducible repeat (first | apply r1_ | apply r2_ | apply r3_));exact Kd.R_mono HO_998003.out (fun _ hk => ⟨hk.2,hk.1⟩)) hg hat)
         replace BK986 := am_ (blk_grown (g := gb986) (o := .cells #[.int .i64 0,.slice none 0 0,.slice none 0 0,.slice none 0 0] 56 (0,0)) (zk BK986) hg (Kd.R_ne HO_998002.out BK986.out (by decide)))
         replace BK997 := am_ (blk_grown (g := gb997) (o := .cells #[.int .i64 a1,.slice Ao32 y999.length co32,u998002,.slice Ao13 y994.length co13] 56 (0,0)) (zk BK997) hg (Kd.R_ne HO_998002.out BK997.out (by decide)))
         replace HO1001 := am_ (Kd.R_after (ok := (fun k_ => some k_ ≠ (.slice Ao13 y994.length co13 : Value).ownBlock)) (by (with_reducible repeat (first | apply r1_ | apply r2_ | apply r3_));exact Kd.R_mono HO1001.out (fun _ hk => ⟨hk.2,hk.1⟩)) hg hat)
         replace HB := am_ (hb)
         have HO1009 := am_ (ho)
         clear HO_998002
         clear ho hb hg hat
         obtain ⟨Ao42,co42,eo42⟩ := Kd.R_slice HO1009.out
         (first | subst eo42 | (injection eo42 with f1_ f2_ f3_;have f4_ := f1_.symm;have f5_ := f3_.symm;clear f1_ f2_ f3_;subst f4_;subst f5_))
         refine hK.out _ _ ⟨(blk_cell BK997.out 0).trans rfl,(blk_cell BK997.out 1).trans rfl,(blk_cell BK997.out 2).trans rfl,(blk_cell BK997.out 3).trans rfl⟩ (fun hHeld => ?_)
         clear hK K
         refine norm_ (a' := ?_) ?_ ?_
         rotate_left
         ·show Act.put _ (some 50) _ = _
          simp only [Act.put,p1_,p2_,p3_,i64_w,i32_w]
          rfl
         refine zpu 12 (N := some 51) HT_ ?_
         refine last_ (i := 13) (N := none) #[true,true,true,true,true,true,true,true,true,true,true,true,true,true] rfl rfl (one_of HT_.out (by kernel_rfl)) (by decide) (fun K hK => ?_)
         have hs43 : w41.cell? ⟨gb997,2,none⟩ = some (u998002) := (blk_cell BK997.out 2).trans rfl
         have hfs43 := blk_frozen BK997.out 2
         have hns43_0 := NB986_997.out
         have hms43_0 := NB997_986.out
         refine skip_ (w1 := ?_) (by rfl) rfl ?_ ?_
         rotate_left
         ·go_simp
          rfl
         refine hK.out _ _ ?_
         clear hK K
         refine done_ (done_of HT_.out (by kernel_rfl)) ?_
         try go_wp2
         go_roundg k1
         case measure => have := HK1.out;omega
         case rel => exact ⟨(wrap64 (x9_1 + 1)),(y999),(y1007),(.slice Ao32 y999.length co32),(.slice Ao42 y1007.length co42),(by first | rfl | (simp;done) | (simp [*];done)),H',⟨by have := HK1.out;omega⟩,⟨by (with_reducible repeat (first | apply r1_ | apply r2_ | apply r3_));exact Kd.R_mono (zrf (Kd.R_types HO1001.out BK997.out (by decide))) (fun _ hk => ⟨hk.1.2,hk.1.1⟩)⟩,⟨by (with_reducible repeat (first | apply r1_ | apply r2_ | apply r3_));exact Kd.R_mono (zrf (Kd.R_types HO1009.out BK997.out (by decide))) (fun _ hk => ⟨hk.1.2,hk.1.1⟩)⟩,⟨by (with_reducible repeat (first | apply r1_ | apply r2_ | apply r3_));exact Kd.R_mono (zrf (Kd.R_types HO_998003.out BK997.out (by decide))) (fun _ hk => ⟨hk.1.1,hk.1.2⟩)⟩,⟨zq BK986⟩,⟨zq BK997⟩,⟨zl_ HB⟩⟩
        ·rw [if_neg c28] at H
         exact absurd H (by simp)
       ·rw [if_neg c26] at H
        exact absurd H (by simp)
      ·rw [if_neg c24] at H
       exact absurd H (by simp)
     ·rw [if_neg c21] at H
      exact absurd H (by simp)
    ·rw [if_neg c20] at H
     exact absurd H (by simp)
   ·rw [if_neg c19] at H
    have c19b0 : decide (x9_1 < 32) = false := decide_eq_false c19
    clear c19
    replace H := Option.bind_eq_some_iff.mp H
    obtain ⟨t1010,A440,H⟩ := H
    try dsimp only at H
    have A44 := am_ A440
    clear A440
    have H' := am_ H
    clear H
    go_wp2_with (first | ((with_reducible refine gate_callee (f := 95) rfl ?_);refine zgl (some 54) Tryd.func95 #[.string a0] ?_;(with_reducible refine (spec_l03Keys.calls k1 a0 t1010 _ A44.out).mono ?_);rintro e w45 ⟨v1011,rfl,ho0,hb⟩;refine ⟨_,rfl,?_⟩;have HO1012 := am_ (Kd.R_lower (Kd.R_new' (Kd.R_new' (Kd.R_new' ho0 (Kd.R_lt (zr HO_998001))) (Kd.R_lt (zr HO_998002))) (Kd.R_lt (zr HO_998003))) (below_size (zl_ HB)));replace HO_998001 := am_ (Kd.R_elder' (zr HO_998001) (Kd.R_base ho0) hb);replace HO_998002 := am_ (Kd.R_elder' (zr HO_998002) (Kd.R_base ho0) hb);replace HO_998003 := am_ (Kd.R_elder' (zr HO_998003) (Kd.R_base ho0) hb);replace BK986 := zb BK986 hb;replace BK997 := zb BK997 hb;replace HB := zs_ HB hb;(try clear hb);(try clear hb2);(try clear hk);(try clear hi);(try clear ho0)))
    go_loopg [11,12] k1 (fun kq v11 v12 w' => ∃ (x11_2 : Int) (x12_2 : List ByteArray) (x998003_2 : List ByteArray) (u998003 : Value),v11 = .int .i64 x11_2 ∧ Aside0 (spec_l03Sign.l1 kq x11_2 x12_2 a1 x998001_1 x998002_1 x998003_2 = some (r1,r2,r3,r4)) ∧ Aside0 (kq ≤ k1) ∧ Aside0 (Kd.R Kd.string 9 w' w.heap.size (fun k_ => some k_ ≠ (u998001 : Value).ownBlock ∧ some k_ ≠ (u998002 : Value).ownBlock ∧ some k_ ≠ (u998003 : Value).ownBlock) v12 x12_2) ∧ Aside0 (Kd.R Kd.string 9 w' w.heap.size (fun k_ => some k_ ≠ (v12 : Value).ownBlock ∧ some k_ ≠ (u998002 : Value).ownBlock ∧ some k_ ≠ (u998003 : Value).ownBlock) u998001 x998001_1) ∧ Aside0 (Kd.R Kd.string 9 w' w.heap.size (fun k_ => some k_ ≠ (v12 : Value).ownBlock ∧ some k_ ≠ (u998001 : Value).ownBlock ∧ some k_ ≠ (u998003 : Value).ownBlock) u998002 x998002_1) ∧ Aside0 (Kd.R Kd.string 9 w' w.heap.size (fun k_ => some k_ ≠ (v12 : Value).ownBlock ∧ some k_ ≠ (u998001 : Value).ownBlock ∧ some k_ ≠ (u998002 : Value).ownBlock) u998003 x998003_2) ∧ Aside0 (w'.heap[gb986]? = some (.cells #[.int .i64 0,(.slice none 0 0),(.slice none 0 0),(.slice none 0 0)] 56 (0,0))) ∧ Aside0 (w'.heap[gb997]? = some (.cells #[.int .i64 a1,u998001,u998002,u998003] 56 (0,0))) ∧ Aside0 (Below w.heap.size w w'))
    case atStart => exact ⟨(a1),(t1010),(y994),(.slice Ao13 y994.length co13),(by first | rfl | (simp;done) | (simp [*];done)),H',⟨Nat.le_refl _⟩,⟨by (with_reducible repeat (first | apply r1_ | apply r2_ | apply r3_));exact Kd.R_mono HO1012.out (fun _ hk => ⟨hk.1.1.2,⟨hk.1.2,hk.2⟩⟩)⟩,⟨by (with_reducible repeat (first | apply r1_ | apply r2_ | apply r3_));exact Kd.R_mono HO_998001.out (fun _ hk => ⟨hk.2,⟨hk.1.1,hk.1.2⟩⟩)⟩,⟨by (with_reducible repeat (first | apply r1_ | apply r2_ | apply r3_));exact Kd.R_mono HO_998002.out (fun _ hk => ⟨hk.2,⟨hk.1.1,hk.1.2⟩⟩)⟩,⟨by (with_reducible repeat (first | apply r1_ | apply r2_ | apply r3_));exact Kd.R_mono HO_998003.out (fun _ hk => ⟨hk.2,⟨hk.1.1,hk.1.2⟩⟩)⟩,⟨by (with_reducible repeat (first | apply k1_ | apply k2_ | apply k3_));exact BK986.out⟩,⟨by (with_reducible repeat (first | apply k1_ | apply k2_ | apply k3_));exact BK997.out⟩,⟨zl_ HB⟩⟩
    case round =>
     clear H'
     try clear c1
     try clear c2
     try clear p2
     try clear q2
     try clear hx2
     try clear p6
     try clear c8
     try clear c9
     try clear c12
     try clear c13
     try clear c17
     try clear c19
     try clear c19b0
     try clear c20
     try clear c20b0
     try clear c21
     try clear c21b0
     try clear p22
     try clear q22
     try clear hx22
     try clear c24
     try clear c26
     try clear c26b0
     try clear c26b1
     try clear c28
     try clear hcz18_0
     try clear hcz18_1
     try clear hcz18_2
     try clear hcz18_3
     try clear hfz18_0
     try clear hfz18_1
     try clear hfz18_2
     try clear hfz18_3
     try clear p2
     try clear p22
     try clear q22
     obtain ⟨x11_2,x12_2,x998003_2,u998003,rfl,HA,HK2,HO_12,HO_998001,HO_998002,HO_998003,BK986,BK997,HB⟩ := hrel
     cases gk with
     | zero => exact absurd HA.out (by simp [spec_l03Sign.l1])
     | succ k2 =>
      have H := HA.out
      clear HA
      simp only [spec_l03Sign.l1] at H
      by_cases c46 : (x12_2.length : Int) > 1
      ·rw [if_pos c46] at H
       have c46b0 : decide (1 < (x12_2.length : Int)) = true := decide_eq_true c46
       have c46b1 : decide (1 < x12_2.length) = true := decide_eq_true (by omega)
       clear c46
       by_cases c47 : 0 ≤ (Go.bits .xor .i64 x11_2 1)
       ·rw [if_pos c47] at H
        have c47b0 : decide (0 ≤ (Go.bits .xor .i64 x11_2 1)) = true := decide_eq_true c47
        clear c47
        by_cases c48 : (Go.bits .xor .i64 x11_2 1) < (x12_2.length : Int)
        ·rw [if_pos c48] at H
         have c48b0 : decide ((Go.bits .xor .i64 x11_2 1) < (x12_2.length : Int)) = true := decide_eq_true c48
         clear c48
         by_cases c49 : x998003_2.length < 8796093022208
         ·rw [if_pos c49] at H
          have LMc49 := am_ c49
          clear c49
          obtain ⟨y1014,hy1014⟩ : ∃ y_ : List ByteArray,y_ = (x998003_2 ++ [rdOf ByteArray.empty x12_2 (Go.bits .xor .i64 x11_2 1)]) := ⟨_,rfl⟩
          replace H : ((spec_l03Level.f k2 x12_2).bind fun t1017 => (spec_l03Sign.l1 k2 (wrap64 (Int.tdiv x11_2 2)) t1017 a1 x998001_1 x998002_1 y1014)) = some (r1,r2,r3,r4) := by first | (rw [hy1014];with_reducible exact H) | (have H2_ := (Option.bind_some _ _).symm.trans H;rw [hy1014];with_reducible exact H2_) | (have H2_ := (Option.bind_some _ _).symm.trans H;with_reducible exact H2_) | with_reducible exact H | (rw [hy1014];exact H) | exact H
          have Ny1014 := am_ hy1014
          clear hy1014
          replace H := Option.bind_eq_some_iff.mp H
          obtain ⟨t1017,A500,H⟩ := H
          try dsimp only at H
          have A50 := am_ A500
          clear A500
          have H' := am_ H
          clear H
          obtain ⟨Ao51,co51,eo51⟩ := Kd.R_slice HO_12.out
          subst eo51
          try go_wp2
          replace HO_12 := am_ (Kd.R_drew HO_12.out)
          replace HO_998001 := am_ (Kd.R_drew HO_998001.out)
          replace HO_998002 := am_ (Kd.R_drew HO_998002.out)
          replace HO_998003 := am_ (Kd.R_drew HO_998003.out)
          replace BK986 := am_ (blk_drew BK986.out)
          replace BK997 := am_ (blk_drew BK997.out)
          replace HB := am_ (below_drew1 HB.out)
          have p1013 : 0 ≤ ((Go.bits .xor .i64 x11_2 1) : Int) := zo_
          have q1013 : (Go.bits .xor .i64 x11_2 1) < (x12_2.length : Int) := zo_
          obtain ⟨ad1013,e1013,hx1013_0⟩ := Kd.at_string (Kd.R_reads' HO_12.out).2.2 (Go.bits .xor .i64 x11_2 1) p1013 q1013
          cases e1013
          replace p1013 := eq_true p1013
          replace q1013 := eq_true q1013
          refine start_ (n := 11) (S := fun w' => w'.cell? ⟨gb997,0,none⟩ = some (.int .i64 a1) ∧ w'.cell? ⟨gb997,1,none⟩ = some (u998001) ∧ w'.cell? ⟨gb997,2,none⟩ = some (u998002) ∧ w'.cell? ⟨gb997,3,none⟩ = some (u998003) ∧ w'.cell? (ad1013.add ((Go.bits .xor .i64 x11_2 1)).toNat) = some (.string (rdOf ByteArray.empty x12_2 (Go.bits .xor .i64 x11_2 1)))) (ds := [8,10]) #[false,false,false,false,false,false,false,false,false,false,false] (by kernel_rfl) rfl rfl ⟨(blk_cell BK997.out 0).trans rfl,(blk_cell BK997.out 1).trans rfl,(blk_cell BK997.out 2).trans rfl,(blk_cell BK997.out 3).trans rfl,hx1013_0⟩ (fun hHeld => ?_);refine with_tabW spec_l03Sign.tab13 spec_l03Sign.bits13 (fun HT_ HW_ => ?_)
          generalize wr.drew = w52 at HO_12 HO_998001 HO_998002 HO_998003 BK986 BK997 HB hx1013_0 hHeld ⊢
          refine zpu 0 (N := some 60) HT_ ?_
          refine zpu 2 (N := some 62) HT_ ?_
          refine zpu 3 (N := some 63) HT_ ?_
          refine zpu 4 (N := some 64) HT_ ?_
          refine zpu 5 (N := some 65) HT_ ?_
          refine ztk 1 (N := some 61) HT_ HW_ hHeld ?_
          refine ztk 6 (N := some 66) HT_ HW_ hHeld ?_
          refine zon 7 (N := some 67) HT_ (fun K hK => ?_)
          refine value_ (w1 := ?_) (v := ?_) (by rfl) rfl ?_ ?_
          rotate_left 2
          ·go_simp
           constructor
           ·rfl
           ·rfl
          refine hK.out _ _ ⟨(blk_cell (blk_alloc BK997.out _) 0).trans rfl,(blk_cell (blk_alloc BK997.out _) 1).trans rfl,(blk_cell (blk_alloc BK997.out _) 2).trans rfl,(blk_cell (blk_alloc BK997.out _) 3).trans rfl,(World.cell?_alloc_lt _ _ _ (World.block_lt_of_cell? _ _ (hHeld.2.2.2.2))).trans (hHeld.2.2.2.2)⟩ (fun hHeld => ?_)
          clear hK K
          refine norm_ (a' := ?_) ?_ ?_
          rotate_left
          ·show Act.put _ (some 67) _ = _
           simp only [Act.put,p1_,p2_,p3_,i64_w,i32_w]
           rfl
          refine last_ (i := 8) (N := some 68) #[true,true,true,true,true,true,true,true,true,false,false] rfl rfl (one_of HT_.out (by kernel_rfl)) (by decide) (fun K hK => ?_)
          refine Kd.R_append_step Kd.string (w0 := w) w.heap.size (by rfl) (.tmp 61) (.tmp 67) 22 9 (.string ⟨#[]⟩) 16 rfl Tryd.underlying22 info9 rfl (by decide) (by omega) u998003 x998003_2 (rdOf ByteArray.empty x12_2 (Go.bits .xor .i64 x11_2 1)) [.string (rdOf ByteArray.empty x12_2 (Go.bits .xor .i64 x11_2 1))] (fun k_ => some k_ ≠ (.slice (some ad1013) x12_2.length co51 : Value).ownBlock ∧ some k_ ≠ (u998001 : Value).ownBlock ∧ some k_ ≠ (u998002 : Value).ownBlock) (fun _ => False) rfl rfl ?aP (fun _ hk => hk.elim) ?aF ?aO ?aB ?aS ?aL ?_
          (case aP => exact rfl)
          (case aB => exact (zl_ HB))
          (case aF => exact (fun k_ hk => ⟨Kd.fresh' (Kd.R_lt (zr HO_12)) k_ hk,Kd.fresh' (Kd.R_lt (zr HO_998001)) k_ hk,Kd.fresh' (Kd.R_lt (zr HO_998002)) k_ hk⟩))
          (case aO => exact (zr HO_998003))
          (case aS => exact (below_size (zl_ HB)))
          (case aL => have := LMc49.out;omega)
          intro v1015 w53 ho hb hg hat
          rw [← Ny1014.out] at ho
          replace HO_12 := am_ (Kd.R_after (ok := (fun k_ => some k_ ≠ (u998001 : Value).ownBlock ∧ some k_ ≠ (u998002 : Value).ownBlock)) (by (with_reducible repeat (first | apply r1_ | apply r2_ | apply r3_));exact Kd.R_mono HO_12.out (fun _ hk => ⟨⟨hk.1,hk.2.1⟩,hk.2.2⟩)) hg hat)
          replace HO_998001 := am_ (Kd.R_after (ok := (fun k_ => some k_ ≠ (.slice (some ad1013) x12_2.length co51 : Value).ownBlock ∧ some k_ ≠ (u998002 : Value).ownBlock)) (by (with_reducible repeat (first | apply r1_ | apply r2_ | apply r3_));exact Kd.R_mono HO_998001.out (fun _ hk => ⟨⟨hk.1,hk.2.1⟩,hk.2.2⟩)) hg hat)
          replace HO_998002 := am_ (Kd.R_after (ok := (fun k_ => some k_ ≠ (.slice (some ad1013) x12_2.length co51 : Value).ownBlock ∧ some k_ ≠ (u998001 : Value).ownBlock)) (by (with_reducible repeat (first | apply r1_ | apply r2_ | apply r3_));exact Kd.R_mono HO_998002.out (fun _ hk => ⟨⟨hk.1,hk.2.1⟩,hk.2.2⟩)) hg hat)
          replace BK986 := am_ (blk_grown (g := gb986) (o := .cells #[.int .i64 0,.slice none 0 0,.slice none 0 0,.slice none 0 0] 56 (0,0)) (zk BK986) hg (Kd.R_ne HO_998003.out BK986.out (by decide)))
          replace BK997 := am_ (blk_grown (g := gb997) (o := .cells #[.int .i64 a1,u998001,u998002,u998003] 56 (0,0)) (zk BK997) hg (Kd.R_ne HO_998003.out BK997.out (by decide)))
          replace HB := am_ (hb)
          have HO1016 := am_ (ho)
          clear HO_998003
          clear ho hb hg hat
          obtain ⟨Ao54,co54,eo54⟩ := Kd.R_slice HO1016.out
          (first | subst eo54 | (injection eo54 with f1_ f2_ f3_;have f4_ := f1_.symm;have f5_ := f3_.symm;clear f1_ f2_ f3_;subst f4_;subst f5_))
          refine hK.out _ _ ?_
          clear hK K
          refine norm_ (a' := ?_) ?_ ?_
          rotate_left
          ·show Act.put _ (some 68) _ = _
           simp only [Act.put,p1_,p2_,p3_,i64_w,i32_w]
           rfl
          refine zpu 9 (N := some 69) HT_ ?_
          refine last_ (i := 10) (N := none) #[true,true,true,true,true,true,true,true,true,true,true] rfl rfl (one_of HT_.out (by kernel_rfl)) (by decide) (fun K hK => ?_)
          have hs55 : w53.cell? ⟨gb997,3,none⟩ = some (u998003) := (blk_cell BK997.out 3).trans rfl
          have hfs55 := blk_frozen BK997.out 3
          have hns55_0 := NB986_997.out
          have hms55_0 := NB997_986.out
          refine skip_ (w1 := ?_) (by rfl) rfl ?_ ?_
          rotate_left
          ·go_simp
           rfl
          refine hK.out _ _ ?_
          clear hK K
          refine done_ (done_of HT_.out (by kernel_rfl)) ?_
          try go_wp2_with (first | ((with_reducible refine gate_callee (f := 139) rfl ?_);refine zgl (some 59) Tryd.func139 #[.slice (some ad1013) x12_2.length co51] ?_;(with_reducible refine (spec_l03Level.calls k2 _ _ x12_2 t1017 _ ?side1 ?side2 A50.out).mono ?_);(case side1 => refine (Kd.R_reads' (e := 9) (base := w.heap.size) (ok := fun k_ => ((some k_ ≠ (u998001 : Value).ownBlock ∧ some k_ ≠ (u998002 : Value).ownBlock) ∧ some k_ ≠ (.slice Ao54 y1014.length co54 : Value).ownBlock)) (n := x12_2.length) (c := co51) ?_).2.2;exact (by (with_reducible repeat (first | apply r1_ | apply r2_ | apply r3_));exact (Kd.R_mono (zrf (Kd.R_types HO_12.out BK997.out (by decide))) (fun _ h_ => h_.1))));(case side2 => exact (Kd.R_reads' HO_12.out).2.1);rintro e w56 ⟨v1018,rfl,ho0,hb⟩;refine ⟨_,rfl,?_⟩;have HO1019 := am_ (Kd.R_lower (Kd.R_new' (Kd.R_new' (Kd.R_new' (Kd.R_new' ho0 (Kd.R_lt (by (with_reducible repeat (first | apply r1_ | apply r2_ | apply r3_));exact (Kd.R_mono (zrf (Kd.R_types HO_12.out BK997.out (by decide))) (fun _ h_ => h_.1))))) (Kd.R_lt (by (with_reducible repeat (first | apply r1_ | apply r2_ | apply r3_));exact (Kd.R_mono (zrf (Kd.R_types HO_998001.out BK997.out (by decide))) (fun _ h_ => h_.1))))) (Kd.R_lt (by (with_reducible repeat (first | apply r1_ | apply r2_ | apply r3_));exact (Kd.R_mono (zrf (Kd.R_types HO_998002.out BK997.out (by decide))) (fun _ h_ => h_.1))))) (Kd.R_lt (by (with_reducible repeat (first | apply r1_ | apply r2_ | apply r3_));exact (Kd.R_mono (zrf (Kd.R_types HO1016.out BK997.out (by decide))) (fun _ h_ => h_.1))))) (below_size (zl_ HB)));replace HO_998001 := am_ (Kd.R_elder' (by (with_reducible repeat (first | apply r1_ | apply r2_ | apply r3_));exact (Kd.R_mono (zrf (Kd.R_types HO_998001.out BK997.out (by decide))) (fun _ h_ => h_.1))) (Kd.R_base ho0) hb);replace HO_998002 := am_ (Kd.R_elder' (by (with_reducible repeat (first | apply r1_ | apply r2_ | apply r3_));exact (Kd.R_mono (zrf (Kd.R_types HO_998002.out BK997.out (by decide))) (fun _ h_ => h_.1))) (Kd.R_base ho0) hb);replace HO1016 := am_ (Kd.R_elder' (by (with_reducible repeat (first | apply r1_ | apply r2_ | apply r3_));exact (Kd.R_mono (zrf (Kd.R_types HO1016.out BK997.out (by decide))) (fun _ h_ => h_.1))) (Kd.R_base ho0) hb);replace BK986 := am_ (blk_below (g := gb986) (o := .cells #[.int .i64 0,.slice none 0 0,.slice none 0 0,.slice none 0 0] 56 (0,0)) (zq BK986) hb);replace BK997 := am_ (blk_below (g := gb997) (o := .cells #[.int .i64 a1,u998001,u998002,.slice Ao54 y1014.length co54] 56 (0,0)) (zq BK997) hb);replace HB := zs_ HB hb;(try clear hb);(try clear hb2);(try clear hk);(try clear hi);(try clear ho0)))
          go_roundg k2
          case measure => have := HK1.out;have := HK2.out;omega
          case rel => exact ⟨(wrap64 (Int.tdiv x11_2 2)),(t1017),(y1014),(.slice Ao54 y1014.length co54),(by first | rfl | (simp;done) | (simp [*];done)),H',⟨by have := HK1.out;have := HK2.out;omega⟩,⟨by (with_reducible repeat (first | apply r1_ | apply r2_ | apply r3_));exact Kd.R_mono HO1019.out (fun _ hk => ⟨hk.1.1.2,⟨hk.1.2,hk.2⟩⟩)⟩,⟨by (with_reducible repeat (first | apply r1_ | apply r2_ | apply r3_));exact Kd.R_mono HO_998001.out (fun _ hk => ⟨hk.2,⟨hk.1.1.2,hk.1.2⟩⟩)⟩,⟨by (with_reducible repeat (first | apply r1_ | apply r2_ | apply r3_));exact Kd.R_mono HO_998002.out (fun _ hk => ⟨hk.2,⟨hk.1.1.2,hk.1.2⟩⟩)⟩,⟨by (with_reducible repeat (first | apply r1_ | apply r2_ | apply r3_));exact Kd.R_mono HO1016.out (fun _ hk => ⟨hk.2,⟨hk.1.2.1,hk.1.2.2⟩⟩)⟩,⟨by (with_reducible repeat (first | apply k1_ | apply k2_ | apply k3_));exact BK986.out⟩,⟨by (with_reducible repeat (first | apply k1_ | apply k2_ | apply k3_));exact BK997.out⟩,⟨zl_ HB⟩⟩
         ·rw [if_neg c49] at H
          exact absurd H (by simp)
        ·rw [if_neg c48] at H
         exact absurd H (by simp)
       ·rw [if_neg c47] at H
        exact absurd H (by simp)
      ·rw [if_neg c46] at H
       have c46b0 : decide (1 < (x12_2.length : Int)) = false := decide_eq_false c46
       have c46b1 : decide (1 < x12_2.length) = false := decide_eq_false (by omega)
       clear c46
       simp only [Option.some.injEq,Prod.mk.injEq] at H
       obtain ⟨rfl,rfl,rfl,rfl⟩ := H
       obtain ⟨Ao57,co57,eo57⟩ := Kd.R_slice HO_12.out
       subst eo57
       have hnb58 := NB997_986.out
       have hnc58 := NB986_997.out
       obtain ⟨hcz59_0,hcz59_1,hcz59_2,hcz59_3,hfz59_0,hfz59_1,hfz59_2,hfz59_3⟩ := zc4 BK997
       obtain ⟨hcz60_0,hcz60_1,hcz60_2,hcz60_3,hfz60_0,hfz60_1,hfz60_2,hfz60_3⟩ := zc4 BK986
       obtain ⟨Ao61,co61,eo61⟩ := Kd.R_slice HO_998001.out
       subst eo61
       obtain ⟨Ao62,co62,eo62⟩ := Kd.R_slice HO_998002.out
       subst eo62
       obtain ⟨Ao63,co63,eo63⟩ := Kd.R_slice HO_998003.out
       subst eo63
       go_wp2
       refine bodyPost_ret (results_cell_row rfl _ _ gb986 56 #[.int .i64 a1,.slice Ao61 x998001_1.length co61,.slice Ao62 x998002_1.length co62,.slice Ao63 x998003_2.length co63] (0,0) _ rfl (zq BK986) Tryd.underlying56 rfl (by kernel_rfl)) rfl ?_
       exact ⟨_,_,_,zt_,by (with_reducible repeat (first | apply r1_ | apply r2_ | apply r3_));exact Kd.R_mono (zrf (Kd.R_types HO_998001.out BK986.out (by decide))) (fun _ hk => ⟨hk.1.2.1,hk.1.2.2⟩),by (with_reducible repeat (first | apply r1_ | apply r2_ | apply r3_));exact Kd.R_mono (zrf (Kd.R_types HO_998002.out BK986.out (by decide))) (fun _ hk => ⟨hk.1.2.1,hk.1.2.2⟩),by (with_reducible repeat (first | apply r1_ | apply r2_ | apply r3_));exact Kd.R_mono (zrf (Kd.R_types HO_998003.out BK986.out (by decide))) (fun _ hk => ⟨hk.1.2.1,hk.1.2.2⟩),zl_ HB⟩
set_option maxHeartbeats 8000000 in
set_option maxRecDepth 100000 in
theorem spec_l12Seed.calls (k : Nat) (a0 : Int) (r : ByteArray) (w : World) (h : spec_l12Seed.f k a0 = some r) :
  Calls Tryd.prog 83 #[.int .i64 a0] w fun e w' => e = .returned (.string r) ∧ Below w.heap.size w w' := by
 have HB := am_ (Below.refl w.heap.size w)
 have H : ((some (([(a0) % 256] : List Int) : List Int)).bind fun y1020 => (if 9 + (strOfNums y1020).size ≤ 9223372036854775807 then (if ((⟨#[110,111,100,101,32,115,101,101,100]⟩ : ByteArray) ++ (strOfNums y1020)).size ≤ 140737488355328 then ((spec_l01Hash.f k (bytesOf ((⟨#[110,111,100,101,32,115,101,101,100]⟩ : ByteArray) ++ (strOfNums y1020)))).bind fun t1026 => (some t1026)) else (none)) else (none))) = some r := h
 clear h
 obtain ⟨y1020,hy1020⟩ : ∃ y_ : List Int,y_ = (([(a0) % 256] : List Int)) := ⟨_,rfl⟩
 replace H : (if 9 + (strOfNums y1020).size ≤ 9223372036854775807 then (if ((⟨#[110,111,100,101,32,115,101,101,100]⟩ : ByteArray) ++ (strOfNums y1020)).size ≤ 140737488355328 then ((spec_l01Hash.f k (bytesOf ((⟨#[110,111,100,101,32,115,101,101,100]⟩ : ByteArray) ++ (strOfNums y1020)))).bind fun t1026 => (some t1026)) else (none)) else (none)) = some r := by first | (rw [hy1020];with_reducible exact H) | (have H2_ := (Option.bind_some _ _).symm.trans H;rw [hy1020];with_reducible exact H2_) | (have H2_ := (Option.bind_some _ _).symm.trans H;with_reducible exact H2_) | with_reducible exact H | (rw [hy1020];exact H) | exact H
 have Ny1020 := am_ hy1020
 clear hy1020
 by_cases c2 : 9 + (strOfNums y1020).size ≤ 9223372036854775807
 ·rw [if_pos c2] at H
  have c2b0 := eq_true c2
  have c2b1 : decide (9 + (strOfNums y1020).size ≤ 9223372036854775807) = true := decide_eq_true c2
  try have c2b2 : (9223372036854775807 < 9 + (strOfNums y1020).size) = False := eq_false (Nat.not_lt.2 c2)
  by_cases c3 : ((⟨#[110,111,100,101,32,115,101,101,100]⟩ : ByteArray) ++ (strOfNums y1020)).size ≤ 140737488355328
  ·rw [if_pos c3] at H
   have c3b0 := eq_true c3
   have c3b1 : decide (((⟨#[110,111,100,101,32,115,101,101,100]⟩ : ByteArray) ++ (strOfNums y1020)).size ≤ 140737488355328) = true := decide_eq_true c3
   obtain ⟨y1023,hy1023⟩ : ∃ y_ : List Int,y_ = (bytesOf ((⟨#[110,111,100,101,32,115,101,101,100]⟩ : ByteArray) ++ (strOfNums y1020))) := ⟨_,rfl⟩
   replace H : ((spec_l01Hash.f k y1023).bind fun t1026 => (some t1026)) = some r := by first | (rw [hy1023];with_reducible exact H) | (have H2_ := (Option.bind_some _ _).symm.trans H;rw [hy1023];with_reducible exact H2_) | (have H2_ := (Option.bind_some _ _).symm.trans H;with_reducible exact H2_) | with_reducible exact H | (rw [hy1023];exact H) | exact H
   have Ny1023 := am_ hy1023
   clear hy1023
   replace H := Option.bind_eq_some_iff.mp H
   obtain ⟨t1026,A40,H⟩ := H
   try dsimp only at H
   have A4 := am_ A40
   clear A40
   obtain rfl := Option.some.inj H
   go_enter Tryd.func83,Tryd.ntmps83
   go_wp2_with (first | ((with_reducible refine gate_dst (N := 5) rfl ?_);refine Kd.R_lit (Kd.int .u8) _ 5 ?hg (N := 5) ?hd (xs := ([(a0) % 256] : List Int)) (inner := [.int .u8 ((a0) % 256)]) (ok := fun _ => True) (okp := fun _ => True) ?hr ?hp (fun _ hk => hk) trivial (Below.refl _ _) (Nat.le_refl _) (by simp) ?_;(case hd => rfl);(case hg => rfl);(case hr => first | (go_simp;done) | (go_simp;rfl));(case hp => exact (Reps.one (show Kd.M (Kd.int .u8) _ _ _ ((a0) % 256) [.int .u8 ((a0) % 256)] from rfl) (Reps.none _ _)));intro v1021 w5 ho6 hb hg_ hnew_;clear hg_ hnew_;(first | rw [← Ny1020.out] at ho6 | (simp only [Int.reduceToNat] at ho6;rw [← Ny1020.out] at ho6));have HO1022 := am_ (Kd.R_lower ho6 (below_size (zl_ HB)));replace HB := zs_ HB hb;clear hb ho6;have hcv7 := own_string (P := Tryd.prog) Tryd.underlying31 Tryd.underlying5 Tryd.underlying9 (Kd.own_of_R HO1022.out)) | ((with_reducible refine gate_dst (N := 8) rfl ?_);refine Kd.V_conv (Kd.int .u8) rfl _ 5 rfl (N := 8) rfl 9 31 _ rfl ((⟨#[110,111,100,101,32,115,101,101,100]⟩ : ByteArray) ++ (strOfNums y1020)) rfl Tryd.underlying9 Tryd.underlying31 Tryd.underlying5 (ok := fun k_ => w5.heap.size ≤ k_) (okp := fun _ => False) (fun _ hk => hk.elim) (Nat.le_refl _) (by have := o1_ (by first | (with_reducible assumption) | assumption : decide (((⟨#[110,111,100,101,32,115,101,101,100]⟩ : ByteArray) ++ (strOfNums y1020)).size ≤ 140737488355328) = true);omega) (Below.refl _ _) (Nat.le_refl _) ?_;intro v1024 w8 ho9 hb hg_ hnew_;clear hg_ hnew_;(first | rw [← Ny1023.out] at ho9 | (simp only [Int.reduceToNat] at ho9;rw [← Ny1023.out] at ho9));have HO1025 := am_ (Kd.V_lower (Kd.V_mono (ok' := fun k_ => some k_ ≠ (v1021 : Value).ownBlock) ho9 (fun k_ hk_ => (Kd.fresh' (Kd.R_lt (zr HO1022)) k_ hk_))) (below_size (zl_ HB)));replace HB := zs_ HB hb;clear hb ho9;obtain ⟨Ao10,co10,eo10⟩ := Kd.V_slice HO1025.out;subst eo10) | ((with_reducible refine gate_callee (f := 123) rfl ?_);refine zgl (some 9) Tryd.func123 #[.slice Ao10 y1023.length co10] ?_;(with_reducible refine (spec_l01Hash.calls k _ _ y1023 t1026 _ ?side1 ?side2 A4.out).mono ?_);(case side1 => repeat (first | exact (Kd.V_reads' HO1025.out).2.2 | (with_reducible refine Kd.C_alloc ?_ _) | (with_reducible refine Kd.C_drewN ?_ _) | (with_reducible refine Kd.C_drew ?_)));(case side2 => exact (Kd.V_reads' HO1025.out).2.1);rintro e w11 ⟨rfl,hb⟩;refine ⟨_,rfl,?_⟩;replace HB := zs_ HB hb;(try clear hb);(try clear hb2);(try clear hk);(try clear hi)))
   go_ret
   exact ⟨zt_,zl_ HB⟩
  ·rw [if_neg c3] at H
   exact absurd H (by simp)
 ·rw [if_neg c2] at H
  exact absurd H (by simp)
end Go.Proofs.YtadablpppkjdbaaDoor.B
end
