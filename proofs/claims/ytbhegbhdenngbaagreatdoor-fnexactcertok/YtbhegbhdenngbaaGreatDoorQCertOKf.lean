/- A part of the proof that FnExactCertOK returns true at every input: plain functions, contracts and lemmas. No conditions. -/
import Derived.Test.YtbhegbhdenngbaaGreatDoorQCertOKe
set_option linter.unusedVariables false
set_option linter.unusedSimpArgs false
set_option linter.unusedSectionVars false
set_option maxHeartbeats 8000000
set_option maxRecDepth 100000
section
namespace Go.Proofs.YtbhegbhdenngbaaGreatDoor.A
open Go.RowKit Go.Proofs.YtbhegbhdenngbaaGreatDoorW.PrintWords Go.Proofs.YtbhegbhdenngbaaGreatDoorW.PrintLast Go.Proofs.YtbhegbhdenngbaaGreatDoorW.PrintMore
attribute [local go_sem] max2_int min2_int max_two min_two max_three min_three max_four min_four
theorem ZN.calls (k : Nat) (a0 : ByteArray) (r : ByteArray) (w : World) (h : ZN.f k a0 = some r) :
  Calls Tryz.prog 25 #[.string a0] w fun e w' => e = .returned (.string r) ∧ Below w.heap.size w w' := by
 have HB := am_ (Below.refl w.heap.size w)
 have H : (if 5 + a0.size ≤ 9223372036854775807 then (if ((⟨#[98,97,116,99,104]⟩ : ByteArray) ++ a0).size ≤ 140737488355328 then ((Zb.f k (bytesOf ((⟨#[98,97,116,99,104]⟩ : ByteArray) ++ a0))).bind fun t346 => (some t346)) else (none)) else (none)) = some r := h
 clear h
 by_cases c2 : 5 + a0.size ≤ 9223372036854775807
 case neg =>
  rw [if_neg c2] at H
  exact absurd H (by simp)
 rw [if_pos c2] at H
 have c2b0 := eq_true c2
 have c2b1 := decide_eq_true c2
 try have c2b2 : (9223372036854775807 < 5 + a0.size) = False := eq_false (Nat.not_lt.2 c2)
 by_cases c3 : ((⟨#[98,97,116,99,104]⟩ : ByteArray) ++ a0).size ≤ 140737488355328
 case neg =>
  rw [if_neg c3] at H
  exact absurd H (by simp)
 rw [if_pos c3] at H
 have c3b0 := eq_true c3
 have c3b1 := decide_eq_true c3
 obtain ⟨y343,hy343⟩ : ∃ y_ : List Int,y_ = (bytesOf ((⟨#[98,97,116,99,104]⟩ : ByteArray) ++ a0)) := ⟨_,rfl⟩
 replace H : ((Zb.f k y343).bind fun t346 => (some t346)) = some r := by first | (rw [hy343];with_reducible exact H) | (have H2_ := (Option.bind_some _ _).symm.trans H;rw [hy343];with_reducible exact H2_) | (have H2_ := (Option.bind_some _ _).symm.trans H;with_reducible exact H2_) | with_reducible exact H | (rw [hy343];exact H) | exact H
 have Ny343 := am_ hy343
 clear hy343
 replace H := Option.bind_eq_some_iff.mp H
 obtain ⟨t346,A40,H⟩ := H
 try dsimp only at H
 have A4 := am_ A40
 clear A40
 obtain rfl := Option.some.inj H
 go_enter Tryz.func25,Tryz.ntmps25
 go_wp2_with (first | ((with_reducible refine gate_dst (N := 5) rfl ?_);refine Kd.V_conv (Kd.int .u8) rfl _ 5 rfl (N := 5) rfl 9 65 _ rfl ((⟨#[98,97,116,99,104]⟩ : ByteArray) ++ a0) rfl Tryz.underlying9 Tryz.underlying65 Tryz.underlying5 (ok := fun k_ => w.heap.size ≤ k_) (okp := fun _ => False) (fun _ hk => hk.elim) (Nat.le_refl _) (by have := o1_ (by first | (with_reducible assumption) | assumption : decide (((⟨#[98,97,116,99,104]⟩ : ByteArray) ++ a0).size ≤ 140737488355328) = true);omega) (Below.refl _ _) (Nat.le_refl _) ?_;intro v344 w5 ho6 hb hg_ hnew_;clear hg_ hnew_;(first | rw [← Ny343.out] at ho6 | (simp only [Int.reduceToNat] at ho6;rw [← Ny343.out] at ho6));have HO345 := am_ (Kd.V_lower (Kd.V_mono (ok' := fun k_ => True) ho6 (fun k_ hk_ => trivial)) (below_size (zl_ HB)));replace HB := zs_ HB hb;clear hb ho6;obtain ⟨Ao7,co7,eo7⟩ := Kd.V_slice HO345.out;subst eo7) | ((with_reducible refine gate_callee (f := 38) rfl ?_);refine zgl (some 6) Tryz.func38 #[.slice Ao7 y343.length co7] ?_;(with_reducible refine (Zb.calls k _ _ y343 t346 _ ?side1 ?side2 A4.out).mono ?_);(case side1 => repeat (first | exact (Kd.V_reads' HO345.out).2.2 | (with_reducible refine Kd.C_alloc ?_ _) | (with_reducible refine Kd.C_drewN ?_ _) | (with_reducible refine Kd.C_drew ?_)));(case side2 => exact (Kd.V_reads' HO345.out).2.1);rintro e w8 ⟨rfl,hb⟩;refine ⟨_,rfl,?_⟩;replace HB := zs_ HB hb;(try clear hb)))
 go_ret
 exact ⟨zt_,zl_ HB⟩
theorem Yn.calls (a0 : Int) (r : Int) (w : World) (h : Yn.f a0 = some r) :
  Calls Tryz.prog 22 #[.int .i64 a0] w fun e w' => e = .returned (.int .i64 r) ∧ Drawn0 w w' := by
 have H : (some (wrap64 ((wrap64 (2 * (wrap64 (Int.tdiv (wrap64 (a0 - 1)) 3)))) + 1))) = some r := h
 clear h
 obtain rfl := Option.some.inj H
 go_enter Tryz.func22,Tryz.ntmps22
 go_wp2
 go_ret
 exact ⟨by first | rfl | (simp;done) | (simp [*];done),by repeat (first | exact Drawn0.refl _ | apply Drawn0.step)⟩
theorem Zy.calls (k : Nat) (a0_0 : Int) (a0_1 : Int) (a0_2 : Int) (a0_3 : Int) (a0_4 : ByteArray) (a0_5 : ByteArray) (a0_6 : ByteArray) (r : Bool) (w : World) (h : Zy.f k a0_0 a0_1 a0_2 a0_3 a0_4 a0_5 a0_6 = some r) :
  Calls Tryz.prog 35 #[.agg #[.int .i64 a0_0,.int .i64 a0_1,.int .i64 a0_2,.int .i64 a0_3,.string a0_4,.string a0_5,.string a0_6]] w fun e w' => e = .returned (.bool r) ∧ Below w.heap.size w w' := by
 have hu40 := Tryz.underlying40
 have HB := am_ (Below.refl w.heap.size w)
 have H : ((Zs.f a0_0 1 5).bind fun t315 => (if t315 = true then ((Zs.f a0_1 0 20).bind fun t316 => (if t316 = true then ((Zs.f a0_3 0 6).bind fun t317 => (if t317 = true then (if (a0_6.size : Int) = 8 then (Zy.j0 k (decide ((a0_5.size : Int) > 20000)) a0_0 a0_1 a0_2 a0_3 a0_4 a0_5 a0_6) else (Zy.j0 k true a0_0 a0_1 a0_2 a0_3 a0_4 a0_5 a0_6)) else (Zy.j0 k true a0_0 a0_1 a0_2 a0_3 a0_4 a0_5 a0_6))) else (Zy.j0 k true a0_0 a0_1 a0_2 a0_3 a0_4 a0_5 a0_6))) else (Zy.j0 k true a0_0 a0_1 a0_2 a0_3 a0_4 a0_5 a0_6))) = some r := h
 clear h
 have HC2 := am_ H
 clear H
 go_enter Tryz.func35,Tryz.ntmps35
 go_upto_region 1 with (first | ((with_reducible refine gate_dst (N := 1) rfl ?_);(try (refine gate_guard (by rfl) ?_;dsimp only));refine zbx (N := 1) (cs := #[.int .i64 a0_0,.int .i64 a0_1,.int .i64 a0_2,.int .i64 a0_3,.string a0_4,.string a0_5,.string a0_6]) (t := 40) ?_;intro gb314 hg w3 hbox hb;have BK314 := am_ (hbox);have GW314 := zw_ HB hg;have GE314 := zw_ HB hg;replace HB := zs_ HB hb;clear hb hbox hg))
 (try simp only [Act.put,p1_,p2_,p3_])
 go_cut [30] (fun v30 wc => ∃ (kq : Nat) (x30_1 : Bool),v30 = .bool x30_1 ∧ Aside0 (Zy.j0 kq x30_1 a0_0 a0_1 a0_2 a0_3 a0_4 a0_5 a0_6 = some r) ∧ Aside0 (kq ≤ k) ∧ Aside0 (wc.heap[gb314]? = some (.cells #[.int .i64 a0_0,.int .i64 a0_1,.int .i64 a0_2,.int .i64 a0_3,.string a0_4,.string a0_5,.string a0_6] 40 (0,0))) ∧ Aside0 (Below w.heap.size w wc))
 case first =>
  have H := HC2.out
  clear HC2
  replace H := Option.bind_eq_some_iff.mp H
  obtain ⟨t315,A40,H⟩ := H
  try dsimp only at H
  have A4 := am_ A40
  clear A40
  by_cases c5 : t315 = true
  case neg =>
   replace c5 := Bool.eq_false_iff.mpr c5
   subst c5
   rw [if_neg (show ¬ (false = true) by decide)] at H
   have H' := am_ H
   clear H
   obtain ⟨hcz15_0,hcz15_1,hcz15_2,hcz15_3,hcz15_4,hcz15_5,hcz15_6,hfz15_0,hfz15_1,hfz15_2,hfz15_3,hfz15_4,hfz15_5,hfz15_6⟩ := zc7 BK314
   go_wp2_with (first | ((with_reducible refine gate_callee (f := 52) rfl ?_);refine zgl (some 5) Tryz.func52 #[.int .i64 a0_0,.int .i64 1,.int .i64 5] ?_;(with_reducible refine (Zs.calls a0_0 1 5 false _ A4.out).mono ?_);rintro e w' ⟨rfl,⟨nd,rfl⟩⟩;refine ⟨_,rfl,?_⟩))
   go_meet
   case rel => exact ⟨_,(true),(by first | rfl | (simp;done) | (simp [*];done)),H',⟨by first | omega | exact Nat.le_refl _⟩,⟨by (with_reducible repeat (first | apply k1_ | apply k2_ | apply k3_));exact BK314.out⟩,⟨zl_ HB⟩⟩
  subst c5
  rw [if_pos rfl] at H
  replace H := Option.bind_eq_some_iff.mp H
  obtain ⟨t316,A60,H⟩ := H
  try dsimp only at H
  have A6 := am_ A60
  clear A60
  by_cases c7 : t316 = true
  case neg =>
   replace c7 := Bool.eq_false_iff.mpr c7
   subst c7
   rw [if_neg (show ¬ (false = true) by decide)] at H
   have H' := am_ H
   clear H
   obtain ⟨hcz14_0,hcz14_1,hcz14_2,hcz14_3,hcz14_4,hcz14_5,hcz14_6,hfz14_0,hfz14_1,hfz14_2,hfz14_3,hfz14_4,hfz14_5,hfz14_6⟩ := zc7 BK314
   go_wp2_with (first | ((with_reducible refine gate_callee (f := 52) rfl ?_);refine zgl (some 5) Tryz.func52 #[.int .i64 a0_0,.int .i64 1,.int .i64 5] ?_;(with_reducible refine (Zs.calls a0_0 1 5 true _ A4.out).mono ?_);rintro e w' ⟨rfl,⟨nd,rfl⟩⟩;refine ⟨_,rfl,?_⟩) | (go_at_call 52;(with_reducible refine (Zs.calls a0_1 0 20 false _ A6.out).mono ?_);rintro e w' ⟨rfl,⟨nd,rfl⟩⟩))
   go_meet
   case rel => exact ⟨_,(true),(by first | rfl | (simp;done) | (simp [*];done)),H',⟨by first | omega | exact Nat.le_refl _⟩,⟨by (with_reducible repeat (first | apply k1_ | apply k2_ | apply k3_));exact BK314.out⟩,⟨zl_ HB⟩⟩
  subst c7
  rw [if_pos rfl] at H
  replace H := Option.bind_eq_some_iff.mp H
  obtain ⟨t317,A80,H⟩ := H
  try dsimp only at H
  have A8 := am_ A80
  clear A80
  by_cases c9 : t317 = true
  case neg =>
   replace c9 := Bool.eq_false_iff.mpr c9
   subst c9
   rw [if_neg (show ¬ (false = true) by decide)] at H
   have H' := am_ H
   clear H
   obtain ⟨hcz13_0,hcz13_1,hcz13_2,hcz13_3,hcz13_4,hcz13_5,hcz13_6,hfz13_0,hfz13_1,hfz13_2,hfz13_3,hfz13_4,hfz13_5,hfz13_6⟩ := zc7 BK314
   go_wp2_with (first | ((with_reducible refine gate_callee (f := 52) rfl ?_);refine zgl (some 5) Tryz.func52 #[.int .i64 a0_0,.int .i64 1,.int .i64 5] ?_;(with_reducible refine (Zs.calls a0_0 1 5 true _ A4.out).mono ?_);rintro e w' ⟨rfl,⟨nd,rfl⟩⟩;refine ⟨_,rfl,?_⟩) | (go_at_call 52;(with_reducible refine (Zs.calls a0_1 0 20 true _ A6.out).mono ?_);rintro e w' ⟨rfl,⟨nd,rfl⟩⟩) | (go_at_call 52;(with_reducible refine (Zs.calls a0_3 0 6 false _ A8.out).mono ?_);rintro e w' ⟨rfl,⟨nd,rfl⟩⟩))
   go_meet
   case rel => exact ⟨_,(true),(by first | rfl | (simp;done) | (simp [*];done)),H',⟨by first | omega | exact Nat.le_refl _⟩,⟨by (with_reducible repeat (first | apply k1_ | apply k2_ | apply k3_));exact BK314.out⟩,⟨zl_ HB⟩⟩
  subst c9
  rw [if_pos rfl] at H
  by_cases c10 : (a0_6.size : Int) = 8
  case neg =>
   rw [if_neg c10] at H
   have c10b0 := beq_eq_false_iff_ne.mpr c10
   have c10b1 := bne_iff_ne.mpr c10
   (first | rw [c10b0] | (simp only [i64_w,i32_w];rw [c10b0]) | skip)
   have H' := am_ H
   clear H
   obtain ⟨hcz12_0,hcz12_1,hcz12_2,hcz12_3,hcz12_4,hcz12_5,hcz12_6,hfz12_0,hfz12_1,hfz12_2,hfz12_3,hfz12_4,hfz12_5,hfz12_6⟩ := zc7 BK314
   go_wp2_with (first | ((with_reducible refine gate_callee (f := 52) rfl ?_);refine zgl (some 5) Tryz.func52 #[.int .i64 a0_0,.int .i64 1,.int .i64 5] ?_;(with_reducible refine (Zs.calls a0_0 1 5 true _ A4.out).mono ?_);rintro e w' ⟨rfl,⟨nd,rfl⟩⟩;refine ⟨_,rfl,?_⟩) | (go_at_call 52;(with_reducible refine (Zs.calls a0_1 0 20 true _ A6.out).mono ?_);rintro e w' ⟨rfl,⟨nd,rfl⟩⟩) | (go_at_call 52;(with_reducible refine (Zs.calls a0_3 0 6 true _ A8.out).mono ?_);rintro e w' ⟨rfl,⟨nd,rfl⟩⟩))
   go_meet
   case rel => exact ⟨_,(true),(by first | rfl | (simp;done) | (simp [*];done)),H',⟨by first | omega | exact Nat.le_refl _⟩,⟨by (with_reducible repeat (first | apply k1_ | apply k2_ | apply k3_));exact BK314.out⟩,⟨zl_ HB⟩⟩
  rw [if_pos c10] at H
  have c10b0 := beq_iff_eq.mpr c10
  have c10b1 := bne_eq_false_iff_eq.mpr c10
  clear c10
  (first | rw [c10b0] | (simp only [i64_w,i32_w];rw [c10b0]) | skip)
  have H' := am_ H
  clear H
  obtain ⟨hcz11_0,hcz11_1,hcz11_2,hcz11_3,hcz11_4,hcz11_5,hcz11_6,hfz11_0,hfz11_1,hfz11_2,hfz11_3,hfz11_4,hfz11_5,hfz11_6⟩ := zc7 BK314
  go_wp2_with (first | ((with_reducible refine gate_callee (f := 52) rfl ?_);refine zgl (some 5) Tryz.func52 #[.int .i64 a0_0,.int .i64 1,.int .i64 5] ?_;(with_reducible refine (Zs.calls a0_0 1 5 true _ A4.out).mono ?_);rintro e w' ⟨rfl,⟨nd,rfl⟩⟩;refine ⟨_,rfl,?_⟩) | (go_at_call 52;(with_reducible refine (Zs.calls a0_1 0 20 true _ A6.out).mono ?_);rintro e w' ⟨rfl,⟨nd,rfl⟩⟩) | (go_at_call 52;(with_reducible refine (Zs.calls a0_3 0 6 true _ A8.out).mono ?_);rintro e w' ⟨rfl,⟨nd,rfl⟩⟩))
  go_meet
  case rel => exact ⟨_,(decide ((a0_5.size : Int) > 20000)),(by first | rfl | (simp;done) | (simp [*];done)),H',⟨by first | omega | exact Nat.le_refl _⟩,⟨by (with_reducible repeat (first | apply k1_ | apply k2_ | apply k3_));exact BK314.out⟩,⟨zl_ HB⟩⟩
 case rest =>
  clear HC2
  try clear c1
  try clear p2
  try clear c3
  try clear c5
  try clear c7
  try clear c9
  try clear c10
  try clear c10b0
  try clear c10b1
  try clear hcz11_0
  try clear hcz11_1
  try clear hcz11_2
  try clear hcz11_3
  try clear hcz11_4
  try clear hcz11_5
  try clear hcz11_6
  try clear hcz12_0
  try clear hcz12_1
  try clear hcz12_2
  try clear hcz12_3
  try clear hcz12_4
  try clear hcz12_5
  try clear hcz12_6
  try clear hcz13_0
  try clear hcz13_1
  try clear hcz13_2
  try clear hcz13_3
  try clear hcz13_4
  try clear hcz13_5
  try clear hcz13_6
  try clear hcz14_0
  try clear hcz14_1
  try clear hcz14_2
  try clear hcz14_3
  try clear hcz14_4
  try clear hcz14_5
  try clear hcz14_6
  try clear hcz15_0
  try clear hcz15_1
  try clear hcz15_2
  try clear hcz15_3
  try clear hcz15_4
  try clear hcz15_5
  try clear hcz15_6
  try clear hfz11_0
  try clear hfz11_1
  try clear hfz11_2
  try clear hfz11_3
  try clear hfz11_4
  try clear hfz11_5
  try clear hfz11_6
  try clear hfz12_0
  try clear hfz12_1
  try clear hfz12_2
  try clear hfz12_3
  try clear hfz12_4
  try clear hfz12_5
  try clear hfz12_6
  try clear hfz13_0
  try clear hfz13_1
  try clear hfz13_2
  try clear hfz13_3
  try clear hfz13_4
  try clear hfz13_5
  try clear hfz13_6
  try clear hfz14_0
  try clear hfz14_1
  try clear hfz14_2
  try clear hfz14_3
  try clear hfz14_4
  try clear hfz14_5
  try clear hfz14_6
  try clear hfz15_0
  try clear hfz15_1
  try clear hfz15_2
  try clear hfz15_3
  try clear hfz15_4
  try clear hfz15_5
  try clear hfz15_6
  obtain ⟨kq,x30_1,rfl,HA,HJ1,BK314,HB⟩ := hcut
  cases kq with
  | zero => exact absurd HA.out (by simp [Zy.j0])
  | succ kj1 =>
   have H := HA.out
   clear HA
   simp only [Zy.j0] at H
   by_cases c16 : x30_1 = true
   ·subst c16
    rw [if_pos rfl] at H
    obtain rfl := Option.some.inj H
    go_wp2
    go_ret
    exact ⟨zt_,zl_ HB⟩
   replace c16 := Bool.eq_false_iff.mpr c16
   subst c16
   rw [if_neg (show ¬ (false = true) by decide)] at H
   by_cases c17 : a0_0 = 1
   ·rw [if_pos c17] at H
    have c17b0 := beq_iff_eq.mpr c17
    have c17b1 := bne_eq_false_iff_eq.mpr c17
    clear c17
    replace H := Option.bind_eq_some_iff.mp H
    obtain ⟨t318,A180,H⟩ := H
    try dsimp only at H
    have A18 := am_ A180
    clear A180
    by_cases c19 : t318 = true
    case neg =>
     replace c19 := Bool.eq_false_iff.mpr c19
     subst c19
     rw [if_neg (show ¬ (false = true) by decide)] at H
     obtain rfl := Option.some.inj H
     obtain ⟨hcz23_0,hcz23_1,hcz23_2,hcz23_3,hcz23_4,hcz23_5,hcz23_6,hfz23_0,hfz23_1,hfz23_2,hfz23_3,hfz23_4,hfz23_5,hfz23_6⟩ := zc7 BK314
     go_wp2_with (first | ((with_reducible refine gate_callee (f := 52) rfl ?_);refine zgl (some 37) Tryz.func52 #[.int .i64 a0_2,.int .i64 1,.int .i64 8] ?_;(with_reducible refine (Zs.calls a0_2 1 8 false _ A18.out).mono ?_);rintro e w' ⟨rfl,⟨nd,rfl⟩⟩;refine ⟨_,rfl,?_⟩))
     go_ret
     exact ⟨zt_,zl_ HB⟩
    subst c19
    rw [if_pos rfl] at H
    by_cases c20 : (a0_4.size : Int) = 32
    case neg =>
     rw [if_neg c20] at H
     have c20b0 := beq_eq_false_iff_ne.mpr c20
     have c20b1 := bne_iff_ne.mpr c20
     obtain rfl := Option.some.inj H
     obtain ⟨hcz22_0,hcz22_1,hcz22_2,hcz22_3,hcz22_4,hcz22_5,hcz22_6,hfz22_0,hfz22_1,hfz22_2,hfz22_3,hfz22_4,hfz22_5,hfz22_6⟩ := zc7 BK314
     go_wp2_with (first | ((with_reducible refine gate_callee (f := 52) rfl ?_);refine zgl (some 37) Tryz.func52 #[.int .i64 a0_2,.int .i64 1,.int .i64 8] ?_;(with_reducible refine (Zs.calls a0_2 1 8 true _ A18.out).mono ?_);rintro e w' ⟨rfl,⟨nd,rfl⟩⟩;refine ⟨_,rfl,?_⟩))
     go_ret
     exact ⟨zt_,zl_ HB⟩
    rw [if_pos c20] at H
    have c20b0 := beq_iff_eq.mpr c20
    have c20b1 := bne_eq_false_iff_eq.mpr c20
    clear c20
    obtain rfl := Option.some.inj H
    obtain ⟨hcz21_0,hcz21_1,hcz21_2,hcz21_3,hcz21_4,hcz21_5,hcz21_6,hfz21_0,hfz21_1,hfz21_2,hfz21_3,hfz21_4,hfz21_5,hfz21_6⟩ := zc7 BK314
    go_wp2_with (first | ((with_reducible refine gate_callee (f := 52) rfl ?_);refine zgl (some 37) Tryz.func52 #[.int .i64 a0_2,.int .i64 1,.int .i64 8] ?_;(with_reducible refine (Zs.calls a0_2 1 8 true _ A18.out).mono ?_);rintro e w' ⟨rfl,⟨nd,rfl⟩⟩;refine ⟨_,rfl,?_⟩))
    go_ret
    exact ⟨zt_,zl_ HB⟩
   rw [if_neg c17] at H
   have c17b0 := beq_eq_false_iff_ne.mpr c17
   have c17b1 := bne_iff_ne.mpr c17
   by_cases c24 : a0_0 = 2
   ·rw [if_pos c24] at H
    have c24b0 := beq_iff_eq.mpr c24
    have c24b1 := bne_eq_false_iff_eq.mpr c24
    clear c24
    replace H := Option.bind_eq_some_iff.mp H
    obtain ⟨t319,A250,H⟩ := H
    try dsimp only at H
    have A25 := am_ A250
    clear A250
    by_cases c26 : t319 = true
    case neg =>
     replace c26 := Bool.eq_false_iff.mpr c26
     subst c26
     rw [if_neg (show ¬ (false = true) by decide)] at H
     obtain rfl := Option.some.inj H
     obtain ⟨hcz30_0,hcz30_1,hcz30_2,hcz30_3,hcz30_4,hcz30_5,hcz30_6,hfz30_0,hfz30_1,hfz30_2,hfz30_3,hfz30_4,hfz30_5,hfz30_6⟩ := zc7 BK314
     go_wp2_with (first | ((with_reducible refine gate_callee (f := 52) rfl ?_);refine zgl (some 54) Tryz.func52 #[.int .i64 a0_2,.int .i64 1,.int .i64 8] ?_;(with_reducible refine (Zs.calls a0_2 1 8 false _ A25.out).mono ?_);rintro e w' ⟨rfl,⟨nd,rfl⟩⟩;refine ⟨_,rfl,?_⟩))
     go_ret
     exact ⟨zt_,zl_ HB⟩
    subst c26
    rw [if_pos rfl] at H
    by_cases c27 : (a0_4.size : Int) = 32
    case neg =>
     rw [if_neg c27] at H
     have c27b0 := beq_eq_false_iff_ne.mpr c27
     have c27b1 := bne_iff_ne.mpr c27
     obtain rfl := Option.some.inj H
     obtain ⟨hcz29_0,hcz29_1,hcz29_2,hcz29_3,hcz29_4,hcz29_5,hcz29_6,hfz29_0,hfz29_1,hfz29_2,hfz29_3,hfz29_4,hfz29_5,hfz29_6⟩ := zc7 BK314
     go_wp2_with (first | ((with_reducible refine gate_callee (f := 52) rfl ?_);refine zgl (some 54) Tryz.func52 #[.int .i64 a0_2,.int .i64 1,.int .i64 8] ?_;(with_reducible refine (Zs.calls a0_2 1 8 true _ A25.out).mono ?_);rintro e w' ⟨rfl,⟨nd,rfl⟩⟩;refine ⟨_,rfl,?_⟩))
     go_ret
     exact ⟨zt_,zl_ HB⟩
    rw [if_pos c27] at H
    have c27b0 := beq_iff_eq.mpr c27
    have c27b1 := bne_eq_false_iff_eq.mpr c27
    clear c27
    obtain rfl := Option.some.inj H
    obtain ⟨hcz28_0,hcz28_1,hcz28_2,hcz28_3,hcz28_4,hcz28_5,hcz28_6,hfz28_0,hfz28_1,hfz28_2,hfz28_3,hfz28_4,hfz28_5,hfz28_6⟩ := zc7 BK314
    go_wp2_with (first | ((with_reducible refine gate_callee (f := 52) rfl ?_);refine zgl (some 54) Tryz.func52 #[.int .i64 a0_2,.int .i64 1,.int .i64 8] ?_;(with_reducible refine (Zs.calls a0_2 1 8 true _ A25.out).mono ?_);rintro e w' ⟨rfl,⟨nd,rfl⟩⟩;refine ⟨_,rfl,?_⟩))
    go_ret
    exact ⟨zt_,zl_ HB⟩
   rw [if_neg c24] at H
   have c24b0 := beq_eq_false_iff_ne.mpr c24
   have c24b1 := bne_iff_ne.mpr c24
   by_cases c31 : a0_0 = 3
   case neg =>
    rw [if_neg c31] at H
    have c31b0 := beq_eq_false_iff_ne.mpr c31
    have c31b1 := bne_iff_ne.mpr c31
    by_cases c38 : a0_2 = 0
    case neg =>
     rw [if_neg c38] at H
     have c38b0 := beq_eq_false_iff_ne.mpr c38
     have c38b1 := bne_iff_ne.mpr c38
     obtain rfl := Option.some.inj H
     obtain ⟨hcz40_0,hcz40_1,hcz40_2,hcz40_3,hcz40_4,hcz40_5,hcz40_6,hfz40_0,hfz40_1,hfz40_2,hfz40_3,hfz40_4,hfz40_5,hfz40_6⟩ := zc7 BK314
     go_wp2
     go_ret
     exact ⟨zt_,zl_ HB⟩
    rw [if_pos c38] at H
    have c38b0 := beq_iff_eq.mpr c38
    have c38b1 := bne_eq_false_iff_eq.mpr c38
    clear c38
    obtain rfl := Option.some.inj H
    obtain ⟨hcz39_0,hcz39_1,hcz39_2,hcz39_3,hcz39_4,hcz39_5,hcz39_6,hfz39_0,hfz39_1,hfz39_2,hfz39_3,hfz39_4,hfz39_5,hfz39_6⟩ := zc7 BK314
    go_wp2
    go_ret
    exact ⟨zt_,zl_ HB⟩
   rw [if_pos c31] at H
   have c31b0 := beq_iff_eq.mpr c31
   have c31b1 := bne_eq_false_iff_eq.mpr c31
   clear c31
   replace H := Option.bind_eq_some_iff.mp H
   obtain ⟨t320,A320,H⟩ := H
   try dsimp only at H
   have A32 := am_ A320
   clear A320
   by_cases c33 : t320 = true
   case neg =>
    replace c33 := Bool.eq_false_iff.mpr c33
    subst c33
    rw [if_neg (show ¬ (false = true) by decide)] at H
    obtain rfl := Option.some.inj H
    obtain ⟨hcz37_0,hcz37_1,hcz37_2,hcz37_3,hcz37_4,hcz37_5,hcz37_6,hfz37_0,hfz37_1,hfz37_2,hfz37_3,hfz37_4,hfz37_5,hfz37_6⟩ := zc7 BK314
    go_wp2_with (first | ((with_reducible refine gate_callee (f := 52) rfl ?_);refine zgl (some 54) Tryz.func52 #[.int .i64 a0_2,.int .i64 1,.int .i64 8] ?_;(with_reducible refine (Zs.calls a0_2 1 8 false _ A32.out).mono ?_);rintro e w' ⟨rfl,⟨nd,rfl⟩⟩;refine ⟨_,rfl,?_⟩))
    go_ret
    exact ⟨zt_,zl_ HB⟩
   subst c33
   rw [if_pos rfl] at H
   by_cases c34 : (a0_4.size : Int) = 32
   case neg =>
    rw [if_neg c34] at H
    have c34b0 := beq_eq_false_iff_ne.mpr c34
    have c34b1 := bne_iff_ne.mpr c34
    obtain rfl := Option.some.inj H
    obtain ⟨hcz36_0,hcz36_1,hcz36_2,hcz36_3,hcz36_4,hcz36_5,hcz36_6,hfz36_0,hfz36_1,hfz36_2,hfz36_3,hfz36_4,hfz36_5,hfz36_6⟩ := zc7 BK314
    go_wp2_with (first | ((with_reducible refine gate_callee (f := 52) rfl ?_);refine zgl (some 54) Tryz.func52 #[.int .i64 a0_2,.int .i64 1,.int .i64 8] ?_;(with_reducible refine (Zs.calls a0_2 1 8 true _ A32.out).mono ?_);rintro e w' ⟨rfl,⟨nd,rfl⟩⟩;refine ⟨_,rfl,?_⟩))
    go_ret
    exact ⟨zt_,zl_ HB⟩
   rw [if_pos c34] at H
   have c34b0 := beq_iff_eq.mpr c34
   have c34b1 := bne_eq_false_iff_eq.mpr c34
   clear c34
   obtain rfl := Option.some.inj H
   obtain ⟨hcz35_0,hcz35_1,hcz35_2,hcz35_3,hcz35_4,hcz35_5,hcz35_6,hfz35_0,hfz35_1,hfz35_2,hfz35_3,hfz35_4,hfz35_5,hfz35_6⟩ := zc7 BK314
   go_wp2_with (first | ((with_reducible refine gate_callee (f := 52) rfl ?_);refine zgl (some 54) Tryz.func52 #[.int .i64 a0_2,.int .i64 1,.int .i64 8] ?_;(with_reducible refine (Zs.calls a0_2 1 8 true _ A32.out).mono ?_);rintro e w' ⟨rfl,⟨nd,rfl⟩⟩;refine ⟨_,rfl,?_⟩))
   go_ret
   exact ⟨zt_,zl_ HB⟩
def ZJ.T2 : Bool × List (List Nat × List Nat) := (true,[([],[]),([],[]),([1],[1]),([0,2],[0,2]),([],[]),([4],[4]),([5],[5]),([6,3],[6]),([3,7,7],[3,7]),([8,8,0,1,2,3,4,5,6,7,8],[0,8])])
def ZJ.B2 : List Nat := [0,0,2,7,0,16,48,127,255,511]
theorem ZJ.tab2 : rtab .any (opsOf Tryz.f37 2) = ZJ.T2 := by kernel_rfl
theorem ZJ.bits2 : waitsOk ZJ.T2.2 ZJ.B2 = true := by kernel_rfl
theorem ZJ.calls (k : Nat) (a0_0 : Int) (a0_1 : Int) (a0_2 : Int) (a0_3 : Int) (a0_4 : ByteArray) (a0_5 : ByteArray) (a0_6 : ByteArray) (r : List Int) (w : World) (h : ZJ.f k a0_0 a0_1 a0_2 a0_3 a0_4 a0_5 a0_6 = some r) :
  Calls Tryz.prog 37 #[.agg #[.int .i64 a0_0,.int .i64 a0_1,.int .i64 a0_2,.int .i64 a0_3,.string a0_4,.string a0_5,.string a0_6]] w fun e w' => ∃ v0_ : Value,e = .returned (v0_) ∧ Kd.R (Kd.int .u8) 5 w' w.heap.size (fun _ => True) v0_ r ∧ Below w.heap.size w w' := by
 have hu40 := Tryz.underlying40
 have HB := am_ (Below.refl w.heap.size w)
 have H : ((some (([(a0_0) % 256,(a0_1) % 256,(a0_2) % 256,(a0_3) % 256,((a0_4.size : Int)) % 256] : List Int) : List Int)).bind fun y322 => (if y322.length + a0_4.size < 140737488355328 then ((some (y322 ++ bytesOf a0_4 : List Int)).bind fun y325 => ((Zt.f k (a0_5.size : Int) 2).bind fun t328 => (if y325.length + t328.length < 140737488355328 then ((some (y325 ++ t328 : List Int)).bind fun y331 => (if y331.length + a0_5.size < 140737488355328 then (some (y331 ++ bytesOf a0_5)) else (none))) else (none)))) else (none))) = some r := h
 clear h
 obtain ⟨y322,hy322⟩ : ∃ y_ : List Int,y_ = (([(a0_0) % 256,(a0_1) % 256,(a0_2) % 256,(a0_3) % 256,((a0_4.size : Int)) % 256] : List Int)) := ⟨_,rfl⟩
 replace H : (if y322.length + a0_4.size < 140737488355328 then ((some (y322 ++ bytesOf a0_4 : List Int)).bind fun y325 => ((Zt.f k (a0_5.size : Int) 2).bind fun t328 => (if y325.length + t328.length < 140737488355328 then ((some (y325 ++ t328 : List Int)).bind fun y331 => (if y331.length + a0_5.size < 140737488355328 then (some (y331 ++ bytesOf a0_5)) else (none))) else (none)))) else (none)) = some r := by first | (rw [hy322];with_reducible exact H) | (have H2_ := (Option.bind_some _ _).symm.trans H;rw [hy322];with_reducible exact H2_) | (have H2_ := (Option.bind_some _ _).symm.trans H;with_reducible exact H2_) | with_reducible exact H | (rw [hy322];exact H) | exact H
 have Ny322 := am_ hy322
 clear hy322
 by_cases c2 : y322.length + a0_4.size < 140737488355328
 case neg =>
  rw [if_neg c2] at H
  exact absurd H (by simp)
 rw [if_pos c2] at H
 have LMc2 := am_ c2
 clear c2
 obtain ⟨y325,hy325⟩ : ∃ y_ : List Int,y_ = (y322 ++ bytesOf a0_4) := ⟨_,rfl⟩
 replace H : ((Zt.f k (a0_5.size : Int) 2).bind fun t328 => (if y325.length + t328.length < 140737488355328 then ((some (y325 ++ t328 : List Int)).bind fun y331 => (if y331.length + a0_5.size < 140737488355328 then (some (y331 ++ bytesOf a0_5)) else (none))) else (none))) = some r := by first | (rw [hy325];with_reducible exact H) | (have H2_ := (Option.bind_some _ _).symm.trans H;rw [hy325];with_reducible exact H2_) | (have H2_ := (Option.bind_some _ _).symm.trans H;with_reducible exact H2_) | with_reducible exact H | (rw [hy325];exact H) | exact H
 have Ny325 := am_ hy325
 clear hy325
 replace H := Option.bind_eq_some_iff.mp H
 obtain ⟨t328,A30,H⟩ := H
 try dsimp only at H
 have A3 := am_ A30
 clear A30
 by_cases c4 : y325.length + t328.length < 140737488355328
 case neg =>
  rw [if_neg c4] at H
  exact absurd H (by simp)
 rw [if_pos c4] at H
 have LMc4 := am_ c4
 clear c4
 obtain ⟨y331,hy331⟩ : ∃ y_ : List Int,y_ = (y325 ++ t328) := ⟨_,rfl⟩
 replace H : (if y331.length + a0_5.size < 140737488355328 then (some (y331 ++ bytesOf a0_5)) else (none)) = some r := by first | (rw [hy331];with_reducible exact H) | (have H2_ := (Option.bind_some _ _).symm.trans H;rw [hy331];with_reducible exact H2_) | (have H2_ := (Option.bind_some _ _).symm.trans H;with_reducible exact H2_) | with_reducible exact H | (rw [hy331];exact H) | exact H
 have Ny331 := am_ hy331
 clear hy331
 by_cases c5 : y331.length + a0_5.size < 140737488355328
 case neg =>
  rw [if_neg c5] at H
  exact absurd H (by simp)
 rw [if_pos c5] at H
 have LMc5 := am_ c5
 clear c5
 obtain ⟨y334,hy334⟩ : ∃ y_ : List Int,y_ = (y331 ++ bytesOf a0_5) := ⟨_,rfl⟩
 replace H : (some y334) = some r := by first | (rw [hy334];with_reducible exact H) | (have H2_ := (Option.bind_some _ _).symm.trans H;rw [hy334];with_reducible exact H2_) | (have H2_ := (Option.bind_some _ _).symm.trans H;with_reducible exact H2_) | with_reducible exact H | (rw [hy334];exact H) | exact H
 have Ny334 := am_ hy334
 clear hy334
 obtain rfl := Option.some.inj H
 go_enter Tryz.func37,Tryz.ntmps37
 try go_wp2_with (first | ((with_reducible refine gate_dst (N := 1) rfl ?_);refine zbx (N := 1) (cs := #[.int .i64 a0_0,.int .i64 a0_1,.int .i64 a0_2,.int .i64 a0_3,.string a0_4,.string a0_5,.string a0_6]) (t := 40) ?_;intro gb321 hg w6 hbox hb;have BK321 := am_ (hbox);have GW321 := zw_ HB hg;have GE321 := zw_ HB hg;replace HB := zs_ HB hb;clear hb hbox hg;obtain ⟨hcz7_0,hcz7_1,hcz7_2,hcz7_3,hcz7_4,hcz7_5,hcz7_6,hfz7_0,hfz7_1,hfz7_2,hfz7_3,hfz7_4,hfz7_5,hfz7_6⟩ := zc7 BK321) | ((with_reducible refine gate_dst (N := 20) rfl ?_);refine Kd.R_lit (Kd.int .u8) _ 5 ?hg (N := 20) ?hd (xs := ([(a0_0) % 256,(a0_1) % 256,(a0_2) % 256,(a0_3) % 256,((a0_4.size : Int)) % 256] : List Int)) (inner := [.int .u8 ((a0_0) % 256),.int .u8 ((a0_1) % 256),.int .u8 ((a0_2) % 256),.int .u8 ((a0_3) % 256),.int .u8 (((a0_4.size : Int)) % 256)]) (ok := fun _ => True) (okp := fun _ => True) ?hr ?hp (fun _ hk => hk) trivial (Below.refl _ _) (Nat.le_refl _) (by simp) ?_;(case hd => rfl);(case hg => rfl);(case hr => first | (go_simp;done) | (go_simp;rfl));(case hp => exact (Reps.one (show Kd.M (Kd.int .u8) _ _ _ ((a0_0) % 256) [.int .u8 ((a0_0) % 256)] from rfl) (Reps.one (show Kd.M (Kd.int .u8) _ _ _ ((a0_1) % 256) [.int .u8 ((a0_1) % 256)] from rfl) (Reps.one (show Kd.M (Kd.int .u8) _ _ _ ((a0_2) % 256) [.int .u8 ((a0_2) % 256)] from rfl) (Reps.one (show Kd.M (Kd.int .u8) _ _ _ ((a0_3) % 256) [.int .u8 ((a0_3) % 256)] from rfl) (Reps.one (show Kd.M (Kd.int .u8) _ _ _ (((a0_4.size : Int)) % 256) [.int .u8 (((a0_4.size : Int)) % 256)] from rfl) (Reps.none _ _)))))));intro v323 w8 ho9 hb hg_ hnew_;clear hg_ hnew_;(first | rw [← Ny322.out] at ho9 | (simp only [Int.reduceToNat] at ho9;rw [← Ny322.out] at ho9));have HO324 := am_ (Kd.R_lower ho9 (below_size (zl_ HB)));replace BK321 := zb BK321 hb;replace HB := zs_ HB hb;clear hb ho9))
 replace HO324 := am_ (Kd.R_drew HO324.out)
 replace BK321 := am_ (blk_drew BK321.out)
 replace HB := am_ (below_drew1 HB.out)
 refine start_ (n := 10) (S := fun w' => w'.cell? ⟨gb321,0,none⟩ = some (.int .i64 a0_0) ∧ w'.cell? ⟨gb321,1,none⟩ = some (.int .i64 a0_1) ∧ w'.cell? ⟨gb321,2,none⟩ = some (.int .i64 a0_2) ∧ w'.cell? ⟨gb321,3,none⟩ = some (.int .i64 a0_3) ∧ w'.cell? ⟨gb321,4,none⟩ = some (.string a0_4) ∧ w'.cell? ⟨gb321,5,none⟩ = some (.string a0_5) ∧ w'.cell? ⟨gb321,6,none⟩ = some (.string a0_6)) (ds := []) #[false,false,false,false,false,false,false,false,false,false] (by kernel_rfl) rfl rfl ⟨(blk_cell BK321.out 0).trans rfl,(blk_cell BK321.out 1).trans rfl,(blk_cell BK321.out 2).trans rfl,(blk_cell BK321.out 3).trans rfl,(blk_cell BK321.out 4).trans rfl,(blk_cell BK321.out 5).trans rfl,(blk_cell BK321.out 6).trans rfl⟩ (fun hHeld => ?_);refine with_tabW ZJ.tab2 ZJ.bits2 (fun HT_ HW_ => ?_)
 generalize w8.drew = w10 at HO324 BK321 HB hHeld ⊢
 refine pu_ 0 21 HT_ ?_
 refine pu_ 1 22 HT_ ?_
 refine pu_ 4 25 HT_ ?_
 refine tk_ 2 23 HT_ HW_ hHeld ?_
 refine tk_ 5 26 HT_ HW_ hHeld ?_
 refine pu_ 6 27 HT_ ?_
 refine zon 3 (N := some 24) HT_ (fun K hK => ?_)
 refine Kd.R_append_str_step (Kd.int .u8) rfl (w0 := w) w.heap.size (by rfl) (.tmp 21) _ 65 9 5 rfl Tryz.underlying65 Tryz.underlying9 info5 v323 y322 a0_4 (fun _ => True) rfl rfl ?aO ?aF ?aB ?aS ?aL ?_
 (case aB => exact (zl_ HB))
 (case aF => exact (fun _ _ => trivial))
 (case aO => exact (zr HO324))
 (case aS => exact (below_size (zl_ HB)))
 (case aL => have := LMc2.out;omega)
 intro v326 w11 ho hb hg hat
 rw [← Ny325.out] at ho
 replace BK321 := am_ (blk_grown (g := gb321) (o := .cells #[.int .i64 a0_0,.int .i64 a0_1,.int .i64 a0_2,.int .i64 a0_3,.string a0_4,.string a0_5,.string a0_6] 40 (0,0)) (zk BK321) hg (Kd.R_ne HO324.out BK321.out (by decide)))
 replace HB := am_ (hb)
 have HO327 := am_ (ho)
 clear HO324
 clear ho hb hg hat
 refine hK.out _ _ ⟨(blk_cell BK321.out 0).trans rfl,(blk_cell BK321.out 1).trans rfl,(blk_cell BK321.out 2).trans rfl,(blk_cell BK321.out 3).trans rfl,(blk_cell BK321.out 4).trans rfl,(blk_cell BK321.out 5).trans rfl,(blk_cell BK321.out 6).trans rfl⟩ (fun hHeld => ?_)
 clear hK K
 refine nm_ ?_
 refine zon 7 (N := some 28) HT_ (fun K hK => ?_)
 refine zgo Tryz.func54 #[.int .i64 (a0_5.size : Int),.int .i64 2] ?_
 with_reducible refine (Zt.calls k (a0_5.size : Int) 2 t328 _ A3.out).mono ?_
 rintro e w12 ⟨v329,rfl,ho0,hb⟩
 refine ⟨_,rfl,?_⟩
 have HO330 := am_ (Kd.R_lower (Kd.R_new' ho0 (Kd.R_lt (zr HO327))) (below_size (zl_ HB)))
 replace HO327 := am_ (Kd.R_elder' (zr HO327) (Kd.R_base ho0) hb)
 replace BK321 := zb BK321 hb
 replace HB := zs_ HB hb
 try clear hb
 (try clear ho0)
 obtain ⟨Ao14,co14,eo14⟩ := Kd.R_slice HO330.out
 (first | subst eo14 | (injection eo14 with f1_ f2_ f3_;have f4_ := f1_.symm;have f5_ := f3_.symm;clear f1_ f2_ f3_;subst f4_;subst f5_))
 refine hK.out _ _ ⟨(blk_cell BK321.out 0).trans rfl,(blk_cell BK321.out 1).trans rfl,(blk_cell BK321.out 2).trans rfl,(blk_cell BK321.out 3).trans rfl,(blk_cell BK321.out 4).trans rfl,(blk_cell BK321.out 5).trans rfl,(blk_cell BK321.out 6).trans rfl⟩ (fun hHeld => ?_)
 clear hK K
 refine nm_ ?_
 refine zon 8 (N := some 29) HT_ (fun K hK => ?_)
 refine Kd.R_append_rows_step (Kd.int .u8) (w0 := w) w.heap.size (by rfl) (.tmp 24) (.tmp 28) 65 5 (.int .u8 0) 1 rfl Tryz.underlying65 info5 rfl (by decide) (by omega) v326 y325 t328 _ _ _ (fun k_ => some k_ ≠ (.slice Ao14 t328.length co14 : Value).ownBlock) (fun _ => False) rfl rfl ?aO ?aR (fun _ _ h => h) (fun _ h => h.elim) ?aF ?aB ?aS ?aL ?_
 (case aR => repeat (first | exact (Kd.R_reads' HO330.out).2.2 | (with_reducible refine Kd.C_alloc ?_ _) | (with_reducible refine Kd.C_drewN ?_ _) | (with_reducible refine Kd.C_drew ?_)))
 (case aB => exact (zl_ HB))
 (case aF => exact (fun k_ hk => Kd.fresh' (Kd.R_lt (zr HO330)) k_ hk))
 (case aO => exact (by (with_reducible repeat (first | apply r1_ | apply r2_ | apply r3_));exact Kd.R_mono HO327.out (fun _ hk => hk.2)))
 (case aS => exact (below_size (zl_ HB)))
 (case aL => have := LMc4.out;omega)
 intro v332 w13 ho hb hg hat
 rw [← Ny331.out] at ho
 replace BK321 := am_ (blk_grown (g := gb321) (o := .cells #[.int .i64 a0_0,.int .i64 a0_1,.int .i64 a0_2,.int .i64 a0_3,.string a0_4,.string a0_5,.string a0_6] 40 (0,0)) (zk BK321) hg (Kd.R_ne HO327.out BK321.out (by decide)))
 replace HO330 := am_ (Kd.R_after (ok := (fun _ => True)) (zr HO330) hg hat)
 replace HB := am_ (hb)
 have HO333 := am_ (ho)
 clear HO327
 clear ho hb hg hat
 refine hK.out _ _ ⟨(blk_cell BK321.out 0).trans rfl,(blk_cell BK321.out 1).trans rfl,(blk_cell BK321.out 2).trans rfl,(blk_cell BK321.out 3).trans rfl,(blk_cell BK321.out 4).trans rfl,(blk_cell BK321.out 5).trans rfl,(blk_cell BK321.out 6).trans rfl⟩ (fun hHeld => ?_)
 clear hK K
 refine nm_ ?_
 refine pu_ 9 3 HT_ ?_
 refine done_ (done_of HT_.out (by kernel_rfl)) ?_
 obtain ⟨hcz15_0,hcz15_1,hcz15_2,hcz15_3,hcz15_4,hcz15_5,hcz15_6,hfz15_0,hfz15_1,hfz15_2,hfz15_3,hfz15_4,hfz15_5,hfz15_6⟩ := zc7 BK321
 try go_wp2_with (first | (at_builtin;refine Kd.R_append_str (Kd.int .u8) rfl (w0 := w) w.heap.size rfl (.tmp 30) _ 65 9 5 rfl Tryz.underlying65 Tryz.underlying9 info5 v332 y331 a0_5 (fun k_ => some k_ ≠ (.slice Ao14 t328.length co14 : Value).ownBlock) rfl rfl ?aO ?aF ?aB ?aS ?aL ?_;(case aB => exact (zl_ HB));(case aF => exact (fun k_ hk => Kd.fresh' (Kd.R_lt (zr HO330)) k_ hk));(case aO => exact (zr HO333));(case aS => exact (below_size (zl_ HB)));(case aL => have := LMc5.out;omega);intro v335 w16 ho hb hg hat;rw [← Ny334.out] at ho;replace HB := am_ (hb);have HO336 := am_ (ho);clear HO333;clear ho hb hg hat))
 go_ret
 exact ⟨_,zt_,by (with_reducible repeat (first | apply r1_ | apply r2_ | apply r3_));exact Kd.R_mono HO336.out (fun _ hk => trivial),zl_ HB⟩
def ZF.T1 : Bool × List (List Nat × List Nat) := (true,[([],[]),([0],[0]),([1,1],[1]),([2],[2]),([3,2],[2,3]),([2],[2]),([4,5,2],[2,4,5]),([2,6],[2,6]),([7,2],[7]),([8],[8]),([9,8],[8,9]),([8],[8]),([11,8,8],[8,11]),([10,12,12,8],[8,10,12]),([8],[8]),([14,8],[8,14]),([13,15,8],[8,13,15]),([8,16],[8,16]),([17,13,0,1,2,3,4,5,6,7,8,9,10,11,12,13,14,15,16,17],[17])])
def ZF.B1 : List Nat := [0,1,3,7,15,7,63,127,255,511,1023,511,2559,8191,511,16895,65535,131071,262143]
theorem ZF.tab1 : rtab .any (opsOf Tryz.f24 1) = ZF.T1 := by kernel_rfl
theorem ZF.bits1 : waitsOk ZF.T1.2 ZF.B1 = true := by kernel_rfl
theorem ZF.calls (k : Nat) (a0 : Int) (a1_0 : Int) (a1_1 : Int) (a1_2 : Int) (a1_3 : Int) (a1_4 : ByteArray) (a1_5 : ByteArray) (a1_6 : ByteArray) (r : Bool) (w : World) (h : ZF.f k a0 a1_0 a1_1 a1_2 a1_3 a1_4 a1_5 a1_6 = some r) :
  Calls Tryz.prog 24 #[.int .i64 a0,.agg #[.int .i64 a1_0,.int .i64 a1_1,.int .i64 a1_2,.int .i64 a1_3,.string a1_4,.string a1_5,.string a1_6]] w fun e w' => e = .returned (.bool r) ∧ Below w.heap.size w w' := by
 have hu40 := Tryz.underlying40
 have HB := am_ (Below.refl w.heap.size w)
 have H : ((Zy.f k a1_0 a1_1 a1_2 a1_3 a1_4 a1_5 a1_6).bind fun t338 => (if t338 = true then (if a1_3 < a0 then ((ZJ.f k a1_0 a1_1 a1_2 a1_3 a1_4 a1_5 a1_6).bind fun t339 => ((ZS.f k a1_3 t339).bind fun t342 => (some (t342.toList == a1_6.toList)))) else (some false)) else (some false))) = some r := h
 clear h
 replace H := Option.bind_eq_some_iff.mp H
 obtain ⟨t338,A30,H⟩ := H
 try dsimp only at H
 have A3 := am_ A30
 clear A30
 go_enter Tryz.func24,Tryz.ntmps24
 try go_wp2_with (first | ((with_reducible refine gate_dst (N := 3) rfl ?_);refine zbx (N := 3) (cs := #[.int .i64 a1_0,.int .i64 a1_1,.int .i64 a1_2,.int .i64 a1_3,.string a1_4,.string a1_5,.string a1_6]) (t := 40) ?_;intro gb337 hg w8 hbox hb;have BK337 := am_ (hbox);have GW337 := zw_ HB hg;have GE337 := zw_ HB hg;replace HB := zs_ HB hb;clear hb hbox hg))
 replace BK337 := am_ (blk_drew BK337.out)
 replace HB := am_ (below_drew1 HB.out)
 refine start_ (n := 19) (S := fun w' => w'.cell? ⟨gb337,0,none⟩ = some (.int .i64 a1_0) ∧ w'.cell? ⟨gb337,1,none⟩ = some (.int .i64 a1_1) ∧ w'.cell? ⟨gb337,2,none⟩ = some (.int .i64 a1_2) ∧ w'.cell? ⟨gb337,3,none⟩ = some (.int .i64 a1_3) ∧ w'.cell? ⟨gb337,4,none⟩ = some (.string a1_4) ∧ w'.cell? ⟨gb337,5,none⟩ = some (.string a1_5) ∧ w'.cell? ⟨gb337,6,none⟩ = some (.string a1_6)) (ds := []) #[false,false,false,false,false,false,false,false,false,false,false,false,false,false,false,false,false,false,false] (by kernel_rfl) rfl rfl ⟨(blk_cell BK337.out 0).trans rfl,(blk_cell BK337.out 1).trans rfl,(blk_cell BK337.out 2).trans rfl,(blk_cell BK337.out 3).trans rfl,(blk_cell BK337.out 4).trans rfl,(blk_cell BK337.out 5).trans rfl,(blk_cell BK337.out 6).trans rfl⟩ (fun hHeld => ?_);refine with_tabW ZF.tab1 ZF.bits1 (fun HT_ HW_ => ?_)
 generalize w8.drew = w9 at BK337 HB hHeld ⊢
 refine tk_ 0 5 HT_ HW_ hHeld ?_
 refine zon 1 (N := some 6) HT_ (fun K hK => ?_)
 refine zgo Tryz.func35 #[.agg #[.int .i64 a1_0,.int .i64 a1_1,.int .i64 a1_2,.int .i64 a1_3,.string a1_4,.string a1_5,.string a1_6]] ?_
 with_reducible refine (Zy.calls k a1_0 a1_1 a1_2 a1_3 a1_4 a1_5 a1_6 t338 _ A3.out).mono ?_
 rintro e w10 ⟨rfl,hb⟩
 refine ⟨_,rfl,?_⟩
 replace BK337 := zb BK337 hb
 replace HB := zs_ HB hb
 try clear hb
 refine hK.out _ _ ⟨(blk_cell BK337.out 0).trans rfl,(blk_cell BK337.out 1).trans rfl,(blk_cell BK337.out 2).trans rfl,(blk_cell BK337.out 3).trans rfl,(blk_cell BK337.out 4).trans rfl,(blk_cell BK337.out 5).trans rfl,(blk_cell BK337.out 6).trans rfl⟩ (fun hHeld => ?_)
 clear hK K
 refine nm_ ?_
 by_cases c4 : t338 = true
 case neg =>
  replace c4 := Bool.eq_false_iff.mpr c4
  subst c4
  rw [if_neg (show ¬ (false = true) by decide)] at H
  obtain rfl := Option.some.inj H
  refine pu_ 2 7 HT_ ?_
  refine px_ 3 8 HT_ ?_
  refine px_ 4 9 HT_ ?_
  refine px_ 5 10 HT_ ?_
  refine px_ 6 11 HT_ ?_
  refine pu_ 7 12 HT_ ?_
  refine pu_ 8 13 HT_ ?_
  refine px_ 9 14 HT_ ?_
  refine px_ 10 15 HT_ ?_
  refine px_ 11 16 HT_ ?_
  refine px_ 12 17 HT_ ?_
  refine px_ 13 18 HT_ ?_
  refine px_ 14 19 HT_ ?_
  refine px_ 15 20 HT_ ?_
  refine px_ 16 21 HT_ ?_
  refine pu_ 17 22 HT_ ?_
  refine pu_ 18 4 HT_ ?_
  refine done_ (done_of HT_.out (by kernel_rfl)) ?_
  try go_wp2
  go_ret
  exact ⟨zt_,zl_ HB⟩
 subst c4
 rw [if_pos rfl] at H
 by_cases c5 : a1_3 < a0
 case neg =>
  rw [if_neg c5] at H
  have c5b0 := decide_eq_false c5
  clear c5
  obtain rfl := Option.some.inj H
  refine pu_ 2 7 HT_ ?_
  refine pu_ 3 8 HT_ ?_
  refine pu_ 5 10 HT_ ?_
  refine tk_ 4 9 HT_ HW_ hHeld ?_
  refine pu_ 6 11 HT_ ?_
  refine pu_ 7 12 HT_ ?_
  refine pu_ 8 13 HT_ ?_
  refine px_ 9 14 HT_ ?_
  refine px_ 10 15 HT_ ?_
  refine px_ 11 16 HT_ ?_
  refine px_ 12 17 HT_ ?_
  refine px_ 13 18 HT_ ?_
  refine px_ 14 19 HT_ ?_
  refine px_ 15 20 HT_ ?_
  refine px_ 16 21 HT_ ?_
  refine pu_ 17 22 HT_ ?_
  refine pu_ 18 4 HT_ ?_
  refine done_ (done_of HT_.out (by kernel_rfl)) ?_
  try go_wp2
  go_ret
  exact ⟨zt_,zl_ HB⟩
 rw [if_pos c5] at H
 have c5b0 := decide_eq_true c5
 clear c5
 replace H := Option.bind_eq_some_iff.mp H
 obtain ⟨t339,A60,H⟩ := H
 try dsimp only at H
 have A6 := am_ A60
 clear A60
 replace H := Option.bind_eq_some_iff.mp H
 obtain ⟨t342,A70,H⟩ := H
 try dsimp only at H
 have A7 := am_ A70
 clear A70
 obtain rfl := Option.some.inj H
 refine pu_ 2 7 HT_ ?_
 refine pu_ 3 8 HT_ ?_
 refine pu_ 5 10 HT_ ?_
 refine tk_ 4 9 HT_ HW_ hHeld ?_
 refine pu_ 6 11 HT_ ?_
 refine pu_ 7 12 HT_ ?_
 refine pu_ 8 13 HT_ ?_
 refine pu_ 9 14 HT_ ?_
 refine pu_ 14 19 HT_ ?_
 refine tk_ 10 15 HT_ HW_ hHeld ?_
 refine tk_ 11 16 HT_ HW_ hHeld ?_
 refine tk_ 15 20 HT_ HW_ hHeld ?_
 refine zon 12 (N := some 17) HT_ (fun K hK => ?_)
 refine zgo Tryz.func37 #[.agg #[.int .i64 a1_0,.int .i64 a1_1,.int .i64 a1_2,.int .i64 a1_3,.string a1_4,.string a1_5,.string a1_6]] ?_
 with_reducible refine (ZJ.calls k a1_0 a1_1 a1_2 a1_3 a1_4 a1_5 a1_6 t339 _ A6.out).mono ?_
 rintro e w11 ⟨v340,rfl,ho0,hb⟩
 refine ⟨_,rfl,?_⟩
 have HO341 := am_ (Kd.R_lower ho0 (below_size (zl_ HB)))
 replace BK337 := zb BK337 hb
 replace HB := zs_ HB hb
 try clear hb
 (try clear ho0)
 obtain ⟨Ao12,co12,eo12⟩ := Kd.R_slice HO341.out
 (first | subst eo12 | (injection eo12 with f1_ f2_ f3_;have f4_ := f1_.symm;have f5_ := f3_.symm;clear f1_ f2_ f3_;subst f4_;subst f5_))
 refine hK.out _ _ ⟨(blk_cell BK337.out 0).trans rfl,(blk_cell BK337.out 1).trans rfl,(blk_cell BK337.out 2).trans rfl,(blk_cell BK337.out 3).trans rfl,(blk_cell BK337.out 4).trans rfl,(blk_cell BK337.out 5).trans rfl,(blk_cell BK337.out 6).trans rfl⟩ (fun hHeld => ?_)
 clear hK K
 refine nm_ ?_
 refine zon 13 (N := some 18) HT_ (fun K hK => ?_)
 refine zgo Tryz.func36 #[.int .i64 a1_3,.slice Ao12 t339.length co12] ?_
 with_reducible refine (ZS.calls k a1_3 _ _ t339 t342 _ ?side1 ?side2 A7.out).mono ?_
 (case side1 => repeat (first | exact (Kd.R_reads' HO341.out).2.2 | (with_reducible refine Kd.C_alloc ?_ _) | (with_reducible refine Kd.C_drewN ?_ _) | (with_reducible refine Kd.C_drew ?_)))
 (case side2 => exact (Kd.R_reads' HO341.out).2.1)
 rintro e w13 ⟨rfl,hb⟩
 refine ⟨_,rfl,?_⟩
 replace BK337 := zb BK337 hb
 replace HB := zs_ HB hb
 try clear hb
 refine hK.out _ _ ⟨(blk_cell BK337.out 0).trans rfl,(blk_cell BK337.out 1).trans rfl,(blk_cell BK337.out 2).trans rfl,(blk_cell BK337.out 3).trans rfl,(blk_cell BK337.out 4).trans rfl,(blk_cell BK337.out 5).trans rfl,(blk_cell BK337.out 6).trans rfl⟩ (fun hHeld => ?_)
 clear hK K
 refine nm_ ?_
 refine pu_ 16 21 HT_ ?_
 refine pu_ 17 22 HT_ ?_
 refine pu_ 18 4 HT_ ?_
 refine done_ (done_of HT_.out (by kernel_rfl)) ?_
 try go_wp2
 go_ret
 exact ⟨zt_,zl_ HB⟩
def Zf.T1 : Bool × List (List Nat × List Nat) := (true,[([],[]),([0],[0]),([1],[1]),([],[]),([3],[3]),([2,4],[2,4]),([5,4],[5]),([6],[6]),([7,6],[6,7]),([8,6],[6,8]),([9,6],[6,9]),([6,10],[6,10]),([11,6],[11]),([12],[12]),([12],[12]),([14,12],[12,14]),([13,15,12,12],[12,13,15]),([16,12],[12,16]),([12,17],[12,17])])
def Zf.B1 : List Nat := [0,1,3,0,8,31,63,127,255,511,1023,2047,4095,8191,8191,24575,65535,131071,262143]
theorem Zf.tab1 : rtab .any (opsOf Tryz.f11 1) = Zf.T1 := by kernel_rfl
theorem Zf.bits1 : waitsOk Zf.T1.2 Zf.B1 = true := by kernel_rfl
def Zf.T7 : Bool × List (List Nat × List Nat) := (true,[([],[]),([0],[0]),([1],[1]),([2],[2]),([3],[3]),([3],[3]),([4,5,3,3],[3,4,5]),([6,3],[3,6]),([3,7],[3,7]),([8,6],[8]),([9],[9]),([10,9],[9,10]),([9],[9]),([12,9],[9,12]),([13,9,9],[9,13]),([11,14,9],[9,11,14]),([9,15],[9,15]),([16,14],[16]),([17],[17]),([18,17],[17,18]),([17],[17]),([20,17],[17,20]),([21,17],[17,21]),([22,17],[17,22]),([23,17],[17,23]),([19,24,17],[17,19,24]),([17,25],[17,25]),([26,17],[26]),([27],[27]),([28,27],[27,28]),([27],[27]),([30,27],[27,30]),([31,27],[27,31]),([32,27],[27,32]),([33,27],[27,33]),([29,34,27],[27,29,34]),([27,35],[27,35]),([36,27],[36]),([37],[37]),([38,37],[37,38]),([39,37,37],[37,39]),([40],[40]),([41,40],[40,41]),([40],[40]),([43,40],[40,43]),([42,44,40],[40,42,44]),([45,40],[40,45]),([46,40],[40,46]),([40],[40]),([48,40],[40,48]),([47,49,40],[40,47,49]),([40,50,37],[37,40,50]),([37,51],[37,51])])
def Zf.B7 : List Nat := [0,1,3,7,15,15,63,127,255,511,1023,2047,1023,5119,13311,32767,65535,131071,262143,524287,262143,1310719,3407871,7602175,15990783,33554431,67108863,134217727,268435455,536870911,268435455,1342177279,3489660927,7784628223,16374562815,34359738367,68719476735,137438953471,274877906943,549755813887,1099511627775,2199023255551,4398046511103,2199023255551,10995116277759,35184372088831,70368744177663,140737488355327,2199023255551,283673999966207,1125899906842623,2251799813685247,4503599627370495]
theorem Zf.tab7 : rtab .any (opsOf Tryz.f11 7) = Zf.T7 := by kernel_rfl
theorem Zf.bits7 : waitsOk Zf.T7.2 Zf.B7 = true := by kernel_rfl
theorem Zf.calls (k : Nat) (a0 : Int) (a1_0 : ByteArray) (A1_1 : Option Addr) (c1_1 : Nat) (l1_1 : List (S40)) (r : Bool) (w : World) (hr1_1 : Kd.C k40 w A1_1 l1_1.length l1_1) (hc1_1 : l1_1.length ≤ c1_1) (h : Zf.f k a0 a1_0 l1_1 = some r) :
  Calls Tryz.prog 11 #[.int .i64 a0,.agg #[.string a1_0,.slice A1_1 l1_1.length c1_1]] w fun e w' => e = .returned (.bool r) ∧ Below w.heap.size w w' := by
 have hu29 := Tryz.underlying29
 have hu40 := Tryz.underlying40
 have HR1_1 := am_ hr1_1
 have HC1_1 := am_ hc1_1
 clear hr1_1 hc1_1
 have HB := am_ (Below.refl w.heap.size w)
 have H : ((Yn.f a0).bind fun t348 => (if (l1_1.length : Int) = t348 then (if (a1_0.size : Int) > 20000 then (Zf.j0 k a0 true a1_0 l1_1) else ((ZZ.f k a0 a1_0).bind fun t349 => (Zf.j0 k a0 (!t349) a1_0 l1_1))) else (Zf.j0 k a0 true a1_0 l1_1))) = some r := h
 clear h
 have HC3 := am_ H
 clear H
 go_enter Tryz.func11,Tryz.ntmps11
 go_upto_region 1 with (first | ((with_reducible refine gate_dst (N := 3) rfl ?_);(try (refine gate_guard (by rfl) ?_;dsimp only));refine zbx (N := 3) (cs := #[.string a1_0,.slice A1_1 l1_1.length c1_1]) (t := 29) ?_;intro gb347 hg w4 hbox hb;have BK347 := am_ (hbox);have GW347 := zw_ HB hg;have GE347 := zw_ HB hg;replace HB := zs_ HB hb;clear hb hbox hg))
 (try simp only [Act.put,p1_,p2_,p3_])
 go_cut [25] (fun v25 wc => ∃ (kq : Nat) (x25_2 : Bool),v25 = .bool x25_2 ∧ Aside0 (Zf.j0 kq a0 x25_2 a1_0 l1_1 = some r) ∧ Aside0 (kq ≤ k) ∧ Aside0 (wc.heap[gb347]? = some (.cells #[.string a1_0,(.slice A1_1 l1_1.length c1_1)] 29 (0,0))) ∧ Aside0 (Below w.heap.size w wc))
 case first =>
  have H := HC3.out
  clear HC3
  replace H := Option.bind_eq_some_iff.mp H
  obtain ⟨t348,A50,H⟩ := H
  try dsimp only at H
  have A5 := am_ A50
  clear A50
  by_cases c6 : (l1_1.length : Int) = t348
  case neg =>
   rw [if_neg c6] at H
   have c6b0 := beq_eq_false_iff_ne.mpr c6
   have c6b1 := bne_iff_ne.mpr c6
   (first | rw [c6b0] | (simp only [i64_w,i32_w];rw [c6b0]) | skip)
   have H' := am_ H
   clear H
   try go_wp2
   replace BK347 := am_ (blk_drew BK347.out)
   replace HB := am_ (below_drew1 HB.out)
   refine start_ (n := 19) (S := fun w' => w'.cell? ⟨gb347,0,none⟩ = some (.string a1_0) ∧ w'.cell? ⟨gb347,1,none⟩ = some (.slice A1_1 l1_1.length c1_1)) (ds := []) #[false,false,false,false,false,false,false,false,false,false,false,false,false,false,false,false,false,false,false] (by kernel_rfl) rfl rfl ⟨(blk_cell BK347.out 0).trans rfl,(blk_cell BK347.out 1).trans rfl⟩ (fun hHeld => ?_);refine with_tabW Zf.tab1 Zf.bits1 (fun HT_ HW_ => ?_)
   generalize w4.drew = w12 at BK347 HB hHeld ⊢
   refine pu_ 0 7 HT_ ?_
   refine pu_ 3 10 HT_ ?_
   refine tk_ 1 8 HT_ HW_ hHeld ?_
   refine pu_ 2 9 HT_ ?_
   refine zon 4 (N := some 11) HT_ (fun K hK => ?_)
   refine zgo Tryz.func22 #[.int .i64 a0] ?_
   with_reducible refine (Yn.calls a0 t348 _ A5.out).mono ?_
   rintro e w' ⟨rfl,⟨nd,rfl⟩⟩
   refine ⟨_,rfl,?_⟩
   refine hK.out _ _ ⟨(blk_cell BK347.out 0).trans rfl,(blk_cell BK347.out 1).trans rfl⟩ (fun hHeld => ?_)
   clear hK K
   refine nm_ ?_
   refine pu_ 5 12 HT_ ?_
   refine pu_ 6 13 HT_ ?_
   refine px_ 7 14 HT_ ?_
   refine px_ 8 15 HT_ ?_
   refine px_ 9 16 HT_ ?_
   refine px_ 10 17 HT_ ?_
   refine pu_ 11 18 HT_ ?_
   refine pu_ 12 19 HT_ ?_
   refine px_ 13 20 HT_ ?_
   refine px_ 14 21 HT_ ?_
   refine px_ 15 22 HT_ ?_
   refine px_ 16 23 HT_ ?_
   refine px_ 17 24 HT_ ?_
   refine pu_ 18 25 HT_ ?_
   refine done_ (done_of HT_.out (by kernel_rfl)) ?_
   try go_wp2
   go_meet
   case rel => exact ⟨_,(true),(by first | rfl | (simp;done) | (simp [*];done)),H',⟨by first | omega | exact Nat.le_refl _⟩,⟨by (with_reducible repeat (first | apply k1_ | apply k2_ | apply k3_));exact BK347.out⟩,⟨zl_ HB⟩⟩
  rw [if_pos c6] at H
  have c6b0 := beq_iff_eq.mpr c6
  have c6b1 := bne_eq_false_iff_eq.mpr c6
  clear c6
  (first | rw [c6b0] | (simp only [i64_w,i32_w];rw [c6b0]) | skip)
  try go_wp2
  replace BK347 := am_ (blk_drew BK347.out)
  replace HB := am_ (below_drew1 HB.out)
  refine start_ (n := 19) (S := fun w' => w'.cell? ⟨gb347,0,none⟩ = some (.string a1_0) ∧ w'.cell? ⟨gb347,1,none⟩ = some (.slice A1_1 l1_1.length c1_1)) (ds := []) #[false,false,false,false,false,false,false,false,false,false,false,false,false,false,false,false,false,false,false] (by kernel_rfl) rfl rfl ⟨(blk_cell BK347.out 0).trans rfl,(blk_cell BK347.out 1).trans rfl⟩ (fun hHeld => ?_);refine with_tabW Zf.tab1 Zf.bits1 (fun HT_ HW_ => ?_)
  generalize w4.drew = w8 at BK347 HB hHeld ⊢
  refine pu_ 0 7 HT_ ?_
  refine pu_ 3 10 HT_ ?_
  refine tk_ 1 8 HT_ HW_ hHeld ?_
  refine pu_ 2 9 HT_ ?_
  refine zon 4 (N := some 11) HT_ (fun K hK => ?_)
  refine zgo Tryz.func22 #[.int .i64 a0] ?_
  with_reducible refine (Yn.calls a0 t348 _ A5.out).mono ?_
  rintro e w' ⟨rfl,⟨nd,rfl⟩⟩
  refine ⟨_,rfl,?_⟩
  refine hK.out _ _ ⟨(blk_cell BK347.out 0).trans rfl,(blk_cell BK347.out 1).trans rfl⟩ (fun hHeld => ?_)
  clear hK K
  refine nm_ ?_
  by_cases c7 : (a1_0.size : Int) > 20000
  ·rw [if_pos c7] at H
   have c7b0 : decide (20000 < (a1_0.size : Int)) = true := decide_eq_true c7
   have c7b1 : decide (20000 < a1_0.size) = true := decide_eq_true (by omega)
   clear c7
   have H' := am_ H
   clear H
   refine pu_ 5 12 HT_ ?_
   refine pu_ 6 13 HT_ ?_
   refine pu_ 7 14 HT_ ?_
   refine tk_ 8 15 HT_ HW_ hHeld ?_
   refine pu_ 9 16 HT_ ?_
   refine pu_ 10 17 HT_ ?_
   refine pu_ 11 18 HT_ ?_
   refine pu_ 12 19 HT_ ?_
   refine px_ 13 20 HT_ ?_
   refine px_ 14 21 HT_ ?_
   refine px_ 15 22 HT_ ?_
   refine px_ 16 23 HT_ ?_
   refine px_ 17 24 HT_ ?_
   refine pu_ 18 25 HT_ ?_
   refine done_ (done_of HT_.out (by kernel_rfl)) ?_
   try go_wp2
   go_meet
   case rel => exact ⟨_,(true),(by first | rfl | (simp;done) | (simp [*];done)),H',⟨by first | omega | exact Nat.le_refl _⟩,⟨by (with_reducible repeat (first | apply k1_ | apply k2_ | apply k3_));exact BK347.out⟩,⟨zl_ HB⟩⟩
  rw [if_neg c7] at H
  have c7b0 : decide (20000 < (a1_0.size : Int)) = false := decide_eq_false c7
  have c7b1 : decide (20000 < a1_0.size) = false := decide_eq_false (by omega)
  clear c7
  replace H := Option.bind_eq_some_iff.mp H
  obtain ⟨t349,A90,H⟩ := H
  try dsimp only at H
  have A9 := am_ A90
  clear A90
  have H' := am_ H
  clear H
  refine pu_ 5 12 HT_ ?_
  refine pu_ 6 13 HT_ ?_
  refine pu_ 7 14 HT_ ?_
  refine tk_ 8 15 HT_ HW_ hHeld ?_
  refine pu_ 9 16 HT_ ?_
  refine pu_ 10 17 HT_ ?_
  refine pu_ 11 18 HT_ ?_
  refine pu_ 12 19 HT_ ?_
  refine pu_ 13 20 HT_ ?_
  refine pu_ 14 21 HT_ ?_
  refine tk_ 15 22 HT_ HW_ hHeld ?_
  refine zon 16 (N := some 23) HT_ (fun K hK => ?_)
  refine zgo Tryz.func23 #[.int .i64 a0,.string a1_0] ?_
  with_reducible refine (ZZ.calls k a0 a1_0 t349 _ A9.out).mono ?_
  rintro e w11 ⟨rfl,hb⟩
  refine ⟨_,rfl,?_⟩
  replace BK347 := zb BK347 hb
  replace HB := zs_ HB hb
  try clear hb
  refine hK.out _ _ ⟨(blk_cell BK347.out 0).trans rfl,(blk_cell BK347.out 1).trans rfl⟩ (fun hHeld => ?_)
  clear hK K
  refine nm_ ?_
  refine pu_ 17 24 HT_ ?_
  refine pu_ 18 25 HT_ ?_
  refine done_ (done_of HT_.out (by kernel_rfl)) ?_
  try go_wp2
  go_meet
  case rel => exact ⟨_,(!t349),(by first | rfl | (simp;done) | (simp [*];done)),H',⟨by first | omega | exact Nat.le_refl _⟩,⟨by (with_reducible repeat (first | apply k1_ | apply k2_ | apply k3_));exact BK347.out⟩,⟨zl_ HB⟩⟩
 case rest =>
  clear HC3
  try clear c1
  try clear c2
  try clear p2
  try clear c6
  try clear c6b0
  try clear c6b1
  try clear c7
  try clear c7b0
  try clear c7b1
  try clear c11
  obtain ⟨kq,x25_2,rfl,HA,HJ2,BK347,HB⟩ := hcut
  cases kq with
  | zero => exact absurd HA.out (by simp [Zf.j0])
  | succ kj2 =>
   have H := HA.out
   clear HA
   simp only [Zf.j0] at H
   by_cases c13 : x25_2 = true
   ·subst c13
    rw [if_pos rfl] at H
    obtain rfl := Option.some.inj H
    go_wp2
    go_ret
    exact ⟨zt_,zl_ HB⟩
   replace c13 := Bool.eq_false_iff.mpr c13
   subst c13
   rw [if_neg (show ¬ (false = true) by decide)] at H
   have H' := am_ H
   clear H
   go_wp2
   go_loopg [5] kj2 (fun kq v5 w' => ∃ (x5_2 : Int),v5 = .int .i64 x5_2 ∧ Aside0 (Zf.l0 kq a0 x5_2 a1_0 l1_1 = some r) ∧ Aside0 (kq ≤ kj2) ∧ Aside0 (w'.heap[gb347]? = some (.cells #[.string a1_0,(.slice A1_1 l1_1.length c1_1)] 29 (0,0))) ∧ Aside0 (Below w.heap.size w w'))
   case atStart => exact ⟨(0),(by first | rfl | (simp;done) | (simp [*];done)),H',⟨Nat.le_refl _⟩,⟨by (with_reducible repeat (first | apply k1_ | apply k2_ | apply k3_));exact BK347.out⟩,⟨zl_ HB⟩⟩
   case round =>
    clear H'
    try clear c1
    try clear c2
    try clear p2
    try clear c6
    try clear c6b0
    try clear c6b1
    try clear c7
    try clear c7b0
    try clear c7b1
    try clear c11
    try clear c13
    try clear p2
    obtain ⟨x5_2,rfl,HA,HK2,BK347,HB⟩ := hrel
    cases gk with
    | zero => exact absurd HA.out (by simp [Zf.l0])
    | succ k2 =>
     have H := HA.out
     clear HA
     simp only [Zf.l0] at H
     by_cases c14 : x5_2 < (l1_1.length : Int)
     case neg =>
      rw [if_neg c14] at H
      have c14b0 := decide_eq_false c14
      clear c14
      obtain rfl := Option.some.inj H
      obtain ⟨hcz90_0,hcz90_1,hfz90_0,hfz90_1⟩ := zc2 BK347
      go_wp2
      go_ret
      exact ⟨zt_,zl_ HB⟩
     rw [if_pos c14] at H
     have c14b0 := decide_eq_true c14
     clear c14
     by_cases c15 : 0 ≤ x5_2
     case neg =>
      rw [if_neg c15] at H
      exact absurd H (by simp)
     rw [if_pos c15] at H
     have c15b0 := decide_eq_true c15
     clear c15
     obtain ⟨hcz29_0,hcz29_1,hfz29_0,hfz29_1⟩ := zc2 BK347
     have p350 : 0 ≤ (x5_2 : Int) := zo_
     have q350 : x5_2 < (l1_1.length : Int) := zo_
     obtain ⟨ad350,e350,hx350_0,hx350_1,hx350_2,hx350_3,hx350_4,hx350_5,hx350_6⟩ := at_T40 HR1_1.out x5_2 p350 q350
     cases e350
     replace hx350_0 := zx_ HB hx350_0
     replace hx350_1 := zx_ HB hx350_1
     replace hx350_2 := zx_ HB hx350_2
     replace hx350_3 := zx_ HB hx350_3
     replace hx350_4 := zx_ HB hx350_4
     replace hx350_5 := zx_ HB hx350_5
     replace hx350_6 := zx_ HB hx350_6
     replace p350 := eq_true p350
     replace q350 := eq_true q350
     try go_wp2_with (first | ((with_reducible refine gate_dst (N := 6) rfl ?_);(try (refine gate_guard (by rfl) ?_;dsimp only));refine zbx (N := 6) (cs := #[.int .i64 0,.int .i64 0,.int .i64 0,.int .i64 0,.string ⟨#[]⟩,.string ⟨#[]⟩,.string ⟨#[]⟩]) (t := 40) ?_;intro gb351 hg w30 hbox hb;have BK351 := am_ (hbox);have GW351 := zw_ HB hg;have GE351 := zw_ HB hg;replace HB := zs_ HB hb;have NB347_351 := zl hg BK347;have NB351_347 := zg hg BK347;replace BK347 := zb BK347 hb;clear hb hbox hg;have hnb31 := NB351_347.out;have hnc31 := NB347_351.out;obtain ⟨hcz32_0,hcz32_1,hcz32_2,hcz32_3,hcz32_4,hcz32_5,hcz32_6,hfz32_0,hfz32_1,hfz32_2,hfz32_3,hfz32_4,hfz32_5,hfz32_6⟩ := zc7 BK351))
     have n0_ : Aside0 ((((((((w30.setCell ⟨gb351,0,none⟩ (.int .i64 ((rd_T40 l1_1 x5_2).f0))).setCell ⟨gb351,1,none⟩ (.int .i64 ((rd_T40 l1_1 x5_2).f1))).setCell ⟨gb351,2,none⟩ (.int .i64 ((rd_T40 l1_1 x5_2).f2))).setCell ⟨gb351,3,none⟩ (.int .i64 ((rd_T40 l1_1 x5_2).f3))).setCell ⟨gb351,4,none⟩ (.string ((rd_T40 l1_1 x5_2).f4))).setCell ⟨gb351,5,none⟩ (.string ((rd_T40 l1_1 x5_2).f5))).setCell ⟨gb351,6,none⟩ (.string ((rd_T40 l1_1 x5_2).f6))).heap[gb347]? = some (.cells #[.string a1_0,.slice (some ad350) l1_1.length c1_1] 29 (0,0))) := ⟨zq BK347⟩
     have n1_ : Aside0 ((((((((w30.setCell ⟨gb351,0,none⟩ (.int .i64 ((rd_T40 l1_1 x5_2).f0))).setCell ⟨gb351,1,none⟩ (.int .i64 ((rd_T40 l1_1 x5_2).f1))).setCell ⟨gb351,2,none⟩ (.int .i64 ((rd_T40 l1_1 x5_2).f2))).setCell ⟨gb351,3,none⟩ (.int .i64 ((rd_T40 l1_1 x5_2).f3))).setCell ⟨gb351,4,none⟩ (.string ((rd_T40 l1_1 x5_2).f4))).setCell ⟨gb351,5,none⟩ (.string ((rd_T40 l1_1 x5_2).f5))).setCell ⟨gb351,6,none⟩ (.string ((rd_T40 l1_1 x5_2).f6))).heap[gb351]? = some (.cells #[.int .i64 ((rd_T40 l1_1 x5_2).f0),.int .i64 ((rd_T40 l1_1 x5_2).f1),.int .i64 ((rd_T40 l1_1 x5_2).f2),.int .i64 ((rd_T40 l1_1 x5_2).f3),.string ((rd_T40 l1_1 x5_2).f4),.string ((rd_T40 l1_1 x5_2).f5),.string ((rd_T40 l1_1 x5_2).f6)] 40 (0,0))) := ⟨zq BK351⟩
     have n2_ : Aside0 (Below w.heap.size w (((((((w30.setCell ⟨gb351,0,none⟩ (.int .i64 ((rd_T40 l1_1 x5_2).f0))).setCell ⟨gb351,1,none⟩ (.int .i64 ((rd_T40 l1_1 x5_2).f1))).setCell ⟨gb351,2,none⟩ (.int .i64 ((rd_T40 l1_1 x5_2).f2))).setCell ⟨gb351,3,none⟩ (.int .i64 ((rd_T40 l1_1 x5_2).f3))).setCell ⟨gb351,4,none⟩ (.string ((rd_T40 l1_1 x5_2).f4))).setCell ⟨gb351,5,none⟩ (.string ((rd_T40 l1_1 x5_2).f5))).setCell ⟨gb351,6,none⟩ (.string ((rd_T40 l1_1 x5_2).f6)))) := ⟨zl_ HB⟩
     (try clear BK347)
     (try clear BK351)
     (try clear HB)
     generalize (((((((w30.setCell ⟨gb351,0,none⟩ (.int .i64 ((rd_T40 l1_1 x5_2).f0))).setCell ⟨gb351,1,none⟩ (.int .i64 ((rd_T40 l1_1 x5_2).f1))).setCell ⟨gb351,2,none⟩ (.int .i64 ((rd_T40 l1_1 x5_2).f2))).setCell ⟨gb351,3,none⟩ (.int .i64 ((rd_T40 l1_1 x5_2).f3))).setCell ⟨gb351,4,none⟩ (.string ((rd_T40 l1_1 x5_2).f4))).setCell ⟨gb351,5,none⟩ (.string ((rd_T40 l1_1 x5_2).f5))).setCell ⟨gb351,6,none⟩ (.string ((rd_T40 l1_1 x5_2).f6))) = w33 at n0_ n1_ n2_ ⊢
     have BK347 := n0_
     have BK351 := n1_
     have HB := n2_
     clear n0_ n1_ n2_
     replace BK347 := am_ (blk_drew BK347.out)
     replace BK351 := am_ (blk_drew BK351.out)
     replace HB := am_ (below_drew1 HB.out)
     have p354 : 0 ≤ (0 : Int) := (by omega)
     have p355 : 0 ≤ (0 : Int) := (by omega)
     by_cases c16 : ((rd_T40 l1_1 x5_2).f0) = 2
     case neg =>
      rw [if_neg c16] at H
      have c16b0 := beq_eq_false_iff_ne.mpr c16
      have c16b1 := bne_iff_ne.mpr c16
      obtain rfl := Option.some.inj H
      refine start_ (n := 53) (S := fun w' => w'.cell? ⟨gb351,0,none⟩ = some (.int .i64 ((rd_T40 l1_1 x5_2).f0)) ∧ w'.cell? ⟨gb351,1,none⟩ = some (.int .i64 ((rd_T40 l1_1 x5_2).f1)) ∧ w'.cell? ⟨gb351,2,none⟩ = some (.int .i64 ((rd_T40 l1_1 x5_2).f2)) ∧ w'.cell? ⟨gb351,3,none⟩ = some (.int .i64 ((rd_T40 l1_1 x5_2).f3)) ∧ w'.cell? ⟨gb351,4,none⟩ = some (.string ((rd_T40 l1_1 x5_2).f4)) ∧ w'.cell? ⟨gb351,5,none⟩ = some (.string ((rd_T40 l1_1 x5_2).f5)) ∧ w'.cell? ⟨gb351,6,none⟩ = some (.string ((rd_T40 l1_1 x5_2).f6))) (ds := []) #[false,false,false,false,false,false,false,false,false,false,false,false,false,false,false,false,false,false,false,false,false,false,false,false,false,false,false,false,false,false,false,false,false,false,false,false,false,false,false,false,false,false,false,false,false,false,false,false,false,false,false,false,false] (by kernel_rfl) rfl rfl ⟨(blk_cell BK351.out 0).trans rfl,(blk_cell BK351.out 1).trans rfl,(blk_cell BK351.out 2).trans rfl,(blk_cell BK351.out 3).trans rfl,(blk_cell BK351.out 4).trans rfl,(blk_cell BK351.out 5).trans rfl,(blk_cell BK351.out 6).trans rfl⟩ (fun hHeld => ?_);refine with_tabW Zf.tab7 Zf.bits7 (fun HT_ HW_ => ?_)
      generalize w33.drew = w89 at BK347 BK351 HB hHeld ⊢
      refine pu_ 0 38 HT_ ?_
      refine tk_ 1 39 HT_ HW_ hHeld ?_
      refine pu_ 2 40 HT_ ?_
      refine pu_ 3 41 HT_ ?_
      refine px_ 4 42 HT_ ?_
      refine px_ 5 43 HT_ ?_
      refine px_ 6 44 HT_ ?_
      refine px_ 7 45 HT_ ?_
      refine pu_ 8 46 HT_ ?_
      refine pu_ 9 47 HT_ ?_
      refine px_ 10 48 HT_ ?_
      refine px_ 11 49 HT_ ?_
      refine px_ 12 50 HT_ ?_
      refine px_ 13 51 HT_ ?_
      refine px_ 14 52 HT_ ?_
      refine px_ 15 53 HT_ ?_
      refine pu_ 16 54 HT_ ?_
      refine pu_ 17 55 HT_ ?_
      refine px_ 18 56 HT_ ?_
      refine px_ 19 57 HT_ ?_
      refine px_ 20 58 HT_ ?_
      refine px_ 21 59 HT_ ?_
      refine px_ 22 60 HT_ ?_
      refine px_ 23 61 HT_ ?_
      refine px_ 24 62 HT_ ?_
      refine px_ 25 63 HT_ ?_
      refine pu_ 26 64 HT_ ?_
      refine pu_ 27 65 HT_ ?_
      refine px_ 28 66 HT_ ?_
      refine px_ 29 67 HT_ ?_
      refine px_ 30 68 HT_ ?_
      refine px_ 31 69 HT_ ?_
      refine px_ 32 70 HT_ ?_
      refine px_ 33 71 HT_ ?_
      refine px_ 34 72 HT_ ?_
      refine px_ 35 73 HT_ ?_
      refine pu_ 36 74 HT_ ?_
      refine pu_ 37 75 HT_ ?_
      refine px_ 38 76 HT_ ?_
      refine px_ 39 77 HT_ ?_
      refine px_ 40 78 HT_ ?_
      refine px_ 41 79 HT_ ?_
      refine px_ 42 80 HT_ ?_
      refine px_ 43 81 HT_ ?_
      refine px_ 44 82 HT_ ?_
      refine px_ 45 83 HT_ ?_
      refine px_ 46 84 HT_ ?_
      refine px_ 47 85 HT_ ?_
      refine px_ 48 86 HT_ ?_
      refine px_ 49 87 HT_ ?_
      refine px_ 50 88 HT_ ?_
      refine px_ 51 89 HT_ ?_
      refine pu_ 52 90 HT_ ?_
      refine done_ (done_of HT_.out (by kernel_rfl)) ?_
      try go_wp2
      go_ret
      exact ⟨zt_,zl_ HB⟩
     rw [if_pos c16] at H
     have c16b0 := beq_iff_eq.mpr c16
     have c16b1 := bne_eq_false_iff_eq.mpr c16
     clear c16
     replace H := Option.bind_eq_some_iff.mp H
     obtain ⟨t352,A170,H⟩ := H
     try dsimp only at H
     have A17 := am_ A170
     clear A170
     by_cases c18 : t352 = true
     case neg =>
      replace c18 := Bool.eq_false_iff.mpr c18
      subst c18
      rw [if_neg (show ¬ (false = true) by decide)] at H
      obtain rfl := Option.some.inj H
      refine start_ (n := 53) (S := fun w' => w'.cell? ⟨gb351,0,none⟩ = some (.int .i64 ((rd_T40 l1_1 x5_2).f0)) ∧ w'.cell? ⟨gb351,1,none⟩ = some (.int .i64 ((rd_T40 l1_1 x5_2).f1)) ∧ w'.cell? ⟨gb351,2,none⟩ = some (.int .i64 ((rd_T40 l1_1 x5_2).f2)) ∧ w'.cell? ⟨gb351,3,none⟩ = some (.int .i64 ((rd_T40 l1_1 x5_2).f3)) ∧ w'.cell? ⟨gb351,4,none⟩ = some (.string ((rd_T40 l1_1 x5_2).f4)) ∧ w'.cell? ⟨gb351,5,none⟩ = some (.string ((rd_T40 l1_1 x5_2).f5)) ∧ w'.cell? ⟨gb351,6,none⟩ = some (.string ((rd_T40 l1_1 x5_2).f6))) (ds := []) #[false,false,false,false,false,false,false,false,false,false,false,false,false,false,false,false,false,false,false,false,false,false,false,false,false,false,false,false,false,false,false,false,false,false,false,false,false,false,false,false,false,false,false,false,false,false,false,false,false,false,false,false,false] (by kernel_rfl) rfl rfl ⟨(blk_cell BK351.out 0).trans rfl,(blk_cell BK351.out 1).trans rfl,(blk_cell BK351.out 2).trans rfl,(blk_cell BK351.out 3).trans rfl,(blk_cell BK351.out 4).trans rfl,(blk_cell BK351.out 5).trans rfl,(blk_cell BK351.out 6).trans rfl⟩ (fun hHeld => ?_);refine with_tabW Zf.tab7 Zf.bits7 (fun HT_ HW_ => ?_)
      generalize w33.drew = w82 at BK347 BK351 HB hHeld ⊢
      refine pu_ 0 38 HT_ ?_
      refine tk_ 1 39 HT_ HW_ hHeld ?_
      refine pu_ 2 40 HT_ ?_
      refine pu_ 3 41 HT_ ?_
      refine pu_ 4 42 HT_ ?_
      refine tk_ 5 43 HT_ HW_ hHeld ?_
      refine zon 6 (N := some 44) HT_ (fun K hK => ?_)
      refine zgo Tryz.func24 #[.int .i64 a0,.agg #[.int .i64 ((rd_T40 l1_1 x5_2).f0),.int .i64 ((rd_T40 l1_1 x5_2).f1),.int .i64 ((rd_T40 l1_1 x5_2).f2),.int .i64 ((rd_T40 l1_1 x5_2).f3),.string ((rd_T40 l1_1 x5_2).f4),.string ((rd_T40 l1_1 x5_2).f5),.string ((rd_T40 l1_1 x5_2).f6)]] ?_
      with_reducible refine (ZF.calls k2 a0 ((rd_T40 l1_1 x5_2).f0) ((rd_T40 l1_1 x5_2).f1) ((rd_T40 l1_1 x5_2).f2) ((rd_T40 l1_1 x5_2).f3) ((rd_T40 l1_1 x5_2).f4) ((rd_T40 l1_1 x5_2).f5) ((rd_T40 l1_1 x5_2).f6) false _ A17.out).mono ?_
      rintro e w83 ⟨rfl,hb⟩
      refine ⟨_,rfl,?_⟩
      replace BK351 := zb BK351 hb
      replace HB := zs_ HB hb
      try clear hb
      refine hK.out _ _ ⟨(blk_cell BK351.out 0).trans rfl,(blk_cell BK351.out 1).trans rfl,(blk_cell BK351.out 2).trans rfl,(blk_cell BK351.out 3).trans rfl,(blk_cell BK351.out 4).trans rfl,(blk_cell BK351.out 5).trans rfl,(blk_cell BK351.out 6).trans rfl⟩ (fun hHeld => ?_)
      clear hK K
      refine nm_ ?_
      refine pu_ 7 45 HT_ ?_
      refine pu_ 8 46 HT_ ?_
      refine pu_ 9 47 HT_ ?_
      refine px_ 10 48 HT_ ?_
      refine px_ 11 49 HT_ ?_
      refine px_ 12 50 HT_ ?_
      refine px_ 13 51 HT_ ?_
      refine px_ 14 52 HT_ ?_
      refine px_ 15 53 HT_ ?_
      refine pu_ 16 54 HT_ ?_
      refine pu_ 17 55 HT_ ?_
      refine px_ 18 56 HT_ ?_
      refine px_ 19 57 HT_ ?_
      refine px_ 20 58 HT_ ?_
      refine px_ 21 59 HT_ ?_
      refine px_ 22 60 HT_ ?_
      refine px_ 23 61 HT_ ?_
      refine px_ 24 62 HT_ ?_
      refine px_ 25 63 HT_ ?_
      refine pu_ 26 64 HT_ ?_
      refine pu_ 27 65 HT_ ?_
      refine px_ 28 66 HT_ ?_
      refine px_ 29 67 HT_ ?_
      refine px_ 30 68 HT_ ?_
      refine px_ 31 69 HT_ ?_
      refine px_ 32 70 HT_ ?_
      refine px_ 33 71 HT_ ?_
      refine px_ 34 72 HT_ ?_
      refine px_ 35 73 HT_ ?_
      refine pu_ 36 74 HT_ ?_
      refine pu_ 37 75 HT_ ?_
      refine px_ 38 76 HT_ ?_
      refine px_ 39 77 HT_ ?_
      refine px_ 40 78 HT_ ?_
      refine px_ 41 79 HT_ ?_
      refine px_ 42 80 HT_ ?_
      refine px_ 43 81 HT_ ?_
      refine px_ 44 82 HT_ ?_
      refine px_ 45 83 HT_ ?_
      refine px_ 46 84 HT_ ?_
      refine px_ 47 85 HT_ ?_
      refine px_ 48 86 HT_ ?_
      refine px_ 49 87 HT_ ?_
      refine px_ 50 88 HT_ ?_
      refine px_ 51 89 HT_ ?_
      refine pu_ 52 90 HT_ ?_
      refine done_ (done_of HT_.out (by kernel_rfl)) ?_
      try go_wp2
      go_ret
      exact ⟨zt_,zl_ HB⟩
     subst c18
     rw [if_pos rfl] at H
     replace H := Option.bind_eq_some_iff.mp H
     obtain ⟨t353,A190,H⟩ := H
     try dsimp only at H
     have A19 := am_ A190
     clear A190
     by_cases c20 : ((rd_T40 l1_1 x5_2).f4).toList = t353.toList
     case neg =>
      rw [if_neg c20] at H
      have c20b0 := beq_eq_false_iff_ne.mpr c20
      have c20b1 := bne_iff_ne.mpr c20
      obtain rfl := Option.some.inj H
      refine start_ (n := 53) (S := fun w' => w'.cell? ⟨gb351,0,none⟩ = some (.int .i64 ((rd_T40 l1_1 x5_2).f0)) ∧ w'.cell? ⟨gb351,1,none⟩ = some (.int .i64 ((rd_T40 l1_1 x5_2).f1)) ∧ w'.cell? ⟨gb351,2,none⟩ = some (.int .i64 ((rd_T40 l1_1 x5_2).f2)) ∧ w'.cell? ⟨gb351,3,none⟩ = some (.int .i64 ((rd_T40 l1_1 x5_2).f3)) ∧ w'.cell? ⟨gb351,4,none⟩ = some (.string ((rd_T40 l1_1 x5_2).f4)) ∧ w'.cell? ⟨gb351,5,none⟩ = some (.string ((rd_T40 l1_1 x5_2).f5)) ∧ w'.cell? ⟨gb351,6,none⟩ = some (.string ((rd_T40 l1_1 x5_2).f6)) ∧ w'.cell? ⟨gb347,0,none⟩ = some (.string a1_0) ∧ w'.cell? ⟨gb347,1,none⟩ = some (.slice (some ad350) l1_1.length c1_1)) (ds := []) #[false,false,false,false,false,false,false,false,false,false,false,false,false,false,false,false,false,false,false,false,false,false,false,false,false,false,false,false,false,false,false,false,false,false,false,false,false,false,false,false,false,false,false,false,false,false,false,false,false,false,false,false,false] (by kernel_rfl) rfl rfl ⟨(blk_cell BK351.out 0).trans rfl,(blk_cell BK351.out 1).trans rfl,(blk_cell BK351.out 2).trans rfl,(blk_cell BK351.out 3).trans rfl,(blk_cell BK351.out 4).trans rfl,(blk_cell BK351.out 5).trans rfl,(blk_cell BK351.out 6).trans rfl,(blk_cell BK347.out 0).trans rfl,(blk_cell BK347.out 1).trans rfl⟩ (fun hHeld => ?_);refine with_tabW Zf.tab7 Zf.bits7 (fun HT_ HW_ => ?_)
      generalize w33.drew = w74 at BK347 BK351 HB hHeld ⊢
      refine pu_ 0 38 HT_ ?_
      refine tk_ 1 39 HT_ HW_ hHeld ?_
      refine pu_ 2 40 HT_ ?_
      refine pu_ 3 41 HT_ ?_
      refine pu_ 4 42 HT_ ?_
      refine tk_ 5 43 HT_ HW_ hHeld ?_
      refine zon 6 (N := some 44) HT_ (fun K hK => ?_)
      refine zgo Tryz.func24 #[.int .i64 a0,.agg #[.int .i64 ((rd_T40 l1_1 x5_2).f0),.int .i64 ((rd_T40 l1_1 x5_2).f1),.int .i64 ((rd_T40 l1_1 x5_2).f2),.int .i64 ((rd_T40 l1_1 x5_2).f3),.string ((rd_T40 l1_1 x5_2).f4),.string ((rd_T40 l1_1 x5_2).f5),.string ((rd_T40 l1_1 x5_2).f6)]] ?_
      with_reducible refine (ZF.calls k2 a0 ((rd_T40 l1_1 x5_2).f0) ((rd_T40 l1_1 x5_2).f1) ((rd_T40 l1_1 x5_2).f2) ((rd_T40 l1_1 x5_2).f3) ((rd_T40 l1_1 x5_2).f4) ((rd_T40 l1_1 x5_2).f5) ((rd_T40 l1_1 x5_2).f6) true _ A17.out).mono ?_
      rintro e w75 ⟨rfl,hb⟩
      refine ⟨_,rfl,?_⟩
      replace BK347 := zb BK347 hb
      replace BK351 := zb BK351 hb
      replace HB := zs_ HB hb
      try clear hb
      refine hK.out _ _ ⟨(blk_cell BK351.out 0).trans rfl,(blk_cell BK351.out 1).trans rfl,(blk_cell BK351.out 2).trans rfl,(blk_cell BK351.out 3).trans rfl,(blk_cell BK351.out 4).trans rfl,(blk_cell BK351.out 5).trans rfl,(blk_cell BK351.out 6).trans rfl,(blk_cell BK347.out 0).trans rfl,(blk_cell BK347.out 1).trans rfl⟩ (fun hHeld => ?_)
      clear hK K
      refine nm_ ?_
      refine pu_ 7 45 HT_ ?_
      refine pu_ 8 46 HT_ ?_
      refine pu_ 9 47 HT_ ?_
      refine pu_ 10 48 HT_ ?_
      refine pu_ 12 50 HT_ ?_
      refine tk_ 11 49 HT_ HW_ hHeld ?_
      refine tk_ 13 51 HT_ HW_ hHeld ?_
      refine zon 14 (N := some 52) HT_ (fun K hK => ?_)
      refine zgo Tryz.func25 #[.string a1_0] ?_
      with_reducible refine (ZN.calls k2 a1_0 t353 _ A19.out).mono ?_
      rintro e w76 ⟨rfl,hb⟩
      refine ⟨_,rfl,?_⟩
      replace BK347 := zb BK347 hb
      replace BK351 := zb BK351 hb
      replace HB := zs_ HB hb
      try clear hb
      refine hK.out _ _ ⟨(blk_cell BK351.out 0).trans rfl,(blk_cell BK351.out 1).trans rfl,(blk_cell BK351.out 2).trans rfl,(blk_cell BK351.out 3).trans rfl,(blk_cell BK351.out 4).trans rfl,(blk_cell BK351.out 5).trans rfl,(blk_cell BK351.out 6).trans rfl,(blk_cell BK347.out 0).trans rfl,(blk_cell BK347.out 1).trans rfl⟩ (fun hHeld => ?_)
      clear hK K
      refine nm_ ?_
      refine pu_ 15 53 HT_ ?_
      refine pu_ 16 54 HT_ ?_
      refine pu_ 17 55 HT_ ?_
      refine px_ 18 56 HT_ ?_
      refine px_ 19 57 HT_ ?_
      refine px_ 20 58 HT_ ?_
      refine px_ 21 59 HT_ ?_
      refine px_ 22 60 HT_ ?_
      refine px_ 23 61 HT_ ?_
      refine px_ 24 62 HT_ ?_
      refine px_ 25 63 HT_ ?_
      refine pu_ 26 64 HT_ ?_
      refine pu_ 27 65 HT_ ?_
      refine px_ 28 66 HT_ ?_
      refine px_ 29 67 HT_ ?_
      refine px_ 30 68 HT_ ?_
      refine px_ 31 69 HT_ ?_
      refine px_ 32 70 HT_ ?_
      refine px_ 33 71 HT_ ?_
      refine px_ 34 72 HT_ ?_
      refine px_ 35 73 HT_ ?_
      refine pu_ 36 74 HT_ ?_
      refine pu_ 37 75 HT_ ?_
      refine px_ 38 76 HT_ ?_
      refine px_ 39 77 HT_ ?_
      refine px_ 40 78 HT_ ?_
      refine px_ 41 79 HT_ ?_
      refine px_ 42 80 HT_ ?_
      refine px_ 43 81 HT_ ?_
      refine px_ 44 82 HT_ ?_
      refine px_ 45 83 HT_ ?_
      refine px_ 46 84 HT_ ?_
      refine px_ 47 85 HT_ ?_
      refine px_ 48 86 HT_ ?_
      refine px_ 49 87 HT_ ?_
      refine px_ 50 88 HT_ ?_
      refine px_ 51 89 HT_ ?_
      refine pu_ 52 90 HT_ ?_
      refine done_ (done_of HT_.out (by kernel_rfl)) ?_
      try go_wp2
      go_ret
      exact ⟨zt_,zl_ HB⟩
     rw [if_pos c20] at H
     have c20b0 := beq_iff_eq.mpr c20
     have c20b1 := bne_eq_false_iff_eq.mpr c20
     clear c20
     by_cases c21 : 0 < (l1_1.length : Int)
     case neg =>
      rw [if_neg c21] at H
      exact absurd H (by simp)
     rw [if_pos c21] at H
     have c21b0 := decide_eq_true c21
     have c21b1 : decide (0 < l1_1.length) = true := decide_eq_true (by omega)
     clear c21
     have q354 : 0 < (l1_1.length : Int) := zo_
     obtain ⟨ad354,e354,hx354_0,hx354_1,hx354_2,hx354_3,hx354_4,hx354_5,hx354_6⟩ := at_T40 HR1_1.out 0 p354 q354
     have hw354_6 := hx354_6
     (try rw [show ((0 : Int)).toNat = 0 from rfl] at hw354_6)
     (try rw [show 0 * 7 = 0 from rfl] at hw354_6)
     (try rw [Addr.add_zero'] at hw354_6)
     have hw354_5 := hx354_5
     (try rw [show ((0 : Int)).toNat = 0 from rfl] at hw354_5)
     (try rw [show 0 * 7 = 0 from rfl] at hw354_5)
     (try rw [Addr.add_zero'] at hw354_5)
     have hw354_4 := hx354_4
     (try rw [show ((0 : Int)).toNat = 0 from rfl] at hw354_4)
     (try rw [show 0 * 7 = 0 from rfl] at hw354_4)
     (try rw [Addr.add_zero'] at hw354_4)
     have hw354_3 := hx354_3
     (try rw [show ((0 : Int)).toNat = 0 from rfl] at hw354_3)
     (try rw [show 0 * 7 = 0 from rfl] at hw354_3)
     (try rw [Addr.add_zero'] at hw354_3)
     have hw354_2 := hx354_2
     (try rw [show ((0 : Int)).toNat = 0 from rfl] at hw354_2)
     (try rw [show 0 * 7 = 0 from rfl] at hw354_2)
     (try rw [Addr.add_zero'] at hw354_2)
     have hw354_1 := hx354_1
     (try rw [show ((0 : Int)).toNat = 0 from rfl] at hw354_1)
     (try rw [show 0 * 7 = 0 from rfl] at hw354_1)
     (try rw [Addr.add_zero'] at hw354_1)
     have hw354_0 := hx354_0
     (try rw [show ((0 : Int)).toNat = 0 from rfl] at hw354_0)
     (try rw [show 0 * 7 = 0 from rfl] at hw354_0)
     (try rw [Addr.add_zero'] at hw354_0)
     obtain rfl : ad350 = ad354 := (by injection e354)
     have qi354 : (0 < l1_1.length) = True := eq_true (by omega)
     (try rw [show ((0 : Int)).toNat = 0 from rfl] at hx354_0)
     (try rw [show 0 * 7 = 0 from rfl] at hx354_0)
     (try rw [Addr.add_zero'] at hx354_0)
     (try rw [show ((0 : Int)).toNat = 0 from rfl] at hx354_1)
     (try rw [show 0 * 7 = 0 from rfl] at hx354_1)
     (try rw [Addr.add_zero'] at hx354_1)
     (try rw [show ((0 : Int)).toNat = 0 from rfl] at hx354_2)
     (try rw [show 0 * 7 = 0 from rfl] at hx354_2)
     (try rw [Addr.add_zero'] at hx354_2)
     (try rw [show ((0 : Int)).toNat = 0 from rfl] at hx354_3)
     (try rw [show 0 * 7 = 0 from rfl] at hx354_3)
     (try rw [Addr.add_zero'] at hx354_3)
     (try rw [show ((0 : Int)).toNat = 0 from rfl] at hx354_4)
     (try rw [show 0 * 7 = 0 from rfl] at hx354_4)
     (try rw [Addr.add_zero'] at hx354_4)
     (try rw [show ((0 : Int)).toNat = 0 from rfl] at hx354_5)
     (try rw [show 0 * 7 = 0 from rfl] at hx354_5)
     (try rw [Addr.add_zero'] at hx354_5)
     (try rw [show ((0 : Int)).toNat = 0 from rfl] at hx354_6)
     (try rw [show 0 * 7 = 0 from rfl] at hx354_6)
     (try rw [Addr.add_zero'] at hx354_6)
     replace hx354_0 := zx_ HB hx354_0
     replace hx354_1 := zx_ HB hx354_1
     replace hx354_2 := zx_ HB hx354_2
     replace hx354_3 := zx_ HB hx354_3
     replace hx354_4 := zx_ HB hx354_4
     replace hx354_5 := zx_ HB hx354_5
     replace hx354_6 := zx_ HB hx354_6
     replace p354 := eq_true p354
     replace q354 := eq_true q354
     have q355 : 0 < (l1_1.length : Int) := zo_
     obtain ⟨ad355,e355,hx355_0,hx355_1,hx355_2,hx355_3,hx355_4,hx355_5,hx355_6⟩ := at_T40 HR1_1.out 0 p355 q355
     have hw355_6 := hx355_6
     (try rw [show ((0 : Int)).toNat = 0 from rfl] at hw355_6)
     (try rw [show 0 * 7 = 0 from rfl] at hw355_6)
     (try rw [Addr.add_zero'] at hw355_6)
     have hw355_5 := hx355_5
     (try rw [show ((0 : Int)).toNat = 0 from rfl] at hw355_5)
     (try rw [show 0 * 7 = 0 from rfl] at hw355_5)
     (try rw [Addr.add_zero'] at hw355_5)
     have hw355_4 := hx355_4
     (try rw [show ((0 : Int)).toNat = 0 from rfl] at hw355_4)
     (try rw [show 0 * 7 = 0 from rfl] at hw355_4)
     (try rw [Addr.add_zero'] at hw355_4)
     have hw355_3 := hx355_3
     (try rw [show ((0 : Int)).toNat = 0 from rfl] at hw355_3)
     (try rw [show 0 * 7 = 0 from rfl] at hw355_3)
     (try rw [Addr.add_zero'] at hw355_3)
     have hw355_2 := hx355_2
     (try rw [show ((0 : Int)).toNat = 0 from rfl] at hw355_2)
     (try rw [show 0 * 7 = 0 from rfl] at hw355_2)
     (try rw [Addr.add_zero'] at hw355_2)
     have hw355_1 := hx355_1
     (try rw [show ((0 : Int)).toNat = 0 from rfl] at hw355_1)
     (try rw [show 0 * 7 = 0 from rfl] at hw355_1)
     (try rw [Addr.add_zero'] at hw355_1)
     have hw355_0 := hx355_0
     (try rw [show ((0 : Int)).toNat = 0 from rfl] at hw355_0)
     (try rw [show 0 * 7 = 0 from rfl] at hw355_0)
     (try rw [Addr.add_zero'] at hw355_0)
     obtain rfl : ad350 = ad355 := (by injection e355)
     have qi355 : (0 < l1_1.length) = True := eq_true (by omega)
     (try rw [show ((0 : Int)).toNat = 0 from rfl] at hx355_0)
     (try rw [show 0 * 7 = 0 from rfl] at hx355_0)
     (try rw [Addr.add_zero'] at hx355_0)
     (try rw [show ((0 : Int)).toNat = 0 from rfl] at hx355_1)
     (try rw [show 0 * 7 = 0 from rfl] at hx355_1)
     (try rw [Addr.add_zero'] at hx355_1)
     (try rw [show ((0 : Int)).toNat = 0 from rfl] at hx355_2)
     (try rw [show 0 * 7 = 0 from rfl] at hx355_2)
     (try rw [Addr.add_zero'] at hx355_2)
     (try rw [show ((0 : Int)).toNat = 0 from rfl] at hx355_3)
     (try rw [show 0 * 7 = 0 from rfl] at hx355_3)
     (try rw [Addr.add_zero'] at hx355_3)
     (try rw [show ((0 : Int)).toNat = 0 from rfl] at hx355_4)
     (try rw [show 0 * 7 = 0 from rfl] at hx355_4)
     (try rw [Addr.add_zero'] at hx355_4)
     (try rw [show ((0 : Int)).toNat = 0 from rfl] at hx355_5)
     (try rw [show 0 * 7 = 0 from rfl] at hx355_5)
     (try rw [Addr.add_zero'] at hx355_5)
     (try rw [show ((0 : Int)).toNat = 0 from rfl] at hx355_6)
     (try rw [show 0 * 7 = 0 from rfl] at hx355_6)
     (try rw [Addr.add_zero'] at hx355_6)
     replace hx355_0 := zx_ HB hx355_0
     replace hx355_1 := zx_ HB hx355_1
     replace hx355_2 := zx_ HB hx355_2
     replace hx355_3 := zx_ HB hx355_3
     replace hx355_4 := zx_ HB hx355_4
     replace hx355_5 := zx_ HB hx355_5
     replace hx355_6 := zx_ HB hx355_6
     replace p355 := eq_true p355
     replace q355 := eq_true q355
     by_cases c22 : ((rd_T40 l1_1 x5_2).f1) = ((rd_T40 l1_1 0).f1)
     case neg =>
      rw [if_neg c22] at H
      have c22b0 := beq_eq_false_iff_ne.mpr c22
      have c22b1 := bne_iff_ne.mpr c22
      obtain rfl := Option.some.inj H
      refine start_ (n := 53) (S := fun w' => w'.cell? ⟨gb351,0,none⟩ = some (.int .i64 ((rd_T40 l1_1 x5_2).f0)) ∧ w'.cell? ⟨gb351,1,none⟩ = some (.int .i64 ((rd_T40 l1_1 x5_2).f1)) ∧ w'.cell? ⟨gb351,2,none⟩ = some (.int .i64 ((rd_T40 l1_1 x5_2).f2)) ∧ w'.cell? ⟨gb351,3,none⟩ = some (.int .i64 ((rd_T40 l1_1 x5_2).f3)) ∧ w'.cell? ⟨gb351,4,none⟩ = some (.string ((rd_T40 l1_1 x5_2).f4)) ∧ w'.cell? ⟨gb351,5,none⟩ = some (.string ((rd_T40 l1_1 x5_2).f5)) ∧ w'.cell? ⟨gb351,6,none⟩ = some (.string ((rd_T40 l1_1 x5_2).f6)) ∧ w'.cell? ⟨gb347,0,none⟩ = some (.string a1_0) ∧ w'.cell? ⟨gb347,1,none⟩ = some (.slice (some ad350) l1_1.length c1_1) ∧ w'.cell? ad350 = some (.int .i64 ((rd_T40 l1_1 0).f0)) ∧ w'.cell? ⟨ad350.block,ad350.off + 1,none⟩ = some (.int .i64 ((rd_T40 l1_1 0).f1)) ∧ w'.cell? ⟨ad350.block,ad350.off + 2,none⟩ = some (.int .i64 ((rd_T40 l1_1 0).f2)) ∧ w'.cell? ⟨ad350.block,ad350.off + 3,none⟩ = some (.int .i64 ((rd_T40 l1_1 0).f3)) ∧ w'.cell? ⟨ad350.block,ad350.off + 4,none⟩ = some (.string ((rd_T40 l1_1 0).f4)) ∧ w'.cell? ⟨ad350.block,ad350.off + 5,none⟩ = some (.string ((rd_T40 l1_1 0).f5)) ∧ w'.cell? ⟨ad350.block,ad350.off + 6,none⟩ = some (.string ((rd_T40 l1_1 0).f6))) (ds := []) #[false,false,false,false,false,false,false,false,false,false,false,false,false,false,false,false,false,false,false,false,false,false,false,false,false,false,false,false,false,false,false,false,false,false,false,false,false,false,false,false,false,false,false,false,false,false,false,false,false,false,false,false,false] (by kernel_rfl) rfl rfl ⟨(blk_cell BK351.out 0).trans rfl,(blk_cell BK351.out 1).trans rfl,(blk_cell BK351.out 2).trans rfl,(blk_cell BK351.out 3).trans rfl,(blk_cell BK351.out 4).trans rfl,(blk_cell BK351.out 5).trans rfl,(blk_cell BK351.out 6).trans rfl,(blk_cell BK347.out 0).trans rfl,(blk_cell BK347.out 1).trans rfl,(zx_ HB hw354_0),(zx_ HB hw354_1),(zx_ HB hw354_2),(zx_ HB hw354_3),(zx_ HB hw354_4),(zx_ HB hw354_5),(zx_ HB hw354_6)⟩ (fun hHeld => ?_);refine with_tabW Zf.tab7 Zf.bits7 (fun HT_ HW_ => ?_)
      generalize w33.drew = w66 at BK347 BK351 HB hx354_0 hx354_1 hx354_2 hx354_3 hx354_4 hx354_5 hx354_6 hHeld ⊢
      refine pu_ 0 38 HT_ ?_
      refine tk_ 1 39 HT_ HW_ hHeld ?_
      refine pu_ 2 40 HT_ ?_
      refine pu_ 3 41 HT_ ?_
      refine pu_ 4 42 HT_ ?_
      refine tk_ 5 43 HT_ HW_ hHeld ?_
      refine zon 6 (N := some 44) HT_ (fun K hK => ?_)
      refine zgo Tryz.func24 #[.int .i64 a0,.agg #[.int .i64 ((rd_T40 l1_1 x5_2).f0),.int .i64 ((rd_T40 l1_1 x5_2).f1),.int .i64 ((rd_T40 l1_1 x5_2).f2),.int .i64 ((rd_T40 l1_1 x5_2).f3),.string ((rd_T40 l1_1 x5_2).f4),.string ((rd_T40 l1_1 x5_2).f5),.string ((rd_T40 l1_1 x5_2).f6)]] ?_
      with_reducible refine (ZF.calls k2 a0 ((rd_T40 l1_1 x5_2).f0) ((rd_T40 l1_1 x5_2).f1) ((rd_T40 l1_1 x5_2).f2) ((rd_T40 l1_1 x5_2).f3) ((rd_T40 l1_1 x5_2).f4) ((rd_T40 l1_1 x5_2).f5) ((rd_T40 l1_1 x5_2).f6) true _ A17.out).mono ?_
      rintro e w67 ⟨rfl,hb⟩
      refine ⟨_,rfl,?_⟩
      replace BK347 := zb BK347 hb
      replace BK351 := zb BK351 hb
      replace HB := zs_ HB hb
      try clear hb
      refine hK.out _ _ ⟨(blk_cell BK351.out 0).trans rfl,(blk_cell BK351.out 1).trans rfl,(blk_cell BK351.out 2).trans rfl,(blk_cell BK351.out 3).trans rfl,(blk_cell BK351.out 4).trans rfl,(blk_cell BK351.out 5).trans rfl,(blk_cell BK351.out 6).trans rfl,(blk_cell BK347.out 0).trans rfl,(blk_cell BK347.out 1).trans rfl,(zx_ HB hw354_0),(zx_ HB hw354_1),(zx_ HB hw354_2),(zx_ HB hw354_3),(zx_ HB hw354_4),(zx_ HB hw354_5),(zx_ HB hw354_6)⟩ (fun hHeld => ?_)
      clear hK K
      refine nm_ ?_
      refine pu_ 7 45 HT_ ?_
      refine pu_ 8 46 HT_ ?_
      refine pu_ 9 47 HT_ ?_
      refine pu_ 10 48 HT_ ?_
      refine pu_ 12 50 HT_ ?_
      refine tk_ 11 49 HT_ HW_ hHeld ?_
      refine tk_ 13 51 HT_ HW_ hHeld ?_
      refine zon 14 (N := some 52) HT_ (fun K hK => ?_)
      refine zgo Tryz.func25 #[.string a1_0] ?_
      with_reducible refine (ZN.calls k2 a1_0 t353 _ A19.out).mono ?_
      rintro e w68 ⟨rfl,hb⟩
      refine ⟨_,rfl,?_⟩
      replace BK347 := zb BK347 hb
      replace BK351 := zb BK351 hb
      replace HB := zs_ HB hb
      try clear hb
      refine hK.out _ _ ⟨(blk_cell BK351.out 0).trans rfl,(blk_cell BK351.out 1).trans rfl,(blk_cell BK351.out 2).trans rfl,(blk_cell BK351.out 3).trans rfl,(blk_cell BK351.out 4).trans rfl,(blk_cell BK351.out 5).trans rfl,(blk_cell BK351.out 6).trans rfl,(blk_cell BK347.out 0).trans rfl,(blk_cell BK347.out 1).trans rfl,(zx_ HB hw354_0),(zx_ HB hw354_1),(zx_ HB hw354_2),(zx_ HB hw354_3),(zx_ HB hw354_4),(zx_ HB hw354_5),(zx_ HB hw354_6)⟩ (fun hHeld => ?_)
      clear hK K
      refine nm_ ?_
      refine pu_ 15 53 HT_ ?_
      refine pu_ 16 54 HT_ ?_
      refine pu_ 17 55 HT_ ?_
      refine pu_ 18 56 HT_ ?_
      refine pu_ 20 58 HT_ ?_
      refine tk_ 19 57 HT_ HW_ hHeld ?_
      refine tk_ 21 59 HT_ HW_ hHeld ?_
      refine pu_ 22 60 HT_ ?_
      refine pu_ 23 61 HT_ ?_
      refine tk_ 24 62 HT_ HW_ hHeld ?_
      refine pu_ 25 63 HT_ ?_
      refine pu_ 26 64 HT_ ?_
      refine pu_ 27 65 HT_ ?_
      refine px_ 28 66 HT_ ?_
      refine px_ 29 67 HT_ ?_
      refine px_ 30 68 HT_ ?_
      refine px_ 31 69 HT_ ?_
      refine px_ 32 70 HT_ ?_
      refine px_ 33 71 HT_ ?_
      refine px_ 34 72 HT_ ?_
      refine px_ 35 73 HT_ ?_
      refine pu_ 36 74 HT_ ?_
      refine pu_ 37 75 HT_ ?_
      refine px_ 38 76 HT_ ?_
      refine px_ 39 77 HT_ ?_
      refine px_ 40 78 HT_ ?_
      refine px_ 41 79 HT_ ?_
      refine px_ 42 80 HT_ ?_
      refine px_ 43 81 HT_ ?_
      refine px_ 44 82 HT_ ?_
      refine px_ 45 83 HT_ ?_
      refine px_ 46 84 HT_ ?_
      refine px_ 47 85 HT_ ?_
      refine px_ 48 86 HT_ ?_
      refine px_ 49 87 HT_ ?_
      refine px_ 50 88 HT_ ?_
      refine px_ 51 89 HT_ ?_
      refine pu_ 52 90 HT_ ?_
      refine done_ (done_of HT_.out (by kernel_rfl)) ?_
      try go_wp2
      go_ret
      exact ⟨zt_,zl_ HB⟩
     rw [if_pos c22] at H
     have c22b0 := beq_iff_eq.mpr c22
     have c22b1 := bne_eq_false_iff_eq.mpr c22
     clear c22
     by_cases c23 : ((rd_T40 l1_1 x5_2).f2) = ((rd_T40 l1_1 0).f2)
     case neg =>
      rw [if_neg c23] at H
      have c23b0 := beq_eq_false_iff_ne.mpr c23
      have c23b1 := bne_iff_ne.mpr c23
      obtain rfl := Option.some.inj H
      refine start_ (n := 53) (S := fun w' => w'.cell? ⟨gb351,0,none⟩ = some (.int .i64 ((rd_T40 l1_1 x5_2).f0)) ∧ w'.cell? ⟨gb351,1,none⟩ = some (.int .i64 ((rd_T40 l1_1 x5_2).f1)) ∧ w'.cell? ⟨gb351,2,none⟩ = some (.int .i64 ((rd_T40 l1_1 x5_2).f2)) ∧ w'.cell? ⟨gb351,3,none⟩ = some (.int .i64 ((rd_T40 l1_1 x5_2).f3)) ∧ w'.cell? ⟨gb351,4,none⟩ = some (.string ((rd_T40 l1_1 x5_2).f4)) ∧ w'.cell? ⟨gb351,5,none⟩ = some (.string ((rd_T40 l1_1 x5_2).f5)) ∧ w'.cell? ⟨gb351,6,none⟩ = some (.string ((rd_T40 l1_1 x5_2).f6)) ∧ w'.cell? ⟨gb347,0,none⟩ = some (.string a1_0) ∧ w'.cell? ⟨gb347,1,none⟩ = some (.slice (some ad350) l1_1.length c1_1) ∧ w'.cell? ad350 = some (.int .i64 ((rd_T40 l1_1 0).f0)) ∧ w'.cell? ⟨ad350.block,ad350.off + 1,none⟩ = some (.int .i64 ((rd_T40 l1_1 0).f1)) ∧ w'.cell? ⟨ad350.block,ad350.off + 2,none⟩ = some (.int .i64 ((rd_T40 l1_1 0).f2)) ∧ w'.cell? ⟨ad350.block,ad350.off + 3,none⟩ = some (.int .i64 ((rd_T40 l1_1 0).f3)) ∧ w'.cell? ⟨ad350.block,ad350.off + 4,none⟩ = some (.string ((rd_T40 l1_1 0).f4)) ∧ w'.cell? ⟨ad350.block,ad350.off + 5,none⟩ = some (.string ((rd_T40 l1_1 0).f5)) ∧ w'.cell? ⟨ad350.block,ad350.off + 6,none⟩ = some (.string ((rd_T40 l1_1 0).f6)) ∧ w'.cell? ad350 = some (.int .i64 ((rd_T40 l1_1 0).f0)) ∧ w'.cell? ⟨ad350.block,ad350.off + 1,none⟩ = some (.int .i64 ((rd_T40 l1_1 0).f1)) ∧ w'.cell? ⟨ad350.block,ad350.off + 2,none⟩ = some (.int .i64 ((rd_T40 l1_1 0).f2)) ∧ w'.cell? ⟨ad350.block,ad350.off + 3,none⟩ = some (.int .i64 ((rd_T40 l1_1 0).f3)) ∧ w'.cell? ⟨ad350.block,ad350.off + 4,none⟩ = some (.string ((rd_T40 l1_1 0).f4)) ∧ w'.cell? ⟨ad350.block,ad350.off + 5,none⟩ = some (.string ((rd_T40 l1_1 0).f5)) ∧ w'.cell? ⟨ad350.block,ad350.off + 6,none⟩ = some (.string ((rd_T40 l1_1 0).f6))) (ds := []) #[false,false,false,false,false,false,false,false,false,false,false,false,false,false,false,false,false,false,false,false,false,false,false,false,false,false,false,false,false,false,false,false,false,false,false,false,false,false,false,false,false,false,false,false,false,false,false,false,false,false,false,false,false] (by kernel_rfl) rfl rfl ⟨(blk_cell BK351.out 0).trans rfl,(blk_cell BK351.out 1).trans rfl,(blk_cell BK351.out 2).trans rfl,(blk_cell BK351.out 3).trans rfl,(blk_cell BK351.out 4).trans rfl,(blk_cell BK351.out 5).trans rfl,(blk_cell BK351.out 6).trans rfl,(blk_cell BK347.out 0).trans rfl,(blk_cell BK347.out 1).trans rfl,(zx_ HB hw354_0),(zx_ HB hw354_1),(zx_ HB hw354_2),(zx_ HB hw354_3),(zx_ HB hw354_4),(zx_ HB hw354_5),(zx_ HB hw354_6),(zx_ HB hw355_0),(zx_ HB hw355_1),(zx_ HB hw355_2),(zx_ HB hw355_3),(zx_ HB hw355_4),(zx_ HB hw355_5),(zx_ HB hw355_6)⟩ (fun hHeld => ?_);refine with_tabW Zf.tab7 Zf.bits7 (fun HT_ HW_ => ?_)
      generalize w33.drew = w58 at BK347 BK351 HB hx354_0 hx354_1 hx354_2 hx354_3 hx354_4 hx354_5 hx354_6 hx355_0 hx355_1 hx355_2 hx355_3 hx355_4 hx355_5 hx355_6 hHeld ⊢
      refine pu_ 0 38 HT_ ?_
      refine tk_ 1 39 HT_ HW_ hHeld ?_
      refine pu_ 2 40 HT_ ?_
      refine pu_ 3 41 HT_ ?_
      refine pu_ 4 42 HT_ ?_
      refine tk_ 5 43 HT_ HW_ hHeld ?_
      refine zon 6 (N := some 44) HT_ (fun K hK => ?_)
      refine zgo Tryz.func24 #[.int .i64 a0,.agg #[.int .i64 ((rd_T40 l1_1 x5_2).f0),.int .i64 ((rd_T40 l1_1 x5_2).f1),.int .i64 ((rd_T40 l1_1 x5_2).f2),.int .i64 ((rd_T40 l1_1 x5_2).f3),.string ((rd_T40 l1_1 x5_2).f4),.string ((rd_T40 l1_1 x5_2).f5),.string ((rd_T40 l1_1 x5_2).f6)]] ?_
      with_reducible refine (ZF.calls k2 a0 ((rd_T40 l1_1 x5_2).f0) ((rd_T40 l1_1 x5_2).f1) ((rd_T40 l1_1 x5_2).f2) ((rd_T40 l1_1 x5_2).f3) ((rd_T40 l1_1 x5_2).f4) ((rd_T40 l1_1 x5_2).f5) ((rd_T40 l1_1 x5_2).f6) true _ A17.out).mono ?_
      rintro e w59 ⟨rfl,hb⟩
      refine ⟨_,rfl,?_⟩
      replace BK347 := zb BK347 hb
      replace BK351 := zb BK351 hb
      replace HB := zs_ HB hb
      try clear hb
      refine hK.out _ _ ⟨(blk_cell BK351.out 0).trans rfl,(blk_cell BK351.out 1).trans rfl,(blk_cell BK351.out 2).trans rfl,(blk_cell BK351.out 3).trans rfl,(blk_cell BK351.out 4).trans rfl,(blk_cell BK351.out 5).trans rfl,(blk_cell BK351.out 6).trans rfl,(blk_cell BK347.out 0).trans rfl,(blk_cell BK347.out 1).trans rfl,(zx_ HB hw354_0),(zx_ HB hw354_1),(zx_ HB hw354_2),(zx_ HB hw354_3),(zx_ HB hw354_4),(zx_ HB hw354_5),(zx_ HB hw354_6),(zx_ HB hw355_0),(zx_ HB hw355_1),(zx_ HB hw355_2),(zx_ HB hw355_3),(zx_ HB hw355_4),(zx_ HB hw355_5),(zx_ HB hw355_6)⟩ (fun hHeld => ?_)
      clear hK K
      refine nm_ ?_
      refine pu_ 7 45 HT_ ?_
      refine pu_ 8 46 HT_ ?_
      refine pu_ 9 47 HT_ ?_
      refine pu_ 10 48 HT_ ?_
      refine pu_ 12 50 HT_ ?_
      refine tk_ 11 49 HT_ HW_ hHeld ?_
      refine tk_ 13 51 HT_ HW_ hHeld ?_
      refine zon 14 (N := some 52) HT_ (fun K hK => ?_)
      refine zgo Tryz.func25 #[.string a1_0] ?_
      with_reducible refine (ZN.calls k2 a1_0 t353 _ A19.out).mono ?_
      rintro e w60 ⟨rfl,hb⟩
      refine ⟨_,rfl,?_⟩
      replace BK347 := zb BK347 hb
      replace BK351 := zb BK351 hb
      replace HB := zs_ HB hb
      try clear hb
      refine hK.out _ _ ⟨(blk_cell BK351.out 0).trans rfl,(blk_cell BK351.out 1).trans rfl,(blk_cell BK351.out 2).trans rfl,(blk_cell BK351.out 3).trans rfl,(blk_cell BK351.out 4).trans rfl,(blk_cell BK351.out 5).trans rfl,(blk_cell BK351.out 6).trans rfl,(blk_cell BK347.out 0).trans rfl,(blk_cell BK347.out 1).trans rfl,(zx_ HB hw354_0),(zx_ HB hw354_1),(zx_ HB hw354_2),(zx_ HB hw354_3),(zx_ HB hw354_4),(zx_ HB hw354_5),(zx_ HB hw354_6),(zx_ HB hw355_0),(zx_ HB hw355_1),(zx_ HB hw355_2),(zx_ HB hw355_3),(zx_ HB hw355_4),(zx_ HB hw355_5),(zx_ HB hw355_6)⟩ (fun hHeld => ?_)
      clear hK K
      refine nm_ ?_
      refine pu_ 15 53 HT_ ?_
      refine pu_ 16 54 HT_ ?_
      refine pu_ 17 55 HT_ ?_
      refine pu_ 18 56 HT_ ?_
      refine pu_ 20 58 HT_ ?_
      refine tk_ 19 57 HT_ HW_ hHeld ?_
      refine tk_ 21 59 HT_ HW_ hHeld ?_
      refine pu_ 22 60 HT_ ?_
      refine pu_ 23 61 HT_ ?_
      refine tk_ 24 62 HT_ HW_ hHeld ?_
      refine pu_ 25 63 HT_ ?_
      refine pu_ 26 64 HT_ ?_
      refine pu_ 27 65 HT_ ?_
      refine pu_ 28 66 HT_ ?_
      refine pu_ 30 68 HT_ ?_
      refine tk_ 29 67 HT_ HW_ hHeld ?_
      refine tk_ 31 69 HT_ HW_ hHeld ?_
      refine pu_ 32 70 HT_ ?_
      refine pu_ 33 71 HT_ ?_
      refine tk_ 34 72 HT_ HW_ hHeld ?_
      refine pu_ 35 73 HT_ ?_
      refine pu_ 36 74 HT_ ?_
      refine pu_ 37 75 HT_ ?_
      refine px_ 38 76 HT_ ?_
      refine px_ 39 77 HT_ ?_
      refine px_ 40 78 HT_ ?_
      refine px_ 41 79 HT_ ?_
      refine px_ 42 80 HT_ ?_
      refine px_ 43 81 HT_ ?_
      refine px_ 44 82 HT_ ?_
      refine px_ 45 83 HT_ ?_
      refine px_ 46 84 HT_ ?_
      refine px_ 47 85 HT_ ?_
      refine px_ 48 86 HT_ ?_
      refine px_ 49 87 HT_ ?_
      refine px_ 50 88 HT_ ?_
      refine px_ 51 89 HT_ ?_
      refine pu_ 52 90 HT_ ?_
      refine done_ (done_of HT_.out (by kernel_rfl)) ?_
      try go_wp2
      go_ret
      exact ⟨zt_,zl_ HB⟩
     rw [if_pos c23] at H
     have c23b0 := beq_iff_eq.mpr c23
     have c23b1 := bne_eq_false_iff_eq.mpr c23
     clear c23
     by_cases c24 : x5_2 > 0
     case neg =>
      rw [if_neg c24] at H
      have c24b0 : decide (0 < x5_2) = false := decide_eq_false c24
      clear c24
      have H' := am_ H
      clear H
      refine start_ (n := 53) (S := fun w' => w'.cell? ⟨gb351,0,none⟩ = some (.int .i64 ((rd_T40 l1_1 x5_2).f0)) ∧ w'.cell? ⟨gb351,1,none⟩ = some (.int .i64 ((rd_T40 l1_1 x5_2).f1)) ∧ w'.cell? ⟨gb351,2,none⟩ = some (.int .i64 ((rd_T40 l1_1 x5_2).f2)) ∧ w'.cell? ⟨gb351,3,none⟩ = some (.int .i64 ((rd_T40 l1_1 x5_2).f3)) ∧ w'.cell? ⟨gb351,4,none⟩ = some (.string ((rd_T40 l1_1 x5_2).f4)) ∧ w'.cell? ⟨gb351,5,none⟩ = some (.string ((rd_T40 l1_1 x5_2).f5)) ∧ w'.cell? ⟨gb351,6,none⟩ = some (.string ((rd_T40 l1_1 x5_2).f6)) ∧ w'.cell? ⟨gb347,0,none⟩ = some (.string a1_0) ∧ w'.cell? ⟨gb347,1,none⟩ = some (.slice (some ad350) l1_1.length c1_1) ∧ w'.cell? ad350 = some (.int .i64 ((rd_T40 l1_1 0).f0)) ∧ w'.cell? ⟨ad350.block,ad350.off + 1,none⟩ = some (.int .i64 ((rd_T40 l1_1 0).f1)) ∧ w'.cell? ⟨ad350.block,ad350.off + 2,none⟩ = some (.int .i64 ((rd_T40 l1_1 0).f2)) ∧ w'.cell? ⟨ad350.block,ad350.off + 3,none⟩ = some (.int .i64 ((rd_T40 l1_1 0).f3)) ∧ w'.cell? ⟨ad350.block,ad350.off + 4,none⟩ = some (.string ((rd_T40 l1_1 0).f4)) ∧ w'.cell? ⟨ad350.block,ad350.off + 5,none⟩ = some (.string ((rd_T40 l1_1 0).f5)) ∧ w'.cell? ⟨ad350.block,ad350.off + 6,none⟩ = some (.string ((rd_T40 l1_1 0).f6)) ∧ w'.cell? ad350 = some (.int .i64 ((rd_T40 l1_1 0).f0)) ∧ w'.cell? ⟨ad350.block,ad350.off + 1,none⟩ = some (.int .i64 ((rd_T40 l1_1 0).f1)) ∧ w'.cell? ⟨ad350.block,ad350.off + 2,none⟩ = some (.int .i64 ((rd_T40 l1_1 0).f2)) ∧ w'.cell? ⟨ad350.block,ad350.off + 3,none⟩ = some (.int .i64 ((rd_T40 l1_1 0).f3)) ∧ w'.cell? ⟨ad350.block,ad350.off + 4,none⟩ = some (.string ((rd_T40 l1_1 0).f4)) ∧ w'.cell? ⟨ad350.block,ad350.off + 5,none⟩ = some (.string ((rd_T40 l1_1 0).f5)) ∧ w'.cell? ⟨ad350.block,ad350.off + 6,none⟩ = some (.string ((rd_T40 l1_1 0).f6))) (ds := []) #[false,false,false,false,false,false,false,false,false,false,false,false,false,false,false,false,false,false,false,false,false,false,false,false,false,false,false,false,false,false,false,false,false,false,false,false,false,false,false,false,false,false,false,false,false,false,false,false,false,false,false,false,false] (by kernel_rfl) rfl rfl ⟨(blk_cell BK351.out 0).trans rfl,(blk_cell BK351.out 1).trans rfl,(blk_cell BK351.out 2).trans rfl,(blk_cell BK351.out 3).trans rfl,(blk_cell BK351.out 4).trans rfl,(blk_cell BK351.out 5).trans rfl,(blk_cell BK351.out 6).trans rfl,(blk_cell BK347.out 0).trans rfl,(blk_cell BK347.out 1).trans rfl,(zx_ HB hw354_0),(zx_ HB hw354_1),(zx_ HB hw354_2),(zx_ HB hw354_3),(zx_ HB hw354_4),(zx_ HB hw354_5),(zx_ HB hw354_6),(zx_ HB hw355_0),(zx_ HB hw355_1),(zx_ HB hw355_2),(zx_ HB hw355_3),(zx_ HB hw355_4),(zx_ HB hw355_5),(zx_ HB hw355_6)⟩ (fun hHeld => ?_);refine with_tabW Zf.tab7 Zf.bits7 (fun HT_ HW_ => ?_)
      generalize w33.drew = w50 at BK347 BK351 HB hx354_0 hx354_1 hx354_2 hx354_3 hx354_4 hx354_5 hx354_6 hx355_0 hx355_1 hx355_2 hx355_3 hx355_4 hx355_5 hx355_6 hHeld ⊢
      refine pu_ 0 38 HT_ ?_
      refine tk_ 1 39 HT_ HW_ hHeld ?_
      refine pu_ 2 40 HT_ ?_
      refine pu_ 3 41 HT_ ?_
      refine pu_ 4 42 HT_ ?_
      refine tk_ 5 43 HT_ HW_ hHeld ?_
      refine zon 6 (N := some 44) HT_ (fun K hK => ?_)
      refine zgo Tryz.func24 #[.int .i64 a0,.agg #[.int .i64 ((rd_T40 l1_1 x5_2).f0),.int .i64 ((rd_T40 l1_1 x5_2).f1),.int .i64 ((rd_T40 l1_1 x5_2).f2),.int .i64 ((rd_T40 l1_1 x5_2).f3),.string ((rd_T40 l1_1 x5_2).f4),.string ((rd_T40 l1_1 x5_2).f5),.string ((rd_T40 l1_1 x5_2).f6)]] ?_
      with_reducible refine (ZF.calls k2 a0 ((rd_T40 l1_1 x5_2).f0) ((rd_T40 l1_1 x5_2).f1) ((rd_T40 l1_1 x5_2).f2) ((rd_T40 l1_1 x5_2).f3) ((rd_T40 l1_1 x5_2).f4) ((rd_T40 l1_1 x5_2).f5) ((rd_T40 l1_1 x5_2).f6) true _ A17.out).mono ?_
      rintro e w51 ⟨rfl,hb⟩
      refine ⟨_,rfl,?_⟩
      replace BK347 := zb BK347 hb
      replace BK351 := zb BK351 hb
      replace HB := zs_ HB hb
      try clear hb
      refine hK.out _ _ ⟨(blk_cell BK351.out 0).trans rfl,(blk_cell BK351.out 1).trans rfl,(blk_cell BK351.out 2).trans rfl,(blk_cell BK351.out 3).trans rfl,(blk_cell BK351.out 4).trans rfl,(blk_cell BK351.out 5).trans rfl,(blk_cell BK351.out 6).trans rfl,(blk_cell BK347.out 0).trans rfl,(blk_cell BK347.out 1).trans rfl,(zx_ HB hw354_0),(zx_ HB hw354_1),(zx_ HB hw354_2),(zx_ HB hw354_3),(zx_ HB hw354_4),(zx_ HB hw354_5),(zx_ HB hw354_6),(zx_ HB hw355_0),(zx_ HB hw355_1),(zx_ HB hw355_2),(zx_ HB hw355_3),(zx_ HB hw355_4),(zx_ HB hw355_5),(zx_ HB hw355_6)⟩ (fun hHeld => ?_)
      clear hK K
      refine nm_ ?_
      refine pu_ 7 45 HT_ ?_
      refine pu_ 8 46 HT_ ?_
      refine pu_ 9 47 HT_ ?_
      refine pu_ 10 48 HT_ ?_
      refine pu_ 12 50 HT_ ?_
      refine tk_ 11 49 HT_ HW_ hHeld ?_
      refine tk_ 13 51 HT_ HW_ hHeld ?_
      refine zon 14 (N := some 52) HT_ (fun K hK => ?_)
      refine zgo Tryz.func25 #[.string a1_0] ?_
      with_reducible refine (ZN.calls k2 a1_0 t353 _ A19.out).mono ?_
      rintro e w52 ⟨rfl,hb⟩
      refine ⟨_,rfl,?_⟩
      replace BK347 := zb BK347 hb
      replace BK351 := zb BK351 hb
      replace HB := zs_ HB hb
      try clear hb
      refine hK.out _ _ ⟨(blk_cell BK351.out 0).trans rfl,(blk_cell BK351.out 1).trans rfl,(blk_cell BK351.out 2).trans rfl,(blk_cell BK351.out 3).trans rfl,(blk_cell BK351.out 4).trans rfl,(blk_cell BK351.out 5).trans rfl,(blk_cell BK351.out 6).trans rfl,(blk_cell BK347.out 0).trans rfl,(blk_cell BK347.out 1).trans rfl,(zx_ HB hw354_0),(zx_ HB hw354_1),(zx_ HB hw354_2),(zx_ HB hw354_3),(zx_ HB hw354_4),(zx_ HB hw354_5),(zx_ HB hw354_6),(zx_ HB hw355_0),(zx_ HB hw355_1),(zx_ HB hw355_2),(zx_ HB hw355_3),(zx_ HB hw355_4),(zx_ HB hw355_5),(zx_ HB hw355_6)⟩ (fun hHeld => ?_)
      clear hK K
      refine nm_ ?_
      refine pu_ 15 53 HT_ ?_
      refine pu_ 16 54 HT_ ?_
      refine pu_ 17 55 HT_ ?_
      refine pu_ 18 56 HT_ ?_
      refine pu_ 20 58 HT_ ?_
      refine tk_ 19 57 HT_ HW_ hHeld ?_
      refine tk_ 21 59 HT_ HW_ hHeld ?_
      refine pu_ 22 60 HT_ ?_
      refine pu_ 23 61 HT_ ?_
      refine tk_ 24 62 HT_ HW_ hHeld ?_
      refine pu_ 25 63 HT_ ?_
      refine pu_ 26 64 HT_ ?_
      refine pu_ 27 65 HT_ ?_
      refine pu_ 28 66 HT_ ?_
      refine pu_ 30 68 HT_ ?_
      refine tk_ 29 67 HT_ HW_ hHeld ?_
      refine tk_ 31 69 HT_ HW_ hHeld ?_
      refine pu_ 32 70 HT_ ?_
      refine pu_ 33 71 HT_ ?_
      refine tk_ 34 72 HT_ HW_ hHeld ?_
      refine pu_ 35 73 HT_ ?_
      refine pu_ 36 74 HT_ ?_
      refine pu_ 37 75 HT_ ?_
      refine pu_ 38 76 HT_ ?_
      refine pu_ 39 77 HT_ ?_
      refine pu_ 40 78 HT_ ?_
      refine px_ 41 79 HT_ ?_
      refine px_ 42 80 HT_ ?_
      refine px_ 43 81 HT_ ?_
      refine px_ 44 82 HT_ ?_
      refine px_ 45 83 HT_ ?_
      refine px_ 46 84 HT_ ?_
      refine px_ 47 85 HT_ ?_
      refine px_ 48 86 HT_ ?_
      refine px_ 49 87 HT_ ?_
      refine px_ 50 88 HT_ ?_
      refine pu_ 51 89 HT_ ?_
      refine pu_ 52 90 HT_ ?_
      refine done_ (done_of HT_.out (by kernel_rfl)) ?_
      try go_wp2
      go_roundg k2
      case measure => have := HJ2.out;have := HK2.out;omega
      case rel => exact ⟨(wrap64 (x5_2 + 1)),(by first | rfl | (simp;done) | (simp [*];done)),H',⟨by have := HJ2.out;have := HK2.out;omega⟩,⟨by (with_reducible repeat (first | apply k1_ | apply k2_ | apply k3_));exact BK347.out⟩,⟨zl_ HB⟩⟩
     rw [if_pos c24] at H
     have c24b0 : decide (0 < x5_2) = true := decide_eq_true c24
     clear c24
     obtain ⟨ji25,hji25⟩ : ∃ j_ : Int,(wrap64 (x5_2 - 1)) = j_ := ⟨_,rfl⟩
     replace H : (if 0 ≤ (ji25) then (if (ji25) < (l1_1.length : Int) then (if ((rd_T40 l1_1 (ji25)).f3) ≥ ((rd_T40 l1_1 x5_2).f3) then (some false) else (Zf.l0 k2 a0 (wrap64 (x5_2 + 1)) a1_0 l1_1)) else (none)) else (none)) = some r := by first | (rw [hji25] at H;exact H) | (simp only [hji25] at H ⊢;exact H)
     (try rw [hji25] at A17)
     (try rw [hji25] at A19)
     have hji25w : (IntKind.i64.wrap (x5_2 - 1)) = ji25 := (i64_w _).trans hji25
     by_cases c26 : 0 ≤ (ji25)
     case neg =>
      rw [if_neg c26] at H
      exact absurd H (by simp)
     rw [if_pos c26] at H
     have c26b0 := decide_eq_true c26
     clear c26
     by_cases c27 : (ji25) < (l1_1.length : Int)
     case neg =>
      rw [if_neg c27] at H
      exact absurd H (by simp)
     rw [if_pos c27] at H
     have c27b0 := decide_eq_true c27
     clear c27
     have p356 : 0 ≤ ((ji25) : Int) := zo_
     have q356 : (ji25) < (l1_1.length : Int) := zo_
     obtain ⟨ad356,e356,hx356_0,hx356_1,hx356_2,hx356_3,hx356_4,hx356_5,hx356_6⟩ := at_T40 HR1_1.out (ji25) p356 q356
     have hw356_6 := hx356_6
     have hw356_5 := hx356_5
     have hw356_4 := hx356_4
     have hw356_3 := hx356_3
     have hw356_2 := hx356_2
     have hw356_1 := hx356_1
     have hw356_0 := hx356_0
     obtain rfl : ad350 = ad356 := (by injection e356)
     replace hx356_0 := zx_ HB hx356_0
     replace hx356_1 := zx_ HB hx356_1
     replace hx356_2 := zx_ HB hx356_2
     replace hx356_3 := zx_ HB hx356_3
     replace hx356_4 := zx_ HB hx356_4
     replace hx356_5 := zx_ HB hx356_5
     replace hx356_6 := zx_ HB hx356_6
     replace p356 := eq_true p356
     replace q356 := eq_true q356
     refine start_ (n := 53) (S := fun w' => w'.cell? ⟨gb351,0,none⟩ = some (.int .i64 ((rd_T40 l1_1 x5_2).f0)) ∧ w'.cell? ⟨gb351,1,none⟩ = some (.int .i64 ((rd_T40 l1_1 x5_2).f1)) ∧ w'.cell? ⟨gb351,2,none⟩ = some (.int .i64 ((rd_T40 l1_1 x5_2).f2)) ∧ w'.cell? ⟨gb351,3,none⟩ = some (.int .i64 ((rd_T40 l1_1 x5_2).f3)) ∧ w'.cell? ⟨gb351,4,none⟩ = some (.string ((rd_T40 l1_1 x5_2).f4)) ∧ w'.cell? ⟨gb351,5,none⟩ = some (.string ((rd_T40 l1_1 x5_2).f5)) ∧ w'.cell? ⟨gb351,6,none⟩ = some (.string ((rd_T40 l1_1 x5_2).f6)) ∧ w'.cell? ⟨gb347,0,none⟩ = some (.string a1_0) ∧ w'.cell? ⟨gb347,1,none⟩ = some (.slice (some ad350) l1_1.length c1_1) ∧ w'.cell? ad350 = some (.int .i64 ((rd_T40 l1_1 0).f0)) ∧ w'.cell? ⟨ad350.block,ad350.off + 1,none⟩ = some (.int .i64 ((rd_T40 l1_1 0).f1)) ∧ w'.cell? ⟨ad350.block,ad350.off + 2,none⟩ = some (.int .i64 ((rd_T40 l1_1 0).f2)) ∧ w'.cell? ⟨ad350.block,ad350.off + 3,none⟩ = some (.int .i64 ((rd_T40 l1_1 0).f3)) ∧ w'.cell? ⟨ad350.block,ad350.off + 4,none⟩ = some (.string ((rd_T40 l1_1 0).f4)) ∧ w'.cell? ⟨ad350.block,ad350.off + 5,none⟩ = some (.string ((rd_T40 l1_1 0).f5)) ∧ w'.cell? ⟨ad350.block,ad350.off + 6,none⟩ = some (.string ((rd_T40 l1_1 0).f6)) ∧ w'.cell? ad350 = some (.int .i64 ((rd_T40 l1_1 0).f0)) ∧ w'.cell? ⟨ad350.block,ad350.off + 1,none⟩ = some (.int .i64 ((rd_T40 l1_1 0).f1)) ∧ w'.cell? ⟨ad350.block,ad350.off + 2,none⟩ = some (.int .i64 ((rd_T40 l1_1 0).f2)) ∧ w'.cell? ⟨ad350.block,ad350.off + 3,none⟩ = some (.int .i64 ((rd_T40 l1_1 0).f3)) ∧ w'.cell? ⟨ad350.block,ad350.off + 4,none⟩ = some (.string ((rd_T40 l1_1 0).f4)) ∧ w'.cell? ⟨ad350.block,ad350.off + 5,none⟩ = some (.string ((rd_T40 l1_1 0).f5)) ∧ w'.cell? ⟨ad350.block,ad350.off + 6,none⟩ = some (.string ((rd_T40 l1_1 0).f6)) ∧ w'.cell? (ad350.add (((ji25)).toNat * 7)) = some (.int .i64 ((rd_T40 l1_1 (ji25)).f0)) ∧ w'.cell? ⟨(ad350.add (((ji25)).toNat * 7)).block,(ad350.add (((ji25)).toNat * 7)).off + 1,none⟩ = some (.int .i64 ((rd_T40 l1_1 (ji25)).f1)) ∧ w'.cell? ⟨(ad350.add (((ji25)).toNat * 7)).block,(ad350.add (((ji25)).toNat * 7)).off + 2,none⟩ = some (.int .i64 ((rd_T40 l1_1 (ji25)).f2)) ∧ w'.cell? ⟨(ad350.add (((ji25)).toNat * 7)).block,(ad350.add (((ji25)).toNat * 7)).off + 3,none⟩ = some (.int .i64 ((rd_T40 l1_1 (ji25)).f3)) ∧ w'.cell? ⟨(ad350.add (((ji25)).toNat * 7)).block,(ad350.add (((ji25)).toNat * 7)).off + 4,none⟩ = some (.string ((rd_T40 l1_1 (ji25)).f4)) ∧ w'.cell? ⟨(ad350.add (((ji25)).toNat * 7)).block,(ad350.add (((ji25)).toNat * 7)).off + 5,none⟩ = some (.string ((rd_T40 l1_1 (ji25)).f5)) ∧ w'.cell? ⟨(ad350.add (((ji25)).toNat * 7)).block,(ad350.add (((ji25)).toNat * 7)).off + 6,none⟩ = some (.string ((rd_T40 l1_1 (ji25)).f6))) (ds := []) #[false,false,false,false,false,false,false,false,false,false,false,false,false,false,false,false,false,false,false,false,false,false,false,false,false,false,false,false,false,false,false,false,false,false,false,false,false,false,false,false,false,false,false,false,false,false,false,false,false,false,false,false,false] (by kernel_rfl) rfl rfl ⟨(blk_cell BK351.out 0).trans rfl,(blk_cell BK351.out 1).trans rfl,(blk_cell BK351.out 2).trans rfl,(blk_cell BK351.out 3).trans rfl,(blk_cell BK351.out 4).trans rfl,(blk_cell BK351.out 5).trans rfl,(blk_cell BK351.out 6).trans rfl,(blk_cell BK347.out 0).trans rfl,(blk_cell BK347.out 1).trans rfl,(zx_ HB hw354_0),(zx_ HB hw354_1),(zx_ HB hw354_2),(zx_ HB hw354_3),(zx_ HB hw354_4),(zx_ HB hw354_5),(zx_ HB hw354_6),(zx_ HB hw355_0),(zx_ HB hw355_1),(zx_ HB hw355_2),(zx_ HB hw355_3),(zx_ HB hw355_4),(zx_ HB hw355_5),(zx_ HB hw355_6),(zx_ HB hw356_0),(zx_ HB hw356_1),(zx_ HB hw356_2),(zx_ HB hw356_3),(zx_ HB hw356_4),(zx_ HB hw356_5),(zx_ HB hw356_6)⟩ (fun hHeld => ?_);refine with_tabW Zf.tab7 Zf.bits7 (fun HT_ HW_ => ?_)
     generalize w33.drew = w34 at BK347 BK351 HB hx354_0 hx354_1 hx354_2 hx354_3 hx354_4 hx354_5 hx354_6 hx355_0 hx355_1 hx355_2 hx355_3 hx355_4 hx355_5 hx355_6 hx356_0 hx356_1 hx356_2 hx356_3 hx356_4 hx356_5 hx356_6 hHeld ⊢
     refine pu_ 0 38 HT_ ?_
     refine tk_ 1 39 HT_ HW_ hHeld ?_
     refine pu_ 2 40 HT_ ?_
     refine pu_ 3 41 HT_ ?_
     refine pu_ 4 42 HT_ ?_
     refine tk_ 5 43 HT_ HW_ hHeld ?_
     refine zon 6 (N := some 44) HT_ (fun K hK => ?_)
     refine zgo Tryz.func24 #[.int .i64 a0,.agg #[.int .i64 ((rd_T40 l1_1 x5_2).f0),.int .i64 ((rd_T40 l1_1 x5_2).f1),.int .i64 ((rd_T40 l1_1 x5_2).f2),.int .i64 ((rd_T40 l1_1 x5_2).f3),.string ((rd_T40 l1_1 x5_2).f4),.string ((rd_T40 l1_1 x5_2).f5),.string ((rd_T40 l1_1 x5_2).f6)]] ?_
     with_reducible refine (ZF.calls k2 a0 ((rd_T40 l1_1 x5_2).f0) ((rd_T40 l1_1 x5_2).f1) ((rd_T40 l1_1 x5_2).f2) ((rd_T40 l1_1 x5_2).f3) ((rd_T40 l1_1 x5_2).f4) ((rd_T40 l1_1 x5_2).f5) ((rd_T40 l1_1 x5_2).f6) true _ A17.out).mono ?_
     rintro e w35 ⟨rfl,hb⟩
     refine ⟨_,rfl,?_⟩
     replace BK347 := zb BK347 hb
     replace BK351 := zb BK351 hb
     replace HB := zs_ HB hb
     try clear hb
     refine hK.out _ _ ⟨(blk_cell BK351.out 0).trans rfl,(blk_cell BK351.out 1).trans rfl,(blk_cell BK351.out 2).trans rfl,(blk_cell BK351.out 3).trans rfl,(blk_cell BK351.out 4).trans rfl,(blk_cell BK351.out 5).trans rfl,(blk_cell BK351.out 6).trans rfl,(blk_cell BK347.out 0).trans rfl,(blk_cell BK347.out 1).trans rfl,(zx_ HB hw354_0),(zx_ HB hw354_1),(zx_ HB hw354_2),(zx_ HB hw354_3),(zx_ HB hw354_4),(zx_ HB hw354_5),(zx_ HB hw354_6),(zx_ HB hw355_0),(zx_ HB hw355_1),(zx_ HB hw355_2),(zx_ HB hw355_3),(zx_ HB hw355_4),(zx_ HB hw355_5),(zx_ HB hw355_6),(zx_ HB hw356_0),(zx_ HB hw356_1),(zx_ HB hw356_2),(zx_ HB hw356_3),(zx_ HB hw356_4),(zx_ HB hw356_5),(zx_ HB hw356_6)⟩ (fun hHeld => ?_)
     clear hK K
     refine nm_ ?_
     refine pu_ 7 45 HT_ ?_
     refine pu_ 8 46 HT_ ?_
     refine pu_ 9 47 HT_ ?_
     refine pu_ 10 48 HT_ ?_
     refine pu_ 12 50 HT_ ?_
     refine tk_ 11 49 HT_ HW_ hHeld ?_
     refine tk_ 13 51 HT_ HW_ hHeld ?_
     refine zon 14 (N := some 52) HT_ (fun K hK => ?_)
     refine zgo Tryz.func25 #[.string a1_0] ?_
     with_reducible refine (ZN.calls k2 a1_0 t353 _ A19.out).mono ?_
     rintro e w36 ⟨rfl,hb⟩
     refine ⟨_,rfl,?_⟩
     replace BK347 := zb BK347 hb
     replace BK351 := zb BK351 hb
     replace HB := zs_ HB hb
     try clear hb
     refine hK.out _ _ ⟨(blk_cell BK351.out 0).trans rfl,(blk_cell BK351.out 1).trans rfl,(blk_cell BK351.out 2).trans rfl,(blk_cell BK351.out 3).trans rfl,(blk_cell BK351.out 4).trans rfl,(blk_cell BK351.out 5).trans rfl,(blk_cell BK351.out 6).trans rfl,(blk_cell BK347.out 0).trans rfl,(blk_cell BK347.out 1).trans rfl,(zx_ HB hw354_0),(zx_ HB hw354_1),(zx_ HB hw354_2),(zx_ HB hw354_3),(zx_ HB hw354_4),(zx_ HB hw354_5),(zx_ HB hw354_6),(zx_ HB hw355_0),(zx_ HB hw355_1),(zx_ HB hw355_2),(zx_ HB hw355_3),(zx_ HB hw355_4),(zx_ HB hw355_5),(zx_ HB hw355_6),(zx_ HB hw356_0),(zx_ HB hw356_1),(zx_ HB hw356_2),(zx_ HB hw356_3),(zx_ HB hw356_4),(zx_ HB hw356_5),(zx_ HB hw356_6)⟩ (fun hHeld => ?_)
     clear hK K
     refine nm_ ?_
     by_cases c28 : ((rd_T40 l1_1 (ji25)).f3) ≥ ((rd_T40 l1_1 x5_2).f3)
     ·rw [if_pos c28] at H
      have c28b0 : decide (((rd_T40 l1_1 x5_2).f3) ≤ ((rd_T40 l1_1 (ji25)).f3)) = true := decide_eq_true c28
      clear c28
      obtain rfl := Option.some.inj H
      refine pu_ 15 53 HT_ ?_
      refine pu_ 16 54 HT_ ?_
      refine pu_ 17 55 HT_ ?_
      refine pu_ 18 56 HT_ ?_
      refine pu_ 20 58 HT_ ?_
      refine tk_ 19 57 HT_ HW_ hHeld ?_
      refine tk_ 21 59 HT_ HW_ hHeld ?_
      refine pu_ 22 60 HT_ ?_
      refine pu_ 23 61 HT_ ?_
      refine tk_ 24 62 HT_ HW_ hHeld ?_
      refine pu_ 25 63 HT_ ?_
      refine pu_ 26 64 HT_ ?_
      refine pu_ 27 65 HT_ ?_
      refine pu_ 28 66 HT_ ?_
      refine pu_ 30 68 HT_ ?_
      refine tk_ 29 67 HT_ HW_ hHeld ?_
      refine tk_ 31 69 HT_ HW_ hHeld ?_
      refine pu_ 32 70 HT_ ?_
      refine pu_ 33 71 HT_ ?_
      refine tk_ 34 72 HT_ HW_ hHeld ?_
      refine pu_ 35 73 HT_ ?_
      refine pu_ 36 74 HT_ ?_
      refine pu_ 37 75 HT_ ?_
      refine pu_ 38 76 HT_ ?_
      refine pu_ 39 77 HT_ ?_
      refine pu_ 40 78 HT_ ?_
      refine pu_ 41 79 HT_ ?_
      refine pu_ 43 81 HT_ ?_
      refine pu_ 44 82 HT_ ?_
      refine pu_ 48 86 HT_ ?_
      refine tk_ 42 80 HT_ HW_ hHeld ?_
      refine pu_ 45 83 HT_ ?_
      refine pu_ 46 84 HT_ ?_
      refine tk_ 47 85 HT_ HW_ hHeld ?_
      refine tk_ 49 87 HT_ HW_ hHeld ?_
      refine pu_ 50 88 HT_ ?_
      refine pu_ 51 89 HT_ ?_
      refine pu_ 52 90 HT_ ?_
      refine done_ (done_of HT_.out (by kernel_rfl)) ?_
      try go_wp2
      go_ret
      exact ⟨by first | rfl | (simp [e1_,e2_] <;> rfl) | (simp only [← hji25];first | rfl | (simp [e1_,e2_] <;> rfl)) | (simp [*,e1_,e2_] <;> rfl) | (simp [e3_,e4_];done) | (simp [*,e3_,e4_];done),zl_ HB⟩
     rw [if_neg c28] at H
     have c28b0 : decide (((rd_T40 l1_1 x5_2).f3) ≤ ((rd_T40 l1_1 (ji25)).f3)) = false := decide_eq_false c28
     clear c28
     have H' := am_ H
     clear H
     refine pu_ 15 53 HT_ ?_
     refine pu_ 16 54 HT_ ?_
     refine pu_ 17 55 HT_ ?_
     refine pu_ 18 56 HT_ ?_
     refine pu_ 20 58 HT_ ?_
     refine tk_ 19 57 HT_ HW_ hHeld ?_
     refine tk_ 21 59 HT_ HW_ hHeld ?_
     refine pu_ 22 60 HT_ ?_
     refine pu_ 23 61 HT_ ?_
     refine tk_ 24 62 HT_ HW_ hHeld ?_
     refine pu_ 25 63 HT_ ?_
     refine pu_ 26 64 HT_ ?_
     refine pu_ 27 65 HT_ ?_
     refine pu_ 28 66 HT_ ?_
     refine pu_ 30 68 HT_ ?_
     refine tk_ 29 67 HT_ HW_ hHeld ?_
     refine tk_ 31 69 HT_ HW_ hHeld ?_
     refine pu_ 32 70 HT_ ?_
     refine pu_ 33 71 HT_ ?_
     refine tk_ 34 72 HT_ HW_ hHeld ?_
     refine pu_ 35 73 HT_ ?_
     refine pu_ 36 74 HT_ ?_
     refine pu_ 37 75 HT_ ?_
     refine pu_ 38 76 HT_ ?_
     refine pu_ 39 77 HT_ ?_
     refine pu_ 40 78 HT_ ?_
     refine pu_ 41 79 HT_ ?_
     refine pu_ 43 81 HT_ ?_
     refine pu_ 44 82 HT_ ?_
     refine pu_ 48 86 HT_ ?_
     refine tk_ 42 80 HT_ HW_ hHeld ?_
     refine pu_ 45 83 HT_ ?_
     refine pu_ 46 84 HT_ ?_
     refine tk_ 47 85 HT_ HW_ hHeld ?_
     refine tk_ 49 87 HT_ HW_ hHeld ?_
     refine pu_ 50 88 HT_ ?_
     refine pu_ 51 89 HT_ ?_
     refine pu_ 52 90 HT_ ?_
     refine done_ (done_of HT_.out (by kernel_rfl)) ?_
     try go_wp2
     go_roundg k2
     case measure => have := HJ2.out;have := HK2.out;omega
     case rel => exact ⟨(wrap64 (x5_2 + 1)),(by first | rfl | (simp;done) | (simp [*];done)),H',⟨by have := HJ2.out;have := HK2.out;omega⟩,⟨by (with_reducible repeat (first | apply k1_ | apply k2_ | apply k3_));exact BK347.out⟩,⟨zl_ HB⟩⟩
theorem Yh.calls (k : Nat) (a0 : Int) (a1_0 : ByteArray) (A1_1 : Option Addr) (c1_1 : Nat) (l1_1 : List (S40)) (r : Bool) (w : World) (hr1_1 : Kd.C k40 w A1_1 l1_1.length l1_1) (hc1_1 : l1_1.length ≤ c1_1) (h : Yh.f k a0 a1_0 l1_1 = some r) :
  Calls Tryz.prog 5 #[.int .i64 a0,.agg #[.string a1_0,.slice A1_1 l1_1.length c1_1]] w fun e w' => e = .returned (.bool r) ∧ Below w.heap.size w w' := by
 have hu29 := Tryz.underlying29
 have HR1_1 := am_ hr1_1
 have HC1_1 := am_ hc1_1
 clear hr1_1 hc1_1
 have HB := am_ (Below.refl w.heap.size w)
 have H : ((Yc.f a0).bind fun t358 => (if t358 = true then ((Zf.f k a0 a1_0 l1_1).bind fun t359 => (some t359)) else (some false))) = some r := h
 clear h
 replace H := Option.bind_eq_some_iff.mp H
 obtain ⟨t358,A30,H⟩ := H
 try dsimp only at H
 have A3 := am_ A30
 clear A30
 by_cases c4 : t358 = true
 case neg =>
  replace c4 := Bool.eq_false_iff.mpr c4
  subst c4
  rw [if_neg (show ¬ (false = true) by decide)] at H
  obtain rfl := Option.some.inj H
  go_enter Tryz.func5,Tryz.ntmps5
  go_wp2_with (first | ((with_reducible refine gate_dst (N := 3) rfl ?_);refine zbx (N := 3) (cs := #[.string a1_0,.slice A1_1 l1_1.length c1_1]) (t := 29) ?_;intro gb357 hg w9 hbox hb;have GW357 := zw_ HB hg;have GE357 := zw_ HB hg;replace HB := zs_ HB hb;clear hb hbox hg) | ((with_reducible refine gate_callee (f := 10) rfl ?_);refine zgl (some 6) Tryz.func10 #[.int .i64 a0] ?_;(with_reducible refine (Yc.calls a0 false _ A3.out).mono ?_);rintro e w' ⟨rfl,⟨nd,rfl⟩⟩;refine ⟨_,rfl,?_⟩))
  go_ret
  exact ⟨zt_,zl_ HB⟩
 subst c4
 rw [if_pos rfl] at H
 replace H := Option.bind_eq_some_iff.mp H
 obtain ⟨t359,A50,H⟩ := H
 try dsimp only at H
 have A5 := am_ A50
 clear A50
 obtain rfl := Option.some.inj H
 go_enter Tryz.func5,Tryz.ntmps5
 go_wp2_with (first | ((with_reducible refine gate_dst (N := 3) rfl ?_);refine zbx (N := 3) (cs := #[.string a1_0,.slice A1_1 l1_1.length c1_1]) (t := 29) ?_;intro gb357 hg w6 hbox hb;have BK357 := am_ (hbox);have GW357 := zw_ HB hg;have GE357 := zw_ HB hg;replace HB := zs_ HB hb;clear hb hbox hg) | ((with_reducible refine gate_callee (f := 10) rfl ?_);refine zgl (some 6) Tryz.func10 #[.int .i64 a0] ?_;(with_reducible refine (Yc.calls a0 true _ A3.out).mono ?_);rintro e w' ⟨rfl,⟨nd,rfl⟩⟩;refine ⟨_,rfl,?_⟩;obtain ⟨hcz7_0,hcz7_1,hfz7_0,hfz7_1⟩ := zc2 BK357) | (go_at_call 11;(with_reducible refine (Zf.calls k a0 a1_0 _ _ l1_1 t359 _ ?side1 ?side2 A5.out).mono ?_);(case side1 => repeat (first | exact (Kd.C_below HR1_1.out (zl_ HB)) | (with_reducible refine Kd.C_alloc ?_ _) | (with_reducible refine Kd.C_drewN ?_ _) | (with_reducible refine Kd.C_drew ?_)));(case side2 => exact HC1_1.out);rintro e w8 ⟨rfl,hb⟩;replace HB := zs_ HB hb;(try clear hb)))
 go_ret
 exact ⟨zt_,zl_ HB⟩
theorem ZQ.calls (k : Nat) (a0 : Int) (a1_0 : ByteArray) (A1_1 : Option Addr) (c1_1 : Nat) (l1_1 : List (S46)) (r : Bool) (w : World) (hr1_1 : Kd.C k46 w A1_1 l1_1.length l1_1) (hc1_1 : l1_1.length ≤ c1_1) (hL : Laid w) (h : ZQ.f k a0 a1_0 l1_1 = some r) :
  Calls Tryz.prog 3 #[.int .i64 a0,.agg #[.string a1_0,.slice A1_1 l1_1.length c1_1]] w fun e w' => e = .returned (.bool r) ∧ Below w.heap.size w w' := by
 have hu24 := Tryz.underlying24
 have hu29 := Tryz.underlying29
 have HR1_1 := am_ hr1_1
 have HC1_1 := am_ hc1_1
 clear hr1_1 hc1_1
 have HLD := am_ hL
 clear hL
 have HB := am_ (Below.refl w.heap.size w)
 have H : ((Yf.f k a1_0 l1_1 1048576).bind fun t560 => (if t560 < 0 then (some true) else ((ZP.f k a1_0 l1_1).bind fun bt561 => ((Yh.f k a0 bt561.1 bt561.2).bind fun t565 => ((ZP.f k a1_0 l1_1).bind fun bt566 => ((Zw.f k a0 bt566.1 bt566.2).bind fun t571 => (if (t571 != t565) = true then (some false) else ((ZP.f k a1_0 l1_1).bind fun bt572 => ((Ym.f k bt566.1 bt566.2 bt572.1 bt572.2).bind fun t576 => (if t576 = true then (some true) else (some false))))))))))) = some r := h
 clear h
 replace H := Option.bind_eq_some_iff.mp H
 obtain ⟨t560,A30,H⟩ := H
 try dsimp only at H
 have A3 := am_ A30
 clear A30
 by_cases c4 : t560 < 0
 ·rw [if_pos c4] at H
  have c4b0 := decide_eq_true c4
  clear c4
  obtain rfl := Option.some.inj H
  go_enter Tryz.func3,Tryz.ntmps3
  go_wp2_with (first | ((with_reducible refine gate_dst (N := 3) rfl ?_);refine zbx (N := 3) (cs := #[.string a1_0,.slice A1_1 l1_1.length c1_1]) (t := 24) ?_;intro gb559 hg w5 hbox hb;have BK559 := am_ (hbox);have GW559 := zw_ HB hg;have GE559 := zw_ HB hg;replace HB := zs_ HB hb;clear hb hbox hg;obtain ⟨hcz6_0,hcz6_1,hfz6_0,hfz6_1⟩ := zc2 BK559) | ((with_reducible refine gate_callee (f := 4) rfl ?_);refine zgl (some 11) Tryz.func4 #[.agg #[.string a1_0,.slice A1_1 l1_1.length c1_1],.int .i64 1048576] ?_;(with_reducible refine (Yf.calls k a1_0 _ _ l1_1 1048576 t560 _ ?side1 ?side2 A3.out).mono ?_);(case side1 => exact zc_ HR1_1 HB);(case side2 => exact HC1_1.out);rintro e w7 ⟨rfl,hb⟩;refine ⟨_,rfl,?_⟩;replace BK559 := zb BK559 hb;replace HB := zs_ HB hb;(try clear hb)))
  go_ret
  exact ⟨zt_,zl_ HB⟩
 rw [if_neg c4] at H
 have c4b0 := decide_eq_false c4
 clear c4
 replace H := Option.bind_eq_some_iff.mp H
 obtain ⟨⟨t561,t562⟩,A80,H⟩ := H
 try dsimp only at H
 have A8 := am_ A80
 clear A80
 replace H := Option.bind_eq_some_iff.mp H
 obtain ⟨t565,A90,H⟩ := H
 try dsimp only at H
 have A9 := am_ A90
 clear A90
 replace H := Option.bind_eq_some_iff.mp H
 obtain ⟨⟨t566,t567⟩,A100,H⟩ := H
 try dsimp only at H
 have A10 := am_ A100
 clear A100
 replace H := Option.bind_eq_some_iff.mp H
 obtain ⟨t571,A110,H⟩ := H
 try dsimp only at H
 have A11 := am_ A110
 clear A110
 by_cases c12 : (t571 != t565) = true
 ·rw [if_pos c12] at H
  have c12b0 : (t571 != t565) = true := c12
  (try (have c12b1 : decide (t571 = t565) = false := by simpa using c12))
  (try (have c12b2 : (t571 == t565) = false := by simpa using c12))
  (try (have c12b3 : ¬ (t571 = t565) := by simpa using c12))
  clear c12
  obtain rfl := Option.some.inj H
  go_enter Tryz.func3,Tryz.ntmps3
  go_wp2_with (first | ((with_reducible refine gate_dst (N := 3) rfl ?_);refine zbx (N := 3) (cs := #[.string a1_0,.slice A1_1 l1_1.length c1_1]) (t := 24) ?_;intro gb559 hg w13 hbox hb;have BK559 := am_ (hbox);have GW559 := zw_ HB hg;have GE559 := zw_ HB hg;replace HB := zs_ HB hb;clear hb hbox hg;obtain ⟨hcz14_0,hcz14_1,hfz14_0,hfz14_1⟩ := zc2 BK559) | ((with_reducible refine gate_callee (f := 4) rfl ?_);refine zgl (some 11) Tryz.func4 #[.agg #[.string a1_0,.slice A1_1 l1_1.length c1_1],.int .i64 1048576] ?_;(with_reducible refine (Yf.calls k a1_0 _ _ l1_1 1048576 t560 _ ?side1 ?side2 A3.out).mono ?_);(case side1 => exact zc_ HR1_1 HB);(case side2 => exact HC1_1.out);rintro e w15 ⟨rfl,hb⟩;refine ⟨_,rfl,?_⟩;replace BK559 := zb BK559 hb;replace HB := zs_ HB hb;(try clear hb);obtain ⟨hcz16_0,hcz16_1,hfz16_0,hfz16_1⟩ := zc2 BK559) | ((with_reducible refine gate_callee (f := 6) rfl ?_);refine zgl (some 16) Tryz.func6 #[.agg #[.string a1_0,.slice A1_1 l1_1.length c1_1]] ?_;(with_reducible refine (ZP.calls k a1_0 _ _ l1_1 t561 t562 _ ?side1 ?side2 A8.out).mono ?_);(case side1 => exact zc_ HR1_1 HB);(case side2 => exact HC1_1.out);rintro e w17 ⟨v563,rfl,ho0,hb⟩;refine ⟨_,rfl,?_⟩;have HO564 := am_ (Kd.R_lower ho0 (below_size (zl_ HB)));replace BK559 := zb BK559 hb;replace HB := zs_ HB hb;(try clear hb);(try clear ho0);obtain ⟨Ao18,co18,eo18⟩ := Kd.R_slice HO564.out;subst eo18) | ((with_reducible refine gate_callee (f := 5) rfl ?_);refine zgl (some 17) Tryz.func5 #[.int .i64 a0,.agg #[.string t561,.slice Ao18 t562.length co18]] ?_;(with_reducible refine (Yh.calls k a0 t561 _ _ t562 t565 _ ?side1 ?side2 A9.out).mono ?_);(case side1 => repeat (first | exact (Kd.R_reads' HO564.out).2.2 | (with_reducible refine Kd.C_alloc ?_ _) | (with_reducible refine Kd.C_drewN ?_ _) | (with_reducible refine Kd.C_drew ?_)));(case side2 => exact (Kd.R_reads' HO564.out).2.1);rintro e w19 ⟨rfl,hb⟩;refine ⟨_,rfl,?_⟩;replace HO564 := zrb HO564 hb;replace BK559 := zb BK559 hb;replace HB := zs_ HB hb;(try clear hb);obtain ⟨hcz20_0,hcz20_1,hfz20_0,hfz20_1⟩ := zc2 BK559) | ((with_reducible refine gate_callee (f := 6) rfl ?_);refine zgl (some 19) Tryz.func6 #[.agg #[.string a1_0,.slice A1_1 l1_1.length c1_1]] ?_;(with_reducible refine (ZP.calls k a1_0 _ _ l1_1 t566 t567 _ ?side1 ?side2 A10.out).mono ?_);(case side1 => exact zc_ HR1_1 HB);(case side2 => exact HC1_1.out);rintro e w21 ⟨v568,rfl,ho0,hb⟩;refine ⟨_,rfl,?_⟩;have HO569 := am_ (Kd.R_lower (Kd.R_new' ho0 (Kd.R_lt (zr HO564))) (below_size (zl_ HB)));replace HO564 := am_ (Kd.R_elder' (zr HO564) (Kd.R_base ho0) hb);replace BK559 := zb BK559 hb;replace HB := zs_ HB hb;(try clear hb);(try clear ho0)) | ((with_reducible refine gate_dst (N := 7) rfl ?_);refine zbx (N := 7) (cs := #[.string ⟨#[]⟩,.slice none 0 0]) (t := 29) ?_;intro gb570 hg w22 hbox hb;replace HO564 := zrb HO564 hb;replace HO569 := zrb HO569 hb;have BK570 := am_ (hbox);have GW570 := zw_ HB hg;have GE570 := zw_ HB hg;replace HB := zs_ HB hb;have NB559_570 := zl hg BK559;have NB570_559 := zg hg BK559;replace BK559 := zb BK559 hb;clear hb hbox hg;have hnb23 := NB570_559.out;have hnc23 := NB559_570.out;obtain ⟨hcz24_0,hcz24_1,hfz24_0,hfz24_1⟩ := zc2 BK570;obtain ⟨Ao25,co25,eo25⟩ := Kd.R_slice HO569.out;subst eo25) | ((with_reducible refine gate_callee (f := 7) rfl ?_);refine zgl (some 22) Tryz.func7 #[.int .i64 a0,.agg #[.string t566,.slice Ao25 t567.length co25]] ?_;(with_reducible refine (Zw.calls k a0 t566 _ _ t567 t571 _ ?side1 ?side2 ?side3 A11.out).mono ?_);(case side1 => refine (Kd.R_reads' (e := 40) (base := w.heap.size) (ok := fun k_ => (True ∧ some k_ ≠ (.slice Ao18 t562.length co18 : Value).ownBlock)) (n := t567.length) (c := co25) ?_).2.2;exact (by (with_reducible repeat (first | apply r1_ | apply r2_ | apply r3_));exact (Kd.R_mono (zrf (Kd.R_types HO569.out BK570.out (by decide))) (fun _ h_ => h_.1))));(case side2 => exact (Kd.R_reads' HO569.out).2.1);(case side3 => exact HLD.out.on (zl_ HB));rintro e w26 ⟨rfl,hb⟩;refine ⟨_,rfl,?_⟩;replace HO564 := am_ (Kd.R_below (by (with_reducible repeat (first | apply r1_ | apply r2_ | apply r3_));exact (Kd.R_mono (zrf (Kd.R_types HO564.out BK570.out (by decide))) (fun _ h_ => h_.1))) hb);replace HO569 := am_ (Kd.R_below (by (with_reducible repeat (first | apply r1_ | apply r2_ | apply r3_));exact (Kd.R_mono (zrf (Kd.R_types HO569.out BK570.out (by decide))) (fun _ h_ => h_.1))) hb);replace BK559 := am_ (blk_below (g := gb559) (o := .cells #[.string a1_0,.slice A1_1 l1_1.length c1_1] 24 (0,0)) (zq BK559) hb);replace BK570 := am_ (blk_below (g := gb570) (o := .cells #[.string t566,.slice Ao25 t567.length co25] 29 (0,0)) (zq BK570) hb);replace HB := zs_ HB hb;(try clear hb)))
  go_ret
  exact ⟨zt_,zl_ HB⟩
 rw [if_neg c12] at H
 have c12b0 : (t571 != t565) = false := by simpa using c12
 (try (have c12b1 : decide (t571 = t565) = true := by simpa using c12))
 (try (have c12b2 : (t571 == t565) = true := by simpa using c12))
 clear c12
 replace H := Option.bind_eq_some_iff.mp H
 obtain ⟨⟨t572,t573⟩,A270,H⟩ := H
 try dsimp only at H
 have A27 := am_ A270
 clear A270
 replace H := Option.bind_eq_some_iff.mp H
 obtain ⟨t576,A280,H⟩ := H
 try dsimp only at H
 have A28 := am_ A280
 clear A280
 go_enter Tryz.func3,Tryz.ntmps3
 try go_wp2_with (first | ((with_reducible refine gate_dst (N := 3) rfl ?_);refine zbx (N := 3) (cs := #[.string a1_0,.slice A1_1 l1_1.length c1_1]) (t := 24) ?_;intro gb559 hg w30 hbox hb;have BK559 := am_ (hbox);have GW559 := zw_ HB hg;have GE559 := zw_ HB hg;replace HB := zs_ HB hb;clear hb hbox hg;obtain ⟨hcz31_0,hcz31_1,hfz31_0,hfz31_1⟩ := zc2 BK559) | ((with_reducible refine gate_callee (f := 4) rfl ?_);refine zgl (some 11) Tryz.func4 #[.agg #[.string a1_0,.slice A1_1 l1_1.length c1_1],.int .i64 1048576] ?_;(with_reducible refine (Yf.calls k a1_0 _ _ l1_1 1048576 t560 _ ?side1 ?side2 A3.out).mono ?_);(case side1 => exact zc_ HR1_1 HB);(case side2 => exact HC1_1.out);rintro e w32 ⟨rfl,hb⟩;refine ⟨_,rfl,?_⟩;replace BK559 := zb BK559 hb;replace HB := zs_ HB hb;(try clear hb);obtain ⟨hcz33_0,hcz33_1,hfz33_0,hfz33_1⟩ := zc2 BK559) | ((with_reducible refine gate_callee (f := 6) rfl ?_);refine zgl (some 16) Tryz.func6 #[.agg #[.string a1_0,.slice A1_1 l1_1.length c1_1]] ?_;(with_reducible refine (ZP.calls k a1_0 _ _ l1_1 t561 t562 _ ?side1 ?side2 A8.out).mono ?_);(case side1 => exact zc_ HR1_1 HB);(case side2 => exact HC1_1.out);rintro e w34 ⟨v563,rfl,ho0,hb⟩;refine ⟨_,rfl,?_⟩;have HO564 := am_ (Kd.R_lower ho0 (below_size (zl_ HB)));replace BK559 := zb BK559 hb;replace HB := zs_ HB hb;(try clear hb);(try clear ho0);obtain ⟨Ao35,co35,eo35⟩ := Kd.R_slice HO564.out;subst eo35) | ((with_reducible refine gate_callee (f := 5) rfl ?_);refine zgl (some 17) Tryz.func5 #[.int .i64 a0,.agg #[.string t561,.slice Ao35 t562.length co35]] ?_;(with_reducible refine (Yh.calls k a0 t561 _ _ t562 t565 _ ?side1 ?side2 A9.out).mono ?_);(case side1 => repeat (first | exact (Kd.R_reads' HO564.out).2.2 | (with_reducible refine Kd.C_alloc ?_ _) | (with_reducible refine Kd.C_drewN ?_ _) | (with_reducible refine Kd.C_drew ?_)));(case side2 => exact (Kd.R_reads' HO564.out).2.1);rintro e w36 ⟨rfl,hb⟩;refine ⟨_,rfl,?_⟩;replace HO564 := zrb HO564 hb;replace BK559 := zb BK559 hb;replace HB := zs_ HB hb;(try clear hb);obtain ⟨hcz37_0,hcz37_1,hfz37_0,hfz37_1⟩ := zc2 BK559) | ((with_reducible refine gate_callee (f := 6) rfl ?_);refine zgl (some 19) Tryz.func6 #[.agg #[.string a1_0,.slice A1_1 l1_1.length c1_1]] ?_;(with_reducible refine (ZP.calls k a1_0 _ _ l1_1 t566 t567 _ ?side1 ?side2 A10.out).mono ?_);(case side1 => exact zc_ HR1_1 HB);(case side2 => exact HC1_1.out);rintro e w38 ⟨v568,rfl,ho0,hb⟩;refine ⟨_,rfl,?_⟩;have HO569 := am_ (Kd.R_lower (Kd.R_new' ho0 (Kd.R_lt (zr HO564))) (below_size (zl_ HB)));replace HO564 := am_ (Kd.R_elder' (zr HO564) (Kd.R_base ho0) hb);replace BK559 := zb BK559 hb;replace HB := zs_ HB hb;(try clear hb);(try clear ho0)) | ((with_reducible refine gate_dst (N := 7) rfl ?_);refine zbx (N := 7) (cs := #[.string ⟨#[]⟩,.slice none 0 0]) (t := 29) ?_;intro gb570 hg w39 hbox hb;replace HO564 := zrb HO564 hb;replace HO569 := zrb HO569 hb;have BK570 := am_ (hbox);have GW570 := zw_ HB hg;have GE570 := zw_ HB hg;replace HB := zs_ HB hb;have NB559_570 := zl hg BK559;have NB570_559 := zg hg BK559;replace BK559 := zb BK559 hb;clear hb hbox hg;have hnb40 := NB570_559.out;have hnc40 := NB559_570.out;obtain ⟨hcz41_0,hcz41_1,hfz41_0,hfz41_1⟩ := zc2 BK570;obtain ⟨Ao42,co42,eo42⟩ := Kd.R_slice HO569.out;subst eo42) | ((with_reducible refine gate_callee (f := 7) rfl ?_);refine zgl (some 22) Tryz.func7 #[.int .i64 a0,.agg #[.string t566,.slice Ao42 t567.length co42]] ?_;(with_reducible refine (Zw.calls k a0 t566 _ _ t567 t571 _ ?side1 ?side2 ?side3 A11.out).mono ?_);(case side1 => refine (Kd.R_reads' (e := 40) (base := w.heap.size) (ok := fun k_ => (True ∧ some k_ ≠ (.slice Ao35 t562.length co35 : Value).ownBlock)) (n := t567.length) (c := co42) ?_).2.2;exact (by (with_reducible repeat (first | apply r1_ | apply r2_ | apply r3_));exact (Kd.R_mono (zrf (Kd.R_types HO569.out BK570.out (by decide))) (fun _ h_ => h_.1))));(case side2 => exact (Kd.R_reads' HO569.out).2.1);(case side3 => exact HLD.out.on (zl_ HB));rintro e w43 ⟨rfl,hb⟩;refine ⟨_,rfl,?_⟩;replace HO564 := am_ (Kd.R_below (by (with_reducible repeat (first | apply r1_ | apply r2_ | apply r3_));exact (Kd.R_mono (zrf (Kd.R_types HO564.out BK570.out (by decide))) (fun _ h_ => h_.1))) hb);replace HO569 := am_ (Kd.R_below (by (with_reducible repeat (first | apply r1_ | apply r2_ | apply r3_));exact (Kd.R_mono (zrf (Kd.R_types HO569.out BK570.out (by decide))) (fun _ h_ => h_.1))) hb);replace BK559 := am_ (blk_below (g := gb559) (o := .cells #[.string a1_0,.slice A1_1 l1_1.length c1_1] 24 (0,0)) (zq BK559) hb);replace BK570 := am_ (blk_below (g := gb570) (o := .cells #[.string t566,.slice Ao42 t567.length co42] 29 (0,0)) (zq BK570) hb);replace HB := zs_ HB hb;(try clear hb)))
 replace HO564 := am_ (Kd.R_drew HO564.out)
 replace HO569 := am_ (Kd.R_drew HO569.out)
 replace BK559 := am_ (blk_drew BK559.out)
 replace BK570 := am_ (blk_drew BK570.out)
 replace HB := am_ (below_drew1 HB.out)
 refine start_ (n := 5) (S := fun w' => w'.cell? ⟨gb570,0,none⟩ = some (.string t566) ∧ w'.cell? ⟨gb570,1,none⟩ = some (.slice Ao42 t567.length co42) ∧ w'.cell? ⟨gb559,0,none⟩ = some (.string a1_0) ∧ w'.cell? ⟨gb559,1,none⟩ = some (.slice A1_1 l1_1.length c1_1)) (ds := []) #[false,false,false,false,false] (by kernel_rfl) rfl rfl ⟨(blk_cell BK570.out 0).trans rfl,(blk_cell BK570.out 1).trans rfl,(blk_cell BK559.out 0).trans rfl,(blk_cell BK559.out 1).trans rfl⟩ (fun hHeld => ?_)
 generalize w43.drew = w44 at HO564 HO569 BK559 BK570 HB hHeld ⊢
 refine take_ (i := 0) (N := some 26) (v := ?_) (a' := ?_) #[true,false,false,false,false] rfl rfl (by kernel_rfl) (fun _ _ _ h => h) (Or.inl ⟨by rfl,?_⟩) hHeld ?_ ?_
 rotate_left
 ·rintro w' ⟨s0,s1,s2,s3⟩
  go_simp
  with_reducible rfl
 rotate_left
 ·simp only [Act.put,p1_,p2_,p3_,i64_w,i32_w]
  rfl
 refine take_ (i := 1) (N := some 27) (v := ?_) (a' := ?_) #[true,true,false,false,false] rfl rfl (by kernel_rfl) (fun _ _ _ h => h) (Or.inl ⟨by rfl,?_⟩) hHeld ?_ ?_
 rotate_left
 ·rintro w' ⟨s0,s1,s2,s3⟩
  go_simp
  with_reducible rfl
 rotate_left
 ·simp only [Act.put,p1_,p2_,p3_,i64_w,i32_w]
  rfl
 refine one_ (i := 2) (N := some 28) #[true,true,true,false,false] rfl rfl (by kernel_rfl) (by decide) (fun K hK => ?_)
 refine zgo Tryz.func6 #[.agg #[.string a1_0,.slice A1_1 l1_1.length c1_1]] ?_
 with_reducible refine (ZP.calls k a1_0 _ _ l1_1 t572 t573 _ ?side1 ?side2 A27.out).mono ?_
 (case side1 => exact zc_ HR1_1 HB)
 (case side2 => exact HC1_1.out)
 rintro e w45 ⟨v574,rfl,ho0,hb⟩
 refine ⟨_,rfl,?_⟩
 have HO575 := am_ (Kd.R_lower (Kd.R_new' (Kd.R_new' ho0 (Kd.R_lt (zr HO564))) (Kd.R_lt (zr HO569))) (below_size (zl_ HB)))
 replace HO564 := am_ (Kd.R_elder' (zr HO564) (Kd.R_base ho0) hb)
 replace HO569 := am_ (Kd.R_elder' (zr HO569) (Kd.R_base ho0) hb)
 replace BK559 := zb BK559 hb
 replace BK570 := zb BK570 hb
 replace HB := zs_ HB hb
 try clear hb
 (try clear ho0)
 obtain ⟨Ao46,co46,eo46⟩ := Kd.R_slice HO575.out
 (first | subst eo46 | (injection eo46 with f1_ f2_ f3_;have f4_ := f1_.symm;have f5_ := f3_.symm;clear f1_ f2_ f3_;subst f4_;subst f5_))
 refine hK.out _ _ ⟨(blk_cell BK570.out 0).trans rfl,(blk_cell BK570.out 1).trans rfl,(blk_cell BK559.out 0).trans rfl,(blk_cell BK559.out 1).trans rfl⟩ (fun hHeld => ?_)
 clear hK K
 refine nm_ ?_
 refine one_ (i := 3) (N := some 29) #[true,true,true,true,false] rfl rfl (by kernel_rfl) (by decide) (fun K hK => ?_)
 refine zgo Tryz.func8 #[.agg #[.string t566,.slice Ao42 t567.length co42],.agg #[.string t572,.slice Ao46 t573.length co46]] ?_
 with_reducible refine (Ym.calls k t566 _ _ t567 t572 _ _ t573 t576 _ ?side1 ?side2 ?side3 ?side4 A28.out).mono ?_
 (case side1 => repeat (first | exact (Kd.R_reads' HO569.out).2.2 | (with_reducible refine Kd.C_alloc ?_ _) | (with_reducible refine Kd.C_drewN ?_ _) | (with_reducible refine Kd.C_drew ?_)))
 (case side2 => exact (Kd.R_reads' HO569.out).2.1)
 (case side3 => repeat (first | exact (Kd.R_reads' HO575.out).2.2 | (with_reducible refine Kd.C_alloc ?_ _) | (with_reducible refine Kd.C_drewN ?_ _) | (with_reducible refine Kd.C_drew ?_)))
 (case side4 => exact (Kd.R_reads' HO575.out).2.1)
 rintro e w47 ⟨rfl,hb⟩
 refine ⟨_,rfl,?_⟩
 replace HO564 := zrb HO564 hb
 replace HO569 := zrb HO569 hb
 replace HO575 := zrb HO575 hb
 replace BK559 := zb BK559 hb
 replace BK570 := zb BK570 hb
 replace HB := zs_ HB hb
 try clear hb
 refine hK.out _ _ ⟨(blk_cell BK570.out 0).trans rfl,(blk_cell BK570.out 1).trans rfl,(blk_cell BK559.out 0).trans rfl,(blk_cell BK559.out 1).trans rfl⟩ (fun hHeld => ?_)
 clear hK K
 refine nm_ ?_
 by_cases c29 : t576 = true
 ·subst c29
  rw [if_pos rfl] at H
  obtain rfl := Option.some.inj H
  refine pure_ (i := 4) (N := some 30) (v := ?_) (a' := ?_) #[true,true,true,true,true] rfl rfl (by kernel_rfl) (fun _ _ _ h => h) (Or.inl ⟨by rfl,?_⟩) ?_ ?_
  rotate_left
  ·intro w'
   go_simp
   with_reducible rfl
  rotate_left
  ·simp only [Act.put,p1_,p2_,p3_,i64_w,i32_w]
   rfl
  refine done_ (by kernel_rfl) ?_
  try go_wp2
  go_ret
  exact ⟨zt_,zl_ HB⟩
 replace c29 := Bool.eq_false_iff.mpr c29
 subst c29
 rw [if_neg (show ¬ (false = true) by decide)] at H
 obtain rfl := Option.some.inj H
 refine pure_ (i := 4) (N := some 30) (v := ?_) (a' := ?_) #[true,true,true,true,true] rfl rfl (by kernel_rfl) (fun _ _ _ h => h) (Or.inl ⟨by rfl,?_⟩) ?_ ?_
 rotate_left
 ·intro w'
  go_simp
  with_reducible rfl
 rotate_left
 ·simp only [Act.put,p1_,p2_,p3_,i64_w,i32_w]
  rfl
 refine done_ (by kernel_rfl) ?_
 try go_wp2
 go_ret
 exact ⟨zt_,zl_ HB⟩
end Go.Proofs.YtbhegbhdenngbaaGreatDoor.A
end
